/-
  Rows that the program owns, as slices that are read. No condition.
-/
import Derived.Test.YtlbfjmdemljmhaaCom7
import Derived.Test.YtlbfjmdemljmhaaCom3
namespace Go.Proofs.Ytlbfjmdemljmhaa
open Go.RowKit

theorem Els_of_own {α : Type} {f : α → List Value} {d : α} {sz : Nat} {w : World} {base : Nat} {e : TypeId} {v : Value} {n : Nat} {l : List α}
    (h : w.ownsRow base e sz v n (l.map f).flatten) (hf : ∀ a, (f a).length = sz) (hs : 0 < sz) : ∃ A c, v = .slice A n c ∧ n ≤ c ∧ c ≤ maxLen ∧ Els f d sz w A n l := by
  have hfl : ∀ r ∈ l.map f, r.length = sz := fun r hr => by obtain ⟨a, _, rfl⟩ := List.mem_map.1 hr; exact hf a
  have hl : l.length = n := by
    have h1 := h.1
    rw [flat_length _ hfl, List.length_map] at h1
    exact Nat.eq_of_mul_eq_mul_right hs h1
  rcases h.2 with ⟨rfl, rfl⟩ | ⟨g, cap, cur, rfl, _, hg, hnc, hm, _⟩
  · exact ⟨none, 0, rfl, Nat.le_refl _, Nat.zero_le _, hl, fun h0 => by omega⟩
  · refine ⟨_, cap, rfl, hnc, hm, hl, fun _ => ?_⟩
    have hlt : g < w.heap.size := by
      rcases Nat.lt_or_ge g w.heap.size with hlt | hge
      · exact hlt
      · rw [Array.getElem?_eq_none hge] at hg; cases hg
    refine ⟨g, 0, rfl, hlt, fun k hk j hj => ?_⟩
    have hb : k * sz + j < n * sz := by
      have : (k + 1) * sz ≤ n * sz := Nat.mul_le_mul_right _ hk
      rw [Nat.succ_mul] at this; omega
    have hk' : k < l.length := by omega
    rw [Nat.zero_add, h.cellAt _ hb, flat_get (l.map f) k j hfl (by simpa using hk') hj]
    simp [List.getD, hk']
theorem Els.get {α : Type} {f : α → List Value} {d : α} {sz : Nat} {w : World} {A : Option Addr} {n : Nat} {l : List α} (h : Els f d sz w A n l) {b off k : Nat} (hA : A = some ⟨b, off, none⟩) (hk : k < n) (j : Nat) (hj : j < sz) :
    w.cell? ⟨b, off + (k * sz + j), none⟩ = (f (l.getD k d))[j]? := by
  obtain ⟨b', off', e, _, hc⟩ := h.at_ (by omega)
  rw [hA] at e
  injection e with e
  injection e with e1 e2
  subst e1; subst e2
  exact hc k hk j hj
end Go.Proofs.Ytlbfjmdemljmhaa
