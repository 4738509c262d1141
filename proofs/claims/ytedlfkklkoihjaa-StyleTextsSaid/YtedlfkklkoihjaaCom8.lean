/-
  Rows that the program owns, as slices that are read. No condition.
-/
import Derived.Test.YtedlfkklkoihjaaCom7
import Derived.Test.YtedlfkklkoihjaaCom3
set_option linter.unusedVariables false
set_option linter.unusedSimpArgs false
namespace Go.Proofs.Ytedlfkklkoihjaa
open Go.RowKit

theorem Els_of_own {α : Type} {f : α → List Value} {d : α} {sz : Nat} {w : World} {base : Nat} {e : TypeId} {v : Value} {n : Nat} {l : List α}
    (h : w.ownsRow base e sz v n (l.map f).flatten) (hf : ∀ a, (f a).length = sz) (hs : 0 < sz) : ∃ A c, v = .slice A n c ∧ n ≤ c ∧ c ≤ maxLen ∧ Els f d sz w A n l := by
  have hfl : ∀ r ∈ l.map f, r.length = sz := fun r hr => by obtain ⟨a, _, rfl⟩ := List.mem_map.1 hr; exact hf a
  have hl : l.length = n := by
    have h1 := h.1
    rw [flat_length _ hfl, List.length_map] at h1
    exact Nat.eq_of_mul_eq_mul_right hs h1
  rcases h.2 with ⟨rfl, rfl⟩ | ⟨g, cap, cur, rfl, _, hg, hnc, hm, _⟩
  · exact ⟨none, 0, rfl, Nat.le_refl _, Nat.zero_le _, hl, fun h0 => by omega⟩
  · refine ⟨_, cap, rfl, hnc, hm, hl, fun _ => ?_⟩
    have hlt : g < w.heap.size := by
      rcases Nat.lt_or_ge g w.heap.size with hlt | hge
      · exact hlt
      · rw [Array.getElem?_eq_none hge] at hg; cases hg
    refine ⟨g, 0, rfl, hlt, fun k hk j hj => ?_⟩
    have hb : k * sz + j < n * sz := by
      have : (k + 1) * sz ≤ n * sz := Nat.mul_le_mul_right _ hk
      rw [Nat.succ_mul] at this; omega
    have hk' : k < l.length := by omega
    rw [Nat.zero_add, h.cellAt _ hb, flat_get (l.map f) k j hfl (by simpa using hk') hj]
    simp [List.getD, hk']
theorem Els.get {α : Type} {f : α → List Value} {d : α} {sz : Nat} {w : World} {A : Option Addr} {n : Nat} {l : List α} (h : Els f d sz w A n l) {b off k : Nat} (hA : A = some ⟨b, off, none⟩) (hk : k < n) (j : Nat) (hj : j < sz) :
    w.cell? ⟨b, off + (k * sz + j), none⟩ = (f (l.getD k d))[j]? := by
  obtain ⟨b', off', e, _, hc⟩ := h.at_ (by omega)
  rw [hA] at e
  injection e with e
  injection e with e1 e2
  subst e1; subst e2
  exact hc k hk j hj
/-- A store into a row that the program owns. -/
theorem own_set {w : World} {base : Nat} {e : TypeId} {size g n cap : Nat} {xs : List Value} (h : w.ownsRow base e size (.slice (some ⟨g, 0, none⟩) n cap) n xs) (i : Nat) (u : Value) :
    (w.setCell ⟨g, i, none⟩ u).ownsRow base e size (.slice (some ⟨g, 0, none⟩) n cap) n (xs.set i u) := by
  refine ⟨by rw [List.length_set]; exact h.1, ?_⟩
  rcases h.2 with ⟨h', _⟩ | ⟨g', cap', cur, h', hb, hg, hn, hm, hs, ht⟩
  · simp at h'
  · simp only [Value.slice.injEq, Option.some.injEq, Addr.mk.injEq, and_true, true_and] at h'
    obtain ⟨rfl, rfl⟩ := h'
    exact .inr ⟨g, cap, cur.setIfInBounds i u, rfl, hb, Blk_upd hg i u rfl, hn, hm, by simpa using hs, by rw [Array.toList_setIfInBounds, List.take_set, ht]⟩
/-- The block of a row that the program owns. -/
theorem own_frozen {w : World} {base : Nat} {e : TypeId} {size g n cap : Nat} {xs : List Value} (h : w.ownsRow base e size (.slice (some ⟨g, 0, none⟩) n cap) n xs) (i : Nat) : w.frozen? ⟨g, i, none⟩ = false := by
  rcases h.2 with ⟨h', _⟩ | ⟨g', cap', cur, h', hb, hg, _⟩
  · simp at h'
  · simp only [Value.slice.injEq, Option.some.injEq, Addr.mk.injEq, and_true, true_and] at h'
    obtain ⟨rfl, rfl⟩ := h'
    exact Blk_frozen (t := e) (cs := cur) hg i
theorem own_addr {w : World} {base : Nat} {e : TypeId} {size n cap : Nat} {A : Option Addr} {xs : List Value} (h : w.ownsRow base e size (.slice A n cap) n xs) (hn : 0 < n) : ∃ g, A = some ⟨g, 0, none⟩ := by
  rcases h.2 with ⟨_, h0⟩ | ⟨g', cap', cur, h', _⟩
  · omega
  · simp only [Value.slice.injEq] at h'
    exact ⟨g', h'.1⟩
section
variable {α : Type} {f : α → List Value} {w : World} {base : Nat} {e : TypeId} {sz g n c : Nat} {l : List α}
theorem own_len (h : w.ownsRow base e sz (.slice (some ⟨g, 0, none⟩) n c) n (l.map f).flatten) (hf : ∀ a, (f a).length = sz) (hs : 0 < sz) : l.length = n := by
  have hfl : ∀ r ∈ l.map f, r.length = sz := fun r hr => by obtain ⟨a, _, rfl⟩ := List.mem_map.1 hr; exact hf a
  have h1 := h.1
  rw [flat_length _ hfl, List.length_map] at h1
  exact Nat.eq_of_mul_eq_mul_right hs h1
theorem own_get (d : α) (h : w.ownsRow base e sz (.slice (some ⟨g, 0, none⟩) n c) n (l.map f).flatten) (hf : ∀ a, (f a).length = sz) {k j : Nat} (hk : k < n) (hj : j < sz) :
    w.cell? ⟨g, k * sz + j, none⟩ = (f (l.getD k d))[j]? := by
  have hfl : ∀ r ∈ l.map f, r.length = sz := fun r hr => by obtain ⟨a, _, rfl⟩ := List.mem_map.1 hr; exact hf a
  have hl := own_len h hf (by omega)
  have hb : k * sz + j < n * sz := by
    have : (k + 1) * sz ≤ n * sz := Nat.mul_le_mul_right _ hk
    rw [Nat.succ_mul] at this; omega
  have hk' : k < l.length := by omega
  rw [h.cellAt _ hb, flat_get (l.map f) k j hfl (by simpa using hk') hj]
  simp [List.getD, hk']
theorem own_put (d : α) (h : w.ownsRow base e sz (.slice (some ⟨g, 0, none⟩) n c) n (l.map f).flatten) (hf : ∀ a, (f a).length = sz) {k j : Nat} (hk : k < n) (hj : j < sz) (u : Value) {a : α} (ha : (f (l.getD k d)).set j u = f a) :
    (w.setCell ⟨g, k * sz + j, none⟩ u).ownsRow base e sz (.slice (some ⟨g, 0, none⟩) n c) n ((l.set k a).map f).flatten := by
  have hfl : ∀ r ∈ l.map f, r.length = sz := fun r hr => by obtain ⟨a, _, rfl⟩ := List.mem_map.1 hr; exact hf a
  have hl := own_len h hf (by omega)
  have hk' : k < l.length := by omega
  have h1 := own_set h (k * sz + j) u
  rw [flat_set (l.map f) k j u hfl (by simpa using hk') hj] at h1
  have e1 : (l.map f).getD k [] = f (l.getD k d) := by simp [List.getD, hk']
  rw [e1, ha, ← List.map_set] at h1
  exact h1
end
end Go.Proofs.Ytedlfkklkoihjaa
