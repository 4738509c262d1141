/-
  Slices of flat structs that are read. No condition.
-/
import Derived.Test.YtedlfkklkoihjaaCom2
set_option linter.unusedVariables false
set_option linter.unusedSimpArgs false
namespace Go.Proofs.Ytedlfkklkoihjaa
open Go.RowKit

/-- A slice whose elements are sz cells each: element a's cells are f a. -/
structure Els {α : Type} (f : α → List Value) (d : α) (sz : Nat) (w : World) (A : Option Addr) (n : Nat) (l : List α) : Prop where
  len_eq : l.length = n
  at_ : 0 < n → ∃ b off, A = some ⟨b, off, none⟩ ∧ b < w.heap.size ∧ ∀ k, k < n → ∀ j, j < sz → w.cell? ⟨b, off + (k * sz + j), none⟩ = (f (l.getD k d))[j]?
section
variable {α : Type} {f : α → List Value} {d : α} {sz : Nat} {w w' : World} {A : Option Addr} {n : Nat} {l : List α}
theorem Els.mono (h : Els f d sz w A n l) (hb : Below w.heap.size w w') : Els f d sz w' A n l :=
  ⟨h.len_eq, fun h0 => let ⟨b, off, e, hB, hc⟩ := h.at_ h0; ⟨b, off, e, Nat.lt_of_lt_of_le hB hb.size, fun k hk j hj => (hb.cell (p := ⟨b, off + (k * sz + j), none⟩) hB).trans (hc k hk j hj)⟩⟩
theorem Els.take (h : Els f d sz w A n l) {k : Nat} (hk : k ≤ n) : Els f d sz w A k (l.take k) := by
  have h1 := h.len_eq
  refine ⟨by rw [List.length_take]; omega, fun h0 => ?_⟩
  obtain ⟨b, off, e, hB, hc⟩ := h.at_ (by omega)
  refine ⟨b, off, e, hB, fun i hi j hj => ?_⟩
  rw [hc i (by omega) j hj]
  simp [List.getD, hi]
theorem SliceRd.els {E : World → List Value → α → Prop} {len cap : Nat} (h : SliceRd sz E w A len cap l) (d : α) (hsz : 0 < sz) (hf : ∀ w cs a, E w cs a → cs = f a) : Els f d sz w A len l := by
  refine ⟨h.len_eq, fun h0 => ?_⟩
  obtain ⟨b, off, e, hB, hc⟩ := h.at_ (Nat.mul_pos h0 hsz)
  refine ⟨b, off, e, hB, fun i hi j hj => ?_⟩
  have hi' : i < l.length := by rw [h.len_eq]; exact hi
  obtain ⟨cs, hl, hE, hx⟩ := hc i hi'
  rw [hx j hj, hf w cs _ hE]
  simp [List.getD, hi']
end
end Go.Proofs.Ytedlfkklkoihjaa
