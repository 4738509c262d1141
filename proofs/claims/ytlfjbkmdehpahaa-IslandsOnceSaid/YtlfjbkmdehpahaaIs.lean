/-
  The document's islands (its chapter 18), in plain words of Lean. No condition.
-/
import Derived.Test.YtlfjbkmdehpahaaTK2
set_option linter.unusedVariables false
set_option linter.unusedSimpArgs false
namespace Go.Proofs.Ytlfjbkmdehpahaa
open Go.RowKit Go.BigFrame

def boxN (L : List Nd) (i : Nat) : Bool := decide (i < L.length) && !decide (kindOf L i = 3)
def island (L : List Nd) (i : Nat) : Nat :=
  if rootB L i then i else
  match h : par L i with
  | none => i
  | some p => island L p
termination_by i
decreasing_by exact par_lt h
theorem island_root {L : List Nd} {i : Nat} (h : rootB L i = true) : island L i = i := by rw [island, if_pos h]
theorem island_up {L : List Nd} {i p : Nat} (h : rootB L i = false) (hp : par L i = some p) : island L i = island L p := by
  rw [island, if_neg (by rw [h]; simp)]
  split
  · rename_i q; rw [hp] at q; cases q
  · rename_i q hq; rw [hp] at hq; injection hq with hq; subst hq; rfl
theorem island_le (L : List Nd) (i : Nat) : island L i ≤ i := by
  induction i using Nat.strongRecOn with
  | _ i ih =>
    cases h : rootB L i
    · cases hp : par L i with
      | none =>
        rw [island, if_neg (by rw [h]; simp)]
        split
        · exact Nat.le_refl _
        · rename_i q hq; rw [hp] at hq; cases hq
      | some p =>
        rw [island_up h hp]
        have := par_lt hp
        have := ih p this
        omega
    · rw [island_root h]; exact Nat.le_refl _
def rootsL (L : List Nd) (k : Nat) : List Nat := (List.range k).filter fun i => rootB L i
theorem rootsL_yes {L : List Nd} {k : Nat} (h : rootB L k = true) : rootsL L (k + 1) = rootsL L k ++ [k] := by
  unfold rootsL; rw [List.range_succ, List.filter_append]; simp [h]
theorem rootsL_no {L : List Nd} {k : Nat} (h : rootB L k = false) : rootsL L (k + 1) = rootsL L k := by
  unfold rootsL; rw [List.range_succ, List.filter_append]; simp [h]
def ofAt (L : List Nd) (i : Nat) : Int := if kindOf L i = 3 then -1 else (island L i : Nat)
def ofL (L : List Nd) (k : Nat) : List Int := (List.range k).map (ofAt L)
theorem ofL_len (L : List Nd) (k : Nat) : (ofL L k).length = k := by simp [ofL]
theorem ofL_get {L : List Nd} {n k : Nat} (h : k < n) : (ofL L n).getD k 0 = ofAt L k := by simp [ofL, List.getD, h]
def overI (L : List Nd) (r : Int) : Int := if r ≤ 0 ∨ rootB L r = false then -1 else (island L (parOf L r.toNat).toNat : Nat)
def inAt (L : List Nd) (r : Int) (i : Nat) : Bool := !decide (kindOf L i = 3) && decide (((island L (parOf L i).toNat : Nat) : Int) = r)
def inL (L : List Nd) (r : Int) (k : Nat) : List Nat := ((List.range' 1 (k - 1)).filter fun i => inAt L r i)
theorem inL_yes {L : List Nd} {r : Int} {k : Nat} (h0 : 1 ≤ k) (h : inAt L r k = true) : inL L r (k + 1) = inL L r k ++ [k] := by
  unfold inL
  obtain ⟨m, rfl⟩ : ∃ m, k = m + 1 := ⟨k - 1, by omega⟩
  rw [show m + 1 + 1 - 1 = m + 1 by omega, List.range'_concat, List.filter_append]
  simp only [Nat.one_mul, Nat.add_sub_cancel]
  rw [Nat.add_comm 1 m]
  simp [h]
theorem inL_no {L : List Nd} {r : Int} {k : Nat} (h0 : 1 ≤ k) (h : inAt L r k = false) : inL L r (k + 1) = inL L r k := by
  unfold inL
  obtain ⟨m, rfl⟩ : ∃ m, k = m + 1 := ⟨k - 1, by omega⟩
  rw [show m + 1 + 1 - 1 = m + 1 by omega, List.range'_concat, List.filter_append]
  simp only [Nat.one_mul, Nat.add_sub_cancel]
  rw [Nat.add_comm 1 m]
  simp [h]
def insideI (L : List Nd) (r : Int) : List Nat := if rootB L r = false then [] else inL L r L.length
theorem root_kind {L : List Nd} {i : Nat} (h : rootB L i = true) : i < L.length ∧ ¬ kindOf L i = 3 := by
  refine ⟨?_, fun h3 => by rw [root_text h3] at h; cases h⟩
  rcases Nat.lt_or_ge i L.length with h1 | h1
  · exact h1
  · rw [root_out (.inr (by omega))] at h; cases h
theorem Fine.root0 {L : List Nd} (h : Fine L) : rootB L (0 : Nat) = true := by
  rw [root_in h.pos (by rw [h.kind0]; decide)]; simp
theorem Fine.up {L : List Nd} (h : Fine L) {i : Nat} (hi : i < L.length) (hr : rootB L i = false) : 0 < i ∧ Go.Proofs.Ytlfjbkmdehpahaa.par L i = some (parOf L i).toNat ∧ 0 ≤ parOf L i ∧ parOf L i < i := by
  have h0 : 0 < i := by
    rcases Nat.eq_zero_or_pos i with rfl | h0
    · rw [h.root0] at hr; cases hr
    · exact h0
  exact ⟨h0, h.par hi h0⟩
end Go.Proofs.Ytlfjbkmdehpahaa
