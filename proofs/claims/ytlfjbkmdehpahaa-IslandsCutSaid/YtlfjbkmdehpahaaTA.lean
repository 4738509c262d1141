/-
  Trees whose first nodes are the same. No condition.
-/
import Derived.Test.YtlfjbkmdehpahaaTRt
set_option linter.unusedVariables false
set_option linter.unusedSimpArgs false
namespace Go.Proofs.Ytlfjbkmdehpahaa
open Go.RowKit

structure Agree (M L : List Nd) (k : Nat) : Prop where
  at_ : ∀ j, j < k → M.getD j nd0 = L.getD j nd0
  leM : k ≤ M.length
  leL : k ≤ L.length
section
variable {M L : List Nd} {k : Nat}
theorem Agree.take {L : List Nd} {k : Nat} (h : k ≤ L.length) : Agree (L.take k) L k :=
  ⟨fun j hj => by simp [List.getD, hj], by simp; omega, h⟩
theorem Agree.symm (h : Agree M L k) : Agree L M k := ⟨fun j hj => (h.at_ j hj).symm, h.leL, h.leM⟩
theorem Agree.kind (h : Agree M L k) {i : Nat} (hi : i < k) : kindOf M i = kindOf L i := by unfold kindOf; rw [h.at_ i hi]
theorem Agree.parOf (h : Agree M L k) {i : Nat} (hi : i < k) : Go.Proofs.Ytlfjbkmdehpahaa.parOf M i = Go.Proofs.Ytlfjbkmdehpahaa.parOf L i := by unfold Go.Proofs.Ytlfjbkmdehpahaa.parOf; rw [h.at_ i hi]
theorem Agree.par (h : Agree M L k) {i : Nat} (hi : i < k) : Go.Proofs.Ytlfjbkmdehpahaa.par M i = Go.Proofs.Ytlfjbkmdehpahaa.par L i := by unfold Go.Proofs.Ytlfjbkmdehpahaa.par; rw [h.parOf hi]
theorem Agree.chain (h : Agree M L k) (i : Nat) : i < k → Go.Proofs.Ytlfjbkmdehpahaa.chain M i = Go.Proofs.Ytlfjbkmdehpahaa.chain L i := by
  induction i using Nat.strongRecOn with
  | _ i ih =>
    intro hi
    cases hp : Go.Proofs.Ytlfjbkmdehpahaa.par L i with
    | none => rw [chain_none hp, chain_none ((h.par hi).trans hp)]
    | some p =>
      have := par_lt hp
      rw [chain_some hp, chain_some ((h.par hi).trans hp), ih p this (by omega)]
theorem Agree.deep (h : Agree M L k) {i : Nat} (hi : i < k) : Go.Proofs.Ytlfjbkmdehpahaa.deep M i = Go.Proofs.Ytlfjbkmdehpahaa.deep L i := by unfold Go.Proofs.Ytlfjbkmdehpahaa.deep; rw [h.chain i hi]
theorem Agree.below (h : Agree M L k) {i o : Nat} (hi : i < k) : belowB M i o = belowB L i o := by unfold belowB; rw [h.chain i hi]
theorem Agree.under (h : Agree M L k) {i : Nat} (hi : i < k) : underB M i = underB L i := by
  unfold underB
  rw [h.parOf hi]
  by_cases h0 : i = 0
  · rw [if_pos h0, if_pos h0]
  · rw [if_neg h0, if_neg h0, h.below (by omega)]
theorem find_congr {α : Type} {f g : α → Bool} : ∀ {l : List α}, (∀ x ∈ l, f x = g x) → l.find? f = l.find? g
  | [], _ => rfl
  | x :: l, h => by
    rw [List.find?_cons, List.find?_cons, h x (by simp)]
    cases g x
    · exact find_congr fun y hy => h y (by simp [hy])
    · rfl
theorem Agree.firstK (h : Agree M L k) {p q i : Nat} (hi : i ≤ k) : Go.Proofs.Ytlfjbkmdehpahaa.firstK M p q i = Go.Proofs.Ytlfjbkmdehpahaa.firstK L p q i := by
  unfold Go.Proofs.Ytlfjbkmdehpahaa.firstK
  refine find_congr fun x hx => ?_
  have : x < i := by simp at hx; omega
  rw [h.par (by omega)]
theorem Agree.place (h : Agree M L k) {i : Nat} (hi : i < k) (h0 : ¬ i = 0) (hu : underB L i = true) : placeB M i = placeB L i := by
  have hl := under_lt h0 hu
  unfold placeB
  rw [h.parOf hi, h.kind hi, h.at_ i hi]
  simp only
  rw [h.kind (i := (Go.Proofs.Ytlfjbkmdehpahaa.parOf L i).toNat) (by omega), h.firstK (by omega)]
  cases hf : Go.Proofs.Ytlfjbkmdehpahaa.firstK L (Go.Proofs.Ytlfjbkmdehpahaa.parOf L i).toNat ((Go.Proofs.Ytlfjbkmdehpahaa.parOf L i).toNat + 1) i with
  | none => rfl
  | some j =>
    have := firstK_some hf
    dsimp only
    rw [h.kind (by omega)]
theorem Agree.node (h : Agree M L k) {i : Nat} (hi : i < k) : nodeE M i = nodeE L i := by
  unfold nodeE
  rw [h.under hi, h.at_ i hi, h.deep hi, h.kind hi]
  by_cases hu : underB L i = false
  · rw [if_pos hu, if_pos hu]
  · rw [if_neg hu, if_neg hu]
    by_cases h0 : i = 0
    · simp only [if_pos h0]
    · rw [h.place hi h0 (by simpa using hu)]
theorem Fine.take {L : List Nd} (hf : Fine L) {k : Nat} (h0 : 0 < k) (hk : k ≤ L.length) : Fine (L.take k) := by
  have ha := Agree.take hk
  have hl : (L.take k).length = k := by simp; omega
  refine ⟨by omega, by have := hf.small; omega, fun i hi => ?_⟩
  rw [ha.node (by omega)]
  exact hf.node i (by omega)
theorem Agree.root (h : Agree M L k) {i : Nat} (hi : i < k) : rootB M i = rootB L i := by
  have hm := h.leM
  have hl := h.leL
  by_cases hk : kindOf L i = 3
  · rw [root_text hk, root_text ((h.kind hi).trans hk)]
  · rw [root_in (by omega) hk, root_in (by omega) (by rw [h.kind hi]; exact hk), h.kind hi, h.at_ i hi, h.par hi]
    cases hp : Go.Proofs.Ytlfjbkmdehpahaa.par L i with
    | none => rfl
    | some p =>
      have := par_lt hp
      dsimp only
      rw [h.kind (by omega)]
end
theorem Trd.cut {w : World} {A D : Option Addr} {n m k : Nat} {L : List Nd} {adv : List Int} (h : Trd w A n D m L adv) (hk : k ≤ n) : Trd w A k D m (L.take k) adv :=
  ⟨h.nodes.take hk, h.advs, fun i hi => by
    have e : (L.take k).getD i nd0 = L.getD i nd0 := by simp [List.getD, hi]
    rw [e]; exact h.units i (by omega)⟩
end Go.Proofs.Ytlfjbkmdehpahaa
