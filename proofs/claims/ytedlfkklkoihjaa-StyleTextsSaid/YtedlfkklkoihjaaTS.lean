/-
  What the document says of trees (its chapter 5), in plain words of Lean. No condition.
-/
import Derived.Test.YtedlfkklkoihjaaTD
set_option linter.unusedVariables false
set_option linter.unusedSimpArgs false
namespace Go.Proofs.Ytedlfkklkoihjaa
open Go.RowKit

abbrev kindOf (L : List Nd) (i : Nat) : Int := (L.getD i nd0).st.kind
abbrev parOf (L : List Nd) (i : Nat) : Int := (L.getD i nd0).parent
def par (L : List Nd) (i : Nat) : Option Nat := if 0 ≤ parOf L i ∧ parOf L i < i then some (parOf L i).toNat else none
theorem par_lt {L : List Nd} {i p : Nat} (h : par L i = some p) : p < i := by
  unfold par at h
  split at h
  · injection h with h; omega
  · cases h
def optI : Option Nat → Int
  | none => -1
  | some p => p
def chain (L : List Nd) (i : Nat) : List Nat :=
  match h : par L i with
  | none => []
  | some p => p :: chain L p
termination_by i
decreasing_by exact par_lt h
theorem chain_none {L : List Nd} {i : Nat} (h : par L i = none) : chain L i = [] := by
  unfold chain; split
  · rfl
  · rename_i p hp; rw [h] at hp; cases hp
theorem chain_some {L : List Nd} {i p : Nat} (h : par L i = some p) : chain L i = p :: chain L p := by
  rw [chain]; split
  · rename_i hp; rw [h] at hp; cases hp
  · rename_i q hq; rw [h] at hq; injection hq with hq; subst hq; rfl
theorem chain_lt (L : List Nd) (i : Nat) : ∀ q ∈ chain L i, q < i := by
  induction i using Nat.strongRecOn with
  | _ i ih =>
    intro q hq
    cases h : par L i with
    | none => rw [chain_none h] at hq; cases hq
    | some p =>
      rw [chain_some h] at hq
      have := par_lt h
      rcases List.mem_cons.1 hq with rfl | hq
      · exact this
      · have := ih p this q hq; omega
theorem chain_len (L : List Nd) (i : Nat) : (chain L i).length ≤ i := by
  induction i using Nat.strongRecOn with
  | _ i ih =>
    cases h : par L i with
    | none => rw [chain_none h]; simp
    | some p =>
      rw [chain_some h]
      have h1 := par_lt h
      have h2 := ih p h1
      simp; omega
def deep (L : List Nd) (i : Nat) : Nat := (chain L i).length + 1
/-- The same, of a node or none. -/
def deepO (L : List Nd) : Option Nat → Nat
  | none => 0
  | some p => deep L p
theorem deep_step (L : List Nd) (i : Nat) : deep L i = deepO L (par L i) + 1 := by
  cases h : par L i with
  | none => simp [deep, deepO, chain_none h]
  | some p => simp [deep, deepO, chain_some h]
theorem deep_le (L : List Nd) (i : Nat) : deep L i ≤ i + 1 := by have := chain_len L i; unfold deep; omega
def belowO (L : List Nd) (over : Nat) : Option Nat → Bool
  | none => false
  | some p => decide (p = over) || decide (over ∈ chain L p)
def belowB (L : List Nd) (i over : Nat) : Bool := decide (over ∈ chain L i)
theorem below_step (L : List Nd) (i over : Nat) : belowB L i over = belowO L over (par L i) := by
  cases h : par L i with
  | none => simp [belowB, belowO, chain_none h]
  | some p =>
    simp only [belowB, belowO, chain_some h, List.mem_cons, eq_comm (a := over), Bool.decide_or]
theorem belowO_some (L : List Nd) (over p : Nat) (h : ¬ p = over) : belowO L over (some p) = belowO L over (par L p) := by
  have := below_step L p over
  simp only [belowB] at this
  simp [belowO, h, this]
/-- The first child of a node ahead of another one. -/
def firstK (L : List Nd) (p k i : Nat) : Option Nat := ((List.range' k (i - k)).find? fun j => decide (par L j = some p))
theorem firstK_end {L : List Nd} {p k i : Nat} (h : i ≤ k) : firstK L p k i = none := by
  unfold firstK; rw [Nat.sub_eq_zero_of_le h]; rfl
theorem firstK_hit {L : List Nd} {p k i : Nat} (h : k < i) (hp : par L k = some p) : firstK L p k i = some k := by
  unfold firstK
  obtain ⟨m, hm⟩ : ∃ m, i - k = m + 1 := ⟨i - k - 1, by omega⟩
  rw [hm, List.range'_succ, List.find?_cons_of_pos (by simpa using hp)]
theorem firstK_miss {L : List Nd} {p k i : Nat} (h : k < i) (hp : ¬ par L k = some p) : firstK L p k i = firstK L p (k + 1) i := by
  unfold firstK
  obtain ⟨m, hm⟩ : ∃ m, i - k = m + 1 := ⟨i - k - 1, by omega⟩
  rw [hm, List.range'_succ, List.find?_cons_of_neg (by simpa using hp), show i - (k + 1) = m by omega]
theorem firstK_some {L : List Nd} {p k i j : Nat} (h : firstK L p k i = some j) : k ≤ j ∧ j < i ∧ par L j = some p := by
  have h1 := List.find?_some h
  have h2 := List.mem_of_find?_eq_some h
  simp at h1 h2
  exact ⟨h2.1, by omega, h1⟩

/-! ### Styles -/
def mayB (l : Int × Int) (least : Int) : Bool :=
  if l.1 = 0 then decide (l.2 = 0) else if l.1 = 1 then decide (least * 1099511627776 ≤ l.2 ∧ l.2 ≤ 1099511627776) else if l.1 = 2 then decide (least * 100000 ≤ l.2 ∧ l.2 ≤ 100000) else false
def inB (n least most : Int) : Bool := decide (least ≤ n ∧ n ≤ most)
def edgeB (m : Int × Int) (b p : Int) : Bool := mayB m (-1) && (inB b 0 1099511627776 && inB p 0 1099511627776)
def highB (l : Int × Int) : Bool := mayB l 0 && decide (¬ l.1 = 2)
def boxB (s : St) : Bool :=
  (edgeB s.m0 s.b0 s.p0 && edgeB s.m1 s.b1 s.p1 && edgeB s.m2 s.b2 s.p2 && edgeB s.m3 s.b3 s.p3) &&
  (mayB s.w 0 && mayB s.minw 0 && mayB s.maxw 0 && mayB s.basis 0) && (highB s.h && highB s.minh && highB s.maxh) &&
  decide (s.float ≤ 2 ∧ s.clear ≤ 3) && decide (s.align ≤ 2 ∧ s.justify ≤ 3 ∧ s.items ≤ 3) && (inB s.grow 0 60 && inB s.shrink 0 60) &&
  inB s.line 0 1099511627776 && inB s.order (-1048576) 1048576 && decide (s.units.length = 0)
def noneB (l : Int × Int) : Bool := decide (l.1 = 0 ∧ l.2 = 0)
def emptyB (s : St) : Bool :=
  decide (s.b0 = 0 ∧ s.p0 = 0 ∧ s.b1 = 0 ∧ s.p1 = 0 ∧ s.b2 = 0 ∧ s.p2 = 0 ∧ s.b3 = 0 ∧ s.p3 = 0) &&
  (noneB s.w && noneB s.h && noneB s.minw && noneB s.maxw && noneB s.minh && noneB s.maxh && noneB s.basis && noneB s.m0 && noneB s.m1 && noneB s.m2 && noneB s.m3) &&
  decide (s.flow = false ∧ s.wrap = false ∧ s.float = 0 ∧ s.clear = 0 ∧ s.align = 0 ∧ s.justify = 0 ∧ s.items = 0 ∧ s.line = 0 ∧ s.order = 0 ∧ s.grow = 0 ∧ s.shrink = 0)
def rightB (s : St) : Bool :=
  if s.kind = 1 ∨ s.kind = 2 then boxB s else if s.kind = 3 then emptyB s && decide (s.units.length ≤ 65536) else false

/-! ### Trees that may be -/
def looseB (s : St) : Bool := !decide (s.float = 0) || !decide (s.clear = 0)
/-- May a node have its parent? -/
def underB (L : List Nd) (i : Nat) : Bool :=
  if i = 0 then decide (parOf L i = -1) else decide (parOf L i = (i : Int) - 1) || (decide (0 ≤ parOf L i ∧ parOf L i < i) && belowB L (i - 1) (parOf L i).toNat)
/-- May a node, of its kind, stand under its parent? -/
def placeB (L : List Nd) (i : Nat) : Bool :=
  let p := (parOf L i).toNat
  if kindOf L p = 3 then false
  else if kindOf L p = 2 then !(decide (kindOf L i = 3) || looseB (L.getD i nd0).st)
  else match firstK L p (p + 1) i with
    | none => true
    | some k => decide (kindOf L k = 3) == decide (kindOf L i = 3)
def nodeE (L : List Nd) (i : Nat) : Int :=
  if underB L i = false then 6
  else if 65536 < (L.getD i nd0).st.units.length then 7
  else if 512 < deep L i then 8
  else if rightB (L.getD i nd0).st = false ∨ i = 0 ∧ (¬ kindOf L i = 1 ∨ looseB (L.getD i nd0).st = true) then 6
  else if i = 0 then 0
  else if placeB L i = false then 6 else 0
/-- The first wrong node. -/
def badAt (L : List Nd) (k : Nat) : Int × Int :=
  match (List.range' k (L.length - k)).find? fun j => decide (¬ nodeE L j = 0) with
  | none => (0, 0)
  | some j => ((j : Int), nodeE L j)
theorem bad_end {L : List Nd} {k : Nat} (h : L.length ≤ k) : badAt L k = (0, 0) := by
  unfold badAt; rw [Nat.sub_eq_zero_of_le h]; rfl
theorem bad_hit {L : List Nd} {k : Nat} (h : k < L.length) (hp : ¬ nodeE L k = 0) : badAt L k = ((k : Int), nodeE L k) := by
  unfold badAt
  obtain ⟨m, hm⟩ : ∃ m, L.length - k = m + 1 := ⟨L.length - k - 1, by omega⟩
  rw [hm, List.range'_succ, List.find?_cons_of_pos (by simpa using hp)]
theorem bad_miss {L : List Nd} {k : Nat} (h : k < L.length) (hp : nodeE L k = 0) : badAt L k = badAt L (k + 1) := by
  unfold badAt
  obtain ⟨m, hm⟩ : ∃ m, L.length - k = m + 1 := ⟨L.length - k - 1, by omega⟩
  rw [hm, List.range'_succ, List.find?_cons_of_neg (by simpa using hp), show L.length - (k + 1) = m by omega]
def advOk (adv : List Int) : Bool := adv.all fun x => inB x 0 1099511627776
def check (L : List Nd) (adv : List Int) (v : Int) : Int × Int :=
  if 65536 < L.length ∨ 4096 < adv.length then (0, 7)
  else if L.length = 0 ∨ inB v 0 1099511627776 = false then (0, 6)
  else if advOk adv = false then (0, 6)
  else badAt L 0
/-- Which box is a root. -/
def rootB (L : List Nd) (i : Int) : Bool :=
  if i < 0 ∨ (L.length : Int) ≤ i ∨ kindOf L i.toNat = 3 then false
  else decide (i = 0) || decide (kindOf L i.toNat = 2) || (L.getD i.toNat nd0).st.flow || !decide ((L.getD i.toNat nd0).st.float = 0) ||
    match par L i.toNat with
    | none => false
    | some p => decide (kindOf L p = 2)

/-! ### What follows of a tree that may be -/
/-- No node is wrong. -/
structure Fine (L : List Nd) : Prop where
  pos : 0 < L.length
  small : L.length ≤ 65536
  node : ∀ i, i < L.length → nodeE L i = 0
theorem fine_of {L : List Nd} {adv : List Int} {v : Int} (h : (check L adv v).2 = 0) : Fine L := by
  unfold check at h
  split at h
  · cases h
  · split at h
    · cases h
    · split at h
      · cases h
      · rename_i h1 h2 _
        refine ⟨by omega, by omega, fun i hi => ?_⟩
        unfold badAt at h
        cases hf : (List.range' 0 (L.length - 0)).find? (fun j => decide (¬ nodeE L j = 0)) with
        | none =>
          rw [List.find?_eq_none] at hf
          have := hf i (by simp; omega)
          simpa using this
        | some j =>
          rw [hf] at h
          have := List.find?_some hf
          simp at this
          exact absurd h this
theorem Fine.under {L : List Nd} (h : Fine L) {i : Nat} (hi : i < L.length) : underB L i = true := by
  have := h.node i hi
  unfold nodeE at this
  cases hu : underB L i
  · rw [hu] at this; simp at this
  · rfl
theorem Fine.root {L : List Nd} (h : Fine L) : parOf L 0 = -1 := by
  have := h.under h.pos
  simpa [underB] using this
theorem Fine.par {L : List Nd} (h : Fine L) {i : Nat} (hi : i < L.length) (h0 : 0 < i) : par L i = some (parOf L i).toNat ∧ 0 ≤ parOf L i ∧ parOf L i < i := by
  have h1 := h.under hi
  unfold underB at h1
  rw [if_neg (by omega)] at h1
  have : 0 ≤ parOf L i ∧ parOf L i < i := by
    simp only [Bool.or_eq_true, decide_eq_true_eq, Bool.and_eq_true] at h1
    rcases h1 with h1 | h1
    · omega
    · exact h1.1
  exact ⟨by unfold Go.Proofs.Ytedlfkklkoihjaa.par; rw [if_pos this], this⟩
theorem Fine.not_text {L : List Nd} (h : Fine L) {i : Nat} (hi : i < L.length) (h0 : 0 < i) : ¬ kindOf L (parOf L i).toNat = 3 := by
  have h1 := h.node i hi
  intro hk
  unfold nodeE at h1
  rw [h.under hi] at h1
  have hp : placeB L i = false := by unfold placeB; simp only [hk, if_true]
  rw [hp] at h1
  rw [if_neg (by simp), if_neg (by omega : ¬ i = 0), if_pos rfl] at h1
  repeat' split at h1
  all_goals cases h1
theorem Fine.kind0 {L : List Nd} (h : Fine L) : kindOf L 0 = 1 := by
  have h1 := h.node 0 h.pos
  unfold nodeE at h1
  rw [h.under h.pos] at h1
  by_cases hk : kindOf L 0 = 1
  · exact hk
  · rw [if_neg (by simp)] at h1
    split at h1
    · cases h1
    · split at h1
      · cases h1
      · rw [if_pos (.inr ⟨rfl, .inl hk⟩)] at h1; cases h1
end Go.Proofs.Ytedlfkklkoihjaa
