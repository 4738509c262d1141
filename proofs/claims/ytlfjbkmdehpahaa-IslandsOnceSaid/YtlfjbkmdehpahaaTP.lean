/-
  The document's parent, depth, below, first (jambref05). No condition.
-/
import Derived.Test.YtlfjbkmdehpahaaTS
set_option linter.unusedVariables false
set_option linter.unusedSimpArgs false
namespace Go.Proofs.Ytlfjbkmdehpahaa
open Go.RowKit Go.BigFrame

section
variable {A D : Option Addr} {n c m d : Nat} {v : Int} {L : List Nd} {adv : List Int}
theorem Trd.len {w : World} (h : Trd w A n D m L adv) : L.length = n := h.nodes.len_eq
/-- A node's first cells. -/
theorem Trd.at_ {w : World} (h : Trd w A n D m L adv) (h0 : 0 < n) : ∃ b off, A = some ⟨b, off, none⟩ ∧ b < w.heap.size ∧ ∀ i, i < n → ∀ j, j < 44 → w.cell? ⟨b, off + (i * 44 + j), none⟩ = (ncells (L.getD i nd0))[j]? := h.nodes.at_ h0
set_option maxHeartbeats 400000 in
theorem parent_any (i : Nat) (w : World) (h : Trd w A n D m L adv) (hi : i < n) (hn : n ≤ maxLen) :
    Calls Try.prog 25 #[.agg #[.slice A n c, .slice D m d, .int .i64 v], .int .i64 i] w fun e w' => e = .returned (.int .i64 (optI (par L i))) ∧ Below w.heap.size w w' := by
  unfold maxLen at hn
  obtain ⟨b, off, rfl, hB, hc⟩ := h.at_ (by omega)
  have c0 : w.cell? ⟨b, off + i * 44, none⟩ = some (.int .i64 (parOf L i)) := hc i hi 0 (by omega)
  have hp : par L i = if 0 ≤ parOf L i ∧ parOf L i < i then some (parOf L i).toNat else none := rfl
  obtain ⟨p, he⟩ : ∃ p, parOf L i = p := ⟨_, rfl⟩
  rw [he] at c0 hp
  clear hc h he
  by_cases h1 : 0 ≤ p
  · by_cases h2 : p < i
    · rw [if_pos ⟨h1, h2⟩] at hp
      have HP := Lib.hid hp
      have h3 : ((p.toNat : Nat) : Int) = p := by omega
      have H3 := Lib.hid h3
      clear hp h3
      go_enter Try.func25, Try.ntmps25
      go_wp2_with fail
      go_ret
      exact ⟨by rw [HP.out]; show _ = Ending.returned (.int .i64 ((p.toNat : Nat) : Int)); rw [H3.out]; rfl, by (repeat' (first | (with_reducible exact Below.refl _ _) | (with_reducible assumption) | (with_reducible refine Below.alloc ?_ ?_ _) | (with_reducible refine Below.drew ?_) | (with_reducible refine Below_drewN ?_ _) | (with_reducible refine Below.setCell ?_ ?_ _) | go_size))⟩
    · rw [if_neg (by omega)] at hp
      have HP := Lib.hid hp
      have h3 : decide (p < (i : Int)) = false := decide_eq_false h2
      clear hp
      go_enter Try.func25, Try.ntmps25
      go_wp2_with fail
      go_ret
      exact ⟨by rw [HP.out]; rfl, by (repeat' (first | (with_reducible exact Below.refl _ _) | (with_reducible assumption) | (with_reducible refine Below.alloc ?_ ?_ _) | (with_reducible refine Below.drew ?_) | (with_reducible refine Below_drewN ?_ _) | (with_reducible refine Below.setCell ?_ ?_ _) | go_size))⟩
  · rw [if_neg (by omega)] at hp
    have HP := Lib.hid hp
    have h3 : decide (0 ≤ p) = false := decide_eq_false h1
    clear hp
    go_enter Try.func25, Try.ntmps25
    go_wp2_with fail
    go_ret
    exact ⟨by rw [HP.out]; rfl, by (repeat' (first | (with_reducible exact Below.refl _ _) | (with_reducible assumption) | (with_reducible refine Below.alloc ?_ ?_ _) | (with_reducible refine Below.drew ?_) | (with_reducible refine Below_drewN ?_ _) | (with_reducible refine Below.setCell ?_ ?_ _) | go_size))⟩
theorem optI_lo (o : Option Nat) : -1 ≤ optI o := by
  cases o with
  | none => exact Int.le_refl _
  | some p => show (-1 : Int) ≤ (p : Int); omega
set_option maxHeartbeats 400000 in
theorem depth_any (i : Nat) (w : World) (h : Trd w A n D m L adv) (hi : i < n) (hn : n ≤ maxLen) :
    Calls Try.prog 29 #[.agg #[.slice A n c, .slice D m d, .int .i64 v], .int .i64 i] w fun e w' => e = .returned (.int .i64 (deep L i)) ∧ Below w.heap.size w w' := by
  have hn' := hn
  unfold maxLen at hn'
  have hdl := deep_le L i
  have hds := deep_step L i
  have HDS := Lib.hid hds
  clear hds
  have hbk := Blk_new w 25 #[.slice A n c, .slice D m d, .int .i64 v]
  go_enter Try.func29, Try.ntmps29
  go_wp2_with (go_at_call 25; refine (parent_any i _ (h.mono (by (repeat' (first | (with_reducible exact Below.refl _ _) | (with_reducible assumption) | (with_reducible refine Below.alloc ?_ ?_ _) | (with_reducible refine Below.drew ?_) | (with_reducible refine Below_drewN ?_ _) | (with_reducible refine Below.setCell ?_ ?_ _) | go_size)))) hi hn).mono ?_; rintro e w1 ⟨rfl, h1⟩)
  have hb1 : Below w.heap.size w w1 := Below_al h1
  have hbk1 := Blk_below hbk h1 (by simp)
  clear hbk h1
  go_loopw [5, 6, 10, 11, 12, 13, 14, 15, 16] (fun k p _ _ _ _ _ _ _ wr => ∃ (q : Option Nat) (j : Nat), k = .int .i64 j ∧ p = .int .i64 (optI q) ∧ j + deepO L q = deep L i ∧ (∀ x, q = some x → x < n) ∧ Below w.heap.size w wr ∧ Blk wr w.heap.size 25 #[.slice A n c, .slice D m d, .int .i64 v]) (fun _ p _ _ _ _ _ _ _ _ => (intOf p + 1).toNat)
  case atStart => exact ⟨par L i, 1, rfl, rfl, by rw [HDS.out]; omega, fun x hx => by have := par_lt hx; omega, hb1, hbk1⟩
  case round =>
    clear hb1 hbk1
    obtain ⟨q, j, rfl, rfl, hj, hq, hb, hbk⟩ := hrel
    cases q with
    | none =>
      have HJ := Lib.hid hj
      clear hj hq
      have e0 : optI none = -1 := rfl
      rw [e0]
      clear e0
      go_wp2_with fail
      go_ret
      exact ⟨by rw [← HJ.out]; rfl, by (repeat' (first | (with_reducible exact Below.refl _ _) | (with_reducible assumption) | (with_reducible refine Below.alloc ?_ ?_ _) | (with_reducible refine Below.drew ?_) | (with_reducible refine Below_drewN ?_ _) | (with_reducible refine Below.setCell ?_ ?_ _) | go_size))⟩
    | some p =>
      have hp := hq p rfl
      have hs : deepO L (some p) = deepO L (par L p) + 1 := deep_step L p
      have e0 : optI (some p) = (p : Int) := rfl
      have hpl : optI (par L p) < p := by
        cases h : par L p with
        | none => simp [optI]; omega
        | some x => have := par_lt h; show (x : Int) < p; omega
      have HPL := Lib.hid hpl
      have HJ := Lib.hid hj
      have HS := Lib.hid hs
      have hlo := optI_lo (par L p)
      have hj3 : j < n := by omega
      rw [e0]
      have hT := h.mono hb
      have hc0 := Blk_cell hbk 0
      have hc1 := Blk_cell hbk 1
      have hc2 := Blk_cell hbk 2
      clear hq e0 hs hpl hj
      go_wp2_with (go_at_call 25; refine (parent_any p _ hT hp hn).mono ?_; rintro e w1 ⟨rfl, h1⟩)
      have hb2 := Below_same hb h1
      have hbk2 := Blk_below hbk h1 (Blk_lt hbk)
      clear hT hb h1 hbk hc0 hc1 hc2
      go_roundw
      case rel => exact ⟨par L p, j + 1, by go_num, rfl, by have := HJ.out; rw [HS.out] at this; omega, fun x hx => by have := par_lt hx; omega, hb2, hbk2⟩
      case measure =>
        have := HPL.out
        show (optI (par L p) + 1).toNat < ((p : Int) + 1).toNat
        omega
set_option maxHeartbeats 400000 in
theorem below_any (i over : Nat) (w : World) (h : Trd w A n D m L adv) (hi : i < n) (hn : n ≤ maxLen) :
    Calls Try.prog 28 #[.agg #[.slice A n c, .slice D m d, .int .i64 v], .int .i64 i, .int .i64 over] w fun e w' => e = .returned (.bool (belowB L i over)) ∧ Below w.heap.size w w' := by
  have hn' := hn
  unfold maxLen at hn'
  have HDS := Lib.hid (below_step L i over)
  have hbk := Blk_new w 25 #[.slice A n c, .slice D m d, .int .i64 v]
  go_enter Try.func28, Try.ntmps28
  go_wp2_with (go_at_call 25; refine (parent_any i _ (h.mono (by (repeat' (first | (with_reducible exact Below.refl _ _) | (with_reducible assumption) | (with_reducible refine Below.alloc ?_ ?_ _) | (with_reducible refine Below.drew ?_) | (with_reducible refine Below_drewN ?_ _) | (with_reducible refine Below.setCell ?_ ?_ _) | go_size)))) hi hn).mono ?_; rintro e w1 ⟨rfl, h1⟩)
  have hb1 : Below w.heap.size w w1 := Below_al h1
  have hbk1 := Blk_below hbk h1 (by simp)
  clear hbk h1
  go_loopw [7, 11, 12, 13, 14, 15, 16, 17, 18] (fun p _ _ _ _ _ _ _ _ wr => ∃ (q : Option Nat), p = .int .i64 (optI q) ∧ belowB L i over = belowO L over q ∧ (∀ x, q = some x → x < n) ∧ Below w.heap.size w wr ∧ Blk wr w.heap.size 25 #[.slice A n c, .slice D m d, .int .i64 v]) (fun p _ _ _ _ _ _ _ _ _ => (intOf p + 1).toNat)
  case atStart => exact ⟨par L i, rfl, HDS.out, fun x hx => by have := par_lt hx; omega, hb1, hbk1⟩
  case round =>
    clear hb1 hbk1
    obtain ⟨q, rfl, hj, hq, hb, hbk⟩ := hrel
    cases q with
    | none =>
      have HJ := Lib.hid hj
      clear hj hq
      have e0 : optI none = -1 := rfl
      rw [e0]
      clear e0
      go_wp2_with fail
      go_ret
      exact ⟨by rw [HJ.out]; rfl, by (repeat' (first | (with_reducible exact Below.refl _ _) | (with_reducible assumption) | (with_reducible refine Below.alloc ?_ ?_ _) | (with_reducible refine Below.drew ?_) | (with_reducible refine Below_drewN ?_ _) | (with_reducible refine Below.setCell ?_ ?_ _) | go_size))⟩
    | some p =>
      have hp := hq p rfl
      have e0 : optI (some p) = (p : Int) := rfl
      have hpl : optI (par L p) < p := by
        cases h : par L p with
        | none => simp [optI]; omega
        | some x => have := par_lt h; show (x : Int) < p; omega
      have HPL := Lib.hid hpl
      have HJ := Lib.hid hj
      have hlo := optI_lo (par L p)
      rw [e0]
      have hT := h.mono hb
      have hc0 := Blk_cell hbk 0
      have hc1 := Blk_cell hbk 1
      have hc2 := Blk_cell hbk 2
      clear hq e0 hpl hj
      by_cases hpo : p = over
      · subst hpo
        clear HPL
        go_wp2_with fail
        go_ret
        exact ⟨by rw [HJ.out]; simp [belowO], by (repeat' (first | (with_reducible exact Below.refl _ _) | (with_reducible assumption) | (with_reducible refine Below.alloc ?_ ?_ _) | (with_reducible refine Below.drew ?_) | (with_reducible refine Below_drewN ?_ _) | (with_reducible refine Below.setCell ?_ ?_ _) | go_size))⟩
      · have hpo2 : ((p : Int) == (over : Int)) = false := by simp; omega
        have HS := Lib.hid (belowO_some L over p hpo)
        clear hpo
        go_wp2_with (go_at_call 25; refine (parent_any p _ hT hp hn).mono ?_; rintro e w1 ⟨rfl, h1⟩)
        have hb2 := Below_same hb h1
        have hbk2 := Blk_below hbk h1 (Blk_lt hbk)
        clear hT hb h1 hbk hc0 hc1 hc2
        go_roundw
        case rel => exact ⟨par L p, rfl, HJ.out.trans HS.out, fun x hx => by have := par_lt hx; omega, hb2, hbk2⟩
        case measure =>
          have := HPL.out
          show (optI (par L p) + 1).toNat < ((p : Int) + 1).toNat
          omega
set_option maxHeartbeats 400000 in
theorem first_any (p i : Nat) (w : World) (h : Trd w A n D m L adv) (hi : i < n) (hpi : p < i) (hn : n ≤ maxLen) :
    Calls Try.prog 31 #[.agg #[.slice A n c, .slice D m d, .int .i64 v], .int .i64 p, .int .i64 i] w fun e w' => e = .returned (.int .i64 (optI (firstK L p (p + 1) i))) ∧ Below w.heap.size w w' := by
  have hn' := hn
  unfold maxLen at hn'
  have hbk := Blk_new w 25 #[.slice A n c, .slice D m d, .int .i64 v]
  have hb1 := (Below.refl w.heap.size w).alloc (Nat.le_refl _) (.cells #[.slice A n c, .slice D m d, .int .i64 v] 25)
  go_enter Try.func31, Try.ntmps31
  go_wp2_with fail
  go_loopw [7, 10, 11, 12, 13, 14, 15, 16, 17, 18, 19, 20] (fun k _ _ _ _ _ _ _ _ _ _ _ wr => ∃ (j : Nat), j ≤ i ∧ k = .int .i64 j ∧ firstK L p (p + 1) i = firstK L p j i ∧ Below w.heap.size w wr ∧ Blk wr w.heap.size 25 #[.slice A n c, .slice D m d, .int .i64 v]) (fun k _ _ _ _ _ _ _ _ _ _ _ _ => i - (intOf k).toNat)
  case atStart => exact ⟨p + 1, by omega, by go_num, rfl, hb1, hbk⟩
  case round =>
    clear hb1 hbk
    obtain ⟨j, hji, rfl, hj, hb, hbk⟩ := hrel
    have HJ := Lib.hid hj
    clear hj
    by_cases hlt : j < i
    · have hT := h.mono hb
      have hc0 := Blk_cell hbk 0
      have hc1 := Blk_cell hbk 1
      have hc2 := Blk_cell hbk 2
      by_cases hp : par L j = some p
      · have HS := Lib.hid (firstK_hit hlt hp)
        have hpa := parent_any (c := c) (d := d) (v := v) j wr hT (by omega) hn
        rw [show optI (par L j) = (p : Int) by rw [hp]; rfl] at hpa
        clear hp
        go_wp2_with (go_at_call 25; refine hpa.mono ?_; rintro e w1 ⟨rfl, h1⟩)
        go_ret
        exact ⟨by rw [HJ.out, HS.out]; rfl, Below_same hb h1⟩
      · have HS := Lib.hid (firstK_miss hlt hp)
        have hpo2 : (optI (par L j) == (p : Int)) = false := by
          cases h : par L j with
          | none => simp [optI] <;> omega
          | some x => rw [h] at hp; simp [optI]; intro h; exact hp (by rw [show x = p by omega])
        clear hp
        go_wp2_with (go_at_call 25; refine (parent_any j _ hT (by omega) hn).mono ?_; rintro e w1 ⟨rfl, h1⟩)
        have hb2 := Below_same hb h1
        have hbk2 := Blk_below hbk h1 (Blk_lt hbk)
        clear hT hb h1 hbk hc0 hc1 hc2
        go_roundw
        case rel => exact ⟨j + 1, by omega, by go_num, HJ.out.trans HS.out, hb2, hbk2⟩
        case measure => simp [intOf]; omega
    · have HE := Lib.hid (firstK_end (L := L) (p := p) (show i ≤ j by omega))
      go_wp2_with fail
      go_ret
      exact ⟨by rw [HJ.out, HE.out]; rfl, by (repeat' (first | (with_reducible exact Below.refl _ _) | (with_reducible assumption) | (with_reducible refine Below.alloc ?_ ?_ _) | (with_reducible refine Below.drew ?_) | (with_reducible refine Below_drewN ?_ _) | (with_reducible refine Below.setCell ?_ ?_ _) | go_size))⟩
end
end Go.Proofs.Ytlfjbkmdehpahaa
