/-
  A number of any size, cut (jambref01.Cut). No condition.
-/
import Derived.Test.YtedlfkklkoihjaaM
set_option linter.unusedVariables false
set_option linter.unusedSimpArgs false
namespace Go.Proofs.Ytedlfkklkoihjaa
open Go.RowKit Go.BigFrame

theorem drop_le (l : List Bool) : ∀ k, bval (l.drop k) ≤ bval l
  | 0 => by simp
  | k + 1 => by
    have := drop_le l k
    have := bval_drop l k
    omega
theorem cutB_hi' {s : Int} (h : 1099511627776 < s) : cutB s = true := by unfold cutB; rw [cutV_hi (by omega)]; simp; omega
theorem cutB_lo' {s : Int} (h : s < -1099511627776) : cutB s = true := by unfold cutB; rw [cutV_lo (by omega)]; simp; omega
theorem cutB_mid' {s : Int} (h : -1099511627776 ≤ s) (h' : s ≤ 1099511627776) : cutB s = false := by unfold cutB; rw [cutV_mid h h', bne_self_eq_false]
theorem field1 (s : Bool) (G : Option Addr) (n g : Nat) (w : World) : (Instr.field 56 (.agg #[.bool s, .slice G n g]) 1).run Try.prog w = .ok (.slice G n g) w := by kernel_rfl
set_option maxRecDepth 20000 in
set_option maxHeartbeats 4000000 in
theorem rcut_any (w : World) {va : Value} {z : Int} {K : Nat} (ha : BV w va z K) (hK : K ≤ 60000) :
    Calls Try.prog 25 #[va] w fun e w' => e = .returned (.tuple #[.int .i64 (cutV z), .bool (cutB z)]) ∧ Below w.heap.size w w' := by
  obtain ⟨l, sv, rfl, ⟨A, c, rfl, h1, h2, hA⟩, h4, h5⟩ := ha
  obtain ⟨n, hn⟩ : ∃ n, l.length = n := ⟨_, rfl⟩
  rw [hn] at h1 hA h5 ⊢
  obtain ⟨s, hs⟩ : ∃ s, decide (z < 0) = s := ⟨_, rfl⟩
  rw [hs]
  have hz := sg_eq hs
  rw [← h4] at hz
  have hX := Blk_new w 56 #[.bool s, .slice A n c]
  have hb0 : Below w.heap.size w (w.alloc (.cells #[.bool s, .slice A n c] 56)) := by (repeat' (first | (with_reducible exact Below.refl _ _) | (with_reducible assumption) | (with_reducible refine Below.alloc ?_ ?_ _) | (with_reducible refine Below.drew ?_) | (with_reducible refine Below_drewN ?_ _) | (with_reducible refine Below.setCell ?_ ?_ _) | go_size))
  obtain ⟨w1, hw1⟩ : ∃ x, w.alloc (.cells #[.bool s, .slice A n c] 56) = x := ⟨_, rfl⟩
  rw [hw1] at hX hb0
  have HW := Lib.hid hw1
  have x0 := Blk_cell hX 0
  have x1 := Blk_cell hX 1
  have hA1 := hA.mono hb0
  have HZ := Lib.hid (And.intro hz hs)
  clear hw1 hz hs h4
  have hSS : ∀ w', Below w1.heap.size w1 w' → Below w1.heap.size w1 w' ∧ w'.cell? ⟨w.heap.size, 0, none⟩ = some (.bool s) ∧ w'.cell? ⟨w.heap.size, 1, none⟩ = some (.slice A n c) := fun w' h => ⟨h, (h.cell (cell_lt x0)).trans x0, (h.cell (cell_lt x1)).trans x1⟩
  have HH := Lib.hid hSS
  clear hSS
  have hof := fun w => of_any w 1099511627776 (by decide)
  have hfd := field1
  go_enter Try.func25, Try.ntmps25
  go_upto_region 1 with fail
  rw [HW.out]
  go_region_held3 (fun w' => Below w1.heap.size w1 w' ∧ w'.cell? ⟨w.heap.size, 0, none⟩ = some (.bool s) ∧ w'.cell? ⟨w.heap.size, 1, none⟩ = some (.slice A n c))
    ((first
      | (with_reducible assumption)
      | exact (HH).out _ (Below.refl _ _).drew
      | exact (HH).out _ (Below_same hh hw)
      | exact (HH).out _ ((‹Below _ _ _ ∧ _›).1.alloc (‹Below _ _ _ ∧ _›).1.size _)))
    (first
      | (go_at_call 26; have hh := (‹Below _ _ _ ∧ _›).1; (with_reducible refine (hof _).mono ?_); rintro e w' ⟨v5, rfl, hBV5, hw⟩; obtain ⟨l5, sv5, rfl, ⟨G5, g5, rfl, hg5, hg6, hBl5⟩, hv5, hl5⟩ := hBV5; have HB5 := Lib.hid hBl5; have HV5 := Lib.hid (And.intro hv5 hl5); clear hBl5 hv5 hl5)
      | (go_at_call 44; have hh := (‹Below _ _ _ ∧ _›).1; (with_reducible refine (less_any _ HB5.out (hA1.mono hh) (by have := HV5.out.2; omega) (by omega)).mono ?_); rintro e w' ⟨rfl, hq⟩; subst hq; have hw := Below.refl (‹World›).heap.size (‹World›)))
  obtain ⟨hb1, c0, c1⟩ := ‹Below w1.heap.size w1 _ ∧ _›
  have hbw := hb0.trans (hb1.mono hb0.size)
  have hAw := hA1.mono hb1
  have hv5 : bval l5 = 1099511627776 := HV5.out.1
  clear hfd hof hA hA1 x0 x1 hX hg5 hg6 hw
  by_cases hbig : 1099511627776 < bval l
  · rw [show decide (bval l5 < bval l) = true from decide_eq_true (by omega)]
    cases s
    · have hzz : z = (bval l : Int) := HZ.out.1
      have hr : cutV z = 1099511627776 ∧ cutB z = true := ⟨cutV_hi (by omega), cutB_hi' (by omega)⟩
      have HR := Lib.hid hr
      clear hzz hr hbig hv5
      go_wp2_with fail
      go_ret2
      exact ⟨by rw [HR.out.1, HR.out.2]; rfl, hbw⟩
    · have hzz : z = -(bval l : Int) := HZ.out.1
      have hr : cutV z = -1099511627776 ∧ cutB z = true := ⟨cutV_lo (by omega), cutB_lo' (by omega)⟩
      have HR := Lib.hid hr
      clear hzz hr hbig hv5
      go_wp2_with fail
      go_ret2
      exact ⟨by rw [HR.out.1, HR.out.2]; rfl, hbw⟩
  · rw [show decide (bval l5 < bval l) = false from decide_eq_false (by omega)]
    have hr : cutV z = sgn s (bval l) ∧ cutB z = false := by
      have hzz := HZ.out.1
      have : -1099511627776 ≤ z ∧ z ≤ 1099511627776 := by rw [hzz]; unfold sgn; split <;> omega
      exact ⟨by rw [cutV_mid this.1 this.2, ← hzz], cutB_mid' this.1 this.2⟩
    have HR := Lib.hid hr
    have hdr := fun k => drop_le l k
    have HDR := Lib.hid (fun k => Nat.le_trans (drop_le l k) (Nat.le_of_not_lt hbig))
    have hn2 := hAw.len_eq
    have h0 : bval (l.drop n) = 0 := by rw [List.drop_eq_nil_of_le (by omega)]; rfl
    have H0 := Lib.hid h0
    clear hr hdr hbig hv5 h0
    go_wp2_with fail
    go_loopw [4, 5, 17, 18, 19, 20, 21, 22, 23, 24, 25, 26, 27] (fun u i _ _ _ _ _ _ _ _ _ _ _ wr => ∃ (k : Nat) (x : Int), k ≤ n ∧ i = .int .i64 x ∧ x = (k : Int) - 1 ∧ u = .int .i64 (bval (l.drop k) : Nat) ∧ w' = wr) (fun _ i _ _ _ _ _ _ _ _ _ _ _ _ => (intOf i + 1).toNat)
    case atStart => exact ⟨n, _, Nat.le_refl _, rfl, rfl, by rw [H0.out]; rfl, rfl⟩
    case round =>
      obtain ⟨k, x, hk, rfl, hx, rfl, rfl⟩ := hrel
      cases k with
      | zero =>
        have hx1 : x = -1 := by omega
        subst hx1
        rw [List.drop_zero]
        clear hx
        have hVs := HDR.out 0
        rw [List.drop_zero] at hVs
        generalize bval l = V at *
        cases s
        · go_wp2_with fail
          go_ret2
          exact ⟨by rw [HR.out.1, HR.out.2]; rfl, hbw⟩
        · obtain ⟨y, hy⟩ : ∃ y : Int, (V : Int) = y := ⟨_, rfl⟩
          rw [hy]
          have hy0 : 0 ≤ y := by omega
          have hy1 : y ≤ 1099511627776 := by omega
          have HY := Lib.hid hy
          clear hy hVs
          go_wp2_with fail
          go_ret2
          exact ⟨by rw [HR.out.1, HR.out.2]; unfold sgn; rw [HY.out]; rfl, hbw⟩
      | succ j =>
        have hxj : x = (j : Int) := by omega
        subst hxj
        have hat := at_any (c := c) _ hAw j (by omega)
        have q1 := bval_drop l j
        have q2 := HDR.out j
        have l1 := bit_le (l.getD j false)
        generalize bit (l.getD j false) = y at *
        have HQ := Lib.hid q1
        rw [q1] at q2
        generalize bval (l.drop (j + 1)) = V at *
        clear hx q1
        obtain ⟨v, hv⟩ : ∃ y : Int, (V : Int) = y := ⟨_, rfl⟩
        rw [hv]
        have hv0 : 0 ≤ v := by omega
        have hv1 : 2 * v + (y : Int) ≤ 1099511627776 := by omega
        have HY := Lib.hid hv
        clear hv q2
        go_wp2_with ((go_at_call 45; (with_reducible refine (hat).mono ?_)); rintro e w5 ⟨rfl, hq⟩; subst hq)
        go_roundw
        case rel => exact ⟨j, _, by omega, rfl, rfl, congrArg _ (by rw [HQ.out]; have := HY.out; omega), trivial⟩
        case measure => simp [intOf]
end Go.Proofs.Ytedlfkklkoihjaa
