/-
  au.MulDiv, au.Part: the floor of a quotient of a product, as a length. No condition.
-/
import Derived.Test.YtedlfkklkoihjaaDv
set_option linter.unusedVariables false
set_option linter.unusedSimpArgs false
namespace Go.Proofs.Ytedlfkklkoihjaa
open Go.RowKit Go.BigFrame

theorem two_ret {a b : Int} {c d : Bool} (h : a = b) (h2 : c = d) : Ending.returned (.tuple #[.int .i64 a, .bool c]) = .returned (.tuple #[.int .i64 b, .bool d]) := by rw [h, h2]
theorem divs_any (P C : Nat) (w : World) (hC : C < 18446744073709551616) (h : P / 18446744073709551616 < C) :
    Calls Try.prog 51 #[.int .u64 ((P / 18446744073709551616 : Nat) : Int), .int .u64 ((P % 18446744073709551616 : Nat) : Int), .int .u64 C] w
      fun e w' => e = .returned (.tuple #[.int .u64 ((P / C : Nat) : Int), .int .u64 ((P % C : Nat) : Int)]) ∧ Below w.heap.size w w' := by
  have e := Nat.div_add_mod' P 18446744073709551616
  have hl := Nat.mod_lt P (show 0 < 18446744073709551616 by omega)
  by_cases h0 : P / 18446744073709551616 = 0
  · rw [h0] at h e ⊢
    rw [Nat.zero_mul, Nat.zero_add] at e
    have := div0_any (P % 18446744073709551616) C w h hl hC
    rw [e] at this ⊢
    exact this
  · have := div64_any (P / 18446744073709551616) (P % 18446744073709551616) C w h h0 hl hC
    rw [e] at this
    exact this

theorem over_any (m : Nat) (s : Bool) (w : World) (hm : Blk w m 4 #[.bool s]) :
    Calls Try.prog 50 #[.pointer (some ⟨m, 0, none⟩)] w fun e w' => e = .returned (.tuple #[.int .i64 (if s then -1099511627776 else 1099511627776), .bool true]) ∧ w = w' := by
  have c0 := Blk_cell hm 0
  cases s
  · go_enter Try.func50, Try.ntmps50
    go_wp2
    go_ret2
    exact ⟨rfl, rfl⟩
  · go_enter Try.func50, Try.ntmps50
    go_wp2
    go_ret2
    exact ⟨rfl, rfl⟩

theorem muldiv_zero (a b : Int) (w : World) : Calls Try.prog 43 #[.int .i64 a, .int .i64 b, .int .i64 0] w fun e w' => e = .returned (.tuple #[.int .i64 0, .bool true]) ∧ Below w.heap.size w w' := by
  go_enter Try.func43, Try.ntmps43
  go_wp2
  go_ret2
  exact ⟨rfl, Below.refl _ _⟩

theorem mul64_run (x y : Nat) (hx : x < 18446744073709551616) (hy : y < 18446744073709551616) (w : World) :
    Calls Try.prog 48 #[.int .u64 x, .int .u64 y] w fun e w' => e = .returned (.tuple #[.int .u64 ((x * y / 18446744073709551616 : Nat) : Int), .int .u64 ((x * y % 18446744073709551616 : Nat) : Int)]) ∧ w = w' :=
  (Try.bits_Mul64 x y hx hy w).mono fun e w' h => ⟨h.1, h.2.symm⟩
theorem over_big {P C : Nat} (h : C ≤ P / 18446744073709551616) (hC : 0 < C) : 18446744073709551616 ≤ P / C := by
  rw [Nat.le_div_iff_mul_le hC]
  rw [Nat.mul_comm]
  exact Nat.le_trans (Nat.mul_le_mul_right 18446744073709551616 h) (Nat.div_mul_le_self P 18446744073709551616)
theorem cutB_mid {s : Int} (h : -1099511627776 ≤ s) (h' : s ≤ 1099511627776) : cutB s = false := by unfold cutB; rw [cutV_mid h h', bne_self_eq_false]
set_option maxHeartbeats 1000000 in
theorem muldiv_any (a b c : Int) (w : World) (ha : (Lit.int .i64 a).wf = true) (hb : (Lit.int .i64 b).wf = true) (hc : (Lit.int .i64 c).wf = true) (h0 : c ≠ 0) :
    Calls Try.prog 43 #[.int .i64 a, .int .i64 b, .int .i64 c] w fun e w' => e = .returned (.tuple #[.int .i64 (cutV (fl (a * b) c)), .bool (cutB (fl (a * b) c))]) ∧ Below w.heap.size w w' := by
  have ia := i64_wf ha
  have ib := i64_wf hb
  have ic := i64_wf hc
  have hF := fl_of a b c h0
  have hm := mul64_run a.natAbs b.natAbs (by omega) (by omega) w
  obtain ⟨P, hP⟩ : ∃ P, a.natAbs * b.natAbs = P := ⟨_, rfl⟩
  rw [hP] at hm hF
  generalize fl (a * b) c = F at *
  have sa := size_any a w ha
  have sb := size_any b w hb
  have sc := fun w => size_any c w hc
  have hC0 : 0 < c.natAbs := by omega
  have hCl : c.natAbs < 18446744073709551616 := by omega
  have hov := fun (h : c.natAbs ≤ P / 18446744073709551616) => over_big h hC0
  have hdv := fun (h : P / 18446744073709551616 < c.natAbs) w => divs_any P c.natAbs w hCl h
  have hhi : P / 18446744073709551616 < 18446744073709551616 := by
    rw [← hP, Nat.div_lt_iff_lt_mul (by omega)]
    exact Nat.lt_of_le_of_lt (Nat.mul_le_mul (show a.natAbs ≤ 9223372036854775808 by omega) (show b.natAbs ≤ 9223372036854775808 by omega)) (by omega)
  have hsg : sg a b c = ((decide (a < 0) != decide (b < 0)) != decide (c < 0)) := rfl
  generalize hh : P / 18446744073709551616 = hi at *
  generalize P % 18446744073709551616 = lo at *
  have hr : P % c.natAbs < 18446744073709551616 := Nat.lt_trans (Nat.mod_lt _ hC0) hCl
  generalize P / c.natAbs = q at *
  generalize P % c.natAbs = r at *
  generalize c.natAbs = C at *
  generalize a.natAbs = A' at *
  generalize b.natAbs = B' at *
  clear hP hh ha hb hc ia ib
  have HF := Lib.hid hF
  have HOV := Lib.hid hov
  have HDV := Lib.hid hdv
  have HSG := Lib.hid hsg
  clear hF hov hdv hsg
  go_enter Try.func43, Try.ntmps43
  go_upto_region 4 with (first | ((go_at_call 49; (with_reducible refine (sa).mono ?_)); rintro e w1 ⟨rfl, rfl⟩) | ((go_at_call 49; (with_reducible refine (sb).mono ?_)); rintro e w1 ⟨rfl, rfl⟩) | ((go_at_call 48; (with_reducible refine (hm).mono ?_)); rintro e w1 ⟨rfl, rfl⟩))
  go_upto_region 5 with fail
  have e : (!((!(decide (a < 0) == decide (b < 0))) == decide (c < 0))) = sg a b c := rfl
  rw [e]
  have hF := HF.out
  have hq : C ≤ hi → 18446744073709551616 ≤ q := HOV.out
  generalize sg a b c = s at hF
  have hM := Blk_new w 4 #[.bool s]
  have hbl : Below w.heap.size w (w.alloc (.cells #[.bool s] 4)) := (Below.refl _ _).alloc (Nat.le_refl _) _
  have HM := Lib.hid (fun (w' : World) (h : Below (w.alloc (.cells #[.bool s] 4)).heap.size (w.alloc (.cells #[.bool s] 4)) w') => And.intro (Blk_below hM h (by simp)) (Below_same hbl h |> fun x => Below_al h))
  have hsc := sc (w.alloc (.cells #[.bool s] 4))
  have hov := over_any w.heap.size s _ hM
  have hdv := fun h => HDV.out h (w.alloc (.cells #[.bool s] 4))
  by_cases hC : C ≤ hi
  · have hq1 := hq hC
    cases s
    · simp only [if_false, Bool.false_eq_true] at hF hov
      have f1 : 1099511627776 < F := by omega
      have v1 := cutV_hi (Int.le_of_lt f1)
      have v2 := cutB_hi f1
      clear hF hq hq1 hdv
      go_wp2_with (first | ((go_at_call 49; (with_reducible refine (hsc).mono ?_)); rintro e w1 ⟨rfl, rfl⟩) | ((go_at_call 50; (with_reducible refine (hov).mono ?_)); rintro e w1 ⟨rfl, rfl⟩))
      go_ret2
      exact ⟨by rw [v1, v2]; rfl, hbl⟩
    · simp only [if_true] at hF hov
      have f1 : F < -1099511627776 := by split at hF <;> omega
      have v1 := cutV_lo (Int.le_of_lt f1)
      have v2 := cutB_lo f1
      clear hF hq hq1 hdv
      go_wp2_with (first | ((go_at_call 49; (with_reducible refine (hsc).mono ?_)); rintro e w1 ⟨rfl, rfl⟩) | ((go_at_call 50; (with_reducible refine (hov).mono ?_)); rintro e w1 ⟨rfl, rfl⟩))
      go_ret2
      exact ⟨by rw [v1, v2]; rfl, hbl⟩
  · have hdv2 := hdv (by omega)
    clear hq hdv hov
    go_upto_region 10 with (first | ((go_at_call 49; (with_reducible refine (hsc).mono ?_)); rintro e w1 ⟨rfl, rfl⟩) | ((go_at_call 51; (with_reducible refine (hdv2).mono ?_)); rintro e w1 ⟨rfl, h1⟩))
    obtain ⟨hM1, hb1⟩ := HM.out w1 h1
    have d0 := Blk_cell hM1 0
    have hov := over_any w.heap.size s w1 hM1
    obtain ⟨x, hx⟩ : ∃ x : Int, (q : Int) = x := ⟨_, rfl⟩
    obtain ⟨z, hz⟩ : ∃ z : Int, (r : Int) = z := ⟨_, rfl⟩
    have x0 : 0 ≤ x := by omega
    have z0 : 0 ≤ z := by omega
    have hz0 : r = 0 ↔ z = 0 := by omega
    rw [hx, hz]
    simp only [hx, hz0] at hF
    clear hx hz hz0 HM h1 hdv2 hM sc hsc
    cases s
    · simp only [if_false, Bool.false_eq_true] at hF hov
      by_cases hbig : 1099511627776 < x
      · have v1 : cutV F = _ := cutV_hi (by omega)
        have v2 : cutB F = _ := cutB_hi (by omega)
        have HV := Lib.hid (And.intro v1 (And.intro v2 hF))
        clear v1 v2 hF
        go_wp2_with ((go_at_call 50; (with_reducible refine (hov).mono ?_)); rintro e w2 ⟨rfl, rfl⟩)
        all_goals
          go_ret2
          refine ⟨two_ret ?_ HV.out.2.1.symm, hb1⟩
          have := HV.out.1
          have := HV.out.2.2
          omega
      · have v1 : cutV F = _ := cutV_mid (by omega) (by omega)
        have v2 : cutB F = _ := cutB_mid (by omega) (by omega)
        have HV := Lib.hid (And.intro v1 (And.intro v2 hF))
        clear v1 v2 hF
        go_wp2_with ((go_at_call 50; (with_reducible refine (hov).mono ?_)); rintro e w2 ⟨rfl, rfl⟩)
        all_goals
          go_ret2
          refine ⟨two_ret ?_ HV.out.2.1.symm, hb1⟩
          have := HV.out.1
          have := HV.out.2.2
          omega
    · simp only [if_true] at hF hov
      by_cases hzz : z = 0
      · have hz1 : ¬ 0 < z := by omega
        rw [if_pos hzz] at hF
        by_cases hbig : 1099511627776 < x
        · have v1 : cutV F = _ := cutV_lo (by omega)
          have v2 : cutB F = _ := cutB_lo (by omega)
          have HV := Lib.hid (And.intro v1 (And.intro v2 hF))
          clear v1 v2 hF
          go_wp2_with ((go_at_call 50; (with_reducible refine (hov).mono ?_)); rintro e w2 ⟨rfl, rfl⟩)
          all_goals
            go_ret2
            refine ⟨two_ret ?_ HV.out.2.1.symm, hb1⟩
            have := HV.out.1
            have := HV.out.2.2
            omega
        · have v1 : cutV F = _ := cutV_mid (by omega) (by omega)
          have v2 : cutB F = _ := cutB_mid (by omega) (by omega)
          have HV := Lib.hid (And.intro v1 (And.intro v2 hF))
          clear v1 v2 hF
          go_wp2_with ((go_at_call 50; (with_reducible refine (hov).mono ?_)); rintro e w2 ⟨rfl, rfl⟩)
          all_goals
            go_ret2
            refine ⟨two_ret ?_ HV.out.2.1.symm, hb1⟩
            have := HV.out.1
            have := HV.out.2.2
            omega
      · have hz1 : 0 < z := by omega
        rw [if_neg hzz] at hF
        by_cases hbig : 1099511627776 < x + 1
        · have v1 : cutV F = _ := cutV_lo (by omega)
          have v2 : cutB F = _ := cutB_lo (by omega)
          have HV := Lib.hid (And.intro v1 (And.intro v2 hF))
          clear v1 v2 hF
          go_wp2_with ((go_at_call 50; (with_reducible refine (hov).mono ?_)); rintro e w2 ⟨rfl, rfl⟩)
          all_goals
            go_ret2
            refine ⟨two_ret ?_ HV.out.2.1.symm, hb1⟩
            have := HV.out.1
            have := HV.out.2.2
            omega
        · have v1 : cutV F = _ := cutV_mid (by omega) (by omega)
          have v2 : cutB F = _ := cutB_mid (by omega) (by omega)
          have HV := Lib.hid (And.intro v1 (And.intro v2 hF))
          clear v1 v2 hF
          go_wp2_with ((go_at_call 50; (with_reducible refine (hov).mono ?_)); rintro e w2 ⟨rfl, rfl⟩)
          all_goals
            go_ret2
            refine ⟨two_ret ?_ HV.out.2.1.symm, hb1⟩
            have := HV.out.1
            have := HV.out.2.2
            omega
theorem part_any (a b : Int) (w : World) (ha : (Lit.int .i64 a).wf = true) (hb : (Lit.int .i64 b).wf = true) :
    Calls Try.prog 24 #[.int .i64 a, .int .i64 b] w fun e w' => e = .returned (.tuple #[.int .i64 (cutV (fl (a * b) 10000)), .bool (cutB (fl (a * b) 10000))]) ∧ Below w.heap.size w w' := by
  have h := muldiv_any a b 10000 w ha hb (by decide) (by decide)
  go_enter Try.func24, Try.ntmps24
  go_wp2_with ((go_at_call 43; (with_reducible refine (h).mono ?_)); rintro e w1 ⟨rfl, h1⟩)
  go_ret2
  exact ⟨rfl, h1⟩
end Go.Proofs.Ytedlfkklkoihjaa
