/-
  The statements AuWithin and AuFloors. No condition.
-/
import Derived.Test.YtelinfnhihmjeaaW
set_option linter.unusedVariables false
set_option linter.unusedSimpArgs false
namespace Go.Proofs.Ytelinfnhihmjeaa
open Go.RowKit Go.BigFrame

set_option maxHeartbeats 1000000 in
theorem awithin_any (x a b : Int) (w : World) : Calls Try.prog 8 #[.int .i64 x, .int .i64 a, .int .i64 b] w fun e w' => e = .returned (.bool true) ∧ Below w.heap.size w w' := by
  have h1 := within_any x a b w
  have hk := works_any w
  by_cases hab : b < a
  · rw [show max (min x b) a = a by omega] at h1
    go_enter Try.func8, Try.ntmps8
    go_wp2_with (first | ((go_at_call 13; (with_reducible refine (h1).mono ?_)); rintro e w1 ⟨rfl, rfl⟩) | ((go_at_call 15; (with_reducible refine (hk).mono ?_)); rintro e w1 ⟨rfl, hb⟩))
    go_ret
    exact ⟨rfl, hb⟩
  · obtain ⟨y, hy⟩ : ∃ y, max (min x b) a = y := ⟨_, rfl⟩
    rw [hy] at h1
    have h2 := within_any y a b w
    rw [show max (min y b) a = y by omega] at h2
    by_cases c1 : x < a
    · obtain rfl : y = a := by omega
      clear hy
      go_enter Try.func8, Try.ntmps8
      go_wp2_with (first | ((go_at_call 13; (with_reducible refine (h1).mono ?_)); rintro e w1 ⟨rfl, rfl⟩) | ((go_at_call 13; (with_reducible refine (h2).mono ?_)); rintro e w1 ⟨rfl, rfl⟩) | ((go_at_call 15; (with_reducible refine (hk).mono ?_)); rintro e w1 ⟨rfl, hb⟩))
      all_goals
        go_ret
        exact ⟨rfl, hb⟩
    · by_cases c2 : b < x
      · obtain rfl : y = b := by omega
        clear hy
        by_cases hba : y = a
        · subst hba
          go_enter Try.func8, Try.ntmps8
          go_wp2_with (first | ((go_at_call 13; (with_reducible refine (h1).mono ?_)); rintro e w1 ⟨rfl, rfl⟩) | ((go_at_call 13; (with_reducible refine (h2).mono ?_)); rintro e w1 ⟨rfl, rfl⟩) | ((go_at_call 15; (with_reducible refine (hk).mono ?_)); rintro e w1 ⟨rfl, hb⟩))
          go_ret
          exact ⟨rfl, hb⟩
        · go_enter Try.func8, Try.ntmps8
          go_wp2_with (first | ((go_at_call 13; (with_reducible refine (h1).mono ?_)); rintro e w1 ⟨rfl, rfl⟩) | ((go_at_call 13; (with_reducible refine (h2).mono ?_)); rintro e w1 ⟨rfl, rfl⟩) | ((go_at_call 15; (with_reducible refine (hk).mono ?_)); rintro e w1 ⟨rfl, hb⟩))
          go_ret
          exact ⟨rfl, hb⟩
      · obtain rfl : y = x := by omega
        clear hy h2
        go_enter Try.func8, Try.ntmps8
        go_wp2_with (first | ((go_at_call 13; (with_reducible refine (h1).mono ?_)); rintro e w1 ⟨rfl, rfl⟩) | ((go_at_call 15; (with_reducible refine (hk).mono ?_)); rintro e w1 ⟨rfl, hb⟩))
        all_goals
          go_ret
          exact ⟨rfl, hb⟩
theorem i64_wf2 {n : Int} (h : -9223372036854775808 ≤ n ∧ n ≤ 9223372036854775807) : (Lit.int .i64 n).wf = true := by
  simp [Lit.wf, IntKind.min, IntKind.max, IntKind.signed, IntKind.bits]
  omega
theorem div_bound {z c : Int} (h1 : -2305843009213693952 ≤ z) (h2 : z ≤ 2305843009213693952) (hc : 0 < c) : -2305843009213693952 ≤ z / c ∧ z / c ≤ 2305843009213693952 := by
  constructor
  · rw [Int.le_ediv_iff_mul_le hc]
    have := Int.mul_le_mul_of_nonneg_left (show (1 : Int) ≤ c by omega) (show (0 : Int) ≤ 2305843009213693952 by omega)
    omega
  · have := Int.ediv_le_ediv hc h2
    have := Int.ediv_le_self c (show (0 : Int) ≤ 2305843009213693952 by omega)
    omega
theorem tdiv_lo {z c : Int} (hc : 0 < c) (h : z / c < -1099511627776) : z.tdiv c ≤ -1099511627776 := by
  rw [Int.tdiv_eq_ediv, Int.sign_eq_one_of_pos hc]
  split <;> omega
theorem tdiv_bound {z c : Int} (h : -2305843009213693952 ≤ z) (hc : 0 < c) : -2305843009213693952 ≤ z.tdiv c := by
  have h1 : -2305843009213693952 ≤ z / c := by
    rw [Int.le_ediv_iff_mul_le hc]
    have := Int.mul_le_mul_of_nonneg_left (show (1 : Int) ≤ c by omega) (show (0 : Int) ≤ 2305843009213693952 by omega)
    omega
  rw [Int.tdiv_eq_ediv, Int.sign_eq_one_of_pos hc]
  split <;> omega
theorem prod_bound {x y : Int} (h1 : -2147483648 ≤ x) (h2 : x ≤ 2147483648) (h3 : -1073741824 ≤ y) (h4 : y ≤ 1073741824) : -2305843009213693952 ≤ x * y ∧ x * y ≤ 2305843009213693952 := by
  have h : (x * y).natAbs ≤ 2147483648 * 1073741824 := by rw [Int.natAbs_mul]; exact Nat.mul_le_mul (by omega) (by omega)
  omega
set_option maxHeartbeats 1000000 in
theorem floors_any (a b c : Int) (w : World) (ha : (Lit.int .i64 a).wf = true) (hb : (Lit.int .i64 b).wf = true) (hc : (Lit.int .i64 c).wf = true) :
    Calls Try.prog 6 #[.int .i64 a, .int .i64 b, .int .i64 c] w fun e w' => e = .returned (.bool true) ∧ Below w.heap.size w w' := by
  have ia := i64_wf ha
  have ib := i64_wf hb
  have ic := i64_wf hc
  go_enter Try.func6, Try.ntmps6
  go_upto_region 3 with fail
  obtain ⟨x, hx⟩ : ∃ x, a.tmod 2147483648 = x := ⟨_, rfl⟩
  obtain ⟨y, hy⟩ : ∃ y, b.tmod 1073741824 = y := ⟨_, rfl⟩
  have bx : -2147483648 < x ∧ x < 2147483648 := by
    have := Int.tmod_lt_of_pos a (show (0 : Int) < 2147483648 by omega)
    have := Int.lt_tmod_of_pos a (show (0 : Int) < 2147483648 by omega)
    omega
  have by_ : -1073741824 < y ∧ y < 1073741824 := by
    have := Int.tmod_lt_of_pos b (show (0 : Int) < 1073741824 by omega)
    have := Int.lt_tmod_of_pos b (show (0 : Int) < 1073741824 by omega)
    omega
  rw [hx, hy]
  clear hx hy ia ib ha hb
  have hz : -2305843009213693952 ≤ x * y ∧ x * y ≤ 2305843009213693952 := prod_bound (by omega) (by omega) (by omega) (by omega)
  have hk := works_any
  by_cases h1 : c < 1
  · go_wp2_with ((go_at_call 15; (with_reducible refine ((hk _)).mono ?_)); rintro e w1 ⟨rfl, hb⟩)
    go_ret
    exact ⟨rfl, hb⟩
  · have hm := muldiv_any x y c w (i64_wf2 ⟨by omega, by omega⟩) (i64_wf2 ⟨by omega, by omega⟩) hc (by omega)
    have hF : fl (x * y) c = x * y / c := by unfold fl; rw [if_neg (by omega)]
    rw [hF] at hm
    obtain ⟨z, ez⟩ : ∃ z, x * y = z := ⟨_, rfl⟩
    rw [ez] at hz hm
    have hq := Int.mul_ediv_add_emod z c
    have hr0 := Int.emod_nonneg z (show c ≠ 0 by omega)
    have hr1 := Int.emod_lt_of_pos z (show 0 < c by omega)
    obtain ⟨F, hF2⟩ : ∃ F, z / c = F := ⟨_, rfl⟩
    rw [hF2] at hm hq
    have hfb : -2305843009213693952 ≤ F ∧ F ≤ 2305843009213693952 := by
      rw [← hF2]
      exact div_bound hz.1 hz.2 (by omega)
    have htl : F < -1099511627776 → z.tdiv c ≤ -1099511627776 := fun h => by rw [← hF2] at h; exact tdiv_lo (by omega) h
    have hc0 : ¬ c = 0 := by omega
    by_cases f1 : 1099511627776 < F
    · have hz0 : 0 ≤ z := by
        rcases Int.lt_trichotomy z 0 with h0 | h0 | h0
        · have := Int.ediv_neg_of_neg_of_pos h0 (show 0 < c by omega); omega
        · omega
        · omega
      rw [cutV_hi (by omega), cutB_hi f1] at hm
      go_wp2_with (first | ((go_at_call 18; (with_reducible refine (hm).mono ?_)); rintro e w1 ⟨rfl, g1⟩) | ((go_at_call 15; (with_reducible refine ((hk _)).mono ?_)); rintro e w2 ⟨rfl, g2⟩))
      go_ret
      exact ⟨rfl, Below_same g1 g2⟩
    · by_cases f2 : F < -1099511627776
      · have hT := htl f2
        obtain ⟨T, hT2⟩ : ∃ T, z.tdiv c = T := ⟨_, rfl⟩
        have hTb : -2305843009213693952 ≤ T := by
          rw [← hT2]
          exact tdiv_bound hz.1 (by omega)
        rw [hT2] at hT
        rw [cutV_lo (by omega), cutB_lo f2] at hm
        go_wp2_with (first | ((go_at_call 18; (with_reducible refine (hm).mono ?_)); rintro e w1 ⟨rfl, g1⟩) | ((go_at_call 15; (with_reducible refine ((hk _)).mono ?_)); rintro e w2 ⟨rfl, g2⟩))
        go_ret
        exact ⟨rfl, Below_same g1 g2⟩
      · rw [cutV_mid (by omega) (by omega), cutB_mid (by omega) (by omega)] at hm
        have e1 : wrap64 (z - wrap64 (F * c)) = z % c := by
          rw [Int.mul_comm] at hq
          generalize F * c = X at *
          unfold wrap64
          omega
        generalize z % c = r at *
        go_wp2_with (first | ((go_at_call 18; (with_reducible refine (hm).mono ?_)); rintro e w1 ⟨rfl, g1⟩) | ((go_at_call 15; (with_reducible refine ((hk _)).mono ?_)); rintro e w2 ⟨rfl, g2⟩))
        go_ret
        exact ⟨rfl, Below_same g1 g2⟩
end Go.Proofs.Ytelinfnhihmjeaa
