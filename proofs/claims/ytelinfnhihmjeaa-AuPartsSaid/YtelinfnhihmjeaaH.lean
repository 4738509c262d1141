/-
  The statement AuCommon. No condition.
-/
import Derived.Test.YtelinfnhihmjeaaG
set_option linter.unusedVariables false
set_option linter.unusedSimpArgs false
namespace Go.Proofs.Ytelinfnhihmjeaa
open Go.RowKit Go.BigFrame

def mdV (z c : Int) : Int := if c = 0 then 0 else cutV (fl z c)
def mdB (z c : Int) : Bool := if c = 0 then true else cutB (fl z c)
theorem md_any (a b c : Int) (w : World) (ha : (Lit.int .i64 a).wf = true) (hb : (Lit.int .i64 b).wf = true) (hc : (Lit.int .i64 c).wf = true) :
    Calls Try.prog 18 #[.int .i64 a, .int .i64 b, .int .i64 c] w fun e w' => e = .returned (.tuple #[.int .i64 (mdV (a * b) c), .bool (mdB (a * b) c)]) ∧ Below w.heap.size w w' := by
  unfold mdV mdB
  by_cases h : c = 0
  · subst h; simpa using muldiv_zero a b w
  · rw [if_neg h, if_neg h]; exact muldiv_any a b c w ha hb hc h
theorem fl_neg (z c : Int) (hc : c ≠ 0) : fl (-z) (-c) = fl z c := by
  unfold fl
  rcases Int.lt_trichotomy c 0 with h | h | h
  · rw [if_neg (by omega), if_pos h]
  · omega
  · rw [if_pos (by omega), if_neg (by omega), Int.neg_neg, Int.neg_neg]
theorem fl_scale_pos (z c k : Int) (hc : c ≠ 0) (hk : 0 < k) : fl (z * k) (c * k) = fl z c := by
  unfold fl
  rcases Int.lt_trichotomy c 0 with h | h | h
  · have h1 : c * k < 0 := Int.mul_neg_of_neg_of_pos h hk
    rw [if_pos h1, if_pos h, ← Int.neg_mul, ← Int.neg_mul, Int.mul_ediv_mul_of_pos_left _ _ hk]
  · omega
  · have h1 : 0 < c * k := Int.mul_pos h hk
    rw [if_neg (by omega), if_neg (by omega), Int.mul_ediv_mul_of_pos_left _ _ hk]
theorem fl_scale (z c k : Int) (hc : c ≠ 0) (hk : k ≠ 0) : fl (z * k) (c * k) = fl z c := by
  rcases Int.lt_trichotomy k 0 with h | h | h
  · have h1 := fl_scale_pos z c (-k) hc (by omega)
    rw [Int.mul_neg, Int.mul_neg, fl_neg _ _ (by intro h0; rcases Int.mul_eq_zero.1 h0 with h2 | h2 <;> omega)] at h1
    exact h1
  · omega
  · exact fl_scale_pos z c k hc h
theorem md_neg (z c : Int) : mdV (-z) (-c) = mdV z c ∧ mdB (-z) (-c) = mdB z c := by
  unfold mdV mdB
  by_cases h : c = 0
  · subst h; simp
  · rw [if_neg (by omega), if_neg h, if_neg (by omega), if_neg h, fl_neg _ _ h]; exact ⟨rfl, rfl⟩
theorem md_scale (z c k : Int) (hk : k ≠ 0) : mdV (z * k) (c * k) = mdV z c ∧ mdB (z * k) (c * k) = mdB z c := by
  unfold mdV mdB
  by_cases h : c = 0
  · subst h; simp
  · have h1 : c * k ≠ 0 := by intro h0; rcases Int.mul_eq_zero.1 h0 with h2 | h2 <;> omega
    rw [if_neg h1, if_neg h, if_neg h1, if_neg h, fl_scale _ _ _ h hk]; exact ⟨rfl, rfl⟩
/-- The two parts of a whole. -/
theorem parts_sum (a n : Int) (ha : -2147483648 ≤ a ∧ a ≤ 2147483647) (hn : -10000 ≤ n ∧ n ≤ 10000) :
    ∃ p q : Int, cutV (fl (a * n) 10000) = p ∧ cutB (fl (a * n) 10000) = false ∧ cutV (fl (a * (10000 - n)) 10000) = q ∧ cutB (fl (a * (10000 - n)) 10000) = false ∧ (p + q = a ∨ p + q = a - 1) ∧ -1099511627776 ≤ p ∧ p ≤ 1099511627776 ∧ -1099511627776 ≤ q ∧ q ≤ 1099511627776 := by
  have h : (a * n).natAbs ≤ 2147483648 * 10000 := by rw [Int.natAbs_mul]; exact Nat.mul_le_mul (by omega) (by omega)
  rw [Int.mul_sub]
  generalize a * n = z at *
  have e1 : fl z 10000 = z / 10000 := by unfold fl; rw [if_neg (by omega)]
  have e2 : fl (a * 10000 - z) 10000 = (a * 10000 - z) / 10000 := by unfold fl; rw [if_neg (by omega)]
  rw [e1, e2]
  exact ⟨z / 10000, (a * 10000 - z) / 10000, cutV_mid (by omega) (by omega), cutB_mid (by omega) (by omega), cutV_mid (by omega) (by omega), cutB_mid (by omega) (by omega), by omega, by omega, by omega, by omega, by omega⟩
theorem prod32 {x y : Int} (h1 : -2147483648 ≤ x) (h2 : x ≤ 2147483648) (h3 : -2147483648 ≤ y) (h4 : y ≤ 2147483648) : -4611686018427387904 ≤ x * y ∧ x * y ≤ 4611686018427387904 := by
  have h : (x * y).natAbs ≤ 2147483648 * 2147483648 := by rw [Int.natAbs_mul]; exact Nat.mul_le_mul (by omega) (by omega)
  omega
theorem i32_wf {x : Int} (h : (Lit.int .i32 x).wf = true) : -2147483648 ≤ x ∧ x ≤ 2147483647 := by
  simp [Lit.wf, IntKind.min, IntKind.max, IntKind.signed, IntKind.bits] at h
  omega
set_option maxHeartbeats 1000000 in
theorem common_any (a b c k : Int) (w : World) (ha : (Lit.int .i32 a).wf = true) (hb : (Lit.int .i32 b).wf = true) (hc : (Lit.int .i32 c).wf = true) (hk : (Lit.int .i32 k).wf = true) :
    Calls Try.prog 9 #[.int .i32 a, .int .i32 b, .int .i32 c, .int .i32 k] w fun e w' => e = .returned (.bool true) ∧ Below w.heap.size w w' := by
  have ia := i32_wf ha
  have ib := i32_wf hb
  have ic := i32_wf hc
  have ik := i32_wf hk
  clear ha hb hc hk
  have m1 := fun w => md_any a b c w (i64_wf2 (by omega)) (i64_wf2 (by omega)) (i64_wf2 (by omega))
  have m2 := fun w => md_any b a c w (i64_wf2 (by omega)) (i64_wf2 (by omega)) (i64_wf2 (by omega))
  have m3 := fun w => md_any (-a) b (-c) w (i64_wf2 (by omega)) (i64_wf2 (by omega)) (i64_wf2 (by omega))
  rw [Int.mul_comm b a] at m2
  rw [Int.neg_mul, (md_neg _ _).1, (md_neg _ _).2] at m3
  have bak := prod32 (x := a) (y := k) (by omega) (by omega) (by omega) (by omega)
  have bck := prod32 (x := c) (y := k) (by omega) (by omega) (by omega) (by omega)
  have m4 := fun w (h : k ≠ 0) => by
    have := md_any (a * k) b (c * k) w (i64_wf2 (by omega)) (i64_wf2 (by omega)) (i64_wf2 (by omega))
    rw [Int.mul_right_comm, (md_scale _ _ _ h).1, (md_scale _ _ _ h).2] at this
    exact this
  have hz := md_any
  obtain ⟨ak, hak⟩ : ∃ x, a * k = x := ⟨_, rfl⟩
  obtain ⟨ck, hck⟩ : ∃ x, c * k = x := ⟨_, rfl⟩
  rw [hak] at m4 bak
  rw [hck] at m4 bck
  generalize mdV (a * b) c = V at *
  generalize mdB (a * b) c = B at *
  obtain ⟨n, hn⟩ : ∃ x, b.tmod 10001 = x := ⟨_, rfl⟩
  have bn : -10000 ≤ n ∧ n ≤ 10000 := by
    have := Int.tmod_lt_of_pos b (show (0 : Int) < 10001 by omega)
    have := Int.lt_tmod_of_pos b (show (0 : Int) < 10001 by omega)
    omega
  obtain ⟨p, q, e1, e2, e3, e4, e5, e6, e7, e8, e9⟩ := parts_sum a n ia bn
  have p1 := fun w => part_any a n w (i64_wf2 (by omega)) (i64_wf2 (by omega))
  have p2 := fun w => part_any a (10000 - n) w (i64_wf2 (by omega)) (i64_wf2 (by omega))
  rw [e1, e2] at p1
  rw [e3, e4] at p2
  clear e1 e2 e3 e4 hz
  have hk1 := works_any
  go_enter Try.func9, Try.ntmps9
  go_upto_region 4 with (first | ((go_at_call 18; (with_reducible refine ((m1 _)).mono ?_)); rintro e w1 ⟨rfl, g1⟩) | ((go_at_call 18; (with_reducible refine ((m2 _)).mono ?_)); rintro e w2 ⟨rfl, g2⟩) | ((go_at_call 18; (with_reducible refine ((m3 _)).mono ?_)); rintro e w3 ⟨rfl, g3⟩))
  have hb3 := Below_same (Below_same g1 g2) g3
  clear m1 m2 m3
  cases B <;> by_cases hk0 : k = 0
  all_goals rcases e5 with e5 | e5
  all_goals
    first
      | (have m5 := fun w => m4 w hk0
         go_wp2_with (first | ((go_at_call 18; (with_reducible refine ((m5 _)).mono ?_)); rintro e w4 ⟨rfl, g4⟩) | ((go_at_call 20; (with_reducible refine ((p1 _)).mono ?_)); rintro e w5 ⟨rfl, g5⟩) | ((go_at_call 20; (with_reducible refine ((p2 _)).mono ?_)); rintro e w6 ⟨rfl, g6⟩) | ((go_at_call 15; (with_reducible refine ((hk1 _)).mono ?_)); rintro e w7 ⟨rfl, g7⟩))
         go_ret
         exact ⟨rfl, Below_same (Below_same (Below_same (Below_same hb3 g4) g5) g6) g7⟩)
      | (go_wp2_with (first | ((go_at_call 20; (with_reducible refine ((p1 _)).mono ?_)); rintro e w5 ⟨rfl, g5⟩) | ((go_at_call 20; (with_reducible refine ((p2 _)).mono ?_)); rintro e w6 ⟨rfl, g6⟩) | ((go_at_call 15; (with_reducible refine ((hk1 _)).mono ?_)); rintro e w7 ⟨rfl, g7⟩))
         go_ret
         exact ⟨rfl, Below_same (Below_same (Below_same hb3 g5) g6) g7⟩)
end Go.Proofs.Ytelinfnhihmjeaa
