/-
  Quotients of products (au.MulDiv). No condition.
-/
import Derived.Test.YtedlfkklkoihjaaB
import Derived.Test.YtedlfkklkoihjaaCom4
import Derived.Test.YtedlfkklkoihjaaSh
set_option linter.unusedVariables false
set_option linter.unusedSimpArgs false
namespace Go.Proofs.Ytedlfkklkoihjaa
open Go.RowKit Go.BigFrame

theorem size_any (x : Int) (w : World) (hx : (Lit.int .i64 x).wf = true) : Calls Try.prog 49 #[.int .i64 x] w fun e w' => e = .returned (.int .u64 (x.natAbs : Nat)) ∧ w = w' := by
  obtain ⟨h0, h1⟩ := i64_wf hx
  have e1 : x < 0 → loW (-loW x) = (x.natAbs : Nat) := fun h => by unfold loW; omega
  have e2 : ¬ x < 0 → loW x = (x.natAbs : Nat) := fun h => by unfold loW; omega
  by_cases h : x < 0
  · have e := e1 h
    go_enter Try.func49, Try.ntmps49
    go_wp2_with (simp only [wrap_u])
    go_ret
    exact ⟨by rw [← e]; rfl, rfl⟩
  · have e := e2 h
    go_enter Try.func49, Try.ntmps49
    go_wp2_with (simp only [wrap_u])
    go_ret
    exact ⟨congrArg (fun x => Ending.returned (Value.int .u64 x)) (by omega : x = (x.natAbs : Nat)), rfl⟩

theorem wrapN (a : Nat) (ha : a < 18446744073709551616) : IntKind.u64.wrap (a : Int) = (a : Int) := by rw [IntKind.wrap_u64]; omega
set_option maxHeartbeats 400000 in
theorem div0_any (lo y : Nat) (w : World) (hy : 0 < y) (hlo : lo < 18446744073709551616) (hy2 : y < 18446744073709551616) :
    Calls Try.prog 51 #[.int .u64 0, .int .u64 lo, .int .u64 y] w fun e w' => e = .returned (.tuple #[.int .u64 ((lo / y : Nat) : Int), .int .u64 ((lo % y : Nat) : Int)]) ∧ Below w.heap.size w w' := by
  have y0 : ¬ (y : Int) = 0 := by omega
  have y1 : ¬ (y : Int) ≤ 0 := by omega
  have hq : lo / y < 18446744073709551616 := Nat.lt_of_le_of_lt (Nat.div_le_self _ _) hlo
  have hr : lo % y < 18446744073709551616 := Nat.lt_of_le_of_lt (Nat.mod_le _ _) hlo
  go_enter Try.func51, Try.ntmps51
  go_wp2_with fail
  go_region
  go_wp2_with fail
  have e1 : IntKind.u64.wrap ((lo : Int) / (y : Int)) = ((lo / y : Nat) : Int) := by rw [← Int.natCast_ediv]; exact wrapN _ hq
  rw [e1, ← Int.natCast_emod]
  go_ret2
  exact ⟨rfl, by (repeat' (first | (with_reducible exact Below.refl _ _) | (with_reducible assumption) | (with_reducible refine Below.alloc ?_ ?_ _) | (with_reducible refine Below.drew ?_) | (with_reducible refine Below_drewN ?_ _) | (with_reducible refine Below.setCell ?_ ?_ _) | go_size))⟩

/-! ### The floor of a quotient -/
def fl (z c : Int) : Int := if c < 0 then (-z) / (-c) else z / c
def sg (a b c : Int) : Bool := ((decide (a < 0) != decide (b < 0)) != decide (c < 0))
theorem neg_div (P C : Nat) (hC : 0 < C) : -(P : Int) / (C : Int) = -((P / C : Nat) : Int) - (if P % C = 0 then 0 else 1) := by
  have h := Nat.div_add_mod P C
  have hr := Nat.mod_lt P hC
  generalize P / C = q at *
  generalize P % C = r at *
  subst h
  have e : (-((C * q + r : Nat) : Int)) = (C : Int) * (-(q : Int) - (if r = 0 then 0 else 1)) + (if r = 0 then 0 else (C : Int) - r) := by
    by_cases h0 : r = 0
    · subst h0; simp [Int.mul_neg]
    · rw [if_neg h0, if_neg h0, Int.mul_sub, Int.mul_neg, Int.natCast_add, Int.natCast_mul]; omega
  rw [e, Int.add_comm, Int.add_mul_ediv_left _ _ (by omega)]
  have : (if r = 0 then (0 : Int) else (C : Int) - r) / (C : Int) = 0 := by
    by_cases h0 : r = 0
    · simp [h0]
    · rw [if_neg h0]; exact Int.ediv_eq_zero_of_lt (by omega) (by omega)
  rw [this]; omega
theorem prod_sg (a b c : Int) (hc : c ≠ 0) : (if c < 0 then -(a * b) else a * b) = if sg a b c then -((a.natAbs * b.natAbs : Nat) : Int) else ((a.natAbs * b.natAbs : Nat) : Int) := by
  unfold sg
  have key : ∀ x : Int, (x < 0 → x = -(x.natAbs : Int)) ∧ (¬ x < 0 → x = (x.natAbs : Int)) := fun x => by omega
  have ha := key a
  have hb := key b
  rw [Int.natCast_mul]
  by_cases h1 : a < 0 <;> by_cases h2 : b < 0 <;> by_cases h3 : c < 0 <;> simp only [h1, h2, h3, decide_true, decide_false, if_true, if_false] <;>
    first
      | (rw [ha.1 h1, hb.1 h2]; simp [Int.neg_mul, Int.mul_neg]; done)
      | (rw [ha.1 h1, hb.2 h2]; simp [Int.neg_mul, Int.mul_neg]; done)
      | (rw [ha.2 h1, hb.1 h2]; simp [Int.neg_mul, Int.mul_neg]; done)
      | (rw [ha.2 h1, hb.2 h2]; simp [Int.neg_mul, Int.mul_neg]; done)
theorem fl_of (a b c : Int) (hc : c ≠ 0) : fl (a * b) c = if sg a b c then -((a.natAbs * b.natAbs / c.natAbs : Nat) : Int) - (if a.natAbs * b.natAbs % c.natAbs = 0 then 0 else 1) else ((a.natAbs * b.natAbs / c.natAbs : Nat) : Int) := by
  have h := prod_sg a b c hc
  have hC : 0 < c.natAbs := by omega
  have e : fl (a * b) c = (if c < 0 then -(a * b) else a * b) / (c.natAbs : Int) := by
    unfold fl
    by_cases h3 : c < 0
    · rw [if_pos h3, if_pos h3, show -c = (c.natAbs : Int) by omega]
    · rw [if_neg h3, if_neg h3, show c = (c.natAbs : Int) by omega]; simp
  rw [e, h]
  cases sg a b c
  · simp
  · simp only [if_true]; exact neg_div _ _ hC
end Go.Proofs.Ytedlfkklkoihjaa
