/-
  Lengths: a number cut, and within two others. No condition.
-/
import Derived.Test.YtedlfkklkoihjaaCom3
import Derived.Laws.Externs
import Derived.PlainAid
set_option linter.unusedVariables false
set_option linter.unusedSimpArgs false
namespace Go.Proofs.Ytedlfkklkoihjaa
open Go.RowKit

def cutV (x : Int) : Int := max (-1099511627776) (min x 1099511627776)
def cutB (x : Int) : Bool := x != cutV x
theorem i64_wf {x : Int} (h : (Lit.int .i64 x).wf = true) : -9223372036854775808 ≤ x ∧ x ≤ 9223372036854775807 := by
  simp [Lit.wf, IntKind.min, IntKind.max, IntKind.signed, IntKind.bits] at h
  omega
theorem cutV_hi {x : Int} (h : 1099511627776 ≤ x) : cutV x = 1099511627776 := by unfold cutV; omega
theorem cutV_lo {x : Int} (h : x ≤ -1099511627776) : cutV x = -1099511627776 := by unfold cutV; omega
theorem cutV_mid {x : Int} (h : -1099511627776 ≤ x) (h' : x ≤ 1099511627776) : cutV x = x := by unfold cutV; omega
theorem cut_any (x : Int) (w : World) : Calls Try.prog 23 #[.int .i64 x] w fun e w' => e = .returned (.tuple #[.int .i64 (cutV x), .bool (cutB x)]) ∧ w = w' := by
  go_enter Try.func23, Try.ntmps23
  unfold cutB
  go_wp2
  all_goals go_ret2
  · exact ⟨by rw [cutV_hi (by omega)]; rfl, rfl⟩
  · exact ⟨by rw [cutV_mid (by omega) (by omega), bne_self_eq_false]; rfl, rfl⟩
  · exact ⟨by rw [cutV_lo (by omega)]; rfl, rfl⟩
theorem ret_i64 {x y : Int} (h : x = y) : Ending.returned (Value.int .i64 x) = .returned (.int .i64 y) := by rw [h]
theorem within_any (x a b : Int) (w : World) : Calls Try.prog 28 #[.int .i64 x, .int .i64 a, .int .i64 b] w fun e w' => e = .returned (.int .i64 (max (min x b) a)) ∧ w = w' := by
  go_enter Try.func28, Try.ntmps28
  go_wp2
  all_goals go_ret
  all_goals exact ⟨ret_i64 (by omega), rfl⟩
theorem rwithin_any (x a b : Int) (w : World) : Calls Try.prog 29 #[.int .i64 x, .int .i64 a, .int .i64 b] w fun e w' => e = .returned (.int .i64 (max a (min x b))) ∧ w = w' := by
  go_enter Try.func29, Try.ntmps29
  go_wp2
  all_goals go_ret
  all_goals exact ⟨ret_i64 (by omega), rfl⟩

/-! ### Sums -/
def hiW (s : Int) : Int := s / 18446744073709551616
def loW (s : Int) : Int := s % 18446744073709551616
abbrev wv (s : Int) : Value := .agg #[.int .i64 (hiW s), .int .u64 (loW s)]
theorem wrap_u (x : Int) : IntKind.u64.wrap x = loW x := by rw [IntKind.wrap_u64]; rfl
theorem lo_step (s x : Int) : (loW s + loW x) % 18446744073709551616 = loW (s + x) := by unfold loW; omega
theorem hi_step (s x : Int) (h0 : -9223372036854775808 ≤ x) (h1 : x ≤ 9223372036854775807) : hiW s + x / 9223372036854775808 + (loW s + loW x) / 18446744073709551616 = hiW (s + x) := by unfold loW hiW; omega
theorem cut128_fit {s : Int} (h : hiW s = wrap64 (loW s) / 9223372036854775808) : wrap64 (loW s) = s := by
  unfold wrap64 at *; unfold hiW loW at *; omega
theorem cut128_not {s : Int} (h : ¬ hiW s = wrap64 (loW s) / 9223372036854775808) : s < -9223372036854775808 ∨ 9223372036854775807 < s := by
  unfold wrap64 at h; unfold hiW loW at *; omega
theorem cutB_lo {s : Int} (h : s < -1099511627776) : cutB s = true := by unfold cutB; rw [cutV_lo (by omega)]; simp; omega
theorem cutB_hi {s : Int} (h : 1099511627776 < s) : cutB s = true := by unfold cutB; rw [cutV_hi (by omega)]; simp; omega
end Go.Proofs.Ytedlfkklkoihjaa
