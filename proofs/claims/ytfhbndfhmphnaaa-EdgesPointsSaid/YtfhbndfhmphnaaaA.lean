/-
  Lengths: a number cut, and within two others. No condition.
-/
import Derived.Test.YtfhbndfhmphnaaaCom3
import Derived.Laws.Externs
import Derived.PlainAid
set_option linter.unusedVariables false
set_option linter.unusedSimpArgs false
namespace Go.Proofs.Ytfhbndfhmphnaaa
open Go.RowKit

def cutV (x : Int) : Int := max (-1099511627776) (min x 1099511627776)
def cutB (x : Int) : Bool := x != cutV x
theorem i64_wf {x : Int} (h : (Lit.int .i64 x).wf = true) : -9223372036854775808 ≤ x ∧ x ≤ 9223372036854775807 := by
  simp [Lit.wf, IntKind.min, IntKind.max, IntKind.signed, IntKind.bits] at h
  omega
theorem cutV_hi {x : Int} (h : 1099511627776 ≤ x) : cutV x = 1099511627776 := by unfold cutV; omega
theorem cutV_lo {x : Int} (h : x ≤ -1099511627776) : cutV x = -1099511627776 := by unfold cutV; omega
theorem cutV_mid {x : Int} (h : -1099511627776 ≤ x) (h' : x ≤ 1099511627776) : cutV x = x := by unfold cutV; omega
theorem cut_any (x : Int) (w : World) : Calls Try.prog 40 #[.int .i64 x] w fun e w' => e = .returned (.tuple #[.int .i64 (cutV x), .bool (cutB x)]) ∧ w = w' := by
  go_enter Try.func40, Try.ntmps40
  unfold cutB
  go_wp2
  all_goals go_ret2
  · exact ⟨by rw [cutV_hi (by omega)]; rfl, rfl⟩
  · exact ⟨by rw [cutV_mid (by omega) (by omega), bne_self_eq_false]; rfl, rfl⟩
  · exact ⟨by rw [cutV_lo (by omega)]; rfl, rfl⟩
theorem ret_i64 {x y : Int} (h : x = y) : Ending.returned (Value.int .i64 x) = .returned (.int .i64 y) := by rw [h]

/-! ### Sums -/
theorem add64_run (x y : Int) (hx : 0 ≤ x) (hy : 0 ≤ y) (w : World) : (callFunc 52 #[.int .u64 x, .int .u64 y, .int .u64 0]).run Try.prog w =
    .ok (.value (.tuple #[.int .u64 ((x + y) % 18446744073709551616), .int .u64 ((x + y) / 18446744073709551616)])) w := by
  rw [run_callFunc_extern Try.func52 (by kernel_rfl) (by kernel_rfl) (by kernel_rfl) (e := add64Entry) (by kernel_rfl), run_add64 x y 0 hx hy (by omega) (by omega)]
  simp [Result.andThen]
def hiW (s : Int) : Int := s / 18446744073709551616
def loW (s : Int) : Int := s % 18446744073709551616
abbrev wv (s : Int) : Value := .agg #[.int .i64 (hiW s), .int .u64 (loW s)]
theorem wrap_u (x : Int) : IntKind.u64.wrap x = loW x := by rw [IntKind.wrap_u64]; rfl
theorem lo_step (s x : Int) : (loW s + loW x) % 18446744073709551616 = loW (s + x) := by unfold loW; omega
theorem hi_step (s x : Int) (h0 : -9223372036854775808 ≤ x) (h1 : x ≤ 9223372036854775807) : hiW s + x / 9223372036854775808 + (loW s + loW x) / 18446744073709551616 = hiW (s + x) := by unfold loW hiW; omega
set_option maxHeartbeats 400000 in
theorem plus_any (s x : Int) (w : World) (hx : (Lit.int .i64 x).wf = true) (hs : -4611686018427387904 ≤ hiW s) (hs' : hiW s ≤ 4611686018427387904) :
    Calls Try.prog 42 #[wv s, .int .i64 x] w fun e w' => e = .returned (wv (s + x)) ∧ Below w.heap.size w w' := by
  obtain ⟨h0, h1⟩ := i64_wf hx
  have l0 : 0 ≤ loW s := by unfold loW; omega
  have l1 : 0 ≤ loW x := by unfold loW; omega
  have e1 := lo_step s x
  have e2 := hi_step s x h0 h1
  have e0 : wrap64 ((loW s + loW x) / 18446744073709551616) = (loW s + loW x) / 18446744073709551616 := by unfold wrap64 loW; omega
  have e5 : wrap64 (hiW (s + x)) = hiW (s + x) := by unfold wrap64; rw [← e2]; unfold hiW loW at *; omega
  have e3 : wrap64 (x / 9223372036854775808) = x / 9223372036854775808 := by unfold wrap64; omega
  have e4 : wrap64 (hiW s + x / 9223372036854775808) = hiW s + x / 9223372036854775808 := by unfold wrap64; omega
  unfold wv
  go_enter Try.func42, Try.ntmps42
  go_wp2_with (simp only [wrap_u, add64_run _ _ l0 l1])
  refine bodyPost_ret (v := wv (s + x)) (by simp [results, Try.results42, go_sem]) rfl ⟨rfl, by (repeat' (first | (with_reducible exact Below.refl _ _) | (with_reducible assumption) | (with_reducible refine Below.alloc ?_ ?_ _) | (with_reducible refine Below.drew ?_) | (with_reducible refine Below_drewN ?_ _) | (with_reducible refine Below.setCell ?_ ?_ _) | go_size))⟩
theorem cut128_fit {s : Int} (h : hiW s = wrap64 (loW s) / 9223372036854775808) : wrap64 (loW s) = s := by
  unfold wrap64 at *; unfold hiW loW at *; omega
theorem cut128_not {s : Int} (h : ¬ hiW s = wrap64 (loW s) / 9223372036854775808) : s < -9223372036854775808 ∨ 9223372036854775807 < s := by
  unfold wrap64 at h; unfold hiW loW at *; omega
theorem cutB_lo {s : Int} (h : s < -1099511627776) : cutB s = true := by unfold cutB; rw [cutV_lo (by omega)]; simp; omega
theorem cutB_hi {s : Int} (h : 1099511627776 < s) : cutB s = true := by unfold cutB; rw [cutV_hi (by omega)]; simp; omega
set_option maxHeartbeats 400000 in
theorem wcut_any (s : Int) (w : World) (hs : -4611686018427387904 ≤ hiW s) (hs' : hiW s ≤ 4611686018427387904) :
    Calls Try.prog 43 #[wv s] w fun e w' => e = .returned (.tuple #[.int .i64 (cutV s), .bool (cutB s)]) ∧ Below w.heap.size w w' := by
  unfold wv
  by_cases h : hiW s = wrap64 (loW s) / 9223372036854775808
  · have e := cut128_fit h
    rw [e] at h
    go_enter Try.func43, Try.ntmps43
    go_wp2_with (first | simp only [e] | ((go_at_call 40; (with_reducible refine (cut_any _ _).mono ?_)); rintro e2 w2 ⟨rfl, rfl⟩))
    go_ret2
    exact ⟨rfl, by (repeat' (first | (with_reducible exact Below.refl _ _) | (with_reducible assumption) | (with_reducible refine Below.alloc ?_ ?_ _) | (with_reducible refine Below.drew ?_) | (with_reducible refine Below_drewN ?_ _) | (with_reducible refine Below.setCell ?_ ?_ _) | go_size))⟩
  · have h2 := cut128_not h
    by_cases h3 : hiW s < 0
    · have h4 : s < -1099511627776 := by unfold hiW at h3; omega
      rw [cutV_lo (by omega), cutB_lo h4]
      go_enter Try.func43, Try.ntmps43
      go_wp2_with ((go_at_call 40; (with_reducible refine (cut_any _ _).mono ?_)); rintro e2 w2 ⟨rfl, rfl⟩)
      go_ret2
      exact ⟨rfl, by (repeat' (first | (with_reducible exact Below.refl _ _) | (with_reducible assumption) | (with_reducible refine Below.alloc ?_ ?_ _) | (with_reducible refine Below.drew ?_) | (with_reducible refine Below_drewN ?_ _) | (with_reducible refine Below.setCell ?_ ?_ _) | go_size))⟩
    · have h4 : 1099511627776 < s := by unfold hiW at h3; omega
      rw [cutV_hi (by omega), cutB_hi h4]
      go_enter Try.func43, Try.ntmps43
      go_wp2_with ((go_at_call 40; (with_reducible refine (cut_any _ _).mono ?_)); rintro e2 w2 ⟨rfl, rfl⟩)
      go_ret2
      exact ⟨rfl, by (repeat' (first | (with_reducible exact Below.refl _ _) | (with_reducible assumption) | (with_reducible refine Below.alloc ?_ ?_ _) | (with_reducible refine Below.drew ?_) | (with_reducible refine Below_drewN ?_ _) | (with_reducible refine Below.setCell ?_ ?_ _) | go_size))⟩
end Go.Proofs.Ytfhbndfhmphnaaa
