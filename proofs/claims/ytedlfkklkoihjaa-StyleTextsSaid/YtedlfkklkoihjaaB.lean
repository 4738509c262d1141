/-
  Sums of lengths (au.Sum). No condition.
-/
import Derived.Test.YtedlfkklkoihjaaA
import Derived.Test.YtedlfkklkoihjaaCom7
set_option linter.unusedVariables false
set_option linter.unusedSimpArgs false
namespace Go.Proofs.Ytedlfkklkoihjaa
open Go.RowKit

theorem sum_step (l : List Int) (k : Nat) (h : k < l.length) : (l.take (k + 1)).sum = (l.take k).sum + l.getD k 0 := by
  rw [List.take_succ_eq_append_getElem h, List.sum_append]; simp [List.getD, h]
theorem sum_bound : ∀ (l : List Int), (∀ x ∈ l, (Lit.int .i64 x).wf = true) → -9223372036854775808 * (l.length : Int) ≤ l.sum ∧ l.sum ≤ 9223372036854775808 * (l.length : Int)
  | [], _ => by simp
  | x :: l, h => by
    have ih := sum_bound l (fun y hy => h y (by simp [hy]))
    have := i64_wf (h x (by simp))
    simp only [List.sum_cons, List.length_cons]
    omega
theorem sum_hi (l : List Int) (k : Nat) (hk : k ≤ l.length) (h : ∀ x ∈ l, (Lit.int .i64 x).wf = true) (hl : l.length ≤ 4611686018427387904) :
    -4611686018427387904 ≤ hiW (l.take k).sum ∧ hiW (l.take k).sum ≤ 4611686018427387904 := by
  have := sum_bound (l.take k) (fun x hx => h x (List.mem_of_mem_take hx))
  rw [List.length_take] at this
  unfold hiW
  omega

end Go.Proofs.Ytedlfkklkoihjaa
