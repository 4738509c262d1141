/-
  AuCuts and AuSums as the frames of their claims take them. No condition.
-/
import Derived.Test.YtelinfnhihmjeaaT
import Derived.Test.YtelinfnhihmjeaaOp
set_option linter.unusedVariables false
set_option linter.unusedSimpArgs false
namespace Go.Proofs.Ytelinfnhihmjeaa
open Go.RowKit

theorem cuts_walk (w : World) {x a b : Int} (h0 : (Lit.int .i64 x).wf = true) (h1 : (Lit.int .i64 a).wf = true) (h2 : (Lit.int .i64 b).wf = true) :
    Calls Try.prog 3 #[.int .i64 x, .int .i64 a, .int .i64 b] w fun e w' => e = .returned (.bool true) ∧ Below w.heap.size w w' := cuts_any x a b w h0
theorem sums_walk (w : World) {A : Option Addr} {n c : Nat} {xs : List Int} (h0 : SliceRd 1 (EInt .i64) w A n c xs) (s0 : c * 8 ≤ 140737488351232) :
    Calls Try.prog 4 #[.slice A n c] w fun e w' => e = .returned (.bool true) ∧ Below w.heap.size w w' :=
  sums_any xs A n c w h0.ints h0.ints_wf h0.le s0
end Go.Proofs.Ytelinfnhihmjeaa
