/-
  AuWithin, AuFloors and AuCommon as the frames of their claims take them. No condition.
-/
import Derived.Test.YtelinfnhihmjeaaH
import Derived.Test.YtelinfnhihmjeaaOp
set_option linter.unusedVariables false
set_option linter.unusedSimpArgs false
namespace Go.Proofs.Ytelinfnhihmjeaa
open Go.RowKit

theorem within_walk (w : World) {x a b : Int} (h0 : (Lit.int .i64 x).wf = true) (h1 : (Lit.int .i64 a).wf = true) (h2 : (Lit.int .i64 b).wf = true) :
    Calls Try.prog 8 #[.int .i64 x, .int .i64 a, .int .i64 b] w fun e w' => e = .returned (.bool true) ∧ Below w.heap.size w w' := awithin_any x a b w
theorem floors_walk (w : World) {x a b : Int} (h0 : (Lit.int .i64 x).wf = true) (h1 : (Lit.int .i64 a).wf = true) (h2 : (Lit.int .i64 b).wf = true) :
    Calls Try.prog 6 #[.int .i64 x, .int .i64 a, .int .i64 b] w fun e w' => e = .returned (.bool true) ∧ Below w.heap.size w w' := floors_any x a b w h0 h1 h2
theorem common_walk (w : World) {x a b k : Int} (h0 : (Lit.int .i32 x).wf = true) (h1 : (Lit.int .i32 a).wf = true) (h2 : (Lit.int .i32 b).wf = true) (h3 : (Lit.int .i32 k).wf = true) :
    Calls Try.prog 9 #[.int .i32 x, .int .i32 a, .int .i32 b, .int .i32 k] w fun e w' => e = .returned (.bool true) ∧ Below w.heap.size w w' := common_any x a b k w h0 h1 h2 h3
end Go.Proofs.Ytelinfnhihmjeaa
