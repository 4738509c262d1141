/-
  AuOrders as the frame of its claim takes it. No condition.
-/
import Derived.Test.YtelinfnhihmjeaaO
import Derived.Test.YtelinfnhihmjeaaOp
set_option linter.unusedVariables false
set_option linter.unusedSimpArgs false
namespace Go.Proofs.Ytelinfnhihmjeaa
open Go.RowKit

theorem orders_walk (w : World) {A : Option Addr} {n c : Nat} {xs : List Int} (h0 : SliceRd 1 (EInt .i64) w A n c xs) (s0 : c * 8 ≤ 140737488351232) {D : Option Addr} {m d : Nat} {ys : List Int} (h1 : SliceRd 1 (EInt .i64) w D m d ys) (s1 : d * 8 ≤ 140737488351232) :
    Calls Try.prog 7 #[.slice A n c, .slice D m d] w fun e w' => e = .returned (.bool true) ∧ Below w.heap.size w w' :=
  orders_any xs ys A D n c m d w h0.ints h1.ints h0.ints_wf h1.ints_wf h0.le s0 h1.le s1
end Go.Proofs.Ytelinfnhihmjeaa
