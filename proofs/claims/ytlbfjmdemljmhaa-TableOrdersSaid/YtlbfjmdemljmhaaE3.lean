import Derived.Test.YtlbfjmdemljmhaaE
import Derived.Test.YtlbfjmdemljmhaaOr
set_option linter.unusedVariables false
namespace Go.Proofs.Ytlbfjmdemljmhaa
open Go.RowKit
theorem orders_walk (w : World) {A : Option Addr} {n c : Nat} {l : List (Int × ByteArray)} (h : SliceRd 2 E30 w A n c l) {D : Option Addr} {m d : Nat} {ys : List Int} (k : SliceRd 1 (EInt .u16) w D m d ys) :
    Calls Try.prog 5 #[.slice A n c, .slice D m d] w fun e w' => e = .returned (.bool true) ∧ Below w.heap.size w w' :=
  orders_any l ys A D n c m d w (ps_of h) k.ints k.ints_wf (Nat.le_trans h.le h.le_max) (Nat.le_trans k.le k.le_max)
end Go.Proofs.Ytlbfjmdemljmhaa
