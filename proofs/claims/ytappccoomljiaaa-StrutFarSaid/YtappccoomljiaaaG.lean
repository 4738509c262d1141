import Derived.Test.YtappccoomljiaaaO
import Derived.Test.YtappccoomljiaaaF
import Derived.Test.YtappccoomljiaaaE
namespace Go.Proofs.Ytappccoomljiaaa
open Go.RowKit

theorem order_walk (w : World) {A : Option Addr} {n c : Nat} {xs : List Int} (h0 : SliceRd 1 (EInt .i64) w A n c xs) :
    Calls Try.prog 5 #[.slice A n c] w fun e w' => e = .returned (.bool true) ∧ Below w.heap.size w w' := by
  have e0 := h0.len_eq
  subst e0
  exact order_any xs A c w h0.ints h0.ints_wf (Nat.le_trans h0.le h0.le_max)
theorem far_walk (w : World) {A : Option Addr} {n c : Nat} {xs : List Int} (h0 : SliceRd 1 (EInt .i64) w A n c xs) {D : Option Addr} {m d : Nat} {ys : List Int} (h1 : SliceRd 1 (EInt .i64) w D m d ys) :
    Calls Try.prog 6 #[.slice A n c, .slice D m d] w fun e w' => e = .returned (.bool true) ∧ Below w.heap.size w w' := by
  have e0 := h0.len_eq
  have e1 := h1.len_eq
  subst e0; subst e1
  exact far_any xs ys A D c d w h0.ints h1.ints h0.ints_wf h1.ints_wf (Nat.le_trans h0.le h0.le_max) (Nat.le_trans h1.le h1.le_max)
end Go.Proofs.Ytappccoomljiaaa
