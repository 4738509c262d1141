import Derived.Test.YtginfglonakfpaaLr
import Derived.Test.YtginfglonakfpaaE
namespace Go.Proofs.Ytginfglonakfpaa
open Go.RowKit

theorem cplays_walk (w : World) {A : Option Addr} {n c : Nat} {xs : List Int} (h : SliceRd 1 (EInt .i64) w A n c xs) (hr : c * 8 ≤ 140737488351232) {D : Option Addr} {m d : Nat} {ys : List Int} (h1 : SliceRd 1 (EInt .i64) w D m d ys) (_ : d * 8 ≤ 140737488351232) :
    Calls Try.prog 5 #[.slice A n c, .slice D m d] w fun e w' => e = .returned (.bool true) ∧ Below w.heap.size w w' :=
  cplays_any xs ys A D n c m d w h.ints h1.ints h.ints_wf h.le hr (Nat.le_trans h1.le h1.le_max)
theorem conce_walk (w : World) {A : Option Addr} {n c : Nat} {xs : List Int} (h : SliceRd 1 (EInt .u8) w A n c xs) {D : Option Addr} {m d : Nat} {ys : List Int} (h1 : SliceRd 1 (EInt .u8) w D m d ys) :
    Calls Try.prog 6 #[.slice A n c, .slice D m d] w fun e w' => e = .returned (.bool true) ∧ Below w.heap.size w w' :=
  conce_any xs ys A D n c m d w h.ints h1.ints h.ints_wf h1.ints_wf (Nat.le_trans h.le h.le_max) (Nat.le_trans h1.le h1.le_max)
theorem csums_walk (w : World) {A : Option Addr} {n c : Nat} {xs : List Int} (h : SliceRd 1 (EInt .u8) w A n c xs) {D : Option Addr} {m d : Nat} {ys : List Int} (h1 : SliceRd 1 (EInt .u8) w D m d ys) :
    Calls Try.prog 8 #[.slice A n c, .slice D m d] w fun e w' => e = .returned (.bool true) ∧ Below w.heap.size w w' :=
  csums_any xs ys A D n c m d w h.ints h1.ints h.ints_wf h1.ints_wf (Nat.le_trans h.le h.le_max) (Nat.le_trans h1.le h1.le_max)
end Go.Proofs.Ytginfglonakfpaa
