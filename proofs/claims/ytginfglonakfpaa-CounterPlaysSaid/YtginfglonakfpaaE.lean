import Derived.Test.YtginfglonakfpaaL2
namespace Go.Proofs.Ytginfglonakfpaa
open Go.RowKit
set_option linter.unusedVariables false

theorem fails_of {w : World} {A : Option Addr} {n c : Nat} {l : List (Int × Int)} (h : SliceRd 2 E34 w A n c l) : Fails w A n l := h.els (0, 0) (by omega) (fun _ _ _ h => (F34 h).1)
theorem cnil_walk (w : World) {i a e : Int} (h0 : (Lit.int .i64 i).wf = true) (h1 : (Lit.int .i64 a).wf = true) (h2 : (Lit.int .i64 e).wf = true) :
    Calls Try.prog 7 #[.int .i64 i, .int .i64 a, .int .i64 e] w fun e w' => e = .returned (.bool true) ∧ Below w.heap.size w w' := nil_any i a e w
theorem cleast_walk (w : World) {A : Option Addr} {n c : Nat} {l : List (Int × Int)} (h : SliceRd 2 E34 w A n c l) :
    Calls Try.prog 3 #[.slice A n c] w fun e w' => e = .returned (.bool true) ∧ Below w.heap.size w w' := cleast_any l A n c w (fails_of h) h.le h.le_max
theorem corder_walk (w : World) {A : Option Addr} {n c : Nat} {l : List (Int × Int)} (h : SliceRd 2 E34 w A n c l) {D : Option Addr} {m d : Nat} {bys : List Int} (h1 : SliceRd 1 (EInt .u16) w D m d bys) :
    Calls Try.prog 4 #[.slice A n c, .slice D m d] w fun e w' => e = .returned (.bool true) ∧ Below w.heap.size w w' :=
  corder_any l A n c bys D m d w (fails_of h) h1.ints (Nat.le_trans h.le h.le_max) (Nat.le_trans h1.le h1.le_max) h1.ints_wf
end Go.Proofs.Ytginfglonakfpaa
