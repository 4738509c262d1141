import Derived.Test.YtappccoomljiaaaD
import Derived.Test.YtappccoomljiaaaOp
import Derived.Test.YtappccoomljiaaaP
namespace Go.Proofs.Ytappccoomljiaaa
open Go.RowKit

theorem wrap64_id {a : Int} (h1 : -9223372036854775808 ≤ a) (h2 : a ≤ 9223372036854775807) : wrap64 a = a := IntWalk.wrap64_in a ⟨h1, h2⟩

theorem signs_walk (w : World) {m n : Int} (hm : (Lit.int .i64 m).wf = true) (hn : (Lit.int .i64 n).wf = true) :
    Calls Try.prog 3 #[.int .i64 m, .int .i64 n] w fun e w' => e = .returned (.bool true) ∧ Below w.heap.size w w' := by
  have h1 := bounds_i64 hm
  have h2 := bounds_i64 hn
  refine signs_any m n ((fo [m, n]).1 + (fo [m, n]).2) w h1.1 h1.2 h2.1 h2.2 (wrap64_id ?_ ?_) (sign_case m n) <;> (rw [fo2]; simp only []; omega)

theorem agg_of {cs : Array Value} {l : List Value} (h : (Value.agg cs).cells.toList = l) : Value.agg cs = .agg l.toArray := by subst h; simp [Value.cells]

theorem plays_walk (w : World) {A : Option Addr} {n c : Nat} {xs : List Int} (h0 : SliceRd 1 (EInt .i64) w A n c xs) {cut : Int} (h1 : (Lit.int .u8 cut).wf = true) {cs ds : Array Value} {p q : Int × Int}
    (h2 : E24 w (Value.agg cs).cells.toList p) (h3 : E24 w (Value.agg ds).cells.toList q) :
    Calls Try.prog 4 #[.slice A n c, .int .u8 cut, .agg cs, .agg ds] w fun e w' => e = .returned (.bool true) ∧ Below w.heap.size w w' := by
  have e0 := h0.len_eq
  subst e0
  rw [agg_of (F24 h2).1, agg_of (F24 h3).1]
  exact plays_any xs A c cut p q w h0.ints h0.le h0.le_max (bounds_u8 h1)
end Go.Proofs.Ytappccoomljiaaa
