import Derived.Test.YtappccoomljiaaaD
namespace Go.Proofs.Ytappccoomljiaaa
open Go.RowKit

theorem i64_bounds {a : Int} (h : (Lit.int .i64 a).wf = true) : -9223372036854775808 ≤ a ∧ a ≤ 9223372036854775807 := by
  have := bounds_i64 h
  omega
theorem wrap64_id {a : Int} (h1 : -9223372036854775808 ≤ a) (h2 : a ≤ 9223372036854775807) : wrap64 a = a := IntWalk.wrap64_in a ⟨h1, h2⟩

theorem signs_walk (w : World) {m n : Int} (hm : (Lit.int .i64 m).wf = true) (hn : (Lit.int .i64 n).wf = true) :
    Calls Try.prog 3 #[.int .i64 m, .int .i64 n] w fun e w' => e = .returned (.bool true) ∧ Below w.heap.size w w' := by
  have h1 := i64_bounds hm
  have h2 := i64_bounds hn
  refine signs_any m n ((fo [m, n]).1 + (fo [m, n]).2) w h1.1 h1.2 h2.1 h2.2 (wrap64_id ?_ ?_) (sign_case m n) <;> (rw [fo2]; simp only []; omega)

end Go.Proofs.Ytappccoomljiaaa
