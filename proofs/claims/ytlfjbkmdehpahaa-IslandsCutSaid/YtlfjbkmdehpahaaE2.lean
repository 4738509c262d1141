import Derived.Test.YtlfjbkmdehpahaaE
import Derived.Test.YtlfjbkmdehpahaaCut
set_option linter.unusedVariables false
set_option linter.unusedSimpArgs false
namespace Go.Proofs.Ytlfjbkmdehpahaa
open Go.RowKit
theorem cut_walk (w : World) {cs : Array Value} {x} (h : E25 w (Value.agg cs).cells.toList x) {u : Int} (hu : (Lit.int .u16 u).wf = true) :
    Calls Try.prog 5 #[.agg cs, .int .u16 u] w fun e w' => e = .returned (.bool true) ∧ Below w.heap.size w w' := by
  obtain ⟨A, n, c, D, m, d, v, L, adv, rfl, h1, h2⟩ := tree_val h
  obtain ⟨u0, u1⟩ := bounds_u16 hu
  exact cut_any u (by omega) (by omega) w h1 h2
end Go.Proofs.Ytlfjbkmdehpahaa
