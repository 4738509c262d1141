import Derived.Test.YtlfjbkmdehpahaaE
import Derived.Test.YtlfjbkmdehpahaaOn
set_option linter.unusedVariables false
set_option linter.unusedSimpArgs false
namespace Go.Proofs.Ytlfjbkmdehpahaa
open Go.RowKit
theorem once_walk (w : World) {cs : Array Value} {x} (h : E25 w (Value.agg cs).cells.toList x) :
    Calls Try.prog 4 #[.agg cs] w fun e w' => e = .returned (.bool true) ∧ Below w.heap.size w w' := by
  obtain ⟨A, n, c, D, m, d, v, L, adv, rfl, h1, h2⟩ := tree_val h
  exact once_any w h1 h2
end Go.Proofs.Ytlfjbkmdehpahaa
