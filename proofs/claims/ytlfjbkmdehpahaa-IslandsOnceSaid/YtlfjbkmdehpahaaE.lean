import Derived.Test.YtlfjbkmdehpahaaP
set_option linter.unusedVariables false
set_option linter.unusedSimpArgs false
namespace Go.Proofs.Ytlfjbkmdehpahaa
open Go.RowKit
theorem tree_val {w : World} {cs : Array Value} {x} (h : E25 w (Value.agg cs).cells.toList x) :
    ∃ A n c D m d v L adv, cs = #[.slice A n c, .slice D m d, .int .i64 v] ∧ Trd w A n D m L adv ∧ TrWf n c m d L adv v := by
  obtain ⟨A, n, c, D, m, d, v, L, adv, e, h1, h2⟩ := tree_of h
  exact ⟨A, n, c, D, m, d, v, L, adv, Array.toList_inj.1 e, h1, h2⟩
theorem plays_walk (w : World) {cs : Array Value} {x} (h : E25 w (Value.agg cs).cells.toList x) {more : Int} (hm : (Lit.int .i64 more).wf = true) :
    Calls Try.prog 3 #[.agg cs, .int .i64 more] w fun e w' => e = .returned (.bool true) ∧ Below w.heap.size w w' := by
  obtain ⟨A, n, c, D, m, d, v, L, adv, rfl, h1, h2⟩ := tree_val h
  exact plays_any more w h1 h2
end Go.Proofs.Ytlfjbkmdehpahaa
