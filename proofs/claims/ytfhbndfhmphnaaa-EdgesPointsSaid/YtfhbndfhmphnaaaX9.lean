/-
  A parameter that is a rectangle or four sides, as 'qv'; EdgesTurns joined. No condition.
-/
import Derived.Test.YtfhbndfhmphnaaaX8
import Derived.Test.YtfhbndfhmphnaaaOp
set_option linter.unusedVariables false
set_option linter.unusedSimpArgs false
namespace Go.Proofs.Ytfhbndfhmphnaaa
open Go.RowKit

theorem okWide_array {P : Program} {w : World} {r : Reach} {base : Nat} {t : TypeId} {v : Value} {n : Nat} {e : TypeId} (ht : P.underlying t = some (.array n e)) (h : Value.okWide P w r base t v) : ∃ cs, v = .agg cs ∧ cs.size = P.cellsOf t := by
  simp only [Value.okWide, ht] at h
  obtain ⟨cs, h1, h2, _⟩ := h
  exact ⟨cs, h1, h2⟩
theorem agg_of {cs : Array Value} {l : List Value} (h : (Value.agg cs).cells.toList = l) : Value.agg cs = .agg l.toArray := by subst h; simp [Value.cells]
theorem quad_rc {w : World} {cs : Array Value} {x : Int × Int × Int × Int} (h : E33 w (Value.agg cs).cells.toList x) : ∃ q : Q4, q.ok ∧ Value.agg cs = qv q :=
  have f := F33 h
  ⟨⟨x.1, x.2.1, x.2.2.1, x.2.2.2⟩, ⟨bounds_i64 f.2.1, bounds_i64 f.2.2.1, bounds_i64 f.2.2.2.1, bounds_i64 f.2.2.2.2⟩, agg_of f.1⟩
theorem quad_sd {w : World} {cs : Array Value} {x : Int × Int × Int × Int} (h : E24 w (Value.agg cs).cells.toList x) : ∃ q : Q4, q.ok ∧ Value.agg cs = qv q :=
  have f := F24 h
  ⟨⟨x.1, x.2.1, x.2.2.1, x.2.2.2⟩, ⟨bounds_i64 f.2.1, bounds_i64 f.2.2.1, bounds_i64 f.2.2.2.1, bounds_i64 f.2.2.2.2⟩, agg_of f.1⟩
theorem turns_walk (w : World) {ca cb cs : Array Value} {x y z : Int × Int × Int × Int} (h0 : E33 w (Value.agg ca).cells.toList x) (h1 : E33 w (Value.agg cb).cells.toList y) (h2 : E24 w (Value.agg cs).cells.toList z) :
    Calls Try.prog 6 #[.agg ca, .agg cb, .agg cs] w fun e w' => e = .returned (.bool true) ∧ Below w.heap.size w w' := by
  obtain ⟨r, hr, e0⟩ := quad_rc h0
  obtain ⟨q, hq, e1⟩ := quad_rc h1
  obtain ⟨s, hs, e2⟩ := quad_sd h2
  rw [e0, e1, e2]
  exact turns_any r q s hr hq hs w
end Go.Proofs.Ytfhbndfhmphnaaa
