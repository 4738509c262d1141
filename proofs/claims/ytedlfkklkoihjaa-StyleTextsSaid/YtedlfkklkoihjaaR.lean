/-
  The reference's sum (jambref01.Sum). No condition.
-/
import Derived.Test.YtedlfkklkoihjaaQ
import Derived.Test.YtedlfkklkoihjaaB
set_option linter.unusedVariables false
set_option linter.unusedSimpArgs false
namespace Go.Proofs.Ytedlfkklkoihjaa
open Go.RowKit Go.BigFrame

theorem BV.parts {w : World} {v : Value} {z : Int} {K : Nat} (h : BV w v z K) : ∃ A n c l, v = .agg #[.bool (decide (z < 0)), .slice A n c] ∧ BS w (.slice A n c) l ∧ bval l = z.natAbs ∧ l.length ≤ K := by
  obtain ⟨l, sv, rfl, h1, h2, h3⟩ := h
  have h1' := h1
  obtain ⟨A, c, rfl, _⟩ := h1
  exact ⟨A, l.length, c, l, rfl, h1', h2, h3⟩
end Go.Proofs.Ytedlfkklkoihjaa
