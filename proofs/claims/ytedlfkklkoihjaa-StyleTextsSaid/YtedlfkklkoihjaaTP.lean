/-
  The document's parent, depth, below, first (jambref05). No condition.
-/
import Derived.Test.YtedlfkklkoihjaaTS
set_option linter.unusedVariables false
set_option linter.unusedSimpArgs false
namespace Go.Proofs.Ytedlfkklkoihjaa
open Go.RowKit Go.BigFrame

section
variable {A D : Option Addr} {n c m d : Nat} {v : Int} {L : List Nd} {adv : List Int}
theorem Trd.len {w : World} (h : Trd w A n D m L adv) : L.length = n := h.nodes.len_eq
/-- A node's first cells. -/
theorem Trd.at_ {w : World} (h : Trd w A n D m L adv) (h0 : 0 < n) : ∃ b off, A = some ⟨b, off, none⟩ ∧ b < w.heap.size ∧ ∀ i, i < n → ∀ j, j < 44 → w.cell? ⟨b, off + (i * 44 + j), none⟩ = (ncells (L.getD i nd0))[j]? := h.nodes.at_ h0
end
end Go.Proofs.Ytedlfkklkoihjaa
