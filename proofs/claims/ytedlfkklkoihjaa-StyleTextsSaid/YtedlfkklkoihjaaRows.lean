/-
  No cell of these rows narrows 'for every input' (looked for: loops, veiled, ifaces, maps, wideKeys, modest, calm, conditions, laid).
  DERIVED. THE GIVEN ROWS OF THIS SEAT. 5 by the template 'for every input the law returns true; each argument reads behind the call as it read before'; 0 by the template 'total and deterministic' (their statements: YtedlfkklkoihjaaTotals.lean).
  GIVEN WITH THE SEED: the statements are not yours to turn. If you find one false, say at which input.
  Laid BY PROGRAM, IN A SANDBOX (cutbox-rows.mjs): the forced cells as the released guide's own fill.sh prints them over the translation c79d4c6e6e635219… (all of the seat's roots in one cut). By AI agents, Wed Nov 11 2026. No macro, syntax, notation, axiom, sorry.
-/
import Derived.Test.YtedlfkklkoihjaaChecked
import GoSem.Claim
import GoSem.ClaimJoined
import GoSem.ClaimMapViews
import Derived.JoinedTies
import Derived.KernelRfl
namespace Go.Proofs.Ytedlfkklkoihjaa
/- THE CELL 'sum', in the pinned program and in every row, IS THE sha256 OF THE DUMP (.gsa) THAT YtedlfkklkoihjaaProg.lean LOADS. Nothing in Lean hashes anything: it is a label: what it is worth is what the hold of that sum in a sandbox is worth. -/
noncomputable def Try.pinned : Pinned := { name := "ytedlfkklkoihjaa", sum := "c79d4c6e6e63521982b8602799e1a864cf9fa5c4114aae97e96e8165e2eaaac1", checked := Try.checked }
namespace Rows
def none {H : Type} : Left H := { results := [], args := [] }

/-- 'jamblaw04.StyleRights': WHATEVER THE INPUT: true; the input reads as it did. -/
def styleRightsSpec : ChangeSpec := { name := "styleRights", fn := fun _ => fun
  | [d] => { results := [.lit (.bool true)], args := [d] }
  | _ => none }
def styleRightsRow : OpenClaim := { program := "ytedlfkklkoihjaa", sum := "c79d4c6e6e63521982b8602799e1a864cf9fa5c4114aae97e96e8165e2eaaac1", func := "jamb/jamblaw04.StyleRights", spec := "styleRights", unfollowed := true, recurses := true, named := ["math/bits.divideError", "math/bits.overflowError"], apart := false }
def StyleRightsSaid : Prop := styleRightsRow.holds Try.pinned (OpenSpec.ofChange styleRightsSpec)

/-- ITS FALSE NEIGHBOUR: 'it returns false'. Refute it at one input. -/
def styleRightsWrong : ChangeSpec := { name := "styleRights", fn := fun _ => fun
  | [d] => { results := [.lit (.bool false)], args := [d] }
  | _ => none }
def StyleRightsWrongFalsely : Prop := styleRightsRow.holds Try.pinned (OpenSpec.ofChange styleRightsWrong)

/-- 'jamblaw04.StyleLens': WHATEVER THE INPUT: true; the input reads as it did. -/
def styleLensSpec : ChangeSpec := { name := "styleLens", fn := fun _ => fun
  | [d1, d2, d3, d4] => { results := [.lit (.bool true)], args := [d1, d2, d3, d4] }
  | _ => none }
def styleLensRow : OpenClaim := { program := "ytedlfkklkoihjaa", sum := "c79d4c6e6e63521982b8602799e1a864cf9fa5c4114aae97e96e8165e2eaaac1", func := "jamb/jamblaw04.StyleLens", spec := "styleLens", unfollowed := true, recurses := true, named := ["math/bits.divideError", "math/bits.overflowError"], apart := false }
def StyleLensSaid : Prop := styleLensRow.holds Try.pinned (OpenSpec.ofChange styleLensSpec)

/-- ITS FALSE NEIGHBOUR: 'it returns false'. Refute it at one input. -/
def styleLensWrong : ChangeSpec := { name := "styleLens", fn := fun _ => fun
  | [d1, d2, d3, d4] => { results := [.lit (.bool false)], args := [d1, d2, d3, d4] }
  | _ => none }
def StyleLensWrongFalsely : Prop := styleLensRow.holds Try.pinned (OpenSpec.ofChange styleLensWrong)

/-- 'jamblaw04.StyleSizes': WHATEVER THE INPUT: true; the input reads as it did. -/
def styleSizesSpec : ChangeSpec := { name := "styleSizes", fn := fun _ => fun
  | [d1, d2, d3, d4, d5] => { results := [.lit (.bool true)], args := [d1, d2, d3, d4, d5] }
  | _ => none }
def styleSizesRow : OpenClaim := { program := "ytedlfkklkoihjaa", sum := "c79d4c6e6e63521982b8602799e1a864cf9fa5c4114aae97e96e8165e2eaaac1", func := "jamb/jamblaw04.StyleSizes", spec := "styleSizes", unfollowed := true, recurses := true, named := ["math/bits.divideError", "math/bits.overflowError"], apart := false }
def StyleSizesSaid : Prop := styleSizesRow.holds Try.pinned (OpenSpec.ofChange styleSizesSpec)

/-- ITS FALSE NEIGHBOUR: 'it returns false'. Refute it at one input. -/
def styleSizesWrong : ChangeSpec := { name := "styleSizes", fn := fun _ => fun
  | [d1, d2, d3, d4, d5] => { results := [.lit (.bool false)], args := [d1, d2, d3, d4, d5] }
  | _ => none }
def StyleSizesWrongFalsely : Prop := styleSizesRow.holds Try.pinned (OpenSpec.ofChange styleSizesWrong)

/-- 'jamblaw04.StyleAutos': WHATEVER THE INPUT: true; the input reads as it did. -/
def styleAutosSpec : ChangeSpec := { name := "styleAutos", fn := fun _ => fun
  | [d1, d2, d3] => { results := [.lit (.bool true)], args := [d1, d2, d3] }
  | _ => none }
def styleAutosRow : OpenClaim := { program := "ytedlfkklkoihjaa", sum := "c79d4c6e6e63521982b8602799e1a864cf9fa5c4114aae97e96e8165e2eaaac1", func := "jamb/jamblaw04.StyleAutos", spec := "styleAutos", unfollowed := true, recurses := true, named := ["math/bits.divideError", "math/bits.overflowError"], apart := false }
def StyleAutosSaid : Prop := styleAutosRow.holds Try.pinned (OpenSpec.ofChange styleAutosSpec)

/-- ITS FALSE NEIGHBOUR: 'it returns false'. Refute it at one input. -/
def styleAutosWrong : ChangeSpec := { name := "styleAutos", fn := fun _ => fun
  | [d1, d2, d3] => { results := [.lit (.bool false)], args := [d1, d2, d3] }
  | _ => none }
def StyleAutosWrongFalsely : Prop := styleAutosRow.holds Try.pinned (OpenSpec.ofChange styleAutosWrong)

/-- 'jamblaw04.StyleTexts': WHATEVER THE INPUT: true; the input reads as it did. -/
def styleTextsSpec : ChangeSpec := { name := "styleTexts", fn := fun _ => fun
  | [d1, d2, d3] => { results := [.lit (.bool true)], args := [d1, d2, d3] }
  | _ => none }
def styleTextsRow : OpenClaim := { program := "ytedlfkklkoihjaa", sum := "c79d4c6e6e63521982b8602799e1a864cf9fa5c4114aae97e96e8165e2eaaac1", func := "jamb/jamblaw04.StyleTexts", spec := "styleTexts", unfollowed := true, recurses := true, named := ["math/bits.divideError", "math/bits.overflowError"], apart := false }
def StyleTextsSaid : Prop := styleTextsRow.holds Try.pinned (OpenSpec.ofChange styleTextsSpec)

/-- ITS FALSE NEIGHBOUR: 'it returns false'. Refute it at one input. -/
def styleTextsWrong : ChangeSpec := { name := "styleTexts", fn := fun _ => fun
  | [d1, d2, d3] => { results := [.lit (.bool false)], args := [d1, d2, d3] }
  | _ => none }
def StyleTextsWrongFalsely : Prop := styleTextsRow.holds Try.pinned (OpenSpec.ofChange styleTextsWrong)

/- THE SECOND FORM. 'bulk': how many values and letters a reading holds, each counted each time it is reached (what is shared counts as often as it is met; a slice's spare places count too). A statement '..UptoSaid' is the law's where the arguments, and the package variables that the reading takes, are together of bulk at most 1048576: NARROWER than '..Said'. Prove '..Said' where nothing that the law and all that it calls make is longer than what came in: it says more and counts as full. Else prove '..UptoSaid'. A law counts once. -/
mutual
def uptoBulk {H : Type} : DataW H → Nat
  | .lit (.string bytes) => bytes.length + 1
  | .lit _ => 1
  | .nil => 1
  | .ptr d => uptoBulk d + 1
  | .slice elems spare => uptoBulkAll elems + uptoBulkAll spare + 1
  | .agg parts => uptoBulkAll parts + 1
  | .iface _ d => uptoBulk d + 1
  | .map entries => uptoBulkEntries entries + 1
  | .held _ => 1
def uptoBulkAll {H : Type} : List (DataW H) → Nat
  | [] => 0
  | d :: r => uptoBulk d + uptoBulkAll r
def uptoBulkEntries {H : Type} : List (Lit × DataW H) → Nat
  | [] => 0
  | x :: r => uptoBulkEntry x + uptoBulkEntries r
def uptoBulkEntry {H : Type} : Lit × DataW H → Nat
  | (.string bytes, d) => bytes.length + uptoBulk d + 1
  | (_, d) => uptoBulk d + 1
 end
def uptoSmall : (H : Type) → List (DataW H) → Bool := fun _ ds => decide (uptoBulkAll ds ≤ 1048576)
def OpenSpec.upto (s : _root_.Go.ChangeSpec) : _root_.Go.OpenSpec := { _root_.Go.OpenSpec.ofChange s with cond := some uptoSmall }

/-- 'jamblaw04.StyleRights', WHERE WHAT IT READS IS OF BULK AT MOST 1048576: true; the input reads as it did. -/
def styleRightsUptoRow : OpenClaim := { program := "ytedlfkklkoihjaa", sum := "c79d4c6e6e63521982b8602799e1a864cf9fa5c4114aae97e96e8165e2eaaac1", func := "jamb/jamblaw04.StyleRights", spec := "styleRights", unfollowed := true, recurses := true, named := ["math/bits.divideError", "math/bits.overflowError"], apart := false, narrowed := true }
def StyleRightsUptoSaid : Prop := styleRightsUptoRow.holds Try.pinned (OpenSpec.upto styleRightsSpec)

/-- 'jamblaw04.StyleLens', WHERE WHAT IT READS IS OF BULK AT MOST 1048576: true; the input reads as it did. -/
def styleLensUptoRow : OpenClaim := { program := "ytedlfkklkoihjaa", sum := "c79d4c6e6e63521982b8602799e1a864cf9fa5c4114aae97e96e8165e2eaaac1", func := "jamb/jamblaw04.StyleLens", spec := "styleLens", unfollowed := true, recurses := true, named := ["math/bits.divideError", "math/bits.overflowError"], apart := false, narrowed := true }
def StyleLensUptoSaid : Prop := styleLensUptoRow.holds Try.pinned (OpenSpec.upto styleLensSpec)

/-- 'jamblaw04.StyleSizes', WHERE WHAT IT READS IS OF BULK AT MOST 1048576: true; the input reads as it did. -/
def styleSizesUptoRow : OpenClaim := { program := "ytedlfkklkoihjaa", sum := "c79d4c6e6e63521982b8602799e1a864cf9fa5c4114aae97e96e8165e2eaaac1", func := "jamb/jamblaw04.StyleSizes", spec := "styleSizes", unfollowed := true, recurses := true, named := ["math/bits.divideError", "math/bits.overflowError"], apart := false, narrowed := true }
def StyleSizesUptoSaid : Prop := styleSizesUptoRow.holds Try.pinned (OpenSpec.upto styleSizesSpec)

/-- 'jamblaw04.StyleAutos', WHERE WHAT IT READS IS OF BULK AT MOST 1048576: true; the input reads as it did. -/
def styleAutosUptoRow : OpenClaim := { program := "ytedlfkklkoihjaa", sum := "c79d4c6e6e63521982b8602799e1a864cf9fa5c4114aae97e96e8165e2eaaac1", func := "jamb/jamblaw04.StyleAutos", spec := "styleAutos", unfollowed := true, recurses := true, named := ["math/bits.divideError", "math/bits.overflowError"], apart := false, narrowed := true }
def StyleAutosUptoSaid : Prop := styleAutosUptoRow.holds Try.pinned (OpenSpec.upto styleAutosSpec)

/-- 'jamblaw04.StyleTexts', WHERE WHAT IT READS IS OF BULK AT MOST 1048576: true; the input reads as it did. -/
def styleTextsUptoRow : OpenClaim := { program := "ytedlfkklkoihjaa", sum := "c79d4c6e6e63521982b8602799e1a864cf9fa5c4114aae97e96e8165e2eaaac1", func := "jamb/jamblaw04.StyleTexts", spec := "styleTexts", unfollowed := true, recurses := true, named := ["math/bits.divideError", "math/bits.overflowError"], apart := false, narrowed := true }
def StyleTextsUptoSaid : Prop := styleTextsUptoRow.holds Try.pinned (OpenSpec.upto styleTextsSpec)

end Rows
end Go.Proofs.Ytedlfkklkoihjaa
