/-
  No cell of these rows narrows 'for every input' (looked for: loops, veiled, ifaces, maps, wideKeys, modest, calm, conditions, laid).
  DERIVED. THE GIVEN ROWS OF THIS SEAT. 3 by the template 'for every input the law returns true; each argument reads behind the call as it read before'; 0 by the template 'total and deterministic' (their statements: YtlfjbkmdehpahaaTotals.lean).
  GIVEN WITH THE SEED: the statements are not yours to turn. If you find one false, say at which input.
  Laid BY PROGRAM, IN A SANDBOX (cutbox-rows.mjs): the forced cells as the released guide's own fill.sh prints them over the translation 5e9947c722d17477… (all of the seat's roots in one cut). By AI agents, Wed Nov 11 2026. No macro, syntax, notation, axiom, sorry.
-/
import Derived.Test.YtlfjbkmdehpahaaChecked
import GoSem.Claim
import GoSem.ClaimJoined
import GoSem.ClaimMapViews
import Derived.JoinedTies
import Derived.KernelRfl
namespace Go.Proofs.Ytlfjbkmdehpahaa
/- THE CELL 'sum', in the pinned program and in every row, IS THE sha256 OF THE DUMP (.gsa) THAT YtlfjbkmdehpahaaProg.lean LOADS. Nothing in Lean hashes anything: it is a label: what it is worth is what the hold of that sum in a sandbox is worth. -/
noncomputable def Try.pinned : Pinned := { name := "ytlfjbkmdehpahaa", sum := "5e9947c722d17477b23961f59d3d9fe4f6ca218bc0be257eeb0226e649838d65", checked := Try.checked }
namespace Rows
def none {H : Type} : Left H := { results := [], args := [] }

/-- 'jamblaw18.IslandsPlays': WHATEVER THE INPUT: true; the input reads as it did. -/
def islandsPlaysSpec : ChangeSpec := { name := "islandsPlays", fn := fun _ => fun
  | [d1, d2] => { results := [.lit (.bool true)], args := [d1, d2] }
  | _ => none }
def islandsPlaysRow : OpenClaim := { program := "ytlfjbkmdehpahaa", sum := "5e9947c722d17477b23961f59d3d9fe4f6ca218bc0be257eeb0226e649838d65", func := "jamb/jamblaw18.IslandsPlays", spec := "islandsPlays", unfollowed := true, recurses := true, apart := false }
def IslandsPlaysSaid : Prop := islandsPlaysRow.holds Try.pinned (OpenSpec.ofChange islandsPlaysSpec)

/-- ITS FALSE NEIGHBOUR: 'it returns false'. Refute it at one input. -/
def islandsPlaysWrong : ChangeSpec := { name := "islandsPlays", fn := fun _ => fun
  | [d1, d2] => { results := [.lit (.bool false)], args := [d1, d2] }
  | _ => none }
def IslandsPlaysWrongFalsely : Prop := islandsPlaysRow.holds Try.pinned (OpenSpec.ofChange islandsPlaysWrong)

/-- 'jamblaw18.IslandsOnce': WHATEVER THE INPUT: true; the input reads as it did. -/
def islandsOnceSpec : ChangeSpec := { name := "islandsOnce", fn := fun _ => fun
  | [d] => { results := [.lit (.bool true)], args := [d] }
  | _ => none }
def islandsOnceRow : OpenClaim := { program := "ytlfjbkmdehpahaa", sum := "5e9947c722d17477b23961f59d3d9fe4f6ca218bc0be257eeb0226e649838d65", func := "jamb/jamblaw18.IslandsOnce", spec := "islandsOnce", unfollowed := true, recurses := true, apart := false }
def IslandsOnceSaid : Prop := islandsOnceRow.holds Try.pinned (OpenSpec.ofChange islandsOnceSpec)

/-- ITS FALSE NEIGHBOUR: 'it returns false'. Refute it at one input. -/
def islandsOnceWrong : ChangeSpec := { name := "islandsOnce", fn := fun _ => fun
  | [d] => { results := [.lit (.bool false)], args := [d] }
  | _ => none }
def IslandsOnceWrongFalsely : Prop := islandsOnceRow.holds Try.pinned (OpenSpec.ofChange islandsOnceWrong)

/-- 'jamblaw18.IslandsCut': WHATEVER THE INPUT: true; the input reads as it did. -/
def islandsCutSpec : ChangeSpec := { name := "islandsCut", fn := fun _ => fun
  | [d1, d2] => { results := [.lit (.bool true)], args := [d1, d2] }
  | _ => none }
def islandsCutRow : OpenClaim := { program := "ytlfjbkmdehpahaa", sum := "5e9947c722d17477b23961f59d3d9fe4f6ca218bc0be257eeb0226e649838d65", func := "jamb/jamblaw18.IslandsCut", spec := "islandsCut", unfollowed := true, recurses := true, apart := false }
def IslandsCutSaid : Prop := islandsCutRow.holds Try.pinned (OpenSpec.ofChange islandsCutSpec)

/-- ITS FALSE NEIGHBOUR: 'it returns false'. Refute it at one input. -/
def islandsCutWrong : ChangeSpec := { name := "islandsCut", fn := fun _ => fun
  | [d1, d2] => { results := [.lit (.bool false)], args := [d1, d2] }
  | _ => none }
def IslandsCutWrongFalsely : Prop := islandsCutRow.holds Try.pinned (OpenSpec.ofChange islandsCutWrong)

/- THE SECOND FORM. 'bulk': how many values and letters a reading holds, each counted each time it is reached (what is shared counts as often as it is met; a slice's spare places count too). A statement '..UptoSaid' is the law's where the arguments, and the package variables that the reading takes, are together of bulk at most 1048576: NARROWER than '..Said'. Prove '..Said' where nothing that the law and all that it calls make is longer than what came in: it says more and counts as full. Else prove '..UptoSaid'. A law counts once. -/
mutual
def uptoBulk {H : Type} : DataW H → Nat
  | .lit (.string bytes) => bytes.length + 1
  | .lit _ => 1
  | .nil => 1
  | .ptr d => uptoBulk d + 1
  | .slice elems spare => uptoBulkAll elems + uptoBulkAll spare + 1
  | .agg parts => uptoBulkAll parts + 1
  | .iface _ d => uptoBulk d + 1
  | .map entries => uptoBulkEntries entries + 1
  | .held _ => 1
def uptoBulkAll {H : Type} : List (DataW H) → Nat
  | [] => 0
  | d :: r => uptoBulk d + uptoBulkAll r
def uptoBulkEntries {H : Type} : List (Lit × DataW H) → Nat
  | [] => 0
  | x :: r => uptoBulkEntry x + uptoBulkEntries r
def uptoBulkEntry {H : Type} : Lit × DataW H → Nat
  | (.string bytes, d) => bytes.length + uptoBulk d + 1
  | (_, d) => uptoBulk d + 1
 end
def uptoSmall : (H : Type) → List (DataW H) → Bool := fun _ ds => decide (uptoBulkAll ds ≤ 1048576)
def OpenSpec.upto (s : _root_.Go.ChangeSpec) : _root_.Go.OpenSpec := { _root_.Go.OpenSpec.ofChange s with cond := some uptoSmall }

/-- 'jamblaw18.IslandsPlays', WHERE WHAT IT READS IS OF BULK AT MOST 1048576: true; the input reads as it did. -/
def islandsPlaysUptoRow : OpenClaim := { program := "ytlfjbkmdehpahaa", sum := "5e9947c722d17477b23961f59d3d9fe4f6ca218bc0be257eeb0226e649838d65", func := "jamb/jamblaw18.IslandsPlays", spec := "islandsPlays", unfollowed := true, recurses := true, apart := false, narrowed := true }
def IslandsPlaysUptoSaid : Prop := islandsPlaysUptoRow.holds Try.pinned (OpenSpec.upto islandsPlaysSpec)

/-- 'jamblaw18.IslandsOnce', WHERE WHAT IT READS IS OF BULK AT MOST 1048576: true; the input reads as it did. -/
def islandsOnceUptoRow : OpenClaim := { program := "ytlfjbkmdehpahaa", sum := "5e9947c722d17477b23961f59d3d9fe4f6ca218bc0be257eeb0226e649838d65", func := "jamb/jamblaw18.IslandsOnce", spec := "islandsOnce", unfollowed := true, recurses := true, apart := false, narrowed := true }
def IslandsOnceUptoSaid : Prop := islandsOnceUptoRow.holds Try.pinned (OpenSpec.upto islandsOnceSpec)

/-- 'jamblaw18.IslandsCut', WHERE WHAT IT READS IS OF BULK AT MOST 1048576: true; the input reads as it did. -/
def islandsCutUptoRow : OpenClaim := { program := "ytlfjbkmdehpahaa", sum := "5e9947c722d17477b23961f59d3d9fe4f6ca218bc0be257eeb0226e649838d65", func := "jamb/jamblaw18.IslandsCut", spec := "islandsCut", unfollowed := true, recurses := true, apart := false, narrowed := true }
def IslandsCutUptoSaid : Prop := islandsCutUptoRow.holds Try.pinned (OpenSpec.upto islandsCutSpec)

end Rows
end Go.Proofs.Ytlfjbkmdehpahaa
