/-
  Structs and slices that are written out, as a whole. No condition.
-/
import Derived.Test.YtedlfkklkoihjaaCom10
import Derived.Laws.Tables
import Derived.Deep.MidRow
import Derived.Deep.WholeRow
set_option linter.unusedVariables false
set_option linter.unusedSimpArgs false
namespace Go.Proofs.Ytedlfkklkoihjaa
open Go.RowKit

theorem wpList_build_as {P : Program} {ops : Array Oper} {rest : List Oper} {o : Oper} {a : Act} {w : World} {Q : Exit → Act → World → Prop} (hg : o.guard = none) (t : TypeId) (parts : Array (Nat × Operand)) (ho : o.op = .build t parts)
    (vals : List (Nat × Value)) (cells : Array Value) (hv : (parts.toList.map fun (i, x) => (i, a.eval x)) = vals) (hb : P.built t vals = some cells)
    (h : wpList P ops Q rest (a.put o.dst (.agg cells)) w) : wpList P ops Q (o :: rest) a w := by
  have hv' : (parts.map fun (i, x) => (i, a.eval x)).toList = vals := by rw [Array.toList_map]; exact hv
  refine wpList_build hg t parts ho (by rw [hv', hb]; rfl) ?_
  rw [hv', hb]
  exact h
theorem info_two {o : Option TypeInfo} {z : Value} {s : Nat} (h : o.map (fun i => (i.zero, i.size)) = some (some z, s)) : ∃ i, o = some i ∧ i.zero = some z ∧ i.size = s := by
  cases o with
  | none => cases h
  | some i =>
    simp only [Option.map_some, Option.some.injEq, Prod.mk.injEq] at h
    exact ⟨i, rfl, h.1, h.2⟩
def sliceCells (zero : Array Value) (size len : Nat) (vals : List (Nat × Value)) : Option (Array Value) :=
  Instr.fill (fun i => some (i * size, size)) ((Array.range (len * size)).map (zero[· % zero.size]!)) vals
theorem run_buildSlice {P : Program} {t e : TypeId} {i : TypeInfo} {z : Value} {cells : Array Value} (ht : P.underlying t = some (.slice e)) (hi : P.info? e = some i) (hz : i.zero = some z) (len : Nat) (parts : Array (Nat × Value))
    (h0 : 0 < len * i.size) (hm : len * i.size ≤ 2 ^ 24) (hb : sliceCells z.cells i.size len parts.toList = some cells) (w : World) :
    (Instr.buildSlice t len parts).run P w = .ok (.slice (some ⟨w.heap.size, 0, none⟩) len len) (w.alloc (.cells cells e)) := by
  unfold sliceCells at hb
  have h1 : ¬ 2 ^ 24 < len * i.size := by omega
  have h2 : ¬ len * i.size = 0 := by omega
  unfold Instr.buildSlice
  simp [Sem.run_bind, run_underlying ht, sizeOf, typeInfo, hi, h1, h2, zeroValue, hz, hb, newRow]
theorem wpList_buildSlice_as {P : Program} {ops : Array Oper} {rest : List Oper} {o : Oper} {a : Act} {w : World} {Q : Exit → Act → World → Prop} (hg : o.guard = none) (t : TypeId) (len : Nat) (parts : Array (Nat × Operand)) (ho : o.op = .buildSlice t len parts)
    (vals : List (Nat × Value)) (hv : (parts.toList.map fun (i, x) => (i, a.eval x)) = vals) {e : TypeId} {i : TypeInfo} {z : Value} (cells : Array Value) (ht : P.underlying t = some (.slice e)) (hi : P.info? e = some i) (hz : i.zero = some z) (size : Nat) (hs : i.size = size)
    (h0 : 0 < len * size) (hm : len * size ≤ 2 ^ 24) (hb : sliceCells z.cells size len vals = some cells) (g : Nat) (hgs : w.heap.size = g)
    (h : wpList P ops Q rest (a.put o.dst (.slice (some ⟨g, 0, none⟩) len len)) (w.alloc (.cells cells e))) : wpList P ops Q (o :: rest) a w := by
  have hv' : (parts.map fun (i, x) => (i, a.eval x)).toList = vals := by rw [Array.toList_map]; exact hv
  subst hs; subst hgs; subst hv'
  refine wpList_plain hg fun K hK => ?_
  unfold Oper.wp execOp
  simp only [ho, Sem.run_bind, run_buildSlice ht hi hz len _ h0 hm hb, Result.andThen_ok]
  exact hK _ _ h
end Go.Proofs.Ytedlfkklkoihjaa
