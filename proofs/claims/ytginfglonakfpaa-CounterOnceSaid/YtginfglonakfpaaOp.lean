/-
  What a reading of each parameter's type says. Written by a program of mine. No condition.
-/
import Derived.Test.YtginfglonakfpaaCom
namespace Go.Proofs.Ytginfglonakfpaa
open Go.RowKit Go.ChangeShapes Go.WideShapes

def E34 : World → List Value → (Int × Int) → Prop := fun w cs a => cs.length = 2 ∧ (EInt .i64) w ((cs.drop 0).take 1) a.1 ∧ (EInt .i64) w ((cs.drop 1).take 1) a.2
theorem Op34 : Opens Try.prog 34 E34 := by
  intro H enc w fuel cs x h
  obtain ⟨xs, n, _, rfl, hl, hlen, hf⟩ := DataW.trod_struct Try.underlying34 h
  rw [show Try.prog.cellsOf 34 = 2 from by kernel_rfl] at hl
  match xs, hlen with
  | [y0, y1], _ =>
  have g0 : DataW.trod enc Try.prog w 0 (fun _ => true) true n 3 ((cs.drop 0).take 1) = some y0 := by
    have q : Try.prog.cellsOf 3 = 1 := by kernel_rfl
    exact field_of rfl rfl q (hf 0 _ rfl)
  obtain ⟨a0, h0⟩ := (opens_int Try.underlying3) enc w n _ _ g0
  have g1 : DataW.trod enc Try.prog w 0 (fun _ => true) true n 31 ((cs.drop 1).take 1) = some y1 := by
    have q : Try.prog.cellsOf 31 = 1 := by kernel_rfl
    exact field_of rfl rfl q (hf 1 _ rfl)
  obtain ⟨a1, h1⟩ := (opens_int Try.underlying31) enc w n _ _ g1
  exact ⟨(a0, a1), hl, h0, h1⟩
/-- Its cells, written out. -/
theorem F34 {w : World} {cs : List Value} {a : Int × Int} (h : E34 w cs a) : cs = [.int .i64 a.1, .int .i64 a.2] ∧ (Lit.int .i64 a.1).wf = true ∧ (Lit.int .i64 a.2).wf = true := by
  unfold E34 at h
  obtain ⟨hl, h0, h1⟩ := h
  match cs, hl with
  | [c0, c1], _ =>
  obtain ⟨e0, g0⟩ := h0
  obtain ⟨e1, g1⟩ := h1
  simp at e0 e1
  exact ⟨by simp [e0, e1], g0, g1⟩

abbrev E22 : World → List Value → List (Int × Int) → Prop := ESlice 2 E34
theorem Op22 : Opens Try.prog 22 E22 := opens_slice Try.underlying22 2 (by kernel_rfl) Op34

abbrev E40 : World → List Value → List (Int) → Prop := ESlice 1 (EInt .u16)
theorem Op40 : Opens Try.prog 40 E40 := opens_slice Try.underlying40 1 (by kernel_rfl) (opens_int Try.underlying41)

abbrev E43 : World → List Value → List (Int) → Prop := ESlice 1 (EInt .i64)
theorem Op43 : Opens Try.prog 43 E43 := opens_slice Try.underlying43 1 (by kernel_rfl) (opens_int Try.underlying3)

abbrev E52 : World → List Value → List (Int) → Prop := ESlice 1 (EInt .u8)
theorem Op52 : Opens Try.prog 52 E52 := opens_slice Try.underlying52 1 (by kernel_rfl) (opens_int Try.underlying5)

end Go.Proofs.Ytginfglonakfpaa
