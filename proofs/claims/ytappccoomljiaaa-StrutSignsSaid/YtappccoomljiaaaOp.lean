/-
  What a reading of each parameter's type says. Written by a program of mine. No condition.
-/
import Derived.Test.YtappccoomljiaaaCom
namespace Go.Proofs.Ytappccoomljiaaa
open Go.RowKit Go.ChangeShapes Go.WideShapes

def E24 : World → List Value → (Int × Int) → Prop := fun w cs a => cs.length = 2 ∧ (EInt .i64) w ((cs.drop 0).take 1) a.1 ∧ (EInt .i64) w ((cs.drop 1).take 1) a.2
theorem Op24 : Opens Try.prog 24 E24 := by
  intro H enc w fuel cs x h
  obtain ⟨xs, n, _, rfl, hl, hlen, hf⟩ := DataW.trod_struct Try.underlying24 h
  rw [show Try.prog.cellsOf 24 = 2 from by kernel_rfl] at hl
  match xs, hlen with
  | [y0, y1], _ =>
  have g0 : DataW.trod enc Try.prog w 0 (fun _ => true) true n 2 ((cs.drop 0).take 1) = some y0 := by
    have q : Try.prog.cellsOf 2 = 1 := by kernel_rfl
    exact field_of rfl rfl q (hf 0 _ rfl)
  obtain ⟨a0, h0⟩ := (opens_int Try.underlying2) enc w n _ _ g0
  have g1 : DataW.trod enc Try.prog w 0 (fun _ => true) true n 2 ((cs.drop 1).take 1) = some y1 := by
    have q : Try.prog.cellsOf 2 = 1 := by kernel_rfl
    exact field_of rfl rfl q (hf 1 _ rfl)
  obtain ⟨a1, h1⟩ := (opens_int Try.underlying2) enc w n _ _ g1
  exact ⟨(a0, a1), hl, h0, h1⟩
/-- Its cells, written out. -/
theorem F24 {w : World} {cs : List Value} {a : Int × Int} (h : E24 w cs a) : cs = [.int .i64 a.1, .int .i64 a.2] ∧ (Lit.int .i64 a.1).wf = true ∧ (Lit.int .i64 a.2).wf = true := by
  unfold E24 at h
  obtain ⟨hl, h0, h1⟩ := h
  match cs, hl with
  | [c0, c1], _ =>
  obtain ⟨e0, g0⟩ := h0
  obtain ⟨e1, g1⟩ := h1
  simp at e0 e1
  exact ⟨by simp [e0, e1], g0, g1⟩

abbrev E26 : World → List Value → List (Int) → Prop := ESlice 1 (EInt .i64)
theorem Op26 : Opens Try.prog 26 E26 := opens_slice Try.underlying26 1 (by kernel_rfl) (opens_int Try.underlying2)

end Go.Proofs.Ytappccoomljiaaa
