/-
  What a reading of each parameter's type says. Written by a program of mine. No condition.
-/
import Derived.Test.YtfhbndfhmphnaaaCom
namespace Go.Proofs.Ytfhbndfhmphnaaa
open Go.RowKit Go.ChangeShapes Go.WideShapes

def E24 : World → List Value → (Int × Int × Int × Int) → Prop := fun w cs a => cs.length = 4 ∧ (EInt .i64) w ((cs.drop 0).take 1) a.1 ∧ (EInt .i64) w ((cs.drop 1).take 1) a.2.1 ∧ (EInt .i64) w ((cs.drop 2).take 1) a.2.2.1 ∧ (EInt .i64) w ((cs.drop 3).take 1) a.2.2.2
theorem Op24 : Opens Try.prog 24 E24 := by
  intro H enc w fuel cs x h
  obtain ⟨xs, n, _, rfl, hl, hlen, hf⟩ := DataW.trod_array Try.underlying24 h
  rw [show Try.prog.cellsOf 24 = 4 from by kernel_rfl] at hl
  match xs, hlen with
  | [y0, y1, y2, y3], _ =>
  have g0 : DataW.trod enc Try.prog w 0 (fun _ => true) true n 2 ((cs.drop 0).take 1) = some y0 := by
    have q : Try.prog.cellsOf 2 = 1 := by kernel_rfl
    have := hf 0 (by omega)
    rw [q] at this
    exact this
  obtain ⟨a0, h0⟩ := (opens_int Try.underlying2) enc w n _ _ g0
  have g1 : DataW.trod enc Try.prog w 0 (fun _ => true) true n 2 ((cs.drop 1).take 1) = some y1 := by
    have q : Try.prog.cellsOf 2 = 1 := by kernel_rfl
    have := hf 1 (by omega)
    rw [q] at this
    exact this
  obtain ⟨a1, h1⟩ := (opens_int Try.underlying2) enc w n _ _ g1
  have g2 : DataW.trod enc Try.prog w 0 (fun _ => true) true n 2 ((cs.drop 2).take 1) = some y2 := by
    have q : Try.prog.cellsOf 2 = 1 := by kernel_rfl
    have := hf 2 (by omega)
    rw [q] at this
    exact this
  obtain ⟨a2, h2⟩ := (opens_int Try.underlying2) enc w n _ _ g2
  have g3 : DataW.trod enc Try.prog w 0 (fun _ => true) true n 2 ((cs.drop 3).take 1) = some y3 := by
    have q : Try.prog.cellsOf 2 = 1 := by kernel_rfl
    have := hf 3 (by omega)
    rw [q] at this
    exact this
  obtain ⟨a3, h3⟩ := (opens_int Try.underlying2) enc w n _ _ g3
  exact ⟨(a0, a1, a2, a3), hl, h0, h1, h2, h3⟩
/-- Its cells, written out. -/
theorem F24 {w : World} {cs : List Value} {a : Int × Int × Int × Int} (h : E24 w cs a) : cs = [.int .i64 a.1, .int .i64 a.2.1, .int .i64 a.2.2.1, .int .i64 a.2.2.2] ∧ (Lit.int .i64 a.1).wf = true ∧ (Lit.int .i64 a.2.1).wf = true ∧ (Lit.int .i64 a.2.2.1).wf = true ∧ (Lit.int .i64 a.2.2.2).wf = true := by
  unfold E24 at h
  obtain ⟨hl, h0, h1, h2, h3⟩ := h
  match cs, hl with
  | [c0, c1, c2, c3], _ =>
  obtain ⟨e0, g0⟩ := h0
  obtain ⟨e1, g1⟩ := h1
  obtain ⟨e2, g2⟩ := h2
  obtain ⟨e3, g3⟩ := h3
  simp at e0 e1 e2 e3
  exact ⟨by simp [e0, e1, e2, e3], g0, g1, g2, g3⟩

abbrev E22 : World → List Value → List (Int × Int × Int × Int) → Prop := ESlice 4 E24
theorem Op22 : Opens Try.prog 22 E22 := opens_slice Try.underlying22 4 (by kernel_rfl) Op24

def E33 : World → List Value → (Int × Int × Int × Int) → Prop := fun w cs a => cs.length = 4 ∧ (EInt .i64) w ((cs.drop 0).take 1) a.1 ∧ (EInt .i64) w ((cs.drop 1).take 1) a.2.1 ∧ (EInt .i64) w ((cs.drop 2).take 1) a.2.2.1 ∧ (EInt .i64) w ((cs.drop 3).take 1) a.2.2.2
theorem Op33 : Opens Try.prog 33 E33 := by
  intro H enc w fuel cs x h
  obtain ⟨xs, n, _, rfl, hl, hlen, hf⟩ := DataW.trod_struct Try.underlying33 h
  rw [show Try.prog.cellsOf 33 = 4 from by kernel_rfl] at hl
  match xs, hlen with
  | [y0, y1, y2, y3], _ =>
  have g0 : DataW.trod enc Try.prog w 0 (fun _ => true) true n 2 ((cs.drop 0).take 1) = some y0 := by
    have q : Try.prog.cellsOf 2 = 1 := by kernel_rfl
    exact field_of rfl rfl q (hf 0 _ rfl)
  obtain ⟨a0, h0⟩ := (opens_int Try.underlying2) enc w n _ _ g0
  have g1 : DataW.trod enc Try.prog w 0 (fun _ => true) true n 2 ((cs.drop 1).take 1) = some y1 := by
    have q : Try.prog.cellsOf 2 = 1 := by kernel_rfl
    exact field_of rfl rfl q (hf 1 _ rfl)
  obtain ⟨a1, h1⟩ := (opens_int Try.underlying2) enc w n _ _ g1
  have g2 : DataW.trod enc Try.prog w 0 (fun _ => true) true n 2 ((cs.drop 2).take 1) = some y2 := by
    have q : Try.prog.cellsOf 2 = 1 := by kernel_rfl
    exact field_of rfl rfl q (hf 2 _ rfl)
  obtain ⟨a2, h2⟩ := (opens_int Try.underlying2) enc w n _ _ g2
  have g3 : DataW.trod enc Try.prog w 0 (fun _ => true) true n 2 ((cs.drop 3).take 1) = some y3 := by
    have q : Try.prog.cellsOf 2 = 1 := by kernel_rfl
    exact field_of rfl rfl q (hf 3 _ rfl)
  obtain ⟨a3, h3⟩ := (opens_int Try.underlying2) enc w n _ _ g3
  exact ⟨(a0, a1, a2, a3), hl, h0, h1, h2, h3⟩
/-- Its cells, written out. -/
theorem F33 {w : World} {cs : List Value} {a : Int × Int × Int × Int} (h : E33 w cs a) : cs = [.int .i64 a.1, .int .i64 a.2.1, .int .i64 a.2.2.1, .int .i64 a.2.2.2] ∧ (Lit.int .i64 a.1).wf = true ∧ (Lit.int .i64 a.2.1).wf = true ∧ (Lit.int .i64 a.2.2.1).wf = true ∧ (Lit.int .i64 a.2.2.2).wf = true := by
  unfold E33 at h
  obtain ⟨hl, h0, h1, h2, h3⟩ := h
  match cs, hl with
  | [c0, c1, c2, c3], _ =>
  obtain ⟨e0, g0⟩ := h0
  obtain ⟨e1, g1⟩ := h1
  obtain ⟨e2, g2⟩ := h2
  obtain ⟨e3, g3⟩ := h3
  simp at e0 e1 e2 e3
  exact ⟨by simp [e0, e1, e2, e3], g0, g1, g2, g3⟩

end Go.Proofs.Ytfhbndfhmphnaaa
