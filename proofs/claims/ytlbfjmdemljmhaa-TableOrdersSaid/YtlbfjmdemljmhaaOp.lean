/-
  What a reading of each parameter's type says. Written by a program of mine. No condition.
-/
import Derived.Test.YtlbfjmdemljmhaaCom
namespace Go.Proofs.Ytlbfjmdemljmhaa
open Go.RowKit Go.ChangeShapes Go.WideShapes

def E30 : World → List Value → (Int × ByteArray) → Prop := fun w cs a => cs.length = 2 ∧ (EInt .i64) w ((cs.drop 0).take 1) a.1 ∧ EStr w ((cs.drop 1).take 1) a.2
theorem Op30 : Opens Try.prog 30 E30 := by
  intro H enc w fuel cs x h
  obtain ⟨xs, n, _, rfl, hl, hlen, hf⟩ := DataW.trod_struct Try.underlying30 h
  rw [show Try.prog.cellsOf 30 = 2 from by kernel_rfl] at hl
  match xs, hlen with
  | [y0, y1], _ =>
  have g0 : DataW.trod enc Try.prog w 0 (fun _ => true) true n 2 ((cs.drop 0).take 1) = some y0 := by
    have q : Try.prog.cellsOf 2 = 1 := by kernel_rfl
    exact field_of rfl rfl q (hf 0 _ rfl)
  obtain ⟨a0, h0⟩ := (opens_int Try.underlying2) enc w n _ _ g0
  have g1 : DataW.trod enc Try.prog w 0 (fun _ => true) true n 9 ((cs.drop 1).take 1) = some y1 := by
    have q : Try.prog.cellsOf 9 = 1 := by kernel_rfl
    exact field_of rfl rfl q (hf 1 _ rfl)
  obtain ⟨a1, h1⟩ := (opens_str Try.underlying9) enc w n _ _ g1
  exact ⟨(a0, a1), hl, h0, h1⟩
/-- Its cells, written out. -/
theorem F30 {w : World} {cs : List Value} {a : Int × ByteArray} (h : E30 w cs a) : cs = [.int .i64 a.1, .string a.2] ∧ (Lit.int .i64 a.1).wf = true ∧ a.2.size ≤ maxLen := by
  unfold E30 at h
  obtain ⟨hl, h0, h1⟩ := h
  match cs, hl with
  | [c0, c1], _ =>
  obtain ⟨e0, g0⟩ := h0
  obtain ⟨e1, g1⟩ := h1
  simp at e0 e1
  exact ⟨by simp [e0, e1], g0, g1⟩

def E35 : World → List Value → (Bool × Int × (Int × ByteArray)) → Prop := fun w cs a => cs.length = 4 ∧ EBool w ((cs.drop 0).take 1) a.1 ∧ (EInt .i64) w ((cs.drop 1).take 1) a.2.1 ∧ E30 w ((cs.drop 2).take 2) a.2.2
theorem Op35 : Opens Try.prog 35 E35 := by
  intro H enc w fuel cs x h
  obtain ⟨xs, n, _, rfl, hl, hlen, hf⟩ := DataW.trod_struct Try.underlying35 h
  rw [show Try.prog.cellsOf 35 = 4 from by kernel_rfl] at hl
  match xs, hlen with
  | [y0, y1, y2], _ =>
  have g0 : DataW.trod enc Try.prog w 0 (fun _ => true) true n 4 ((cs.drop 0).take 1) = some y0 := by
    have q : Try.prog.cellsOf 4 = 1 := by kernel_rfl
    exact field_of rfl rfl q (hf 0 _ rfl)
  obtain ⟨a0, h0⟩ := (opens_bool Try.underlying4) enc w n _ _ g0
  have g1 : DataW.trod enc Try.prog w 0 (fun _ => true) true n 3 ((cs.drop 1).take 1) = some y1 := by
    have q : Try.prog.cellsOf 3 = 1 := by kernel_rfl
    exact field_of rfl rfl q (hf 1 _ rfl)
  obtain ⟨a1, h1⟩ := (opens_int Try.underlying3) enc w n _ _ g1
  have g2 : DataW.trod enc Try.prog w 0 (fun _ => true) true n 30 ((cs.drop 2).take 2) = some y2 := by
    have q : Try.prog.cellsOf 30 = 2 := by kernel_rfl
    exact field_of rfl rfl q (hf 2 _ rfl)
  obtain ⟨a2, h2⟩ := Op30 enc w n _ _ g2
  exact ⟨(a0, a1, a2), hl, h0, h1, h2⟩
/-- Its cells, written out. -/
theorem F35 {w : World} {cs : List Value} {a : Bool × Int × (Int × ByteArray)} (h : E35 w cs a) : cs = [.bool a.1, .int .i64 a.2.1, .int .i64 a.2.2.1, .string a.2.2.2] ∧ (Lit.int .i64 a.2.1).wf = true ∧ (Lit.int .i64 a.2.2.1).wf = true ∧ a.2.2.2.size ≤ maxLen := by
  unfold E35 at h
  obtain ⟨hl, h0, h1, h2⟩ := h
  match cs, hl with
  | [c0, c1, c2, c3], _ =>
  have e0 := h0; unfold EBool at e0
  obtain ⟨e1, g1⟩ := h1
  obtain ⟨e2, g2x0, g2x1⟩ := F30 h2
  simp at e0 e1 e2
  exact ⟨by simp [e0, e1, e2], g1, g2x0, g2x1⟩

abbrev E22 : World → List Value → List (Bool × Int × (Int × ByteArray)) → Prop := ESlice 4 E35
theorem Op22 : Opens Try.prog 22 E22 := opens_slice Try.underlying22 4 (by kernel_rfl) Op35

abbrev E43 : World → List Value → List (Int × ByteArray) → Prop := ESlice 2 E30
theorem Op43 : Opens Try.prog 43 E43 := opens_slice Try.underlying43 2 (by kernel_rfl) Op30

abbrev E49 : World → List Value → List (Int) → Prop := ESlice 1 (EInt .u16)
theorem Op49 : Opens Try.prog 49 E49 := opens_slice Try.underlying49 1 (by kernel_rfl) (opens_int Try.underlying50)

end Go.Proofs.Ytlbfjmdemljmhaa
