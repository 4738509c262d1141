/-
  What a reading of each parameter's type says. Written by a program of mine. No condition.
-/
import Derived.Test.YtedlfkklkoihjaaCom
namespace Go.Proofs.Ytedlfkklkoihjaa
open Go.RowKit Go.ChangeShapes Go.WideShapes

def E23 : World → List Value → (Int × Int) → Prop := fun w cs a => cs.length = 2 ∧ (EInt .u8) w ((cs.drop 0).take 1) a.1 ∧ (EInt .i64) w ((cs.drop 1).take 1) a.2
theorem Op23 : Opens Try.prog 23 E23 := by
  intro H enc w fuel cs x h
  obtain ⟨xs, n, _, rfl, hl, hlen, hf⟩ := DataW.trod_struct Try.underlying23 h
  rw [show Try.prog.cellsOf 23 = 2 from by kernel_rfl] at hl
  match xs, hlen with
  | [y0, y1], _ =>
  have g0 : DataW.trod enc Try.prog w 0 (fun _ => true) true n 5 ((cs.drop 0).take 1) = some y0 := by
    have q : Try.prog.cellsOf 5 = 1 := by kernel_rfl
    exact field_of rfl rfl q (hf 0 _ rfl)
  obtain ⟨a0, h0⟩ := (opens_int Try.underlying5) enc w n _ _ g0
  have g1 : DataW.trod enc Try.prog w 0 (fun _ => true) true n 2 ((cs.drop 1).take 1) = some y1 := by
    have q : Try.prog.cellsOf 2 = 1 := by kernel_rfl
    exact field_of rfl rfl q (hf 1 _ rfl)
  obtain ⟨a1, h1⟩ := (opens_int Try.underlying2) enc w n _ _ g1
  exact ⟨(a0, a1), hl, h0, h1⟩
/-- Its cells, written out. -/
theorem F23 {w : World} {cs : List Value} {a : Int × Int} (h : E23 w cs a) : cs = [.int .u8 a.1, .int .i64 a.2] ∧ (Lit.int .u8 a.1).wf = true ∧ (Lit.int .i64 a.2).wf = true := by
  unfold E23 at h
  obtain ⟨hl, h0, h1⟩ := h
  match cs, hl with
  | [c0, c1], _ =>
  obtain ⟨e0, g0⟩ := h0
  obtain ⟨e1, g1⟩ := h1
  simp at e0 e1
  exact ⟨by simp [e0, e1], g0, g1⟩

def E24 : World → List Value → ((Int × Int) × (Int × Int) × (Int × Int) × (Int × Int)) → Prop := fun w cs a => cs.length = 8 ∧ E23 w ((cs.drop 0).take 2) a.1 ∧ E23 w ((cs.drop 2).take 2) a.2.1 ∧ E23 w ((cs.drop 4).take 2) a.2.2.1 ∧ E23 w ((cs.drop 6).take 2) a.2.2.2
theorem Op24 : Opens Try.prog 24 E24 := by
  intro H enc w fuel cs x h
  obtain ⟨xs, n, _, rfl, hl, hlen, hf⟩ := DataW.trod_array Try.underlying24 h
  rw [show Try.prog.cellsOf 24 = 8 from by kernel_rfl] at hl
  match xs, hlen with
  | [y0, y1, y2, y3], _ =>
  have g0 : DataW.trod enc Try.prog w 0 (fun _ => true) true n 23 ((cs.drop 0).take 2) = some y0 := by
    have q : Try.prog.cellsOf 23 = 2 := by kernel_rfl
    have := hf 0 (by omega)
    rw [q] at this
    exact this
  obtain ⟨a0, h0⟩ := Op23 enc w n _ _ g0
  have g1 : DataW.trod enc Try.prog w 0 (fun _ => true) true n 23 ((cs.drop 2).take 2) = some y1 := by
    have q : Try.prog.cellsOf 23 = 2 := by kernel_rfl
    have := hf 1 (by omega)
    rw [q] at this
    exact this
  obtain ⟨a1, h1⟩ := Op23 enc w n _ _ g1
  have g2 : DataW.trod enc Try.prog w 0 (fun _ => true) true n 23 ((cs.drop 4).take 2) = some y2 := by
    have q : Try.prog.cellsOf 23 = 2 := by kernel_rfl
    have := hf 2 (by omega)
    rw [q] at this
    exact this
  obtain ⟨a2, h2⟩ := Op23 enc w n _ _ g2
  have g3 : DataW.trod enc Try.prog w 0 (fun _ => true) true n 23 ((cs.drop 6).take 2) = some y3 := by
    have q : Try.prog.cellsOf 23 = 2 := by kernel_rfl
    have := hf 3 (by omega)
    rw [q] at this
    exact this
  obtain ⟨a3, h3⟩ := Op23 enc w n _ _ g3
  exact ⟨(a0, a1, a2, a3), hl, h0, h1, h2, h3⟩
/-- Its cells, written out. -/
theorem F24 {w : World} {cs : List Value} {a : (Int × Int) × (Int × Int) × (Int × Int) × (Int × Int)} (h : E24 w cs a) : cs = [.int .u8 a.1.1, .int .i64 a.1.2, .int .u8 a.2.1.1, .int .i64 a.2.1.2, .int .u8 a.2.2.1.1, .int .i64 a.2.2.1.2, .int .u8 a.2.2.2.1, .int .i64 a.2.2.2.2] ∧ (Lit.int .u8 a.1.1).wf = true ∧ (Lit.int .i64 a.1.2).wf = true ∧ (Lit.int .u8 a.2.1.1).wf = true ∧ (Lit.int .i64 a.2.1.2).wf = true ∧ (Lit.int .u8 a.2.2.1.1).wf = true ∧ (Lit.int .i64 a.2.2.1.2).wf = true ∧ (Lit.int .u8 a.2.2.2.1).wf = true ∧ (Lit.int .i64 a.2.2.2.2).wf = true := by
  unfold E24 at h
  obtain ⟨hl, h0, h1, h2, h3⟩ := h
  match cs, hl with
  | [c0, c1, c2, c3, c4, c5, c6, c7], _ =>
  obtain ⟨e0, g0x0, g0x1⟩ := F23 h0
  obtain ⟨e1, g1x0, g1x1⟩ := F23 h1
  obtain ⟨e2, g2x0, g2x1⟩ := F23 h2
  obtain ⟨e3, g3x0, g3x1⟩ := F23 h3
  simp at e0 e1 e2 e3
  exact ⟨by simp [e0, e1, e2, e3], g0x0, g0x1, g1x0, g1x1, g2x0, g2x1, g3x0, g3x1⟩

def E25 : World → List Value → (Int × Int × Int × Int) → Prop := fun w cs a => cs.length = 4 ∧ (EInt .i64) w ((cs.drop 0).take 1) a.1 ∧ (EInt .i64) w ((cs.drop 1).take 1) a.2.1 ∧ (EInt .i64) w ((cs.drop 2).take 1) a.2.2.1 ∧ (EInt .i64) w ((cs.drop 3).take 1) a.2.2.2
theorem Op25 : Opens Try.prog 25 E25 := by
  intro H enc w fuel cs x h
  obtain ⟨xs, n, _, rfl, hl, hlen, hf⟩ := DataW.trod_array Try.underlying25 h
  rw [show Try.prog.cellsOf 25 = 4 from by kernel_rfl] at hl
  match xs, hlen with
  | [y0, y1, y2, y3], _ =>
  have g0 : DataW.trod enc Try.prog w 0 (fun _ => true) true n 2 ((cs.drop 0).take 1) = some y0 := by
    have q : Try.prog.cellsOf 2 = 1 := by kernel_rfl
    have := hf 0 (by omega)
    rw [q] at this
    exact this
  obtain ⟨a0, h0⟩ := (opens_int Try.underlying2) enc w n _ _ g0
  have g1 : DataW.trod enc Try.prog w 0 (fun _ => true) true n 2 ((cs.drop 1).take 1) = some y1 := by
    have q : Try.prog.cellsOf 2 = 1 := by kernel_rfl
    have := hf 1 (by omega)
    rw [q] at this
    exact this
  obtain ⟨a1, h1⟩ := (opens_int Try.underlying2) enc w n _ _ g1
  have g2 : DataW.trod enc Try.prog w 0 (fun _ => true) true n 2 ((cs.drop 2).take 1) = some y2 := by
    have q : Try.prog.cellsOf 2 = 1 := by kernel_rfl
    have := hf 2 (by omega)
    rw [q] at this
    exact this
  obtain ⟨a2, h2⟩ := (opens_int Try.underlying2) enc w n _ _ g2
  have g3 : DataW.trod enc Try.prog w 0 (fun _ => true) true n 2 ((cs.drop 3).take 1) = some y3 := by
    have q : Try.prog.cellsOf 2 = 1 := by kernel_rfl
    have := hf 3 (by omega)
    rw [q] at this
    exact this
  obtain ⟨a3, h3⟩ := (opens_int Try.underlying2) enc w n _ _ g3
  exact ⟨(a0, a1, a2, a3), hl, h0, h1, h2, h3⟩
/-- Its cells, written out. -/
theorem F25 {w : World} {cs : List Value} {a : Int × Int × Int × Int} (h : E25 w cs a) : cs = [.int .i64 a.1, .int .i64 a.2.1, .int .i64 a.2.2.1, .int .i64 a.2.2.2] ∧ (Lit.int .i64 a.1).wf = true ∧ (Lit.int .i64 a.2.1).wf = true ∧ (Lit.int .i64 a.2.2.1).wf = true ∧ (Lit.int .i64 a.2.2.2).wf = true := by
  unfold E25 at h
  obtain ⟨hl, h0, h1, h2, h3⟩ := h
  match cs, hl with
  | [c0, c1, c2, c3], _ =>
  obtain ⟨e0, g0⟩ := h0
  obtain ⟨e1, g1⟩ := h1
  obtain ⟨e2, g2⟩ := h2
  obtain ⟨e3, g3⟩ := h3
  simp at e0 e1 e2 e3
  exact ⟨by simp [e0, e1, e2, e3], g0, g1, g2, g3⟩

abbrev E26 : World → List Value → List (Int) → Prop := ESlice 1 (EInt .u16)
theorem Op26 : Opens Try.prog 26 E26 := opens_slice Try.underlying26 1 (by kernel_rfl) (opens_int Try.underlying36)

def E28 : World → List Value → (Int × Bool × Int × Int × (Int × Int) × (Int × Int) × (Int × Int) × (Int × Int) × (Int × Int) × (Int × Int) × ((Int × Int) × (Int × Int) × (Int × Int) × (Int × Int)) × (Int × Int × Int × Int) × (Int × Int × Int × Int) × Int × Int × Bool × Int × Int × Int × Int × Int × (Int × Int) × (List (Int))) → Prop := fun w cs a => cs.length = 43 ∧ (EInt .u8) w ((cs.drop 0).take 1) a.1 ∧ EBool w ((cs.drop 1).take 1) a.2.1 ∧ (EInt .u8) w ((cs.drop 2).take 1) a.2.2.1 ∧ (EInt .u8) w ((cs.drop 3).take 1) a.2.2.2.1 ∧ E23 w ((cs.drop 4).take 2) a.2.2.2.2.1 ∧ E23 w ((cs.drop 6).take 2) a.2.2.2.2.2.1 ∧ E23 w ((cs.drop 8).take 2) a.2.2.2.2.2.2.1 ∧ E23 w ((cs.drop 10).take 2) a.2.2.2.2.2.2.2.1 ∧ E23 w ((cs.drop 12).take 2) a.2.2.2.2.2.2.2.2.1 ∧ E23 w ((cs.drop 14).take 2) a.2.2.2.2.2.2.2.2.2.1 ∧ E24 w ((cs.drop 16).take 8) a.2.2.2.2.2.2.2.2.2.2.1 ∧ E25 w ((cs.drop 24).take 4) a.2.2.2.2.2.2.2.2.2.2.2.1 ∧ E25 w ((cs.drop 28).take 4) a.2.2.2.2.2.2.2.2.2.2.2.2.1 ∧ (EInt .u8) w ((cs.drop 32).take 1) a.2.2.2.2.2.2.2.2.2.2.2.2.2.1 ∧ (EInt .i64) w ((cs.drop 33).take 1) a.2.2.2.2.2.2.2.2.2.2.2.2.2.2.1 ∧ EBool w ((cs.drop 34).take 1) a.2.2.2.2.2.2.2.2.2.2.2.2.2.2.2.1 ∧ (EInt .u8) w ((cs.drop 35).take 1) a.2.2.2.2.2.2.2.2.2.2.2.2.2.2.2.2.1 ∧ (EInt .u8) w ((cs.drop 36).take 1) a.2.2.2.2.2.2.2.2.2.2.2.2.2.2.2.2.2.1 ∧ (EInt .i64) w ((cs.drop 37).take 1) a.2.2.2.2.2.2.2.2.2.2.2.2.2.2.2.2.2.2.1 ∧ (EInt .i64) w ((cs.drop 38).take 1) a.2.2.2.2.2.2.2.2.2.2.2.2.2.2.2.2.2.2.2.1 ∧ (EInt .i64) w ((cs.drop 39).take 1) a.2.2.2.2.2.2.2.2.2.2.2.2.2.2.2.2.2.2.2.2.1 ∧ E23 w ((cs.drop 40).take 2) a.2.2.2.2.2.2.2.2.2.2.2.2.2.2.2.2.2.2.2.2.2.1 ∧ E26 w ((cs.drop 42).take 1) a.2.2.2.2.2.2.2.2.2.2.2.2.2.2.2.2.2.2.2.2.2.2
theorem Op28 : Opens Try.prog 28 E28 := by
  intro H enc w fuel cs x h
  obtain ⟨xs, n, _, rfl, hl, hlen, hf⟩ := DataW.trod_struct Try.underlying28 h
  rw [show Try.prog.cellsOf 28 = 43 from by kernel_rfl] at hl
  match xs, hlen with
  | [y0, y1, y2, y3, y4, y5, y6, y7, y8, y9, y10, y11, y12, y13, y14, y15, y16, y17, y18, y19, y20, y21, y22], _ =>
  have g0 : DataW.trod enc Try.prog w 0 (fun _ => true) true n 5 ((cs.drop 0).take 1) = some y0 := by
    have q : Try.prog.cellsOf 5 = 1 := by kernel_rfl
    exact field_of rfl rfl q (hf 0 _ rfl)
  obtain ⟨a0, h0⟩ := (opens_int Try.underlying5) enc w n _ _ g0
  have g1 : DataW.trod enc Try.prog w 0 (fun _ => true) true n 4 ((cs.drop 1).take 1) = some y1 := by
    have q : Try.prog.cellsOf 4 = 1 := by kernel_rfl
    exact field_of rfl rfl q (hf 1 _ rfl)
  obtain ⟨a1, h1⟩ := (opens_bool Try.underlying4) enc w n _ _ g1
  have g2 : DataW.trod enc Try.prog w 0 (fun _ => true) true n 5 ((cs.drop 2).take 1) = some y2 := by
    have q : Try.prog.cellsOf 5 = 1 := by kernel_rfl
    exact field_of rfl rfl q (hf 2 _ rfl)
  obtain ⟨a2, h2⟩ := (opens_int Try.underlying5) enc w n _ _ g2
  have g3 : DataW.trod enc Try.prog w 0 (fun _ => true) true n 5 ((cs.drop 3).take 1) = some y3 := by
    have q : Try.prog.cellsOf 5 = 1 := by kernel_rfl
    exact field_of rfl rfl q (hf 3 _ rfl)
  obtain ⟨a3, h3⟩ := (opens_int Try.underlying5) enc w n _ _ g3
  have g4 : DataW.trod enc Try.prog w 0 (fun _ => true) true n 23 ((cs.drop 4).take 2) = some y4 := by
    have q : Try.prog.cellsOf 23 = 2 := by kernel_rfl
    exact field_of rfl rfl q (hf 4 _ rfl)
  obtain ⟨a4, h4⟩ := Op23 enc w n _ _ g4
  have g5 : DataW.trod enc Try.prog w 0 (fun _ => true) true n 23 ((cs.drop 6).take 2) = some y5 := by
    have q : Try.prog.cellsOf 23 = 2 := by kernel_rfl
    exact field_of rfl rfl q (hf 5 _ rfl)
  obtain ⟨a5, h5⟩ := Op23 enc w n _ _ g5
  have g6 : DataW.trod enc Try.prog w 0 (fun _ => true) true n 23 ((cs.drop 8).take 2) = some y6 := by
    have q : Try.prog.cellsOf 23 = 2 := by kernel_rfl
    exact field_of rfl rfl q (hf 6 _ rfl)
  obtain ⟨a6, h6⟩ := Op23 enc w n _ _ g6
  have g7 : DataW.trod enc Try.prog w 0 (fun _ => true) true n 23 ((cs.drop 10).take 2) = some y7 := by
    have q : Try.prog.cellsOf 23 = 2 := by kernel_rfl
    exact field_of rfl rfl q (hf 7 _ rfl)
  obtain ⟨a7, h7⟩ := Op23 enc w n _ _ g7
  have g8 : DataW.trod enc Try.prog w 0 (fun _ => true) true n 23 ((cs.drop 12).take 2) = some y8 := by
    have q : Try.prog.cellsOf 23 = 2 := by kernel_rfl
    exact field_of rfl rfl q (hf 8 _ rfl)
  obtain ⟨a8, h8⟩ := Op23 enc w n _ _ g8
  have g9 : DataW.trod enc Try.prog w 0 (fun _ => true) true n 23 ((cs.drop 14).take 2) = some y9 := by
    have q : Try.prog.cellsOf 23 = 2 := by kernel_rfl
    exact field_of rfl rfl q (hf 9 _ rfl)
  obtain ⟨a9, h9⟩ := Op23 enc w n _ _ g9
  have g10 : DataW.trod enc Try.prog w 0 (fun _ => true) true n 24 ((cs.drop 16).take 8) = some y10 := by
    have q : Try.prog.cellsOf 24 = 8 := by kernel_rfl
    exact field_of rfl rfl q (hf 10 _ rfl)
  obtain ⟨a10, h10⟩ := Op24 enc w n _ _ g10
  have g11 : DataW.trod enc Try.prog w 0 (fun _ => true) true n 25 ((cs.drop 24).take 4) = some y11 := by
    have q : Try.prog.cellsOf 25 = 4 := by kernel_rfl
    exact field_of rfl rfl q (hf 11 _ rfl)
  obtain ⟨a11, h11⟩ := Op25 enc w n _ _ g11
  have g12 : DataW.trod enc Try.prog w 0 (fun _ => true) true n 25 ((cs.drop 28).take 4) = some y12 := by
    have q : Try.prog.cellsOf 25 = 4 := by kernel_rfl
    exact field_of rfl rfl q (hf 12 _ rfl)
  obtain ⟨a12, h12⟩ := Op25 enc w n _ _ g12
  have g13 : DataW.trod enc Try.prog w 0 (fun _ => true) true n 5 ((cs.drop 32).take 1) = some y13 := by
    have q : Try.prog.cellsOf 5 = 1 := by kernel_rfl
    exact field_of rfl rfl q (hf 13 _ rfl)
  obtain ⟨a13, h13⟩ := (opens_int Try.underlying5) enc w n _ _ g13
  have g14 : DataW.trod enc Try.prog w 0 (fun _ => true) true n 2 ((cs.drop 33).take 1) = some y14 := by
    have q : Try.prog.cellsOf 2 = 1 := by kernel_rfl
    exact field_of rfl rfl q (hf 14 _ rfl)
  obtain ⟨a14, h14⟩ := (opens_int Try.underlying2) enc w n _ _ g14
  have g15 : DataW.trod enc Try.prog w 0 (fun _ => true) true n 4 ((cs.drop 34).take 1) = some y15 := by
    have q : Try.prog.cellsOf 4 = 1 := by kernel_rfl
    exact field_of rfl rfl q (hf 15 _ rfl)
  obtain ⟨a15, h15⟩ := (opens_bool Try.underlying4) enc w n _ _ g15
  have g16 : DataW.trod enc Try.prog w 0 (fun _ => true) true n 5 ((cs.drop 35).take 1) = some y16 := by
    have q : Try.prog.cellsOf 5 = 1 := by kernel_rfl
    exact field_of rfl rfl q (hf 16 _ rfl)
  obtain ⟨a16, h16⟩ := (opens_int Try.underlying5) enc w n _ _ g16
  have g17 : DataW.trod enc Try.prog w 0 (fun _ => true) true n 5 ((cs.drop 36).take 1) = some y17 := by
    have q : Try.prog.cellsOf 5 = 1 := by kernel_rfl
    exact field_of rfl rfl q (hf 17 _ rfl)
  obtain ⟨a17, h17⟩ := (opens_int Try.underlying5) enc w n _ _ g17
  have g18 : DataW.trod enc Try.prog w 0 (fun _ => true) true n 3 ((cs.drop 37).take 1) = some y18 := by
    have q : Try.prog.cellsOf 3 = 1 := by kernel_rfl
    exact field_of rfl rfl q (hf 18 _ rfl)
  obtain ⟨a18, h18⟩ := (opens_int Try.underlying3) enc w n _ _ g18
  have g19 : DataW.trod enc Try.prog w 0 (fun _ => true) true n 2 ((cs.drop 38).take 1) = some y19 := by
    have q : Try.prog.cellsOf 2 = 1 := by kernel_rfl
    exact field_of rfl rfl q (hf 19 _ rfl)
  obtain ⟨a19, h19⟩ := (opens_int Try.underlying2) enc w n _ _ g19
  have g20 : DataW.trod enc Try.prog w 0 (fun _ => true) true n 2 ((cs.drop 39).take 1) = some y20 := by
    have q : Try.prog.cellsOf 2 = 1 := by kernel_rfl
    exact field_of rfl rfl q (hf 20 _ rfl)
  obtain ⟨a20, h20⟩ := (opens_int Try.underlying2) enc w n _ _ g20
  have g21 : DataW.trod enc Try.prog w 0 (fun _ => true) true n 23 ((cs.drop 40).take 2) = some y21 := by
    have q : Try.prog.cellsOf 23 = 2 := by kernel_rfl
    exact field_of rfl rfl q (hf 21 _ rfl)
  obtain ⟨a21, h21⟩ := Op23 enc w n _ _ g21
  have g22 : DataW.trod enc Try.prog w 0 (fun _ => true) true n 26 ((cs.drop 42).take 1) = some y22 := by
    have q : Try.prog.cellsOf 26 = 1 := by kernel_rfl
    exact field_of rfl rfl q (hf 22 _ rfl)
  obtain ⟨a22, h22⟩ := Op26 enc w n _ _ g22
  exact ⟨(a0, a1, a2, a3, a4, a5, a6, a7, a8, a9, a10, a11, a12, a13, a14, a15, a16, a17, a18, a19, a20, a21, a22), hl, h0, h1, h2, h3, h4, h5, h6, h7, h8, h9, h10, h11, h12, h13, h14, h15, h16, h17, h18, h19, h20, h21, h22⟩

end Go.Proofs.Ytedlfkklkoihjaa
