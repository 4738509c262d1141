/-
  The anchor of chapter 4; the statements StyleLens and StyleSizes. No condition.
-/
import Derived.Test.YtedlfkklkoihjaaY1
set_option linter.unusedVariables false
set_option linter.unusedSimpArgs false
namespace Go.Proofs.Ytedlfkklkoihjaa
open Go.RowKit Go.BigFrame

theorem px_any (n : Int) (w : World) : Calls Try.prog 18 #[.int .i64 n] w fun e w' => e = .returned (.agg #[.int .u8 1, .int .i64 n]) ∧ Below w.heap.size w w' := by
  go_enter Try.func18, Try.ntmps18
  go_wp2_with fail
  refine bodyPost_ret (v := .agg #[.int .u8 1, .int .i64 n]) (by simp [results, Try.results18, go_sem]) rfl ⟨rfl, by (repeat' (first | (with_reducible exact Below.refl _ _) | (with_reducible assumption) | (with_reducible refine Below.alloc ?_ ?_ _) | (with_reducible refine Below.drew ?_) | (with_reducible refine Below_drewN ?_ _) | (with_reducible refine Below.setCell ?_ ?_ _) | go_size))⟩
theorem r1_any (w : World) : Calls Try.prog 10 #[.agg #[.int .u8 1, .bool false, .int .u8 0, .int .u8 0, .int .u8 0, .int .i64 0, .int .u8 0, .int .i64 0, .int .u8 0, .int .i64 0, .int .u8 0, .int .i64 0, .int .u8 0, .int .i64 0, .int .u8 0, .int .i64 0, .int .u8 0, .int .i64 0, .int .u8 0, .int .i64 0, .int .u8 0, .int .i64 0, .int .u8 0, .int .i64 0, .int .i64 0, .int .i64 0, .int .i64 0, .int .i64 0, .int .i64 0, .int .i64 0, .int .i64 0, .int .i64 0, .int .u8 0, .int .i64 0, .bool false, .int .u8 0, .int .u8 0, .int .i64 0, .int .i64 0, .int .i64 0, .int .u8 0, .int .i64 0, .slice none 0 0]] w fun e w' => e = .returned (.bool true) ∧ Below w.heap.size w w' :=
  sright_any ⟨1, false, 0, 0, (0, 0), (0, 0), (0, 0), (0, 0), (0, 0), (0, 0), (0, 0), (0, 0), (0, 0), (0, 0), 0, 0, 0, 0, 0, 0, 0, 0, 0, 0, false, 0, 0, 0, 0, 0, (0, 0), none, 0, []⟩ (by constructor <;> rfl) (by simp) w
theorem r3_any (w : World) : Calls Try.prog 10 #[.agg #[.int .u8 4, .bool false, .int .u8 0, .int .u8 0, .int .u8 0, .int .i64 0, .int .u8 0, .int .i64 0, .int .u8 0, .int .i64 0, .int .u8 0, .int .i64 0, .int .u8 0, .int .i64 0, .int .u8 0, .int .i64 0, .int .u8 0, .int .i64 0, .int .u8 0, .int .i64 0, .int .u8 0, .int .i64 0, .int .u8 0, .int .i64 0, .int .i64 0, .int .i64 0, .int .i64 0, .int .i64 0, .int .i64 0, .int .i64 0, .int .i64 0, .int .i64 0, .int .u8 0, .int .i64 0, .bool false, .int .u8 0, .int .u8 0, .int .i64 0, .int .i64 0, .int .i64 0, .int .u8 0, .int .i64 0, .slice none 0 0]] w fun e w' => e = .returned (.bool false) ∧ Below w.heap.size w w' :=
  sright_any ⟨4, false, 0, 0, (0, 0), (0, 0), (0, 0), (0, 0), (0, 0), (0, 0), (0, 0), (0, 0), (0, 0), (0, 0), 0, 0, 0, 0, 0, 0, 0, 0, 0, 0, false, 0, 0, 0, 0, 0, (0, 0), none, 0, []⟩ (by constructor <;> rfl) (by simp) w
theorem r4_any (w : World) : Calls Try.prog 10 #[.agg #[.int .u8 1, .bool false, .int .u8 0, .int .u8 0, .int .u8 1, .int .i64 (-1), .int .u8 0, .int .i64 0, .int .u8 0, .int .i64 0, .int .u8 0, .int .i64 0, .int .u8 0, .int .i64 0, .int .u8 0, .int .i64 0, .int .u8 0, .int .i64 0, .int .u8 0, .int .i64 0, .int .u8 0, .int .i64 0, .int .u8 0, .int .i64 0, .int .i64 0, .int .i64 0, .int .i64 0, .int .i64 0, .int .i64 0, .int .i64 0, .int .i64 0, .int .i64 0, .int .u8 0, .int .i64 0, .bool false, .int .u8 0, .int .u8 0, .int .i64 0, .int .i64 0, .int .i64 0, .int .u8 0, .int .i64 0, .slice none 0 0]] w fun e w' => e = .returned (.bool false) ∧ Below w.heap.size w w' :=
  sright_any ⟨1, false, 0, 0, (1, -1), (0, 0), (0, 0), (0, 0), (0, 0), (0, 0), (0, 0), (0, 0), (0, 0), (0, 0), 0, 0, 0, 0, 0, 0, 0, 0, 0, 0, false, 0, 0, 0, 0, 0, (0, 0), none, 0, []⟩ (by constructor <;> rfl) (by simp) w
theorem r2_any (A : Option Addr) (w : World) : Calls Try.prog 10 #[.agg #[.int .u8 3, .bool false, .int .u8 0, .int .u8 0, .int .u8 0, .int .i64 0, .int .u8 0, .int .i64 0, .int .u8 0, .int .i64 0, .int .u8 0, .int .i64 0, .int .u8 0, .int .i64 0, .int .u8 0, .int .i64 0, .int .u8 0, .int .i64 0, .int .u8 0, .int .i64 0, .int .u8 0, .int .i64 0, .int .u8 0, .int .i64 0, .int .i64 0, .int .i64 0, .int .i64 0, .int .i64 0, .int .i64 0, .int .i64 0, .int .i64 0, .int .i64 0, .int .u8 0, .int .i64 0, .bool false, .int .u8 0, .int .u8 0, .int .i64 0, .int .i64 0, .int .i64 0, .int .u8 0, .int .i64 0, .slice A 1 1]] w fun e w' => e = .returned (.bool true) ∧ Below w.heap.size w w' :=
  sright_any ⟨3, false, 0, 0, (0, 0), (0, 0), (0, 0), (0, 0), (0, 0), (0, 0), (0, 0), (0, 0), (0, 0), (0, 0), 0, 0, 0, 0, 0, 0, 0, 0, 0, 0, false, 0, 0, 0, 0, 0, (0, 0), A, 1, [97]⟩ (by constructor <;> rfl) (by simp [maxLen]) w
set_option maxRecDepth 20000 in
set_option maxHeartbeats 4000000 in
theorem works_any (w : World) : Calls Try.prog 9 #[] w fun e w' => e = .returned (.bool true) ∧ Below w.heap.size w w' := by
  have o1 := fun w => sof_any 2 5000 7 w (by decide) (by decide)
  have e1 : lnV (2, 5000) 7 = 3 := by decide
  have e2 : lnA (2, 5000) = false := by decide
  have e3 : lnB (2, 5000) 7 = false := by decide
  rw [e1, e2, e3] at o1
  have o2 := fun w => ssize_any 1 5 1 8 1 6 0 w (by decide) (by decide) (by decide) (by decide)
  have e4 : szV (1, 5) (1, 8) (1, 6) 0 = 8 := by decide
  have e5 : lnA (1, 5) = false := by decide
  have e6 : szB (1, 5) (1, 8) (1, 6) 0 = false := by decide
  rw [e4, e5, e6] at o2
  clear e1 e2 e3 e4 e5 e6
  have p1 := fun n w => px_any n w
  have q1 := r1_any
  have q2 := r2_any
  have q3 := r3_any
  have q4 := r4_any
  have hb := Below.refl w.heap.size w
  go_enter Try.func9, Try.ntmps9
  go_wp2_with (first | ((go_at_call 13; (with_reducible refine (o1 _).mono ?_)); rintro e w' ⟨rfl, h⟩; have hb := Below_then hb h (Nat.le_refl _)) | ((go_at_call 18; (with_reducible refine (p1 _ _).mono ?_)); rintro e w' ⟨rfl, h⟩; have hb := Below_then hb h (Nat.le_refl _)) | ((go_at_call 15; (with_reducible refine (o2 _).mono ?_)); rintro e w' ⟨rfl, h⟩; have hb := Below_then hb h (Nat.le_refl _)) | ((go_at_call 10; (with_reducible refine (q1 _).mono ?_)); rintro e w' ⟨rfl, h⟩; have hb := Below_then hb h (Nat.le_refl _)) | ((go_at_call 10; (with_reducible refine (q2 _ _).mono ?_)); rintro e w' ⟨rfl, h⟩; have hb := Below_then hb (Below_al h) (Nat.le_refl _)) | ((go_at_call 10; (with_reducible refine (q3 _).mono ?_)); rintro e w' ⟨rfl, h⟩; have hb := Below_then hb h (Nat.le_refl _)) | ((go_at_call 10; (with_reducible refine (q4 _).mono ?_)); rintro e w' ⟨rfl, h⟩; have hb := Below_then hb h (Nat.le_refl _)))
  go_ret
  exact ⟨rfl, hb⟩
set_option maxRecDepth 20000 in
set_option maxHeartbeats 4000000 in
theorem slens_any (k n ka na kb nb z : Int) (w : World) (hn : (Lit.int .i64 n).wf = true) (hna : (Lit.int .i64 na).wf = true) (hnb : (Lit.int .i64 nb).wf = true) (hz : (Lit.int .i64 z).wf = true) :
    Calls Try.prog 4 #[.agg #[.int .u8 k, .int .i64 n], .agg #[.int .u8 ka, .int .i64 na], .agg #[.int .u8 kb, .int .i64 nb], .int .i64 z] w fun e w' => e = .returned (.bool true) ∧ Below w.heap.size w w' := by
  have hX := Blk_alloc (Blk_alloc (Blk_new w 23 #[.int .u8 k, .int .i64 n]) (.cells #[.int .u8 ka, .int .i64 na] 23)) (.cells #[.int .u8 kb, .int .i64 nb] 23)
  have hY := Blk_alloc (Blk_new (w.alloc (.cells #[.int .u8 k, .int .i64 n] 23)) 23 #[.int .u8 ka, .int .i64 na]) (.cells #[.int .u8 kb, .int .i64 nb] 23)
  have hZ := Blk_new ((w.alloc (.cells #[.int .u8 k, .int .i64 n] 23)).alloc (.cells #[.int .u8 ka, .int .i64 na] 23)) 23 #[.int .u8 kb, .int .i64 nb]
  have hb : Below w.heap.size w (((w.alloc (.cells #[.int .u8 k, .int .i64 n] 23)).alloc (.cells #[.int .u8 ka, .int .i64 na] 23)).alloc (.cells #[.int .u8 kb, .int .i64 nb] 23)) := by (repeat' (first | (with_reducible exact Below.refl _ _) | (with_reducible assumption) | (with_reducible refine Below.alloc ?_ ?_ _) | (with_reducible refine Below.drew ?_) | (with_reducible refine Below_drewN ?_ _) | (with_reducible refine Below.setCell ?_ ?_ _) | go_size))
  simp only [World.size_alloc] at hX hY hZ
  have hkw := works_any
  have o1 := fun w => sof_any k n z w hn hz
  have o2 := fun w => rof_any k n z w hn hz
  have o3 := fun w => ssize_any k n ka na kb nb z w hn hna hnb hz
  have o4 := fun w => rsize_any k n ka na kb nb z w hn hna hnb hz
  generalize lnV (k, n) z = V1 at *
  generalize lnB (k, n) z = B1 at *
  generalize lnA (k, n) = A1 at *
  generalize szV (k, n) (ka, na) (kb, nb) z = V2 at *
  generalize szB (k, n) (ka, na) (kb, nb) z = B2 at *
  go_enter Try.func4, Try.ntmps4
  go_wp2_with (first | ((go_at_call 13; (with_reducible refine (o1 _).mono ?_)); rintro e w' ⟨rfl, h⟩; (have hX := Blk_below hX h (Blk_lt hX); have hY := Blk_below hY h (Blk_lt hY); have hZ := Blk_below hZ h (Blk_lt hZ); have hb := Below_then hb h (Nat.le_refl _); have x0 := Blk_cell hX 0; have x1 := Blk_cell hX 1; have y0 := Blk_cell hY 0; have y1 := Blk_cell hY 1; have z0 := Blk_cell hZ 0; have z1 := Blk_cell hZ 1)) | ((go_at_call 14; (with_reducible refine (o2 _).mono ?_)); rintro e w' ⟨rfl, h⟩; (have hX := Blk_below hX h (Blk_lt hX); have hY := Blk_below hY h (Blk_lt hY); have hZ := Blk_below hZ h (Blk_lt hZ); have hb := Below_then hb h (Nat.le_refl _); have x0 := Blk_cell hX 0; have x1 := Blk_cell hX 1; have y0 := Blk_cell hY 0; have y1 := Blk_cell hY 1; have z0 := Blk_cell hZ 0; have z1 := Blk_cell hZ 1)) | ((go_at_call 15; (with_reducible refine (o3 _).mono ?_)); rintro e w' ⟨rfl, h⟩; (have hX := Blk_below hX h (Blk_lt hX); have hY := Blk_below hY h (Blk_lt hY); have hZ := Blk_below hZ h (Blk_lt hZ); have hb := Below_then hb h (Nat.le_refl _); have x0 := Blk_cell hX 0; have x1 := Blk_cell hX 1; have y0 := Blk_cell hY 0; have y1 := Blk_cell hY 1; have z0 := Blk_cell hZ 0; have z1 := Blk_cell hZ 1)) | ((go_at_call 16; (with_reducible refine (o4 _).mono ?_)); rintro e w' ⟨rfl, h⟩; (have hX := Blk_below hX h (Blk_lt hX); have hY := Blk_below hY h (Blk_lt hY); have hZ := Blk_below hZ h (Blk_lt hZ); have hb := Below_then hb h (Nat.le_refl _); have x0 := Blk_cell hX 0; have x1 := Blk_cell hX 1; have y0 := Blk_cell hY 0; have y1 := Blk_cell hY 1; have z0 := Blk_cell hZ 0; have z1 := Blk_cell hZ 1)) | ((go_at_call 9; (with_reducible refine (hkw _).mono ?_)); rintro e w' ⟨rfl, h⟩; have hb := Below_then hb h (Nat.le_refl _)))
  go_ret
  exact ⟨rfl, hb⟩
end Go.Proofs.Ytedlfkklkoihjaa
