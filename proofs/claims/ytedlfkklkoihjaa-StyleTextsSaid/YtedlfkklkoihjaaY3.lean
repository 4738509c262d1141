/-
  StyleSizes; the statements as the frames take them. No condition.
-/
import Derived.Test.YtedlfkklkoihjaaY2
set_option linter.unusedVariables false
set_option linter.unusedSimpArgs false
namespace Go.Proofs.Ytedlfkklkoihjaa
open Go.RowKit Go.BigFrame

theorem i64_wf3 {n : Int} (h : -9223372036854775808 ≤ n ∧ n ≤ 9223372036854775807) : (Lit.int .i64 n).wf = true := by
  simp [Lit.wf, IntKind.min, IntKind.max, IntKind.signed, IntKind.bits]
  omega
theorem cutV_le (s : Int) : -1099511627776 ≤ cutV s ∧ cutV s ≤ 1099511627776 := by unfold cutV; omega
theorem lnV_le (l : Int × Int) (z : Int) : -1099511627776 ≤ lnV l z ∧ lnV l z ≤ 1099511627776 := by
  unfold lnV
  split
  · exact cutV_le _
  · split
    · exact cutV_le _
    · omega
theorem cutV_mono {s t : Int} (h : s ≤ t) : cutV s ≤ cutV t := by unfold cutV; omega
theorem lnV_mono {k n m z : Int} (hz : 0 ≤ z) (h : n ≤ m) : lnV (k, n) z ≤ lnV (k, m) z := by
  unfold lnV
  simp only []
  split
  · exact cutV_mono h
  · split
    · apply cutV_mono
      have := Int.mul_le_mul_of_nonneg_left h hz
      unfold fl
      first | exact Int.ediv_le_ediv (by omega) this | exact Int.fdiv_le_fdiv (by omega) this | omega
    · omega
theorem sz_facts (l a b : Int × Int) (z : Int) (h : lnA l = false) :
    (-1099511627776 ≤ szV l a b z ∧ szV l a b z ≤ 1099511627776) ∧ lnV a z ≤ szV l a b z ∧ (lnA b = false → lnV a z < szV l a b z → szV l a b z ≤ lnV b z) := by
  have h1 := lnV_le l z
  have h2 := lnV_le a z
  have h3 := lnV_le b z
  unfold szV
  rw [h]
  simp only [Bool.false_eq_true, if_false]
  split
  · rename_i hb
    refine ⟨by omega, by omega, fun hb' => by rw [hb] at hb'; cases hb'⟩
  · refine ⟨by omega, by omega, fun _ h => by omega⟩
theorem sz_mono {k n m : Int} (a b : Int × Int) {z : Int} (hz : 0 ≤ z) (h : n ≤ m) (ha : lnA (k, n) = false) : szV (k, n) a b z ≤ szV (k, m) a b z := by
  have h1 := lnV_mono (k := k) hz h
  have h2 : lnA (k, m) = false := ha
  unfold szV
  rw [ha, h2]
  simp only [Bool.false_eq_true, if_false]
  split <;> omega
set_option maxRecDepth 20000 in
set_option maxHeartbeats 8000000 in
theorem ssizes_any (k n ka na kb nb z m : Int) (w : World) (hn : (Lit.int .i64 n).wf = true) (hna : (Lit.int .i64 na).wf = true) (hnb : (Lit.int .i64 nb).wf = true) (hz : (Lit.int .i64 z).wf = true) (hm : 0 ≤ m ∧ m ≤ 65535) :
    Calls Try.prog 5 #[.agg #[.int .u8 k, .int .i64 n], .agg #[.int .u8 ka, .int .i64 na], .agg #[.int .u8 kb, .int .i64 nb], .int .i64 z, .int .u16 m] w fun e w' => e = .returned (.bool true) ∧ Below w.heap.size w w' := by
  have hX := Blk_alloc (Blk_alloc (Blk_new w 23 #[.int .u8 k, .int .i64 n]) (.cells #[.int .u8 ka, .int .i64 na] 23)) (.cells #[.int .u8 kb, .int .i64 nb] 23)
  have hY := Blk_alloc (Blk_new (w.alloc (.cells #[.int .u8 k, .int .i64 n] 23)) 23 #[.int .u8 ka, .int .i64 na]) (.cells #[.int .u8 kb, .int .i64 nb] 23)
  have hZ := Blk_new ((w.alloc (.cells #[.int .u8 k, .int .i64 n] 23)).alloc (.cells #[.int .u8 ka, .int .i64 na] 23)) 23 #[.int .u8 kb, .int .i64 nb]
  have hb : Below w.heap.size w (((w.alloc (.cells #[.int .u8 k, .int .i64 n] 23)).alloc (.cells #[.int .u8 ka, .int .i64 na] 23)).alloc (.cells #[.int .u8 kb, .int .i64 nb] 23)) := by (repeat' (first | (with_reducible exact Below.refl _ _) | (with_reducible assumption) | (with_reducible refine Below.alloc ?_ ?_ _) | (with_reducible refine Below.drew ?_) | (with_reducible refine Below_drewN ?_ _) | (with_reducible refine Below.setCell ?_ ?_ _) | go_size))
  simp only [World.size_alloc] at hX hY hZ
  have hkw := works_any
  have o1 := fun w => sof_any ka na z w hna hz
  have o2 := fun w => sof_any kb nb z w hnb hz
  have o3 := fun w => ssize_any k n ka na kb nb z w hn hna hnb hz
  have hin := i64_wf hn
  cases q : lnA (k, n)
  case true =>
    have hv : szV (k, n) (ka, na) (kb, nb) z = 0 := by unfold szV; rw [if_pos q]
    rw [hv, q] at o3
    clear hv q
    go_enter Try.func5, Try.ntmps5
    go_wp2_with (first | ((go_at_call 15; (with_reducible refine (o3 _).mono ?_)); rintro e w' ⟨rfl, h⟩; (have hX := Blk_below hX h (Blk_lt hX); have hY := Blk_below hY h (Blk_lt hY); have hZ := Blk_below hZ h (Blk_lt hZ); have hb := Below_then hb h (Nat.le_refl _); have x0 := Blk_cell hX 0; have x1 := Blk_cell hX 1; have y0 := Blk_cell hY 0; have y1 := Blk_cell hY 1; have z0 := Blk_cell hZ 0; have z1 := Blk_cell hZ 1; have fx := Blk_frozen hX 1)) | ((go_at_call 13; (with_reducible refine (o1 _).mono ?_)); rintro e w' ⟨rfl, h⟩; (have hX := Blk_below hX h (Blk_lt hX); have hY := Blk_below hY h (Blk_lt hY); have hZ := Blk_below hZ h (Blk_lt hZ); have hb := Below_then hb h (Nat.le_refl _); have x0 := Blk_cell hX 0; have x1 := Blk_cell hX 1; have y0 := Blk_cell hY 0; have y1 := Blk_cell hY 1; have z0 := Blk_cell hZ 0; have z1 := Blk_cell hZ 1; have fx := Blk_frozen hX 1)) | ((go_at_call 13; (with_reducible refine (o2 _).mono ?_)); rintro e w' ⟨rfl, h⟩; (have hX := Blk_below hX h (Blk_lt hX); have hY := Blk_below hY h (Blk_lt hY); have hZ := Blk_below hZ h (Blk_lt hZ); have hb := Below_then hb h (Nat.le_refl _); have x0 := Blk_cell hX 0; have x1 := Blk_cell hX 1; have y0 := Blk_cell hY 0; have y1 := Blk_cell hY 1; have z0 := Blk_cell hZ 0; have z1 := Blk_cell hZ 1; have fx := Blk_frozen hX 1)) | ((go_at_call 9; (with_reducible refine (hkw _).mono ?_)); rintro e w' ⟨rfl, h⟩; have hb := Below_then hb h (Nat.le_refl _)))
    go_ret
    exact ⟨rfl, hb⟩
  case false =>
    obtain ⟨⟨f1, f2⟩, f3, f4⟩ := sz_facts (k, n) (ka, na) (kb, nb) z q
    have hmo := fun (hz : 0 ≤ z) => sz_mono (k := k) (n := n) (m := n + m) (ka, na) (kb, nb) hz (by omega) q
    have o4 := fun (h : n ≤ 4611686018427387904) w => ssize_any k (n + m) ka na kb nb z w (i64_wf3 (by omega)) hna hnb hz
    have q2 : lnA (k, n + m) = false := q
    rw [q] at o3
    rw [q2] at o4
    clear q q2
    generalize szV (k, n) (ka, na) (kb, nb) z = V at *
    generalize szB (k, n) (ka, na) (kb, nb) z = B at *
    generalize szV (k, n + m) (ka, na) (kb, nb) z = V' at *
    generalize szB (k, n + m) (ka, na) (kb, nb) z = B' at *
    generalize lnV (ka, na) z = Va at *
    generalize lnV (kb, nb) z = Vb at *
    generalize lnB (ka, na) z = Ba at *
    generalize lnB (kb, nb) z = Bb at *
    generalize lnA (ka, na) = Aa at *
    obtain ⟨Ab, hAb⟩ : ∃ A, lnA (kb, nb) = A := ⟨_, rfl⟩
    rw [hAb] at o2 f4
    have d1 : decide (1099511627776 < V) = false := decide_eq_false (by omega)
    have d2 : decide (V < -1099511627776) = false := decide_eq_false (by omega)
    have d3 : decide (V < Va) = false := decide_eq_false (by omega)
    obtain ⟨g, hg⟩ : ∃ g, decide (Va < V) = g := ⟨_, rfl⟩
    have d4 : Ab = false → g = true → decide (Vb < V) = false := fun h1 h2 => decide_eq_false (by have := f4 h1 (of_decide_eq_true (hg.trans h2)); omega)
    have HMO := Lib.hid hmo
    have HO4 := Lib.hid o4
    clear hAb f1 f2 f3 f4 hmo o4
    go_enter Try.func5, Try.ntmps5
    go_upto_region 6 with (first | ((go_at_call 15; (with_reducible refine (o3 _).mono ?_)); rintro e w' ⟨rfl, h⟩; (have hX := Blk_below hX h (Blk_lt hX); have hY := Blk_below hY h (Blk_lt hY); have hZ := Blk_below hZ h (Blk_lt hZ); have hb := Below_then hb h (Nat.le_refl _); have x0 := Blk_cell hX 0; have x1 := Blk_cell hX 1; have y0 := Blk_cell hY 0; have y1 := Blk_cell hY 1; have z0 := Blk_cell hZ 0; have z1 := Blk_cell hZ 1; have fx := Blk_frozen hX 1)) | ((go_at_call 13; (with_reducible refine (o1 _).mono ?_)); rintro e w' ⟨rfl, h⟩; (have hX := Blk_below hX h (Blk_lt hX); have hY := Blk_below hY h (Blk_lt hY); have hZ := Blk_below hZ h (Blk_lt hZ); have hb := Below_then hb h (Nat.le_refl _); have x0 := Blk_cell hX 0; have x1 := Blk_cell hX 1; have y0 := Blk_cell hY 0; have y1 := Blk_cell hY 1; have z0 := Blk_cell hZ 0; have z1 := Blk_cell hZ 1; have fx := Blk_frozen hX 1)) | ((go_at_call 13; (with_reducible refine (o2 _).mono ?_)); rintro e w' ⟨rfl, h⟩; (have hX := Blk_below hX h (Blk_lt hX); have hY := Blk_below hY h (Blk_lt hY); have hZ := Blk_below hZ h (Blk_lt hZ); have hb := Below_then hb h (Nat.le_refl _); have x0 := Blk_cell hX 0; have x1 := Blk_cell hX 1; have y0 := Blk_cell hY 0; have y1 := Blk_cell hY 1; have z0 := Blk_cell hZ 0; have z1 := Blk_cell hZ 1; have fx := Blk_frozen hX 1)))
    clear o1 o2 o3 h
    generalize hwc : w' = wc at *
    clear hwc
    go_cut [76] (fun v wx => v = .bool false ∧ wc = wx)
    case first =>
      cases g
      · clear d4
        go_wp2_with fail
        go_meet
        exact ⟨rfl, rfl⟩
      · cases Ab
        · have d5 := d4 rfl rfl
          clear d4
          go_wp2_with fail
          go_meet
          exact ⟨rfl, rfl⟩
        · clear d4
          go_wp2_with fail
          go_meet
          exact ⟨rfl, rfl⟩
    case rest =>
      obtain ⟨rfl, rfl⟩ := hcut
      clear d1 d2 d3 d4 hg
      by_cases hbig : 4611686018427387904 < n
      · go_wp2_with ((go_at_call 9; (with_reducible refine (hkw _).mono ?_)); rintro e w' ⟨rfl, h⟩; have hb := Below_then hb h (Nat.le_refl _))
        go_ret
        exact ⟨rfl, hb⟩
      · have g1 : decide (4611686018427387904 < n) = false := decide_eq_false hbig
        by_cases hneg : z < 0
        · go_wp2_with ((go_at_call 9; (with_reducible refine (hkw _).mono ?_)); rintro e w' ⟨rfl, h⟩; have hb := Below_then hb h (Nat.le_refl _))
          go_ret
          exact ⟨rfl, hb⟩
        · have g2 : decide (z < 0) = false := decide_eq_false hneg
          have e1 : IntKind.i64.wrap m = m := by rw [IntKind.wrap_i64]; omega
          have e2 : wrap64 (n + m) = n + m := IntWalk.wrap64_in _ (by omega)
          have e3 : wrap64 m = m := IntWalk.wrap64_in _ (by omega)
          have o4 := HO4.out (by omega)
          have hmo := HMO.out (by omega)
          have d6 : decide (V ≤ V') = true := decide_eq_true hmo
          go_upto_region 11 with fail
          have hX := Blk_set hX 1 (.int .i64 (n + m))
          have n1 : w.heap.size + 1 ≠ w.heap.size := by omega
          have n2 : w.heap.size + 1 + 1 ≠ w.heap.size := by omega
          have hY := Blk_far (p := ⟨w.heap.size, 1, none⟩) hY n1 (.int .i64 (n + m))
          have hZ := Blk_far (p := ⟨w.heap.size, 1, none⟩) hZ n2 (.int .i64 (n + m))
          have hb := hb.setCell (p := ⟨w.heap.size, 1, none⟩) (Nat.le_refl _) (.int .i64 (n + m))
          simp only [List.setIfInBounds_toArray, List.set_cons_zero, List.set_cons_succ] at hX
          generalize hww : wc.setCell ⟨w.heap.size, 1, none⟩ (.int .i64 (n + m)) = ww at *
          clear hww
          have x0 := Blk_cell hX 0
          have x1 := Blk_cell hX 1
          have y0 := Blk_cell hY 0
          have y1 := Blk_cell hY 1
          have z0 := Blk_cell hZ 0
          have z1 := Blk_cell hZ 1
          go_wp2_with (first | ((go_at_call 15; (with_reducible refine (o4 _).mono ?_)); rintro e w' ⟨rfl, h⟩; have hb := Below_then hb h (Nat.le_refl _)) | ((go_at_call 9; (with_reducible refine (hkw _).mono ?_)); rintro e w' ⟨rfl, h⟩; have hb := Below_then hb h (Nat.le_refl _)))
          go_ret
          exact ⟨rfl, hb⟩
theorem len_of {w : World} {cs : Array Value} {x : Int × Int} (h : E23 w (Value.agg cs).cells.toList x) : Value.agg cs = .agg #[.int .u8 x.1, .int .i64 x.2] ∧ (Lit.int .i64 x.2).wf = true := by
  have f := F23 h
  have h1 := f.1
  simp only [Value.cells] at h1
  refine ⟨?_, f.2.2⟩
  congr 1
  exact Array.toList_inj.1 h1
theorem slens_walk (w : World) {ca cb cc : Array Value} {x y u : Int × Int} {z : Int} (h0 : E23 w (Value.agg ca).cells.toList x) (h1 : E23 w (Value.agg cb).cells.toList y) (h2 : E23 w (Value.agg cc).cells.toList u) (h3 : (Lit.int .i64 z).wf = true) :
    Calls Try.prog 4 #[.agg ca, .agg cb, .agg cc, .int .i64 z] w fun e w' => e = .returned (.bool true) ∧ Below w.heap.size w w' := by
  obtain ⟨e0, g0⟩ := len_of h0
  obtain ⟨e1, g1⟩ := len_of h1
  obtain ⟨e2, g2⟩ := len_of h2
  rw [e0, e1, e2]
  exact slens_any x.1 x.2 y.1 y.2 u.1 u.2 z w g0 g1 g2 h3
theorem ssizes_walk (w : World) {ca cb cc : Array Value} {x y u : Int × Int} {z m : Int} (h0 : E23 w (Value.agg ca).cells.toList x) (h1 : E23 w (Value.agg cb).cells.toList y) (h2 : E23 w (Value.agg cc).cells.toList u) (h3 : (Lit.int .i64 z).wf = true) (h4 : (Lit.int .u16 m).wf = true) :
    Calls Try.prog 5 #[.agg ca, .agg cb, .agg cc, .int .i64 z, .int .u16 m] w fun e w' => e = .returned (.bool true) ∧ Below w.heap.size w w' := by
  obtain ⟨e0, g0⟩ := len_of h0
  obtain ⟨e1, g1⟩ := len_of h1
  obtain ⟨e2, g2⟩ := len_of h2
  rw [e0, e1, e2]
  have hm : 0 ≤ m ∧ m ≤ 65535 := by
    simp [Lit.wf, IntKind.min, IntKind.max, IntKind.signed, IntKind.bits] at h4
    omega
  exact ssizes_any x.1 x.2 y.1 y.2 u.1 u.2 z m w g0 g1 g2 h3 hm
end Go.Proofs.Ytedlfkklkoihjaa
