/-
  The walk of StyleAutos. No condition.
-/
import Derived.Test.YtedlfkklkoihjaaY6
set_option linter.unusedVariables false
set_option linter.unusedSimpArgs false
namespace Go.Proofs.Ytedlfkklkoihjaa
open Go.RowKit Go.BigFrame

theorem wpList_load_want {P : Program} {a : Act} {w : World} {ops : Array Oper} {rest : List Oper} {op : Oper} {Q : Exit → Act → World → Prop} (hw : Region.wanted op (yielded ops a.tmps) = true) (ty : TypeId) (x : Operand) (ho : op.op = .load ty x)
    (b o : Nat) (hx : a.eval x = .pointer (some ⟨b, o, none⟩)) (cs : List Value) (d : TypeDesc) (hc : w.rangeAt b o cs)
    (hu : P.underlying ty = some d) (hd : d.isRow = true) (hi : (P.info? ty).map (·.size) = some cs.length)
    (h : wpList P ops Q rest (a.put op.dst (.agg cs.toArray)) w) : wpList P ops Q (op :: rest) a w :=
  wpList_want hw fun _ hK => wp_load_mid ty x ho b o hx cs d hc hu hd hi (hK _ _ h)
set_option maxRecDepth 20000 in
set_option maxHeartbeats 8000000 in
theorem sautos_any (s : St) (hw : s.Wf) (hul : s.units.length ≤ maxLen) (wv n : Int) (hwv : 0 ≤ wv ∧ wv ≤ 255) (hn : (Lit.int .i64 n).wf = true) (w : World) :
    Calls Try.prog 6 #[.agg (scells s).toArray, .int .u8 wv, .int .i64 n] w fun e w' => e = .returned (.bool true) ∧ Below w.heap.size w w' := by
  have hX := Blk_new w 28 (scells s).toArray
  have hb : Below w.heap.size w (w.alloc (.cells (scells s).toArray 28)) := by (repeat' (first | (with_reducible exact Below.refl _ _) | (with_reducible assumption) | (with_reducible refine Below.alloc ?_ ?_ _) | (with_reducible refine Below.drew ?_) | (with_reducible refine Below_drewN ?_ _) | (with_reducible refine Below.setCell ?_ ?_ _) | go_size))
  have hv := vast_any s
  have hkw := works_any
  have hul' := hul
  unfold maxLen at hul'
  by_cases hbig : 131072 < s.units.length
  · rw [decide_eq_true hbig] at hv
    go_enter Try.func6, Try.ntmps6
    go_wp2_with (first | ((with_reducible refine at_op ⟨some 9, .load 28 (.tmp 3), _, _, _, _⟩ ?_); refine wpList_load_mid rfl 28 (.tmp 3) rfl _ 0 rfl (scells s) _ (range_st hX) Try.underlying28 rfl info_st ?_) | ((go_at_call 8; (with_reducible refine (hv _).mono ?_)); rintro e w' ⟨rfl, h⟩; (have hb := Below_then hb h (Nat.le_refl _); have hX := Blk_below hX h (Blk_lt hX))) | ((go_at_call 9; (with_reducible refine (hkw _).mono ?_)); rintro e w2 ⟨rfl, h⟩; (have hb := Below_then hb h (Nat.le_refl _); have hX := Blk_below hX h (Blk_lt hX))))
    go_ret
    exact ⟨rfl, hb⟩
  · rw [decide_eq_false hbig] at hv
    have r1 := fun w => sright_any s hw hul w
    have hq8 : (Lit.int .u8 (3 + wv / 11)).wf = true := by
      simp [Lit.wf, IntKind.min, IntKind.max, IntKind.signed, IntKind.bits]
      omega
    have t1 : wv.tmod 11 = wv % 11 := Int.tmod_eq_emod_of_nonneg hwv.1
    have t2 : wv.tdiv 11 = wv / 11 := Int.tdiv_eq_ediv_of_nonneg hwv.1
    have u0 : IntKind.i64.wrap wv = wv := by rw [IntKind.wrap_i64]; omega
    have u00 : wrap64 wv = wv := IntWalk.wrap64_in _ (by omega)
    obtain ⟨k, hk, hk11⟩ : ∃ k : Nat, wv % 11 = (k : Int) ∧ k < 11 := ⟨(wv % 11).toNat, by omega, by omega⟩
    obtain ⟨q, hq⟩ : ∃ q, wv / 11 = q := ⟨_, rfl⟩
    have hq0 : 0 ≤ q ∧ q ≤ 23 := by omega
    rw [hk] at t1
    rw [hq] at t2 hq8
    have u1 : IntKind.u8.wrap q = q := by rw [IntKind.wrap_u8]; omega
    have u2 : IntKind.u8.wrap (3 + q) = 3 + q := by rw [IntKind.wrap_u8]; omega
    have HK := Lib.hid (And.intro hk hq)
    clear hk hq
    go_enter Try.func6, Try.ntmps6
    go_upto_region 4 with (first | ((with_reducible refine at_op ⟨some 9, .load 28 (.tmp 3), _, _, _, _⟩ ?_); refine wpList_load_mid rfl 28 (.tmp 3) rfl _ 0 rfl (scells s) _ (range_st hX) Try.underlying28 rfl info_st ?_) | ((with_reducible refine at_op ⟨some 12, .load 28 (.tmp 3), _, _, _, _⟩ ?_); refine wpList_load_mid rfl 28 (.tmp 3) rfl _ 0 rfl (scells s) _ (range_st hX) Try.underlying28 rfl info_st ?_) | ((go_at_call 8; (with_reducible refine (hv _).mono ?_)); rintro e w' ⟨rfl, h⟩; (have hb := Below_then hb h (Nat.le_refl _); have hX := Blk_below hX h (Blk_lt hX))) | ((go_at_call 10; (with_reducible refine (r1 _).mono ?_)); rintro e w' ⟨rfl, h⟩; (have hb := Below_then hb h (Nat.le_refl _); have hX := Blk_below hX h (Blk_lt hX))))
    clear hv r1 h
    obtain rfl | rfl | rfl | rfl | rfl | rfl | rfl | rfl | rfl | rfl | rfl : k = 0 ∨ k = 1 ∨ k = 2 ∨ k = 3 ∨ k = 4 ∨ k = 5 ∨ k = 6 ∨ k = 7 ∨ k = 8 ∨ k = 9 ∨ k = 10 := by omega
    · have r2 := fun w => sright_any (setL s 0 (0, 0)) (setL_wf hw 0 rfl rfl) (by rw [setL_len]; exact hul) w
      have r3 := fun w => sright_any (setL (setL s 0 (0, 0)) 0 (3 + q, 0)) (setL_wf (setL_wf hw 0 rfl rfl) 0 hq8 rfl) (by rw [setL_len, setL_len]; exact hul) w
      have r4 := fun w => sright_any (setL (setL (setL s 0 (0, 0)) 0 (3 + q, 0)) 0 (1, n)) (setL_wf (setL_wf (setL_wf hw 0 rfl rfl) 0 hq8 rfl) 0 rfl hn) (by rw [setL_len, setL_len, setL_len]; exact hul) w
      rw [set_odd (setL s 0 (0, 0)) 0 (by omega) (by omega) 0] at r3
      have ha := fun h => set_auto (s := s) 0 (by omega) h
      have hx := fun h => set_px (s := setL (setL s 0 (0, 0)) 0 (3 + q, 0)) 0 (by omega) (n := n) h
      generalize rightB s = B at *
      generalize rightB (setL (setL (setL s 0 (0, 0)) 0 (3 + q, 0)) 0 (1, n)) = B4 at *
      have HX := Lib.hid hx
      have HA := Lib.hid ha
      clear hx ha
      go_upto_region 6 with (((go_at_call 17; (with_reducible refine (slens2_any _ _).mono ?_)); rintro e w' ⟨rfl, hP, h⟩; have hb := Below_then hb h (Nat.le_refl _); have hX := Blk_below hX h (Blk_lt hX); have hp : w'.cell? ⟨_, 0, none⟩ = some (.pointer (some ⟨w.heap.size, 4, none⟩)) := Blk_cell hP 0; have c0 := St_cell (s := s) (j := 4) (v := .int .u8 (s).w.1) hX rfl; have c1 := St_cell (s := s) (j := 4 + 1) (v := .int .i64 (s).w.2) hX rfl; have f0 := Blk_frozen hX 4; have f1 := Blk_frozen hX (4 + 1); simp only [Nat.reduceAdd] at c1 f1))
      have hX : Blk ((w'.setCell ⟨w.heap.size, 4, none⟩ (.int .u8 0)).setCell ⟨w.heap.size, 4 + 1, none⟩ (.int .i64 0)) w.heap.size 28 (scells (setL s 0 (0, 0))).toArray := Blk_upd (Blk_set hX 4 (.int .u8 0)) (4 + 1) (.int .i64 0) (by simp [scells, setL])
      have hb : Below w.heap.size w ((w'.setCell ⟨w.heap.size, 4, none⟩ (.int .u8 0)).setCell ⟨w.heap.size, 4 + 1, none⟩ (.int .i64 0)) := (hb.setCell (by simp) _).setCell (by simp) _
      simp only [Nat.reduceAdd] at hX hb
      generalize hww : (w'.setCell ⟨w.heap.size, 4, none⟩ (.int .u8 0)).setCell _ (.int .i64 0) = wa at *
      clear hww hP hp c0 c1 f0 f1 h
      go_cut [28] (fun v wx => v = .bool false ∧ Below wa.heap.size wa wx)
      case first =>
        cases B
        · go_wp2_with fail
          go_meet
          exact ⟨rfl, Below.refl _ _⟩
        · rw [HA.out rfl] at r2
          go_wp2_with (first | ((with_reducible refine at_op ⟨some 25, .load 28 (.tmp 3), _, _, _, _⟩ ?_); refine wpList_load_want rfl 28 (.tmp 3) rfl _ 0 rfl (scells (setL s 0 (0, 0))) _ (range_st hX) Try.underlying28 rfl info_st ?_) | ((go_at_call 10; (with_reducible refine (r2 _).mono ?_)); rintro e w' ⟨rfl, h⟩))
          go_meet
          exact ⟨rfl, h⟩
      case rest =>
      obtain ⟨rfl, h⟩ := hcut
      have hb := Below_then hb h (Nat.le_refl _)
      have hX := Blk_below hX h (Blk_lt hX)
      clear h r2
      go_upto_region 9 with (((go_at_call 17; (with_reducible refine (slens2_any _ _).mono ?_)); rintro e w' ⟨rfl, hP, h⟩; have hb := Below_then hb h (Nat.le_refl _); have hX := Blk_below hX h (Blk_lt hX); have hp : w'.cell? ⟨_, 0, none⟩ = some (.pointer (some ⟨w.heap.size, 4, none⟩)) := Blk_cell hP 0; have c0 := St_cell (s := (setL s 0 (0, 0))) (j := 4) (v := .int .u8 ((setL s 0 (0, 0))).w.1) hX rfl; have c1 := St_cell (s := (setL s 0 (0, 0))) (j := 4 + 1) (v := .int .i64 ((setL s 0 (0, 0))).w.2) hX rfl; have f0 := Blk_frozen hX 4; have f1 := Blk_frozen hX (4 + 1); simp only [Nat.reduceAdd] at c1 f1))
      have hX : Blk ((w'.setCell ⟨w.heap.size, 4, none⟩ (.int .u8 (3 + q))).setCell ⟨w.heap.size, 4 + 1, none⟩ (.int .i64 0)) w.heap.size 28 (scells (setL (setL s 0 (0, 0)) 0 (3 + q, 0))).toArray := Blk_upd (Blk_set hX 4 (.int .u8 (3 + q))) (4 + 1) (.int .i64 0) (by simp [scells, setL])
      have hb : Below w.heap.size w ((w'.setCell ⟨w.heap.size, 4, none⟩ (.int .u8 (3 + q))).setCell ⟨w.heap.size, 4 + 1, none⟩ (.int .i64 0)) := (hb.setCell (by simp) _).setCell (by simp) _
      simp only [Nat.reduceAdd] at hX hb
      generalize hww : (w'.setCell ⟨w.heap.size, 4, none⟩ (.int .u8 (3 + q))).setCell _ (.int .i64 0) = wb at *
      clear hww hP hp c0 c1 f0 f1 h
      go_upto_region 11 with (first | ((with_reducible refine at_op ⟨some 38, .load 28 (.tmp 3), _, _, _, _⟩ ?_); refine wpList_load_mid rfl 28 (.tmp 3) rfl _ 0 rfl (scells (setL (setL s 0 (0, 0)) 0 (3 + q, 0))) _ (range_st hX) Try.underlying28 rfl info_st ?_) | ((go_at_call 10; (with_reducible refine (r3 _).mono ?_)); rintro e w' ⟨rfl, h⟩; (have hb := Below_then hb h (Nat.le_refl _); have hX := Blk_below hX h (Blk_lt hX))))
      clear r3 h
      go_upto_region 12 with (((go_at_call 17; (with_reducible refine (slens2_any _ _).mono ?_)); rintro e w' ⟨rfl, hP, h⟩; have hb := Below_then hb h (Nat.le_refl _); have hX := Blk_below hX h (Blk_lt hX); have hp : w'.cell? ⟨_, 0, none⟩ = some (.pointer (some ⟨w.heap.size, 4, none⟩)) := Blk_cell hP 0; have c0 := St_cell (s := (setL (setL s 0 (0, 0)) 0 (3 + q, 0))) (j := 4) (v := .int .u8 ((setL (setL s 0 (0, 0)) 0 (3 + q, 0))).w.1) hX rfl; have c1 := St_cell (s := (setL (setL s 0 (0, 0)) 0 (3 + q, 0))) (j := 4 + 1) (v := .int .i64 ((setL (setL s 0 (0, 0)) 0 (3 + q, 0))).w.2) hX rfl; have f0 := Blk_frozen hX 4; have f1 := Blk_frozen hX (4 + 1); simp only [Nat.reduceAdd] at c1 f1))
      have hX : Blk ((w'.setCell ⟨w.heap.size, 4, none⟩ (.int .u8 1)).setCell ⟨w.heap.size, 4 + 1, none⟩ (.int .i64 n)) w.heap.size 28 (scells (setL (setL (setL s 0 (0, 0)) 0 (3 + q, 0)) 0 (1, n))).toArray := Blk_upd (Blk_set hX 4 (.int .u8 1)) (4 + 1) (.int .i64 n) (by simp [scells, setL])
      have hb : Below w.heap.size w ((w'.setCell ⟨w.heap.size, 4, none⟩ (.int .u8 1)).setCell ⟨w.heap.size, 4 + 1, none⟩ (.int .i64 n)) := (hb.setCell (by simp) _).setCell (by simp) _
      simp only [Nat.reduceAdd] at hX hb
      generalize hww : (w'.setCell ⟨w.heap.size, 4, none⟩ (.int .u8 1)).setCell _ (.int .i64 n) = wc at *
      clear hww hP hp c0 c1 f0 f1 h
      cases B4
      · go_wp2_with (first | ((with_reducible refine at_op ⟨some 47, .load 28 (.tmp 3), _, _, _, _⟩ ?_); refine wpList_load_mid rfl 28 (.tmp 3) rfl _ 0 rfl (scells (setL (setL (setL s 0 (0, 0)) 0 (3 + q, 0)) 0 (1, n))) _ (range_st hX) Try.underlying28 rfl info_st ?_) | ((go_at_call 10; (with_reducible refine (r4 _).mono ?_)); rintro e w' ⟨rfl, h⟩; (have hb := Below_then hb h (Nat.le_refl _); have hX := Blk_below hX h (Blk_lt hX))) | ((go_at_call 9; (with_reducible refine (hkw _).mono ?_)); rintro e w' ⟨rfl, h⟩; (have hb := Below_then hb h (Nat.le_refl _); have hX := Blk_below hX h (Blk_lt hX))))
        go_ret
        exact ⟨rfl, hb⟩
      · obtain ⟨g1, g2, g3⟩ := HX.out rfl
        have d1 : decide (-1099511627776 ≤ n) = true := decide_eq_true g1
        have d2 : decide (n ≤ 1099511627776) = true := decide_eq_true g2
        cases g : decide (0 ≤ n)
        all_goals
          go_wp2_with (first | ((with_reducible refine at_op ⟨some 47, .load 28 (.tmp 3), _, _, _, _⟩ ?_); refine wpList_load_mid rfl 28 (.tmp 3) rfl _ 0 rfl (scells (setL (setL (setL s 0 (0, 0)) 0 (3 + q, 0)) 0 (1, n))) _ (range_st hX) Try.underlying28 rfl info_st ?_) | ((go_at_call 10; (with_reducible refine (r4 _).mono ?_)); rintro e w' ⟨rfl, h⟩; (have hb := Below_then hb h (Nat.le_refl _); have hX := Blk_below hX h (Blk_lt hX))) | ((go_at_call 9; (with_reducible refine (hkw _).mono ?_)); rintro e w' ⟨rfl, h⟩; (have hb := Below_then hb h (Nat.le_refl _); have hX := Blk_below hX h (Blk_lt hX))))
          first
            | (go_ret; exact ⟨rfl, hb⟩)
            | (exact absurd (of_decide_eq_false g) (by omega))
    · have r2 := fun w => sright_any (setL s 1 (0, 0)) (setL_wf hw 1 rfl rfl) (by rw [setL_len]; exact hul) w
      have r3 := fun w => sright_any (setL (setL s 1 (0, 0)) 1 (3 + q, 0)) (setL_wf (setL_wf hw 1 rfl rfl) 1 hq8 rfl) (by rw [setL_len, setL_len]; exact hul) w
      have r4 := fun w => sright_any (setL (setL (setL s 1 (0, 0)) 1 (3 + q, 0)) 1 (1, n)) (setL_wf (setL_wf (setL_wf hw 1 rfl rfl) 1 hq8 rfl) 1 rfl hn) (by rw [setL_len, setL_len, setL_len]; exact hul) w
      rw [set_odd (setL s 1 (0, 0)) 1 (by omega) (by omega) 0] at r3
      have ha := fun h => set_auto (s := s) 1 (by omega) h
      have hx := fun h => set_px (s := setL (setL s 1 (0, 0)) 1 (3 + q, 0)) 1 (by omega) (n := n) h
      generalize rightB s = B at *
      generalize rightB (setL (setL (setL s 1 (0, 0)) 1 (3 + q, 0)) 1 (1, n)) = B4 at *
      have HX := Lib.hid hx
      have HA := Lib.hid ha
      clear hx ha
      go_upto_region 6 with (((go_at_call 17; (with_reducible refine (slens2_any _ _).mono ?_)); rintro e w' ⟨rfl, hP, h⟩; have hb := Below_then hb h (Nat.le_refl _); have hX := Blk_below hX h (Blk_lt hX); have hp : w'.cell? ⟨_, 1, none⟩ = some (.pointer (some ⟨w.heap.size, 6, none⟩)) := Blk_cell hP 1; have c0 := St_cell (s := s) (j := 6) (v := .int .u8 (s).h.1) hX rfl; have c1 := St_cell (s := s) (j := 6 + 1) (v := .int .i64 (s).h.2) hX rfl; have f0 := Blk_frozen hX 6; have f1 := Blk_frozen hX (6 + 1); simp only [Nat.reduceAdd] at c1 f1))
      have hX : Blk ((w'.setCell ⟨w.heap.size, 6, none⟩ (.int .u8 0)).setCell ⟨w.heap.size, 6 + 1, none⟩ (.int .i64 0)) w.heap.size 28 (scells (setL s 1 (0, 0))).toArray := Blk_upd (Blk_set hX 6 (.int .u8 0)) (6 + 1) (.int .i64 0) (by simp [scells, setL])
      have hb : Below w.heap.size w ((w'.setCell ⟨w.heap.size, 6, none⟩ (.int .u8 0)).setCell ⟨w.heap.size, 6 + 1, none⟩ (.int .i64 0)) := (hb.setCell (by simp) _).setCell (by simp) _
      simp only [Nat.reduceAdd] at hX hb
      generalize hww : (w'.setCell ⟨w.heap.size, 6, none⟩ (.int .u8 0)).setCell _ (.int .i64 0) = wa at *
      clear hww hP hp c0 c1 f0 f1 h
      go_cut [28] (fun v wx => v = .bool false ∧ Below wa.heap.size wa wx)
      case first =>
        cases B
        · go_wp2_with fail
          go_meet
          exact ⟨rfl, Below.refl _ _⟩
        · rw [HA.out rfl] at r2
          go_wp2_with (first | ((with_reducible refine at_op ⟨some 25, .load 28 (.tmp 3), _, _, _, _⟩ ?_); refine wpList_load_want rfl 28 (.tmp 3) rfl _ 0 rfl (scells (setL s 1 (0, 0))) _ (range_st hX) Try.underlying28 rfl info_st ?_) | ((go_at_call 10; (with_reducible refine (r2 _).mono ?_)); rintro e w' ⟨rfl, h⟩))
          go_meet
          exact ⟨rfl, h⟩
      case rest =>
      obtain ⟨rfl, h⟩ := hcut
      have hb := Below_then hb h (Nat.le_refl _)
      have hX := Blk_below hX h (Blk_lt hX)
      clear h r2
      go_upto_region 9 with (((go_at_call 17; (with_reducible refine (slens2_any _ _).mono ?_)); rintro e w' ⟨rfl, hP, h⟩; have hb := Below_then hb h (Nat.le_refl _); have hX := Blk_below hX h (Blk_lt hX); have hp : w'.cell? ⟨_, 1, none⟩ = some (.pointer (some ⟨w.heap.size, 6, none⟩)) := Blk_cell hP 1; have c0 := St_cell (s := (setL s 1 (0, 0))) (j := 6) (v := .int .u8 ((setL s 1 (0, 0))).h.1) hX rfl; have c1 := St_cell (s := (setL s 1 (0, 0))) (j := 6 + 1) (v := .int .i64 ((setL s 1 (0, 0))).h.2) hX rfl; have f0 := Blk_frozen hX 6; have f1 := Blk_frozen hX (6 + 1); simp only [Nat.reduceAdd] at c1 f1))
      have hX : Blk ((w'.setCell ⟨w.heap.size, 6, none⟩ (.int .u8 (3 + q))).setCell ⟨w.heap.size, 6 + 1, none⟩ (.int .i64 0)) w.heap.size 28 (scells (setL (setL s 1 (0, 0)) 1 (3 + q, 0))).toArray := Blk_upd (Blk_set hX 6 (.int .u8 (3 + q))) (6 + 1) (.int .i64 0) (by simp [scells, setL])
      have hb : Below w.heap.size w ((w'.setCell ⟨w.heap.size, 6, none⟩ (.int .u8 (3 + q))).setCell ⟨w.heap.size, 6 + 1, none⟩ (.int .i64 0)) := (hb.setCell (by simp) _).setCell (by simp) _
      simp only [Nat.reduceAdd] at hX hb
      generalize hww : (w'.setCell ⟨w.heap.size, 6, none⟩ (.int .u8 (3 + q))).setCell _ (.int .i64 0) = wb at *
      clear hww hP hp c0 c1 f0 f1 h
      go_upto_region 11 with (first | ((with_reducible refine at_op ⟨some 38, .load 28 (.tmp 3), _, _, _, _⟩ ?_); refine wpList_load_mid rfl 28 (.tmp 3) rfl _ 0 rfl (scells (setL (setL s 1 (0, 0)) 1 (3 + q, 0))) _ (range_st hX) Try.underlying28 rfl info_st ?_) | ((go_at_call 10; (with_reducible refine (r3 _).mono ?_)); rintro e w' ⟨rfl, h⟩; (have hb := Below_then hb h (Nat.le_refl _); have hX := Blk_below hX h (Blk_lt hX))))
      clear r3 h
      go_upto_region 12 with (((go_at_call 17; (with_reducible refine (slens2_any _ _).mono ?_)); rintro e w' ⟨rfl, hP, h⟩; have hb := Below_then hb h (Nat.le_refl _); have hX := Blk_below hX h (Blk_lt hX); have hp : w'.cell? ⟨_, 1, none⟩ = some (.pointer (some ⟨w.heap.size, 6, none⟩)) := Blk_cell hP 1; have c0 := St_cell (s := (setL (setL s 1 (0, 0)) 1 (3 + q, 0))) (j := 6) (v := .int .u8 ((setL (setL s 1 (0, 0)) 1 (3 + q, 0))).h.1) hX rfl; have c1 := St_cell (s := (setL (setL s 1 (0, 0)) 1 (3 + q, 0))) (j := 6 + 1) (v := .int .i64 ((setL (setL s 1 (0, 0)) 1 (3 + q, 0))).h.2) hX rfl; have f0 := Blk_frozen hX 6; have f1 := Blk_frozen hX (6 + 1); simp only [Nat.reduceAdd] at c1 f1))
      have hX : Blk ((w'.setCell ⟨w.heap.size, 6, none⟩ (.int .u8 1)).setCell ⟨w.heap.size, 6 + 1, none⟩ (.int .i64 n)) w.heap.size 28 (scells (setL (setL (setL s 1 (0, 0)) 1 (3 + q, 0)) 1 (1, n))).toArray := Blk_upd (Blk_set hX 6 (.int .u8 1)) (6 + 1) (.int .i64 n) (by simp [scells, setL])
      have hb : Below w.heap.size w ((w'.setCell ⟨w.heap.size, 6, none⟩ (.int .u8 1)).setCell ⟨w.heap.size, 6 + 1, none⟩ (.int .i64 n)) := (hb.setCell (by simp) _).setCell (by simp) _
      simp only [Nat.reduceAdd] at hX hb
      generalize hww : (w'.setCell ⟨w.heap.size, 6, none⟩ (.int .u8 1)).setCell _ (.int .i64 n) = wc at *
      clear hww hP hp c0 c1 f0 f1 h
      cases B4
      · go_wp2_with (first | ((with_reducible refine at_op ⟨some 47, .load 28 (.tmp 3), _, _, _, _⟩ ?_); refine wpList_load_mid rfl 28 (.tmp 3) rfl _ 0 rfl (scells (setL (setL (setL s 1 (0, 0)) 1 (3 + q, 0)) 1 (1, n))) _ (range_st hX) Try.underlying28 rfl info_st ?_) | ((go_at_call 10; (with_reducible refine (r4 _).mono ?_)); rintro e w' ⟨rfl, h⟩; (have hb := Below_then hb h (Nat.le_refl _); have hX := Blk_below hX h (Blk_lt hX))) | ((go_at_call 9; (with_reducible refine (hkw _).mono ?_)); rintro e w' ⟨rfl, h⟩; (have hb := Below_then hb h (Nat.le_refl _); have hX := Blk_below hX h (Blk_lt hX))))
        go_ret
        exact ⟨rfl, hb⟩
      · obtain ⟨g1, g2, g3⟩ := HX.out rfl
        have d1 : decide (-1099511627776 ≤ n) = true := decide_eq_true g1
        have d2 : decide (n ≤ 1099511627776) = true := decide_eq_true g2
        cases g : decide (0 ≤ n)
        all_goals
          go_wp2_with (first | ((with_reducible refine at_op ⟨some 47, .load 28 (.tmp 3), _, _, _, _⟩ ?_); refine wpList_load_mid rfl 28 (.tmp 3) rfl _ 0 rfl (scells (setL (setL (setL s 1 (0, 0)) 1 (3 + q, 0)) 1 (1, n))) _ (range_st hX) Try.underlying28 rfl info_st ?_) | ((go_at_call 10; (with_reducible refine (r4 _).mono ?_)); rintro e w' ⟨rfl, h⟩; (have hb := Below_then hb h (Nat.le_refl _); have hX := Blk_below hX h (Blk_lt hX))) | ((go_at_call 9; (with_reducible refine (hkw _).mono ?_)); rintro e w' ⟨rfl, h⟩; (have hb := Below_then hb h (Nat.le_refl _); have hX := Blk_below hX h (Blk_lt hX))))
          first
            | (go_ret; exact ⟨rfl, hb⟩)
            | (exact absurd (of_decide_eq_false g) (by omega))
    · have r2 := fun w => sright_any (setL s 2 (0, 0)) (setL_wf hw 2 rfl rfl) (by rw [setL_len]; exact hul) w
      have r3 := fun w => sright_any (setL (setL s 2 (0, 0)) 2 (3 + q, 0)) (setL_wf (setL_wf hw 2 rfl rfl) 2 hq8 rfl) (by rw [setL_len, setL_len]; exact hul) w
      have r4 := fun w => sright_any (setL (setL (setL s 2 (0, 0)) 2 (3 + q, 0)) 2 (1, n)) (setL_wf (setL_wf (setL_wf hw 2 rfl rfl) 2 hq8 rfl) 2 rfl hn) (by rw [setL_len, setL_len, setL_len]; exact hul) w
      rw [set_odd (setL s 2 (0, 0)) 2 (by omega) (by omega) 0] at r3
      have ha := fun h => set_auto (s := s) 2 (by omega) h
      have hx := fun h => set_px (s := setL (setL s 2 (0, 0)) 2 (3 + q, 0)) 2 (by omega) (n := n) h
      generalize rightB s = B at *
      generalize rightB (setL (setL (setL s 2 (0, 0)) 2 (3 + q, 0)) 2 (1, n)) = B4 at *
      have HX := Lib.hid hx
      have HA := Lib.hid ha
      clear hx ha
      go_upto_region 6 with (((go_at_call 17; (with_reducible refine (slens2_any _ _).mono ?_)); rintro e w' ⟨rfl, hP, h⟩; have hb := Below_then hb h (Nat.le_refl _); have hX := Blk_below hX h (Blk_lt hX); have hp : w'.cell? ⟨_, 2, none⟩ = some (.pointer (some ⟨w.heap.size, 8, none⟩)) := Blk_cell hP 2; have c0 := St_cell (s := s) (j := 8) (v := .int .u8 (s).minw.1) hX rfl; have c1 := St_cell (s := s) (j := 8 + 1) (v := .int .i64 (s).minw.2) hX rfl; have f0 := Blk_frozen hX 8; have f1 := Blk_frozen hX (8 + 1); simp only [Nat.reduceAdd] at c1 f1))
      have hX : Blk ((w'.setCell ⟨w.heap.size, 8, none⟩ (.int .u8 0)).setCell ⟨w.heap.size, 8 + 1, none⟩ (.int .i64 0)) w.heap.size 28 (scells (setL s 2 (0, 0))).toArray := Blk_upd (Blk_set hX 8 (.int .u8 0)) (8 + 1) (.int .i64 0) (by simp [scells, setL])
      have hb : Below w.heap.size w ((w'.setCell ⟨w.heap.size, 8, none⟩ (.int .u8 0)).setCell ⟨w.heap.size, 8 + 1, none⟩ (.int .i64 0)) := (hb.setCell (by simp) _).setCell (by simp) _
      simp only [Nat.reduceAdd] at hX hb
      generalize hww : (w'.setCell ⟨w.heap.size, 8, none⟩ (.int .u8 0)).setCell _ (.int .i64 0) = wa at *
      clear hww hP hp c0 c1 f0 f1 h
      go_cut [28] (fun v wx => v = .bool false ∧ Below wa.heap.size wa wx)
      case first =>
        cases B
        · go_wp2_with fail
          go_meet
          exact ⟨rfl, Below.refl _ _⟩
        · rw [HA.out rfl] at r2
          go_wp2_with (first | ((with_reducible refine at_op ⟨some 25, .load 28 (.tmp 3), _, _, _, _⟩ ?_); refine wpList_load_want rfl 28 (.tmp 3) rfl _ 0 rfl (scells (setL s 2 (0, 0))) _ (range_st hX) Try.underlying28 rfl info_st ?_) | ((go_at_call 10; (with_reducible refine (r2 _).mono ?_)); rintro e w' ⟨rfl, h⟩))
          go_meet
          exact ⟨rfl, h⟩
      case rest =>
      obtain ⟨rfl, h⟩ := hcut
      have hb := Below_then hb h (Nat.le_refl _)
      have hX := Blk_below hX h (Blk_lt hX)
      clear h r2
      go_upto_region 9 with (((go_at_call 17; (with_reducible refine (slens2_any _ _).mono ?_)); rintro e w' ⟨rfl, hP, h⟩; have hb := Below_then hb h (Nat.le_refl _); have hX := Blk_below hX h (Blk_lt hX); have hp : w'.cell? ⟨_, 2, none⟩ = some (.pointer (some ⟨w.heap.size, 8, none⟩)) := Blk_cell hP 2; have c0 := St_cell (s := (setL s 2 (0, 0))) (j := 8) (v := .int .u8 ((setL s 2 (0, 0))).minw.1) hX rfl; have c1 := St_cell (s := (setL s 2 (0, 0))) (j := 8 + 1) (v := .int .i64 ((setL s 2 (0, 0))).minw.2) hX rfl; have f0 := Blk_frozen hX 8; have f1 := Blk_frozen hX (8 + 1); simp only [Nat.reduceAdd] at c1 f1))
      have hX : Blk ((w'.setCell ⟨w.heap.size, 8, none⟩ (.int .u8 (3 + q))).setCell ⟨w.heap.size, 8 + 1, none⟩ (.int .i64 0)) w.heap.size 28 (scells (setL (setL s 2 (0, 0)) 2 (3 + q, 0))).toArray := Blk_upd (Blk_set hX 8 (.int .u8 (3 + q))) (8 + 1) (.int .i64 0) (by simp [scells, setL])
      have hb : Below w.heap.size w ((w'.setCell ⟨w.heap.size, 8, none⟩ (.int .u8 (3 + q))).setCell ⟨w.heap.size, 8 + 1, none⟩ (.int .i64 0)) := (hb.setCell (by simp) _).setCell (by simp) _
      simp only [Nat.reduceAdd] at hX hb
      generalize hww : (w'.setCell ⟨w.heap.size, 8, none⟩ (.int .u8 (3 + q))).setCell _ (.int .i64 0) = wb at *
      clear hww hP hp c0 c1 f0 f1 h
      go_upto_region 11 with (first | ((with_reducible refine at_op ⟨some 38, .load 28 (.tmp 3), _, _, _, _⟩ ?_); refine wpList_load_mid rfl 28 (.tmp 3) rfl _ 0 rfl (scells (setL (setL s 2 (0, 0)) 2 (3 + q, 0))) _ (range_st hX) Try.underlying28 rfl info_st ?_) | ((go_at_call 10; (with_reducible refine (r3 _).mono ?_)); rintro e w' ⟨rfl, h⟩; (have hb := Below_then hb h (Nat.le_refl _); have hX := Blk_below hX h (Blk_lt hX))))
      clear r3 h
      go_upto_region 12 with (((go_at_call 17; (with_reducible refine (slens2_any _ _).mono ?_)); rintro e w' ⟨rfl, hP, h⟩; have hb := Below_then hb h (Nat.le_refl _); have hX := Blk_below hX h (Blk_lt hX); have hp : w'.cell? ⟨_, 2, none⟩ = some (.pointer (some ⟨w.heap.size, 8, none⟩)) := Blk_cell hP 2; have c0 := St_cell (s := (setL (setL s 2 (0, 0)) 2 (3 + q, 0))) (j := 8) (v := .int .u8 ((setL (setL s 2 (0, 0)) 2 (3 + q, 0))).minw.1) hX rfl; have c1 := St_cell (s := (setL (setL s 2 (0, 0)) 2 (3 + q, 0))) (j := 8 + 1) (v := .int .i64 ((setL (setL s 2 (0, 0)) 2 (3 + q, 0))).minw.2) hX rfl; have f0 := Blk_frozen hX 8; have f1 := Blk_frozen hX (8 + 1); simp only [Nat.reduceAdd] at c1 f1))
      have hX : Blk ((w'.setCell ⟨w.heap.size, 8, none⟩ (.int .u8 1)).setCell ⟨w.heap.size, 8 + 1, none⟩ (.int .i64 n)) w.heap.size 28 (scells (setL (setL (setL s 2 (0, 0)) 2 (3 + q, 0)) 2 (1, n))).toArray := Blk_upd (Blk_set hX 8 (.int .u8 1)) (8 + 1) (.int .i64 n) (by simp [scells, setL])
      have hb : Below w.heap.size w ((w'.setCell ⟨w.heap.size, 8, none⟩ (.int .u8 1)).setCell ⟨w.heap.size, 8 + 1, none⟩ (.int .i64 n)) := (hb.setCell (by simp) _).setCell (by simp) _
      simp only [Nat.reduceAdd] at hX hb
      generalize hww : (w'.setCell ⟨w.heap.size, 8, none⟩ (.int .u8 1)).setCell _ (.int .i64 n) = wc at *
      clear hww hP hp c0 c1 f0 f1 h
      cases B4
      · go_wp2_with (first | ((with_reducible refine at_op ⟨some 47, .load 28 (.tmp 3), _, _, _, _⟩ ?_); refine wpList_load_mid rfl 28 (.tmp 3) rfl _ 0 rfl (scells (setL (setL (setL s 2 (0, 0)) 2 (3 + q, 0)) 2 (1, n))) _ (range_st hX) Try.underlying28 rfl info_st ?_) | ((go_at_call 10; (with_reducible refine (r4 _).mono ?_)); rintro e w' ⟨rfl, h⟩; (have hb := Below_then hb h (Nat.le_refl _); have hX := Blk_below hX h (Blk_lt hX))) | ((go_at_call 9; (with_reducible refine (hkw _).mono ?_)); rintro e w' ⟨rfl, h⟩; (have hb := Below_then hb h (Nat.le_refl _); have hX := Blk_below hX h (Blk_lt hX))))
        go_ret
        exact ⟨rfl, hb⟩
      · obtain ⟨g1, g2, g3⟩ := HX.out rfl
        have d1 : decide (-1099511627776 ≤ n) = true := decide_eq_true g1
        have d2 : decide (n ≤ 1099511627776) = true := decide_eq_true g2
        cases g : decide (0 ≤ n)
        all_goals
          go_wp2_with (first | ((with_reducible refine at_op ⟨some 47, .load 28 (.tmp 3), _, _, _, _⟩ ?_); refine wpList_load_mid rfl 28 (.tmp 3) rfl _ 0 rfl (scells (setL (setL (setL s 2 (0, 0)) 2 (3 + q, 0)) 2 (1, n))) _ (range_st hX) Try.underlying28 rfl info_st ?_) | ((go_at_call 10; (with_reducible refine (r4 _).mono ?_)); rintro e w' ⟨rfl, h⟩; (have hb := Below_then hb h (Nat.le_refl _); have hX := Blk_below hX h (Blk_lt hX))) | ((go_at_call 9; (with_reducible refine (hkw _).mono ?_)); rintro e w' ⟨rfl, h⟩; (have hb := Below_then hb h (Nat.le_refl _); have hX := Blk_below hX h (Blk_lt hX))))
          first
            | (go_ret; exact ⟨rfl, hb⟩)
            | (exact absurd (of_decide_eq_false g) (by omega))
    · have r2 := fun w => sright_any (setL s 3 (0, 0)) (setL_wf hw 3 rfl rfl) (by rw [setL_len]; exact hul) w
      have r3 := fun w => sright_any (setL (setL s 3 (0, 0)) 3 (3 + q, 0)) (setL_wf (setL_wf hw 3 rfl rfl) 3 hq8 rfl) (by rw [setL_len, setL_len]; exact hul) w
      have r4 := fun w => sright_any (setL (setL (setL s 3 (0, 0)) 3 (3 + q, 0)) 3 (1, n)) (setL_wf (setL_wf (setL_wf hw 3 rfl rfl) 3 hq8 rfl) 3 rfl hn) (by rw [setL_len, setL_len, setL_len]; exact hul) w
      rw [set_odd (setL s 3 (0, 0)) 3 (by omega) (by omega) 0] at r3
      have ha := fun h => set_auto (s := s) 3 (by omega) h
      have hx := fun h => set_px (s := setL (setL s 3 (0, 0)) 3 (3 + q, 0)) 3 (by omega) (n := n) h
      generalize rightB s = B at *
      generalize rightB (setL (setL (setL s 3 (0, 0)) 3 (3 + q, 0)) 3 (1, n)) = B4 at *
      have HX := Lib.hid hx
      have HA := Lib.hid ha
      clear hx ha
      go_upto_region 6 with (((go_at_call 17; (with_reducible refine (slens2_any _ _).mono ?_)); rintro e w' ⟨rfl, hP, h⟩; have hb := Below_then hb h (Nat.le_refl _); have hX := Blk_below hX h (Blk_lt hX); have hp : w'.cell? ⟨_, 3, none⟩ = some (.pointer (some ⟨w.heap.size, 10, none⟩)) := Blk_cell hP 3; have c0 := St_cell (s := s) (j := 10) (v := .int .u8 (s).maxw.1) hX rfl; have c1 := St_cell (s := s) (j := 10 + 1) (v := .int .i64 (s).maxw.2) hX rfl; have f0 := Blk_frozen hX 10; have f1 := Blk_frozen hX (10 + 1); simp only [Nat.reduceAdd] at c1 f1))
      have hX : Blk ((w'.setCell ⟨w.heap.size, 10, none⟩ (.int .u8 0)).setCell ⟨w.heap.size, 10 + 1, none⟩ (.int .i64 0)) w.heap.size 28 (scells (setL s 3 (0, 0))).toArray := Blk_upd (Blk_set hX 10 (.int .u8 0)) (10 + 1) (.int .i64 0) (by simp [scells, setL])
      have hb : Below w.heap.size w ((w'.setCell ⟨w.heap.size, 10, none⟩ (.int .u8 0)).setCell ⟨w.heap.size, 10 + 1, none⟩ (.int .i64 0)) := (hb.setCell (by simp) _).setCell (by simp) _
      simp only [Nat.reduceAdd] at hX hb
      generalize hww : (w'.setCell ⟨w.heap.size, 10, none⟩ (.int .u8 0)).setCell _ (.int .i64 0) = wa at *
      clear hww hP hp c0 c1 f0 f1 h
      go_cut [28] (fun v wx => v = .bool false ∧ Below wa.heap.size wa wx)
      case first =>
        cases B
        · go_wp2_with fail
          go_meet
          exact ⟨rfl, Below.refl _ _⟩
        · rw [HA.out rfl] at r2
          go_wp2_with (first | ((with_reducible refine at_op ⟨some 25, .load 28 (.tmp 3), _, _, _, _⟩ ?_); refine wpList_load_want rfl 28 (.tmp 3) rfl _ 0 rfl (scells (setL s 3 (0, 0))) _ (range_st hX) Try.underlying28 rfl info_st ?_) | ((go_at_call 10; (with_reducible refine (r2 _).mono ?_)); rintro e w' ⟨rfl, h⟩))
          go_meet
          exact ⟨rfl, h⟩
      case rest =>
      obtain ⟨rfl, h⟩ := hcut
      have hb := Below_then hb h (Nat.le_refl _)
      have hX := Blk_below hX h (Blk_lt hX)
      clear h r2
      go_upto_region 9 with (((go_at_call 17; (with_reducible refine (slens2_any _ _).mono ?_)); rintro e w' ⟨rfl, hP, h⟩; have hb := Below_then hb h (Nat.le_refl _); have hX := Blk_below hX h (Blk_lt hX); have hp : w'.cell? ⟨_, 3, none⟩ = some (.pointer (some ⟨w.heap.size, 10, none⟩)) := Blk_cell hP 3; have c0 := St_cell (s := (setL s 3 (0, 0))) (j := 10) (v := .int .u8 ((setL s 3 (0, 0))).maxw.1) hX rfl; have c1 := St_cell (s := (setL s 3 (0, 0))) (j := 10 + 1) (v := .int .i64 ((setL s 3 (0, 0))).maxw.2) hX rfl; have f0 := Blk_frozen hX 10; have f1 := Blk_frozen hX (10 + 1); simp only [Nat.reduceAdd] at c1 f1))
      have hX : Blk ((w'.setCell ⟨w.heap.size, 10, none⟩ (.int .u8 (3 + q))).setCell ⟨w.heap.size, 10 + 1, none⟩ (.int .i64 0)) w.heap.size 28 (scells (setL (setL s 3 (0, 0)) 3 (3 + q, 0))).toArray := Blk_upd (Blk_set hX 10 (.int .u8 (3 + q))) (10 + 1) (.int .i64 0) (by simp [scells, setL])
      have hb : Below w.heap.size w ((w'.setCell ⟨w.heap.size, 10, none⟩ (.int .u8 (3 + q))).setCell ⟨w.heap.size, 10 + 1, none⟩ (.int .i64 0)) := (hb.setCell (by simp) _).setCell (by simp) _
      simp only [Nat.reduceAdd] at hX hb
      generalize hww : (w'.setCell ⟨w.heap.size, 10, none⟩ (.int .u8 (3 + q))).setCell _ (.int .i64 0) = wb at *
      clear hww hP hp c0 c1 f0 f1 h
      go_upto_region 11 with (first | ((with_reducible refine at_op ⟨some 38, .load 28 (.tmp 3), _, _, _, _⟩ ?_); refine wpList_load_mid rfl 28 (.tmp 3) rfl _ 0 rfl (scells (setL (setL s 3 (0, 0)) 3 (3 + q, 0))) _ (range_st hX) Try.underlying28 rfl info_st ?_) | ((go_at_call 10; (with_reducible refine (r3 _).mono ?_)); rintro e w' ⟨rfl, h⟩; (have hb := Below_then hb h (Nat.le_refl _); have hX := Blk_below hX h (Blk_lt hX))))
      clear r3 h
      go_upto_region 12 with (((go_at_call 17; (with_reducible refine (slens2_any _ _).mono ?_)); rintro e w' ⟨rfl, hP, h⟩; have hb := Below_then hb h (Nat.le_refl _); have hX := Blk_below hX h (Blk_lt hX); have hp : w'.cell? ⟨_, 3, none⟩ = some (.pointer (some ⟨w.heap.size, 10, none⟩)) := Blk_cell hP 3; have c0 := St_cell (s := (setL (setL s 3 (0, 0)) 3 (3 + q, 0))) (j := 10) (v := .int .u8 ((setL (setL s 3 (0, 0)) 3 (3 + q, 0))).maxw.1) hX rfl; have c1 := St_cell (s := (setL (setL s 3 (0, 0)) 3 (3 + q, 0))) (j := 10 + 1) (v := .int .i64 ((setL (setL s 3 (0, 0)) 3 (3 + q, 0))).maxw.2) hX rfl; have f0 := Blk_frozen hX 10; have f1 := Blk_frozen hX (10 + 1); simp only [Nat.reduceAdd] at c1 f1))
      have hX : Blk ((w'.setCell ⟨w.heap.size, 10, none⟩ (.int .u8 1)).setCell ⟨w.heap.size, 10 + 1, none⟩ (.int .i64 n)) w.heap.size 28 (scells (setL (setL (setL s 3 (0, 0)) 3 (3 + q, 0)) 3 (1, n))).toArray := Blk_upd (Blk_set hX 10 (.int .u8 1)) (10 + 1) (.int .i64 n) (by simp [scells, setL])
      have hb : Below w.heap.size w ((w'.setCell ⟨w.heap.size, 10, none⟩ (.int .u8 1)).setCell ⟨w.heap.size, 10 + 1, none⟩ (.int .i64 n)) := (hb.setCell (by simp) _).setCell (by simp) _
      simp only [Nat.reduceAdd] at hX hb
      generalize hww : (w'.setCell ⟨w.heap.size, 10, none⟩ (.int .u8 1)).setCell _ (.int .i64 n) = wc at *
      clear hww hP hp c0 c1 f0 f1 h
      cases B4
      · go_wp2_with (first | ((with_reducible refine at_op ⟨some 47, .load 28 (.tmp 3), _, _, _, _⟩ ?_); refine wpList_load_mid rfl 28 (.tmp 3) rfl _ 0 rfl (scells (setL (setL (setL s 3 (0, 0)) 3 (3 + q, 0)) 3 (1, n))) _ (range_st hX) Try.underlying28 rfl info_st ?_) | ((go_at_call 10; (with_reducible refine (r4 _).mono ?_)); rintro e w' ⟨rfl, h⟩; (have hb := Below_then hb h (Nat.le_refl _); have hX := Blk_below hX h (Blk_lt hX))) | ((go_at_call 9; (with_reducible refine (hkw _).mono ?_)); rintro e w' ⟨rfl, h⟩; (have hb := Below_then hb h (Nat.le_refl _); have hX := Blk_below hX h (Blk_lt hX))))
        go_ret
        exact ⟨rfl, hb⟩
      · obtain ⟨g1, g2, g3⟩ := HX.out rfl
        have d1 : decide (-1099511627776 ≤ n) = true := decide_eq_true g1
        have d2 : decide (n ≤ 1099511627776) = true := decide_eq_true g2
        cases g : decide (0 ≤ n)
        all_goals
          go_wp2_with (first | ((with_reducible refine at_op ⟨some 47, .load 28 (.tmp 3), _, _, _, _⟩ ?_); refine wpList_load_mid rfl 28 (.tmp 3) rfl _ 0 rfl (scells (setL (setL (setL s 3 (0, 0)) 3 (3 + q, 0)) 3 (1, n))) _ (range_st hX) Try.underlying28 rfl info_st ?_) | ((go_at_call 10; (with_reducible refine (r4 _).mono ?_)); rintro e w' ⟨rfl, h⟩; (have hb := Below_then hb h (Nat.le_refl _); have hX := Blk_below hX h (Blk_lt hX))) | ((go_at_call 9; (with_reducible refine (hkw _).mono ?_)); rintro e w' ⟨rfl, h⟩; (have hb := Below_then hb h (Nat.le_refl _); have hX := Blk_below hX h (Blk_lt hX))))
          first
            | (go_ret; exact ⟨rfl, hb⟩)
            | (exact absurd (of_decide_eq_false g) (by omega))
    · have r2 := fun w => sright_any (setL s 4 (0, 0)) (setL_wf hw 4 rfl rfl) (by rw [setL_len]; exact hul) w
      have r3 := fun w => sright_any (setL (setL s 4 (0, 0)) 4 (3 + q, 0)) (setL_wf (setL_wf hw 4 rfl rfl) 4 hq8 rfl) (by rw [setL_len, setL_len]; exact hul) w
      have r4 := fun w => sright_any (setL (setL (setL s 4 (0, 0)) 4 (3 + q, 0)) 4 (1, n)) (setL_wf (setL_wf (setL_wf hw 4 rfl rfl) 4 hq8 rfl) 4 rfl hn) (by rw [setL_len, setL_len, setL_len]; exact hul) w
      rw [set_odd (setL s 4 (0, 0)) 4 (by omega) (by omega) 0] at r3
      have ha := fun h => set_auto (s := s) 4 (by omega) h
      have hx := fun h => set_px (s := setL (setL s 4 (0, 0)) 4 (3 + q, 0)) 4 (by omega) (n := n) h
      generalize rightB s = B at *
      generalize rightB (setL (setL (setL s 4 (0, 0)) 4 (3 + q, 0)) 4 (1, n)) = B4 at *
      have HX := Lib.hid hx
      have HA := Lib.hid ha
      clear hx ha
      go_upto_region 6 with (((go_at_call 17; (with_reducible refine (slens2_any _ _).mono ?_)); rintro e w' ⟨rfl, hP, h⟩; have hb := Below_then hb h (Nat.le_refl _); have hX := Blk_below hX h (Blk_lt hX); have hp : w'.cell? ⟨_, 4, none⟩ = some (.pointer (some ⟨w.heap.size, 12, none⟩)) := Blk_cell hP 4; have c0 := St_cell (s := s) (j := 12) (v := .int .u8 (s).minh.1) hX rfl; have c1 := St_cell (s := s) (j := 12 + 1) (v := .int .i64 (s).minh.2) hX rfl; have f0 := Blk_frozen hX 12; have f1 := Blk_frozen hX (12 + 1); simp only [Nat.reduceAdd] at c1 f1))
      have hX : Blk ((w'.setCell ⟨w.heap.size, 12, none⟩ (.int .u8 0)).setCell ⟨w.heap.size, 12 + 1, none⟩ (.int .i64 0)) w.heap.size 28 (scells (setL s 4 (0, 0))).toArray := Blk_upd (Blk_set hX 12 (.int .u8 0)) (12 + 1) (.int .i64 0) (by simp [scells, setL])
      have hb : Below w.heap.size w ((w'.setCell ⟨w.heap.size, 12, none⟩ (.int .u8 0)).setCell ⟨w.heap.size, 12 + 1, none⟩ (.int .i64 0)) := (hb.setCell (by simp) _).setCell (by simp) _
      simp only [Nat.reduceAdd] at hX hb
      generalize hww : (w'.setCell ⟨w.heap.size, 12, none⟩ (.int .u8 0)).setCell _ (.int .i64 0) = wa at *
      clear hww hP hp c0 c1 f0 f1 h
      go_cut [28] (fun v wx => v = .bool false ∧ Below wa.heap.size wa wx)
      case first =>
        cases B
        · go_wp2_with fail
          go_meet
          exact ⟨rfl, Below.refl _ _⟩
        · rw [HA.out rfl] at r2
          go_wp2_with (first | ((with_reducible refine at_op ⟨some 25, .load 28 (.tmp 3), _, _, _, _⟩ ?_); refine wpList_load_want rfl 28 (.tmp 3) rfl _ 0 rfl (scells (setL s 4 (0, 0))) _ (range_st hX) Try.underlying28 rfl info_st ?_) | ((go_at_call 10; (with_reducible refine (r2 _).mono ?_)); rintro e w' ⟨rfl, h⟩))
          go_meet
          exact ⟨rfl, h⟩
      case rest =>
      obtain ⟨rfl, h⟩ := hcut
      have hb := Below_then hb h (Nat.le_refl _)
      have hX := Blk_below hX h (Blk_lt hX)
      clear h r2
      go_upto_region 9 with (((go_at_call 17; (with_reducible refine (slens2_any _ _).mono ?_)); rintro e w' ⟨rfl, hP, h⟩; have hb := Below_then hb h (Nat.le_refl _); have hX := Blk_below hX h (Blk_lt hX); have hp : w'.cell? ⟨_, 4, none⟩ = some (.pointer (some ⟨w.heap.size, 12, none⟩)) := Blk_cell hP 4; have c0 := St_cell (s := (setL s 4 (0, 0))) (j := 12) (v := .int .u8 ((setL s 4 (0, 0))).minh.1) hX rfl; have c1 := St_cell (s := (setL s 4 (0, 0))) (j := 12 + 1) (v := .int .i64 ((setL s 4 (0, 0))).minh.2) hX rfl; have f0 := Blk_frozen hX 12; have f1 := Blk_frozen hX (12 + 1); simp only [Nat.reduceAdd] at c1 f1))
      have hX : Blk ((w'.setCell ⟨w.heap.size, 12, none⟩ (.int .u8 (3 + q))).setCell ⟨w.heap.size, 12 + 1, none⟩ (.int .i64 0)) w.heap.size 28 (scells (setL (setL s 4 (0, 0)) 4 (3 + q, 0))).toArray := Blk_upd (Blk_set hX 12 (.int .u8 (3 + q))) (12 + 1) (.int .i64 0) (by simp [scells, setL])
      have hb : Below w.heap.size w ((w'.setCell ⟨w.heap.size, 12, none⟩ (.int .u8 (3 + q))).setCell ⟨w.heap.size, 12 + 1, none⟩ (.int .i64 0)) := (hb.setCell (by simp) _).setCell (by simp) _
      simp only [Nat.reduceAdd] at hX hb
      generalize hww : (w'.setCell ⟨w.heap.size, 12, none⟩ (.int .u8 (3 + q))).setCell _ (.int .i64 0) = wb at *
      clear hww hP hp c0 c1 f0 f1 h
      go_upto_region 11 with (first | ((with_reducible refine at_op ⟨some 38, .load 28 (.tmp 3), _, _, _, _⟩ ?_); refine wpList_load_mid rfl 28 (.tmp 3) rfl _ 0 rfl (scells (setL (setL s 4 (0, 0)) 4 (3 + q, 0))) _ (range_st hX) Try.underlying28 rfl info_st ?_) | ((go_at_call 10; (with_reducible refine (r3 _).mono ?_)); rintro e w' ⟨rfl, h⟩; (have hb := Below_then hb h (Nat.le_refl _); have hX := Blk_below hX h (Blk_lt hX))))
      clear r3 h
      go_upto_region 12 with (((go_at_call 17; (with_reducible refine (slens2_any _ _).mono ?_)); rintro e w' ⟨rfl, hP, h⟩; have hb := Below_then hb h (Nat.le_refl _); have hX := Blk_below hX h (Blk_lt hX); have hp : w'.cell? ⟨_, 4, none⟩ = some (.pointer (some ⟨w.heap.size, 12, none⟩)) := Blk_cell hP 4; have c0 := St_cell (s := (setL (setL s 4 (0, 0)) 4 (3 + q, 0))) (j := 12) (v := .int .u8 ((setL (setL s 4 (0, 0)) 4 (3 + q, 0))).minh.1) hX rfl; have c1 := St_cell (s := (setL (setL s 4 (0, 0)) 4 (3 + q, 0))) (j := 12 + 1) (v := .int .i64 ((setL (setL s 4 (0, 0)) 4 (3 + q, 0))).minh.2) hX rfl; have f0 := Blk_frozen hX 12; have f1 := Blk_frozen hX (12 + 1); simp only [Nat.reduceAdd] at c1 f1))
      have hX : Blk ((w'.setCell ⟨w.heap.size, 12, none⟩ (.int .u8 1)).setCell ⟨w.heap.size, 12 + 1, none⟩ (.int .i64 n)) w.heap.size 28 (scells (setL (setL (setL s 4 (0, 0)) 4 (3 + q, 0)) 4 (1, n))).toArray := Blk_upd (Blk_set hX 12 (.int .u8 1)) (12 + 1) (.int .i64 n) (by simp [scells, setL])
      have hb : Below w.heap.size w ((w'.setCell ⟨w.heap.size, 12, none⟩ (.int .u8 1)).setCell ⟨w.heap.size, 12 + 1, none⟩ (.int .i64 n)) := (hb.setCell (by simp) _).setCell (by simp) _
      simp only [Nat.reduceAdd] at hX hb
      generalize hww : (w'.setCell ⟨w.heap.size, 12, none⟩ (.int .u8 1)).setCell _ (.int .i64 n) = wc at *
      clear hww hP hp c0 c1 f0 f1 h
      cases B4
      · go_wp2_with (first | ((with_reducible refine at_op ⟨some 47, .load 28 (.tmp 3), _, _, _, _⟩ ?_); refine wpList_load_mid rfl 28 (.tmp 3) rfl _ 0 rfl (scells (setL (setL (setL s 4 (0, 0)) 4 (3 + q, 0)) 4 (1, n))) _ (range_st hX) Try.underlying28 rfl info_st ?_) | ((go_at_call 10; (with_reducible refine (r4 _).mono ?_)); rintro e w' ⟨rfl, h⟩; (have hb := Below_then hb h (Nat.le_refl _); have hX := Blk_below hX h (Blk_lt hX))) | ((go_at_call 9; (with_reducible refine (hkw _).mono ?_)); rintro e w' ⟨rfl, h⟩; (have hb := Below_then hb h (Nat.le_refl _); have hX := Blk_below hX h (Blk_lt hX))))
        go_ret
        exact ⟨rfl, hb⟩
      · obtain ⟨g1, g2, g3⟩ := HX.out rfl
        have d1 : decide (-1099511627776 ≤ n) = true := decide_eq_true g1
        have d2 : decide (n ≤ 1099511627776) = true := decide_eq_true g2
        cases g : decide (0 ≤ n)
        all_goals
          go_wp2_with (first | ((with_reducible refine at_op ⟨some 47, .load 28 (.tmp 3), _, _, _, _⟩ ?_); refine wpList_load_mid rfl 28 (.tmp 3) rfl _ 0 rfl (scells (setL (setL (setL s 4 (0, 0)) 4 (3 + q, 0)) 4 (1, n))) _ (range_st hX) Try.underlying28 rfl info_st ?_) | ((go_at_call 10; (with_reducible refine (r4 _).mono ?_)); rintro e w' ⟨rfl, h⟩; (have hb := Below_then hb h (Nat.le_refl _); have hX := Blk_below hX h (Blk_lt hX))) | ((go_at_call 9; (with_reducible refine (hkw _).mono ?_)); rintro e w' ⟨rfl, h⟩; (have hb := Below_then hb h (Nat.le_refl _); have hX := Blk_below hX h (Blk_lt hX))))
          first
            | (go_ret; exact ⟨rfl, hb⟩)
            | (exact absurd (of_decide_eq_false g) (by omega))
    · have r2 := fun w => sright_any (setL s 5 (0, 0)) (setL_wf hw 5 rfl rfl) (by rw [setL_len]; exact hul) w
      have r3 := fun w => sright_any (setL (setL s 5 (0, 0)) 5 (3 + q, 0)) (setL_wf (setL_wf hw 5 rfl rfl) 5 hq8 rfl) (by rw [setL_len, setL_len]; exact hul) w
      have r4 := fun w => sright_any (setL (setL (setL s 5 (0, 0)) 5 (3 + q, 0)) 5 (1, n)) (setL_wf (setL_wf (setL_wf hw 5 rfl rfl) 5 hq8 rfl) 5 rfl hn) (by rw [setL_len, setL_len, setL_len]; exact hul) w
      rw [set_odd (setL s 5 (0, 0)) 5 (by omega) (by omega) 0] at r3
      have ha := fun h => set_auto (s := s) 5 (by omega) h
      have hx := fun h => set_px (s := setL (setL s 5 (0, 0)) 5 (3 + q, 0)) 5 (by omega) (n := n) h
      generalize rightB s = B at *
      generalize rightB (setL (setL (setL s 5 (0, 0)) 5 (3 + q, 0)) 5 (1, n)) = B4 at *
      have HX := Lib.hid hx
      have HA := Lib.hid ha
      clear hx ha
      go_upto_region 6 with (((go_at_call 17; (with_reducible refine (slens2_any _ _).mono ?_)); rintro e w' ⟨rfl, hP, h⟩; have hb := Below_then hb h (Nat.le_refl _); have hX := Blk_below hX h (Blk_lt hX); have hp : w'.cell? ⟨_, 5, none⟩ = some (.pointer (some ⟨w.heap.size, 14, none⟩)) := Blk_cell hP 5; have c0 := St_cell (s := s) (j := 14) (v := .int .u8 (s).maxh.1) hX rfl; have c1 := St_cell (s := s) (j := 14 + 1) (v := .int .i64 (s).maxh.2) hX rfl; have f0 := Blk_frozen hX 14; have f1 := Blk_frozen hX (14 + 1); simp only [Nat.reduceAdd] at c1 f1))
      have hX : Blk ((w'.setCell ⟨w.heap.size, 14, none⟩ (.int .u8 0)).setCell ⟨w.heap.size, 14 + 1, none⟩ (.int .i64 0)) w.heap.size 28 (scells (setL s 5 (0, 0))).toArray := Blk_upd (Blk_set hX 14 (.int .u8 0)) (14 + 1) (.int .i64 0) (by simp [scells, setL])
      have hb : Below w.heap.size w ((w'.setCell ⟨w.heap.size, 14, none⟩ (.int .u8 0)).setCell ⟨w.heap.size, 14 + 1, none⟩ (.int .i64 0)) := (hb.setCell (by simp) _).setCell (by simp) _
      simp only [Nat.reduceAdd] at hX hb
      generalize hww : (w'.setCell ⟨w.heap.size, 14, none⟩ (.int .u8 0)).setCell _ (.int .i64 0) = wa at *
      clear hww hP hp c0 c1 f0 f1 h
      go_cut [28] (fun v wx => v = .bool false ∧ Below wa.heap.size wa wx)
      case first =>
        cases B
        · go_wp2_with fail
          go_meet
          exact ⟨rfl, Below.refl _ _⟩
        · rw [HA.out rfl] at r2
          go_wp2_with (first | ((with_reducible refine at_op ⟨some 25, .load 28 (.tmp 3), _, _, _, _⟩ ?_); refine wpList_load_want rfl 28 (.tmp 3) rfl _ 0 rfl (scells (setL s 5 (0, 0))) _ (range_st hX) Try.underlying28 rfl info_st ?_) | ((go_at_call 10; (with_reducible refine (r2 _).mono ?_)); rintro e w' ⟨rfl, h⟩))
          go_meet
          exact ⟨rfl, h⟩
      case rest =>
      obtain ⟨rfl, h⟩ := hcut
      have hb := Below_then hb h (Nat.le_refl _)
      have hX := Blk_below hX h (Blk_lt hX)
      clear h r2
      go_upto_region 9 with (((go_at_call 17; (with_reducible refine (slens2_any _ _).mono ?_)); rintro e w' ⟨rfl, hP, h⟩; have hb := Below_then hb h (Nat.le_refl _); have hX := Blk_below hX h (Blk_lt hX); have hp : w'.cell? ⟨_, 5, none⟩ = some (.pointer (some ⟨w.heap.size, 14, none⟩)) := Blk_cell hP 5; have c0 := St_cell (s := (setL s 5 (0, 0))) (j := 14) (v := .int .u8 ((setL s 5 (0, 0))).maxh.1) hX rfl; have c1 := St_cell (s := (setL s 5 (0, 0))) (j := 14 + 1) (v := .int .i64 ((setL s 5 (0, 0))).maxh.2) hX rfl; have f0 := Blk_frozen hX 14; have f1 := Blk_frozen hX (14 + 1); simp only [Nat.reduceAdd] at c1 f1))
      have hX : Blk ((w'.setCell ⟨w.heap.size, 14, none⟩ (.int .u8 (3 + q))).setCell ⟨w.heap.size, 14 + 1, none⟩ (.int .i64 0)) w.heap.size 28 (scells (setL (setL s 5 (0, 0)) 5 (3 + q, 0))).toArray := Blk_upd (Blk_set hX 14 (.int .u8 (3 + q))) (14 + 1) (.int .i64 0) (by simp [scells, setL])
      have hb : Below w.heap.size w ((w'.setCell ⟨w.heap.size, 14, none⟩ (.int .u8 (3 + q))).setCell ⟨w.heap.size, 14 + 1, none⟩ (.int .i64 0)) := (hb.setCell (by simp) _).setCell (by simp) _
      simp only [Nat.reduceAdd] at hX hb
      generalize hww : (w'.setCell ⟨w.heap.size, 14, none⟩ (.int .u8 (3 + q))).setCell _ (.int .i64 0) = wb at *
      clear hww hP hp c0 c1 f0 f1 h
      go_upto_region 11 with (first | ((with_reducible refine at_op ⟨some 38, .load 28 (.tmp 3), _, _, _, _⟩ ?_); refine wpList_load_mid rfl 28 (.tmp 3) rfl _ 0 rfl (scells (setL (setL s 5 (0, 0)) 5 (3 + q, 0))) _ (range_st hX) Try.underlying28 rfl info_st ?_) | ((go_at_call 10; (with_reducible refine (r3 _).mono ?_)); rintro e w' ⟨rfl, h⟩; (have hb := Below_then hb h (Nat.le_refl _); have hX := Blk_below hX h (Blk_lt hX))))
      clear r3 h
      go_upto_region 12 with (((go_at_call 17; (with_reducible refine (slens2_any _ _).mono ?_)); rintro e w' ⟨rfl, hP, h⟩; have hb := Below_then hb h (Nat.le_refl _); have hX := Blk_below hX h (Blk_lt hX); have hp : w'.cell? ⟨_, 5, none⟩ = some (.pointer (some ⟨w.heap.size, 14, none⟩)) := Blk_cell hP 5; have c0 := St_cell (s := (setL (setL s 5 (0, 0)) 5 (3 + q, 0))) (j := 14) (v := .int .u8 ((setL (setL s 5 (0, 0)) 5 (3 + q, 0))).maxh.1) hX rfl; have c1 := St_cell (s := (setL (setL s 5 (0, 0)) 5 (3 + q, 0))) (j := 14 + 1) (v := .int .i64 ((setL (setL s 5 (0, 0)) 5 (3 + q, 0))).maxh.2) hX rfl; have f0 := Blk_frozen hX 14; have f1 := Blk_frozen hX (14 + 1); simp only [Nat.reduceAdd] at c1 f1))
      have hX : Blk ((w'.setCell ⟨w.heap.size, 14, none⟩ (.int .u8 1)).setCell ⟨w.heap.size, 14 + 1, none⟩ (.int .i64 n)) w.heap.size 28 (scells (setL (setL (setL s 5 (0, 0)) 5 (3 + q, 0)) 5 (1, n))).toArray := Blk_upd (Blk_set hX 14 (.int .u8 1)) (14 + 1) (.int .i64 n) (by simp [scells, setL])
      have hb : Below w.heap.size w ((w'.setCell ⟨w.heap.size, 14, none⟩ (.int .u8 1)).setCell ⟨w.heap.size, 14 + 1, none⟩ (.int .i64 n)) := (hb.setCell (by simp) _).setCell (by simp) _
      simp only [Nat.reduceAdd] at hX hb
      generalize hww : (w'.setCell ⟨w.heap.size, 14, none⟩ (.int .u8 1)).setCell _ (.int .i64 n) = wc at *
      clear hww hP hp c0 c1 f0 f1 h
      cases B4
      · go_wp2_with (first | ((with_reducible refine at_op ⟨some 47, .load 28 (.tmp 3), _, _, _, _⟩ ?_); refine wpList_load_mid rfl 28 (.tmp 3) rfl _ 0 rfl (scells (setL (setL (setL s 5 (0, 0)) 5 (3 + q, 0)) 5 (1, n))) _ (range_st hX) Try.underlying28 rfl info_st ?_) | ((go_at_call 10; (with_reducible refine (r4 _).mono ?_)); rintro e w' ⟨rfl, h⟩; (have hb := Below_then hb h (Nat.le_refl _); have hX := Blk_below hX h (Blk_lt hX))) | ((go_at_call 9; (with_reducible refine (hkw _).mono ?_)); rintro e w' ⟨rfl, h⟩; (have hb := Below_then hb h (Nat.le_refl _); have hX := Blk_below hX h (Blk_lt hX))))
        go_ret
        exact ⟨rfl, hb⟩
      · obtain ⟨g1, g2, g3⟩ := HX.out rfl
        have d1 : decide (-1099511627776 ≤ n) = true := decide_eq_true g1
        have d2 : decide (n ≤ 1099511627776) = true := decide_eq_true g2
        cases g : decide (0 ≤ n)
        all_goals
          go_wp2_with (first | ((with_reducible refine at_op ⟨some 47, .load 28 (.tmp 3), _, _, _, _⟩ ?_); refine wpList_load_mid rfl 28 (.tmp 3) rfl _ 0 rfl (scells (setL (setL (setL s 5 (0, 0)) 5 (3 + q, 0)) 5 (1, n))) _ (range_st hX) Try.underlying28 rfl info_st ?_) | ((go_at_call 10; (with_reducible refine (r4 _).mono ?_)); rintro e w' ⟨rfl, h⟩; (have hb := Below_then hb h (Nat.le_refl _); have hX := Blk_below hX h (Blk_lt hX))) | ((go_at_call 9; (with_reducible refine (hkw _).mono ?_)); rintro e w' ⟨rfl, h⟩; (have hb := Below_then hb h (Nat.le_refl _); have hX := Blk_below hX h (Blk_lt hX))))
          first
            | (go_ret; exact ⟨rfl, hb⟩)
            | (exact absurd (of_decide_eq_false g) (by omega))
    · have r2 := fun w => sright_any (setL s 6 (0, 0)) (setL_wf hw 6 rfl rfl) (by rw [setL_len]; exact hul) w
      have r3 := fun w => sright_any (setL (setL s 6 (0, 0)) 6 (3 + q, 0)) (setL_wf (setL_wf hw 6 rfl rfl) 6 hq8 rfl) (by rw [setL_len, setL_len]; exact hul) w
      have r4 := fun w => sright_any (setL (setL (setL s 6 (0, 0)) 6 (3 + q, 0)) 6 (1, n)) (setL_wf (setL_wf (setL_wf hw 6 rfl rfl) 6 hq8 rfl) 6 rfl hn) (by rw [setL_len, setL_len, setL_len]; exact hul) w
      rw [set_odd (setL s 6 (0, 0)) 6 (by omega) (by omega) 0] at r3
      have ha := fun h => set_auto (s := s) 6 (by omega) h
      have hx := fun h => set_px (s := setL (setL s 6 (0, 0)) 6 (3 + q, 0)) 6 (by omega) (n := n) h
      generalize rightB s = B at *
      generalize rightB (setL (setL (setL s 6 (0, 0)) 6 (3 + q, 0)) 6 (1, n)) = B4 at *
      have HX := Lib.hid hx
      have HA := Lib.hid ha
      clear hx ha
      go_upto_region 6 with (((go_at_call 17; (with_reducible refine (slens2_any _ _).mono ?_)); rintro e w' ⟨rfl, hP, h⟩; have hb := Below_then hb h (Nat.le_refl _); have hX := Blk_below hX h (Blk_lt hX); have hp : w'.cell? ⟨_, 6, none⟩ = some (.pointer (some ⟨w.heap.size, 40, none⟩)) := Blk_cell hP 6; have c0 := St_cell (s := s) (j := 40) (v := .int .u8 (s).basis.1) hX rfl; have c1 := St_cell (s := s) (j := 40 + 1) (v := .int .i64 (s).basis.2) hX rfl; have f0 := Blk_frozen hX 40; have f1 := Blk_frozen hX (40 + 1); simp only [Nat.reduceAdd] at c1 f1))
      have hX : Blk ((w'.setCell ⟨w.heap.size, 40, none⟩ (.int .u8 0)).setCell ⟨w.heap.size, 40 + 1, none⟩ (.int .i64 0)) w.heap.size 28 (scells (setL s 6 (0, 0))).toArray := Blk_upd (Blk_set hX 40 (.int .u8 0)) (40 + 1) (.int .i64 0) (by simp [scells, setL])
      have hb : Below w.heap.size w ((w'.setCell ⟨w.heap.size, 40, none⟩ (.int .u8 0)).setCell ⟨w.heap.size, 40 + 1, none⟩ (.int .i64 0)) := (hb.setCell (by simp) _).setCell (by simp) _
      simp only [Nat.reduceAdd] at hX hb
      generalize hww : (w'.setCell ⟨w.heap.size, 40, none⟩ (.int .u8 0)).setCell _ (.int .i64 0) = wa at *
      clear hww hP hp c0 c1 f0 f1 h
      go_cut [28] (fun v wx => v = .bool false ∧ Below wa.heap.size wa wx)
      case first =>
        cases B
        · go_wp2_with fail
          go_meet
          exact ⟨rfl, Below.refl _ _⟩
        · rw [HA.out rfl] at r2
          go_wp2_with (first | ((with_reducible refine at_op ⟨some 25, .load 28 (.tmp 3), _, _, _, _⟩ ?_); refine wpList_load_want rfl 28 (.tmp 3) rfl _ 0 rfl (scells (setL s 6 (0, 0))) _ (range_st hX) Try.underlying28 rfl info_st ?_) | ((go_at_call 10; (with_reducible refine (r2 _).mono ?_)); rintro e w' ⟨rfl, h⟩))
          go_meet
          exact ⟨rfl, h⟩
      case rest =>
      obtain ⟨rfl, h⟩ := hcut
      have hb := Below_then hb h (Nat.le_refl _)
      have hX := Blk_below hX h (Blk_lt hX)
      clear h r2
      go_upto_region 9 with (((go_at_call 17; (with_reducible refine (slens2_any _ _).mono ?_)); rintro e w' ⟨rfl, hP, h⟩; have hb := Below_then hb h (Nat.le_refl _); have hX := Blk_below hX h (Blk_lt hX); have hp : w'.cell? ⟨_, 6, none⟩ = some (.pointer (some ⟨w.heap.size, 40, none⟩)) := Blk_cell hP 6; have c0 := St_cell (s := (setL s 6 (0, 0))) (j := 40) (v := .int .u8 ((setL s 6 (0, 0))).basis.1) hX rfl; have c1 := St_cell (s := (setL s 6 (0, 0))) (j := 40 + 1) (v := .int .i64 ((setL s 6 (0, 0))).basis.2) hX rfl; have f0 := Blk_frozen hX 40; have f1 := Blk_frozen hX (40 + 1); simp only [Nat.reduceAdd] at c1 f1))
      have hX : Blk ((w'.setCell ⟨w.heap.size, 40, none⟩ (.int .u8 (3 + q))).setCell ⟨w.heap.size, 40 + 1, none⟩ (.int .i64 0)) w.heap.size 28 (scells (setL (setL s 6 (0, 0)) 6 (3 + q, 0))).toArray := Blk_upd (Blk_set hX 40 (.int .u8 (3 + q))) (40 + 1) (.int .i64 0) (by simp [scells, setL])
      have hb : Below w.heap.size w ((w'.setCell ⟨w.heap.size, 40, none⟩ (.int .u8 (3 + q))).setCell ⟨w.heap.size, 40 + 1, none⟩ (.int .i64 0)) := (hb.setCell (by simp) _).setCell (by simp) _
      simp only [Nat.reduceAdd] at hX hb
      generalize hww : (w'.setCell ⟨w.heap.size, 40, none⟩ (.int .u8 (3 + q))).setCell _ (.int .i64 0) = wb at *
      clear hww hP hp c0 c1 f0 f1 h
      go_upto_region 11 with (first | ((with_reducible refine at_op ⟨some 38, .load 28 (.tmp 3), _, _, _, _⟩ ?_); refine wpList_load_mid rfl 28 (.tmp 3) rfl _ 0 rfl (scells (setL (setL s 6 (0, 0)) 6 (3 + q, 0))) _ (range_st hX) Try.underlying28 rfl info_st ?_) | ((go_at_call 10; (with_reducible refine (r3 _).mono ?_)); rintro e w' ⟨rfl, h⟩; (have hb := Below_then hb h (Nat.le_refl _); have hX := Blk_below hX h (Blk_lt hX))))
      clear r3 h
      go_upto_region 12 with (((go_at_call 17; (with_reducible refine (slens2_any _ _).mono ?_)); rintro e w' ⟨rfl, hP, h⟩; have hb := Below_then hb h (Nat.le_refl _); have hX := Blk_below hX h (Blk_lt hX); have hp : w'.cell? ⟨_, 6, none⟩ = some (.pointer (some ⟨w.heap.size, 40, none⟩)) := Blk_cell hP 6; have c0 := St_cell (s := (setL (setL s 6 (0, 0)) 6 (3 + q, 0))) (j := 40) (v := .int .u8 ((setL (setL s 6 (0, 0)) 6 (3 + q, 0))).basis.1) hX rfl; have c1 := St_cell (s := (setL (setL s 6 (0, 0)) 6 (3 + q, 0))) (j := 40 + 1) (v := .int .i64 ((setL (setL s 6 (0, 0)) 6 (3 + q, 0))).basis.2) hX rfl; have f0 := Blk_frozen hX 40; have f1 := Blk_frozen hX (40 + 1); simp only [Nat.reduceAdd] at c1 f1))
      have hX : Blk ((w'.setCell ⟨w.heap.size, 40, none⟩ (.int .u8 1)).setCell ⟨w.heap.size, 40 + 1, none⟩ (.int .i64 n)) w.heap.size 28 (scells (setL (setL (setL s 6 (0, 0)) 6 (3 + q, 0)) 6 (1, n))).toArray := Blk_upd (Blk_set hX 40 (.int .u8 1)) (40 + 1) (.int .i64 n) (by simp [scells, setL])
      have hb : Below w.heap.size w ((w'.setCell ⟨w.heap.size, 40, none⟩ (.int .u8 1)).setCell ⟨w.heap.size, 40 + 1, none⟩ (.int .i64 n)) := (hb.setCell (by simp) _).setCell (by simp) _
      simp only [Nat.reduceAdd] at hX hb
      generalize hww : (w'.setCell ⟨w.heap.size, 40, none⟩ (.int .u8 1)).setCell _ (.int .i64 n) = wc at *
      clear hww hP hp c0 c1 f0 f1 h
      cases B4
      · go_wp2_with (first | ((with_reducible refine at_op ⟨some 47, .load 28 (.tmp 3), _, _, _, _⟩ ?_); refine wpList_load_mid rfl 28 (.tmp 3) rfl _ 0 rfl (scells (setL (setL (setL s 6 (0, 0)) 6 (3 + q, 0)) 6 (1, n))) _ (range_st hX) Try.underlying28 rfl info_st ?_) | ((go_at_call 10; (with_reducible refine (r4 _).mono ?_)); rintro e w' ⟨rfl, h⟩; (have hb := Below_then hb h (Nat.le_refl _); have hX := Blk_below hX h (Blk_lt hX))) | ((go_at_call 9; (with_reducible refine (hkw _).mono ?_)); rintro e w' ⟨rfl, h⟩; (have hb := Below_then hb h (Nat.le_refl _); have hX := Blk_below hX h (Blk_lt hX))))
        go_ret
        exact ⟨rfl, hb⟩
      · obtain ⟨g1, g2, g3⟩ := HX.out rfl
        have d1 : decide (-1099511627776 ≤ n) = true := decide_eq_true g1
        have d2 : decide (n ≤ 1099511627776) = true := decide_eq_true g2
        cases g : decide (0 ≤ n)
        all_goals
          go_wp2_with (first | ((with_reducible refine at_op ⟨some 47, .load 28 (.tmp 3), _, _, _, _⟩ ?_); refine wpList_load_mid rfl 28 (.tmp 3) rfl _ 0 rfl (scells (setL (setL (setL s 6 (0, 0)) 6 (3 + q, 0)) 6 (1, n))) _ (range_st hX) Try.underlying28 rfl info_st ?_) | ((go_at_call 10; (with_reducible refine (r4 _).mono ?_)); rintro e w' ⟨rfl, h⟩; (have hb := Below_then hb h (Nat.le_refl _); have hX := Blk_below hX h (Blk_lt hX))) | ((go_at_call 9; (with_reducible refine (hkw _).mono ?_)); rintro e w' ⟨rfl, h⟩; (have hb := Below_then hb h (Nat.le_refl _); have hX := Blk_below hX h (Blk_lt hX))))
          first
            | (go_ret; exact ⟨rfl, hb⟩)
            | (exact absurd (of_decide_eq_false g) (by omega))
    · have r2 := fun w => sright_any (setL s 7 (0, 0)) (setL_wf hw 7 rfl rfl) (by rw [setL_len]; exact hul) w
      have r3 := fun w => sright_any (setL (setL s 7 (0, 0)) 7 (3 + q, 0)) (setL_wf (setL_wf hw 7 rfl rfl) 7 hq8 rfl) (by rw [setL_len, setL_len]; exact hul) w
      have r4 := fun w => sright_any (setL (setL (setL s 7 (0, 0)) 7 (3 + q, 0)) 7 (1, n)) (setL_wf (setL_wf (setL_wf hw 7 rfl rfl) 7 hq8 rfl) 7 rfl hn) (by rw [setL_len, setL_len, setL_len]; exact hul) w
      rw [set_odd (setL s 7 (0, 0)) 7 (by omega) (by omega) 0] at r3
      have ha := fun h => set_auto (s := s) 7 (by omega) h
      have hx := fun h => set_px (s := setL (setL s 7 (0, 0)) 7 (3 + q, 0)) 7 (by omega) (n := n) h
      generalize rightB s = B at *
      generalize rightB (setL (setL (setL s 7 (0, 0)) 7 (3 + q, 0)) 7 (1, n)) = B4 at *
      have HX := Lib.hid hx
      have HA := Lib.hid ha
      clear hx ha
      go_upto_region 6 with (((go_at_call 17; (with_reducible refine (slens2_any _ _).mono ?_)); rintro e w' ⟨rfl, hP, h⟩; have hb := Below_then hb h (Nat.le_refl _); have hX := Blk_below hX h (Blk_lt hX); have hp : w'.cell? ⟨_, 7, none⟩ = some (.pointer (some ⟨w.heap.size, 16, none⟩)) := Blk_cell hP 7; have c0 := St_cell (s := s) (j := 16) (v := .int .u8 (s).m0.1) hX rfl; have c1 := St_cell (s := s) (j := 16 + 1) (v := .int .i64 (s).m0.2) hX rfl; have f0 := Blk_frozen hX 16; have f1 := Blk_frozen hX (16 + 1); simp only [Nat.reduceAdd] at c1 f1))
      have hX : Blk ((w'.setCell ⟨w.heap.size, 16, none⟩ (.int .u8 0)).setCell ⟨w.heap.size, 16 + 1, none⟩ (.int .i64 0)) w.heap.size 28 (scells (setL s 7 (0, 0))).toArray := Blk_upd (Blk_set hX 16 (.int .u8 0)) (16 + 1) (.int .i64 0) (by simp [scells, setL])
      have hb : Below w.heap.size w ((w'.setCell ⟨w.heap.size, 16, none⟩ (.int .u8 0)).setCell ⟨w.heap.size, 16 + 1, none⟩ (.int .i64 0)) := (hb.setCell (by simp) _).setCell (by simp) _
      simp only [Nat.reduceAdd] at hX hb
      generalize hww : (w'.setCell ⟨w.heap.size, 16, none⟩ (.int .u8 0)).setCell _ (.int .i64 0) = wa at *
      clear hww hP hp c0 c1 f0 f1 h
      go_cut [28] (fun v wx => v = .bool false ∧ Below wa.heap.size wa wx)
      case first =>
        cases B
        · go_wp2_with fail
          go_meet
          exact ⟨rfl, Below.refl _ _⟩
        · rw [HA.out rfl] at r2
          go_wp2_with (first | ((with_reducible refine at_op ⟨some 25, .load 28 (.tmp 3), _, _, _, _⟩ ?_); refine wpList_load_want rfl 28 (.tmp 3) rfl _ 0 rfl (scells (setL s 7 (0, 0))) _ (range_st hX) Try.underlying28 rfl info_st ?_) | ((go_at_call 10; (with_reducible refine (r2 _).mono ?_)); rintro e w' ⟨rfl, h⟩))
          go_meet
          exact ⟨rfl, h⟩
      case rest =>
      obtain ⟨rfl, h⟩ := hcut
      have hb := Below_then hb h (Nat.le_refl _)
      have hX := Blk_below hX h (Blk_lt hX)
      clear h r2
      go_upto_region 9 with (((go_at_call 17; (with_reducible refine (slens2_any _ _).mono ?_)); rintro e w' ⟨rfl, hP, h⟩; have hb := Below_then hb h (Nat.le_refl _); have hX := Blk_below hX h (Blk_lt hX); have hp : w'.cell? ⟨_, 7, none⟩ = some (.pointer (some ⟨w.heap.size, 16, none⟩)) := Blk_cell hP 7; have c0 := St_cell (s := (setL s 7 (0, 0))) (j := 16) (v := .int .u8 ((setL s 7 (0, 0))).m0.1) hX rfl; have c1 := St_cell (s := (setL s 7 (0, 0))) (j := 16 + 1) (v := .int .i64 ((setL s 7 (0, 0))).m0.2) hX rfl; have f0 := Blk_frozen hX 16; have f1 := Blk_frozen hX (16 + 1); simp only [Nat.reduceAdd] at c1 f1))
      have hX : Blk ((w'.setCell ⟨w.heap.size, 16, none⟩ (.int .u8 (3 + q))).setCell ⟨w.heap.size, 16 + 1, none⟩ (.int .i64 0)) w.heap.size 28 (scells (setL (setL s 7 (0, 0)) 7 (3 + q, 0))).toArray := Blk_upd (Blk_set hX 16 (.int .u8 (3 + q))) (16 + 1) (.int .i64 0) (by simp [scells, setL])
      have hb : Below w.heap.size w ((w'.setCell ⟨w.heap.size, 16, none⟩ (.int .u8 (3 + q))).setCell ⟨w.heap.size, 16 + 1, none⟩ (.int .i64 0)) := (hb.setCell (by simp) _).setCell (by simp) _
      simp only [Nat.reduceAdd] at hX hb
      generalize hww : (w'.setCell ⟨w.heap.size, 16, none⟩ (.int .u8 (3 + q))).setCell _ (.int .i64 0) = wb at *
      clear hww hP hp c0 c1 f0 f1 h
      go_upto_region 11 with (first | ((with_reducible refine at_op ⟨some 38, .load 28 (.tmp 3), _, _, _, _⟩ ?_); refine wpList_load_mid rfl 28 (.tmp 3) rfl _ 0 rfl (scells (setL (setL s 7 (0, 0)) 7 (3 + q, 0))) _ (range_st hX) Try.underlying28 rfl info_st ?_) | ((go_at_call 10; (with_reducible refine (r3 _).mono ?_)); rintro e w' ⟨rfl, h⟩; (have hb := Below_then hb h (Nat.le_refl _); have hX := Blk_below hX h (Blk_lt hX))))
      clear r3 h
      go_upto_region 12 with (((go_at_call 17; (with_reducible refine (slens2_any _ _).mono ?_)); rintro e w' ⟨rfl, hP, h⟩; have hb := Below_then hb h (Nat.le_refl _); have hX := Blk_below hX h (Blk_lt hX); have hp : w'.cell? ⟨_, 7, none⟩ = some (.pointer (some ⟨w.heap.size, 16, none⟩)) := Blk_cell hP 7; have c0 := St_cell (s := (setL (setL s 7 (0, 0)) 7 (3 + q, 0))) (j := 16) (v := .int .u8 ((setL (setL s 7 (0, 0)) 7 (3 + q, 0))).m0.1) hX rfl; have c1 := St_cell (s := (setL (setL s 7 (0, 0)) 7 (3 + q, 0))) (j := 16 + 1) (v := .int .i64 ((setL (setL s 7 (0, 0)) 7 (3 + q, 0))).m0.2) hX rfl; have f0 := Blk_frozen hX 16; have f1 := Blk_frozen hX (16 + 1); simp only [Nat.reduceAdd] at c1 f1))
      have hX : Blk ((w'.setCell ⟨w.heap.size, 16, none⟩ (.int .u8 1)).setCell ⟨w.heap.size, 16 + 1, none⟩ (.int .i64 n)) w.heap.size 28 (scells (setL (setL (setL s 7 (0, 0)) 7 (3 + q, 0)) 7 (1, n))).toArray := Blk_upd (Blk_set hX 16 (.int .u8 1)) (16 + 1) (.int .i64 n) (by simp [scells, setL])
      have hb : Below w.heap.size w ((w'.setCell ⟨w.heap.size, 16, none⟩ (.int .u8 1)).setCell ⟨w.heap.size, 16 + 1, none⟩ (.int .i64 n)) := (hb.setCell (by simp) _).setCell (by simp) _
      simp only [Nat.reduceAdd] at hX hb
      generalize hww : (w'.setCell ⟨w.heap.size, 16, none⟩ (.int .u8 1)).setCell _ (.int .i64 n) = wc at *
      clear hww hP hp c0 c1 f0 f1 h
      cases B4
      · go_wp2_with (first | ((with_reducible refine at_op ⟨some 47, .load 28 (.tmp 3), _, _, _, _⟩ ?_); refine wpList_load_mid rfl 28 (.tmp 3) rfl _ 0 rfl (scells (setL (setL (setL s 7 (0, 0)) 7 (3 + q, 0)) 7 (1, n))) _ (range_st hX) Try.underlying28 rfl info_st ?_) | ((go_at_call 10; (with_reducible refine (r4 _).mono ?_)); rintro e w' ⟨rfl, h⟩; (have hb := Below_then hb h (Nat.le_refl _); have hX := Blk_below hX h (Blk_lt hX))) | ((go_at_call 9; (with_reducible refine (hkw _).mono ?_)); rintro e w' ⟨rfl, h⟩; (have hb := Below_then hb h (Nat.le_refl _); have hX := Blk_below hX h (Blk_lt hX))))
        go_ret
        exact ⟨rfl, hb⟩
      · obtain ⟨g1, g2, g3⟩ := HX.out rfl
        have d1 : decide (-1099511627776 ≤ n) = true := decide_eq_true g1
        have d2 : decide (n ≤ 1099511627776) = true := decide_eq_true g2
        cases g : decide (0 ≤ n)
        all_goals
          go_wp2_with (first | ((with_reducible refine at_op ⟨some 47, .load 28 (.tmp 3), _, _, _, _⟩ ?_); refine wpList_load_mid rfl 28 (.tmp 3) rfl _ 0 rfl (scells (setL (setL (setL s 7 (0, 0)) 7 (3 + q, 0)) 7 (1, n))) _ (range_st hX) Try.underlying28 rfl info_st ?_) | ((go_at_call 10; (with_reducible refine (r4 _).mono ?_)); rintro e w' ⟨rfl, h⟩; (have hb := Below_then hb h (Nat.le_refl _); have hX := Blk_below hX h (Blk_lt hX))) | ((go_at_call 9; (with_reducible refine (hkw _).mono ?_)); rintro e w' ⟨rfl, h⟩; (have hb := Below_then hb h (Nat.le_refl _); have hX := Blk_below hX h (Blk_lt hX))))
          first
            | (go_ret; exact ⟨rfl, hb⟩)
            | (exact absurd (of_decide_eq_false g) (by omega))
    · have r2 := fun w => sright_any (setL s 8 (0, 0)) (setL_wf hw 8 rfl rfl) (by rw [setL_len]; exact hul) w
      have r3 := fun w => sright_any (setL (setL s 8 (0, 0)) 8 (3 + q, 0)) (setL_wf (setL_wf hw 8 rfl rfl) 8 hq8 rfl) (by rw [setL_len, setL_len]; exact hul) w
      have r4 := fun w => sright_any (setL (setL (setL s 8 (0, 0)) 8 (3 + q, 0)) 8 (1, n)) (setL_wf (setL_wf (setL_wf hw 8 rfl rfl) 8 hq8 rfl) 8 rfl hn) (by rw [setL_len, setL_len, setL_len]; exact hul) w
      rw [set_odd (setL s 8 (0, 0)) 8 (by omega) (by omega) 0] at r3
      have ha := fun h => set_auto (s := s) 8 (by omega) h
      have hx := fun h => set_px (s := setL (setL s 8 (0, 0)) 8 (3 + q, 0)) 8 (by omega) (n := n) h
      generalize rightB s = B at *
      generalize rightB (setL (setL (setL s 8 (0, 0)) 8 (3 + q, 0)) 8 (1, n)) = B4 at *
      have HX := Lib.hid hx
      have HA := Lib.hid ha
      clear hx ha
      go_upto_region 6 with (((go_at_call 17; (with_reducible refine (slens2_any _ _).mono ?_)); rintro e w' ⟨rfl, hP, h⟩; have hb := Below_then hb h (Nat.le_refl _); have hX := Blk_below hX h (Blk_lt hX); have hp : w'.cell? ⟨_, 8, none⟩ = some (.pointer (some ⟨w.heap.size, 18, none⟩)) := Blk_cell hP 8; have c0 := St_cell (s := s) (j := 18) (v := .int .u8 (s).m1.1) hX rfl; have c1 := St_cell (s := s) (j := 18 + 1) (v := .int .i64 (s).m1.2) hX rfl; have f0 := Blk_frozen hX 18; have f1 := Blk_frozen hX (18 + 1); simp only [Nat.reduceAdd] at c1 f1))
      have hX : Blk ((w'.setCell ⟨w.heap.size, 18, none⟩ (.int .u8 0)).setCell ⟨w.heap.size, 18 + 1, none⟩ (.int .i64 0)) w.heap.size 28 (scells (setL s 8 (0, 0))).toArray := Blk_upd (Blk_set hX 18 (.int .u8 0)) (18 + 1) (.int .i64 0) (by simp [scells, setL])
      have hb : Below w.heap.size w ((w'.setCell ⟨w.heap.size, 18, none⟩ (.int .u8 0)).setCell ⟨w.heap.size, 18 + 1, none⟩ (.int .i64 0)) := (hb.setCell (by simp) _).setCell (by simp) _
      simp only [Nat.reduceAdd] at hX hb
      generalize hww : (w'.setCell ⟨w.heap.size, 18, none⟩ (.int .u8 0)).setCell _ (.int .i64 0) = wa at *
      clear hww hP hp c0 c1 f0 f1 h
      go_cut [28] (fun v wx => v = .bool false ∧ Below wa.heap.size wa wx)
      case first =>
        cases B
        · go_wp2_with fail
          go_meet
          exact ⟨rfl, Below.refl _ _⟩
        · rw [HA.out rfl] at r2
          go_wp2_with (first | ((with_reducible refine at_op ⟨some 25, .load 28 (.tmp 3), _, _, _, _⟩ ?_); refine wpList_load_want rfl 28 (.tmp 3) rfl _ 0 rfl (scells (setL s 8 (0, 0))) _ (range_st hX) Try.underlying28 rfl info_st ?_) | ((go_at_call 10; (with_reducible refine (r2 _).mono ?_)); rintro e w' ⟨rfl, h⟩))
          go_meet
          exact ⟨rfl, h⟩
      case rest =>
      obtain ⟨rfl, h⟩ := hcut
      have hb := Below_then hb h (Nat.le_refl _)
      have hX := Blk_below hX h (Blk_lt hX)
      clear h r2
      go_upto_region 9 with (((go_at_call 17; (with_reducible refine (slens2_any _ _).mono ?_)); rintro e w' ⟨rfl, hP, h⟩; have hb := Below_then hb h (Nat.le_refl _); have hX := Blk_below hX h (Blk_lt hX); have hp : w'.cell? ⟨_, 8, none⟩ = some (.pointer (some ⟨w.heap.size, 18, none⟩)) := Blk_cell hP 8; have c0 := St_cell (s := (setL s 8 (0, 0))) (j := 18) (v := .int .u8 ((setL s 8 (0, 0))).m1.1) hX rfl; have c1 := St_cell (s := (setL s 8 (0, 0))) (j := 18 + 1) (v := .int .i64 ((setL s 8 (0, 0))).m1.2) hX rfl; have f0 := Blk_frozen hX 18; have f1 := Blk_frozen hX (18 + 1); simp only [Nat.reduceAdd] at c1 f1))
      have hX : Blk ((w'.setCell ⟨w.heap.size, 18, none⟩ (.int .u8 (3 + q))).setCell ⟨w.heap.size, 18 + 1, none⟩ (.int .i64 0)) w.heap.size 28 (scells (setL (setL s 8 (0, 0)) 8 (3 + q, 0))).toArray := Blk_upd (Blk_set hX 18 (.int .u8 (3 + q))) (18 + 1) (.int .i64 0) (by simp [scells, setL])
      have hb : Below w.heap.size w ((w'.setCell ⟨w.heap.size, 18, none⟩ (.int .u8 (3 + q))).setCell ⟨w.heap.size, 18 + 1, none⟩ (.int .i64 0)) := (hb.setCell (by simp) _).setCell (by simp) _
      simp only [Nat.reduceAdd] at hX hb
      generalize hww : (w'.setCell ⟨w.heap.size, 18, none⟩ (.int .u8 (3 + q))).setCell _ (.int .i64 0) = wb at *
      clear hww hP hp c0 c1 f0 f1 h
      go_upto_region 11 with (first | ((with_reducible refine at_op ⟨some 38, .load 28 (.tmp 3), _, _, _, _⟩ ?_); refine wpList_load_mid rfl 28 (.tmp 3) rfl _ 0 rfl (scells (setL (setL s 8 (0, 0)) 8 (3 + q, 0))) _ (range_st hX) Try.underlying28 rfl info_st ?_) | ((go_at_call 10; (with_reducible refine (r3 _).mono ?_)); rintro e w' ⟨rfl, h⟩; (have hb := Below_then hb h (Nat.le_refl _); have hX := Blk_below hX h (Blk_lt hX))))
      clear r3 h
      go_upto_region 12 with (((go_at_call 17; (with_reducible refine (slens2_any _ _).mono ?_)); rintro e w' ⟨rfl, hP, h⟩; have hb := Below_then hb h (Nat.le_refl _); have hX := Blk_below hX h (Blk_lt hX); have hp : w'.cell? ⟨_, 8, none⟩ = some (.pointer (some ⟨w.heap.size, 18, none⟩)) := Blk_cell hP 8; have c0 := St_cell (s := (setL (setL s 8 (0, 0)) 8 (3 + q, 0))) (j := 18) (v := .int .u8 ((setL (setL s 8 (0, 0)) 8 (3 + q, 0))).m1.1) hX rfl; have c1 := St_cell (s := (setL (setL s 8 (0, 0)) 8 (3 + q, 0))) (j := 18 + 1) (v := .int .i64 ((setL (setL s 8 (0, 0)) 8 (3 + q, 0))).m1.2) hX rfl; have f0 := Blk_frozen hX 18; have f1 := Blk_frozen hX (18 + 1); simp only [Nat.reduceAdd] at c1 f1))
      have hX : Blk ((w'.setCell ⟨w.heap.size, 18, none⟩ (.int .u8 1)).setCell ⟨w.heap.size, 18 + 1, none⟩ (.int .i64 n)) w.heap.size 28 (scells (setL (setL (setL s 8 (0, 0)) 8 (3 + q, 0)) 8 (1, n))).toArray := Blk_upd (Blk_set hX 18 (.int .u8 1)) (18 + 1) (.int .i64 n) (by simp [scells, setL])
      have hb : Below w.heap.size w ((w'.setCell ⟨w.heap.size, 18, none⟩ (.int .u8 1)).setCell ⟨w.heap.size, 18 + 1, none⟩ (.int .i64 n)) := (hb.setCell (by simp) _).setCell (by simp) _
      simp only [Nat.reduceAdd] at hX hb
      generalize hww : (w'.setCell ⟨w.heap.size, 18, none⟩ (.int .u8 1)).setCell _ (.int .i64 n) = wc at *
      clear hww hP hp c0 c1 f0 f1 h
      cases B4
      · go_wp2_with (first | ((with_reducible refine at_op ⟨some 47, .load 28 (.tmp 3), _, _, _, _⟩ ?_); refine wpList_load_mid rfl 28 (.tmp 3) rfl _ 0 rfl (scells (setL (setL (setL s 8 (0, 0)) 8 (3 + q, 0)) 8 (1, n))) _ (range_st hX) Try.underlying28 rfl info_st ?_) | ((go_at_call 10; (with_reducible refine (r4 _).mono ?_)); rintro e w' ⟨rfl, h⟩; (have hb := Below_then hb h (Nat.le_refl _); have hX := Blk_below hX h (Blk_lt hX))) | ((go_at_call 9; (with_reducible refine (hkw _).mono ?_)); rintro e w' ⟨rfl, h⟩; (have hb := Below_then hb h (Nat.le_refl _); have hX := Blk_below hX h (Blk_lt hX))))
        go_ret
        exact ⟨rfl, hb⟩
      · obtain ⟨g1, g2, g3⟩ := HX.out rfl
        have d1 : decide (-1099511627776 ≤ n) = true := decide_eq_true g1
        have d2 : decide (n ≤ 1099511627776) = true := decide_eq_true g2
        cases g : decide (0 ≤ n)
        all_goals
          go_wp2_with (first | ((with_reducible refine at_op ⟨some 47, .load 28 (.tmp 3), _, _, _, _⟩ ?_); refine wpList_load_mid rfl 28 (.tmp 3) rfl _ 0 rfl (scells (setL (setL (setL s 8 (0, 0)) 8 (3 + q, 0)) 8 (1, n))) _ (range_st hX) Try.underlying28 rfl info_st ?_) | ((go_at_call 10; (with_reducible refine (r4 _).mono ?_)); rintro e w' ⟨rfl, h⟩; (have hb := Below_then hb h (Nat.le_refl _); have hX := Blk_below hX h (Blk_lt hX))) | ((go_at_call 9; (with_reducible refine (hkw _).mono ?_)); rintro e w' ⟨rfl, h⟩; (have hb := Below_then hb h (Nat.le_refl _); have hX := Blk_below hX h (Blk_lt hX))))
          first
            | (go_ret; exact ⟨rfl, hb⟩)
            | (exact absurd (of_decide_eq_false g) (by omega))
    · have r2 := fun w => sright_any (setL s 9 (0, 0)) (setL_wf hw 9 rfl rfl) (by rw [setL_len]; exact hul) w
      have r3 := fun w => sright_any (setL (setL s 9 (0, 0)) 9 (3 + q, 0)) (setL_wf (setL_wf hw 9 rfl rfl) 9 hq8 rfl) (by rw [setL_len, setL_len]; exact hul) w
      have r4 := fun w => sright_any (setL (setL (setL s 9 (0, 0)) 9 (3 + q, 0)) 9 (1, n)) (setL_wf (setL_wf (setL_wf hw 9 rfl rfl) 9 hq8 rfl) 9 rfl hn) (by rw [setL_len, setL_len, setL_len]; exact hul) w
      rw [set_odd (setL s 9 (0, 0)) 9 (by omega) (by omega) 0] at r3
      have ha := fun h => set_auto (s := s) 9 (by omega) h
      have hx := fun h => set_px (s := setL (setL s 9 (0, 0)) 9 (3 + q, 0)) 9 (by omega) (n := n) h
      generalize rightB s = B at *
      generalize rightB (setL (setL (setL s 9 (0, 0)) 9 (3 + q, 0)) 9 (1, n)) = B4 at *
      have HX := Lib.hid hx
      have HA := Lib.hid ha
      clear hx ha
      go_upto_region 6 with (((go_at_call 17; (with_reducible refine (slens2_any _ _).mono ?_)); rintro e w' ⟨rfl, hP, h⟩; have hb := Below_then hb h (Nat.le_refl _); have hX := Blk_below hX h (Blk_lt hX); have hp : w'.cell? ⟨_, 9, none⟩ = some (.pointer (some ⟨w.heap.size, 20, none⟩)) := Blk_cell hP 9; have c0 := St_cell (s := s) (j := 20) (v := .int .u8 (s).m2.1) hX rfl; have c1 := St_cell (s := s) (j := 20 + 1) (v := .int .i64 (s).m2.2) hX rfl; have f0 := Blk_frozen hX 20; have f1 := Blk_frozen hX (20 + 1); simp only [Nat.reduceAdd] at c1 f1))
      have hX : Blk ((w'.setCell ⟨w.heap.size, 20, none⟩ (.int .u8 0)).setCell ⟨w.heap.size, 20 + 1, none⟩ (.int .i64 0)) w.heap.size 28 (scells (setL s 9 (0, 0))).toArray := Blk_upd (Blk_set hX 20 (.int .u8 0)) (20 + 1) (.int .i64 0) (by simp [scells, setL])
      have hb : Below w.heap.size w ((w'.setCell ⟨w.heap.size, 20, none⟩ (.int .u8 0)).setCell ⟨w.heap.size, 20 + 1, none⟩ (.int .i64 0)) := (hb.setCell (by simp) _).setCell (by simp) _
      simp only [Nat.reduceAdd] at hX hb
      generalize hww : (w'.setCell ⟨w.heap.size, 20, none⟩ (.int .u8 0)).setCell _ (.int .i64 0) = wa at *
      clear hww hP hp c0 c1 f0 f1 h
      go_cut [28] (fun v wx => v = .bool false ∧ Below wa.heap.size wa wx)
      case first =>
        cases B
        · go_wp2_with fail
          go_meet
          exact ⟨rfl, Below.refl _ _⟩
        · rw [HA.out rfl] at r2
          go_wp2_with (first | ((with_reducible refine at_op ⟨some 25, .load 28 (.tmp 3), _, _, _, _⟩ ?_); refine wpList_load_want rfl 28 (.tmp 3) rfl _ 0 rfl (scells (setL s 9 (0, 0))) _ (range_st hX) Try.underlying28 rfl info_st ?_) | ((go_at_call 10; (with_reducible refine (r2 _).mono ?_)); rintro e w' ⟨rfl, h⟩))
          go_meet
          exact ⟨rfl, h⟩
      case rest =>
      obtain ⟨rfl, h⟩ := hcut
      have hb := Below_then hb h (Nat.le_refl _)
      have hX := Blk_below hX h (Blk_lt hX)
      clear h r2
      go_upto_region 9 with (((go_at_call 17; (with_reducible refine (slens2_any _ _).mono ?_)); rintro e w' ⟨rfl, hP, h⟩; have hb := Below_then hb h (Nat.le_refl _); have hX := Blk_below hX h (Blk_lt hX); have hp : w'.cell? ⟨_, 9, none⟩ = some (.pointer (some ⟨w.heap.size, 20, none⟩)) := Blk_cell hP 9; have c0 := St_cell (s := (setL s 9 (0, 0))) (j := 20) (v := .int .u8 ((setL s 9 (0, 0))).m2.1) hX rfl; have c1 := St_cell (s := (setL s 9 (0, 0))) (j := 20 + 1) (v := .int .i64 ((setL s 9 (0, 0))).m2.2) hX rfl; have f0 := Blk_frozen hX 20; have f1 := Blk_frozen hX (20 + 1); simp only [Nat.reduceAdd] at c1 f1))
      have hX : Blk ((w'.setCell ⟨w.heap.size, 20, none⟩ (.int .u8 (3 + q))).setCell ⟨w.heap.size, 20 + 1, none⟩ (.int .i64 0)) w.heap.size 28 (scells (setL (setL s 9 (0, 0)) 9 (3 + q, 0))).toArray := Blk_upd (Blk_set hX 20 (.int .u8 (3 + q))) (20 + 1) (.int .i64 0) (by simp [scells, setL])
      have hb : Below w.heap.size w ((w'.setCell ⟨w.heap.size, 20, none⟩ (.int .u8 (3 + q))).setCell ⟨w.heap.size, 20 + 1, none⟩ (.int .i64 0)) := (hb.setCell (by simp) _).setCell (by simp) _
      simp only [Nat.reduceAdd] at hX hb
      generalize hww : (w'.setCell ⟨w.heap.size, 20, none⟩ (.int .u8 (3 + q))).setCell _ (.int .i64 0) = wb at *
      clear hww hP hp c0 c1 f0 f1 h
      go_upto_region 11 with (first | ((with_reducible refine at_op ⟨some 38, .load 28 (.tmp 3), _, _, _, _⟩ ?_); refine wpList_load_mid rfl 28 (.tmp 3) rfl _ 0 rfl (scells (setL (setL s 9 (0, 0)) 9 (3 + q, 0))) _ (range_st hX) Try.underlying28 rfl info_st ?_) | ((go_at_call 10; (with_reducible refine (r3 _).mono ?_)); rintro e w' ⟨rfl, h⟩; (have hb := Below_then hb h (Nat.le_refl _); have hX := Blk_below hX h (Blk_lt hX))))
      clear r3 h
      go_upto_region 12 with (((go_at_call 17; (with_reducible refine (slens2_any _ _).mono ?_)); rintro e w' ⟨rfl, hP, h⟩; have hb := Below_then hb h (Nat.le_refl _); have hX := Blk_below hX h (Blk_lt hX); have hp : w'.cell? ⟨_, 9, none⟩ = some (.pointer (some ⟨w.heap.size, 20, none⟩)) := Blk_cell hP 9; have c0 := St_cell (s := (setL (setL s 9 (0, 0)) 9 (3 + q, 0))) (j := 20) (v := .int .u8 ((setL (setL s 9 (0, 0)) 9 (3 + q, 0))).m2.1) hX rfl; have c1 := St_cell (s := (setL (setL s 9 (0, 0)) 9 (3 + q, 0))) (j := 20 + 1) (v := .int .i64 ((setL (setL s 9 (0, 0)) 9 (3 + q, 0))).m2.2) hX rfl; have f0 := Blk_frozen hX 20; have f1 := Blk_frozen hX (20 + 1); simp only [Nat.reduceAdd] at c1 f1))
      have hX : Blk ((w'.setCell ⟨w.heap.size, 20, none⟩ (.int .u8 1)).setCell ⟨w.heap.size, 20 + 1, none⟩ (.int .i64 n)) w.heap.size 28 (scells (setL (setL (setL s 9 (0, 0)) 9 (3 + q, 0)) 9 (1, n))).toArray := Blk_upd (Blk_set hX 20 (.int .u8 1)) (20 + 1) (.int .i64 n) (by simp [scells, setL])
      have hb : Below w.heap.size w ((w'.setCell ⟨w.heap.size, 20, none⟩ (.int .u8 1)).setCell ⟨w.heap.size, 20 + 1, none⟩ (.int .i64 n)) := (hb.setCell (by simp) _).setCell (by simp) _
      simp only [Nat.reduceAdd] at hX hb
      generalize hww : (w'.setCell ⟨w.heap.size, 20, none⟩ (.int .u8 1)).setCell _ (.int .i64 n) = wc at *
      clear hww hP hp c0 c1 f0 f1 h
      cases B4
      · go_wp2_with (first | ((with_reducible refine at_op ⟨some 47, .load 28 (.tmp 3), _, _, _, _⟩ ?_); refine wpList_load_mid rfl 28 (.tmp 3) rfl _ 0 rfl (scells (setL (setL (setL s 9 (0, 0)) 9 (3 + q, 0)) 9 (1, n))) _ (range_st hX) Try.underlying28 rfl info_st ?_) | ((go_at_call 10; (with_reducible refine (r4 _).mono ?_)); rintro e w' ⟨rfl, h⟩; (have hb := Below_then hb h (Nat.le_refl _); have hX := Blk_below hX h (Blk_lt hX))) | ((go_at_call 9; (with_reducible refine (hkw _).mono ?_)); rintro e w' ⟨rfl, h⟩; (have hb := Below_then hb h (Nat.le_refl _); have hX := Blk_below hX h (Blk_lt hX))))
        go_ret
        exact ⟨rfl, hb⟩
      · obtain ⟨g1, g2, g3⟩ := HX.out rfl
        have d1 : decide (-1099511627776 ≤ n) = true := decide_eq_true g1
        have d2 : decide (n ≤ 1099511627776) = true := decide_eq_true g2
        cases g : decide (0 ≤ n)
        all_goals
          go_wp2_with (first | ((with_reducible refine at_op ⟨some 47, .load 28 (.tmp 3), _, _, _, _⟩ ?_); refine wpList_load_mid rfl 28 (.tmp 3) rfl _ 0 rfl (scells (setL (setL (setL s 9 (0, 0)) 9 (3 + q, 0)) 9 (1, n))) _ (range_st hX) Try.underlying28 rfl info_st ?_) | ((go_at_call 10; (with_reducible refine (r4 _).mono ?_)); rintro e w' ⟨rfl, h⟩; (have hb := Below_then hb h (Nat.le_refl _); have hX := Blk_below hX h (Blk_lt hX))) | ((go_at_call 9; (with_reducible refine (hkw _).mono ?_)); rintro e w' ⟨rfl, h⟩; (have hb := Below_then hb h (Nat.le_refl _); have hX := Blk_below hX h (Blk_lt hX))))
          first
            | (go_ret; exact ⟨rfl, hb⟩)
            | (exact absurd (of_decide_eq_false g) (by omega))
    · have r2 := fun w => sright_any (setL s 10 (0, 0)) (setL_wf hw 10 rfl rfl) (by rw [setL_len]; exact hul) w
      have r3 := fun w => sright_any (setL (setL s 10 (0, 0)) 10 (3 + q, 0)) (setL_wf (setL_wf hw 10 rfl rfl) 10 hq8 rfl) (by rw [setL_len, setL_len]; exact hul) w
      have r4 := fun w => sright_any (setL (setL (setL s 10 (0, 0)) 10 (3 + q, 0)) 10 (1, n)) (setL_wf (setL_wf (setL_wf hw 10 rfl rfl) 10 hq8 rfl) 10 rfl hn) (by rw [setL_len, setL_len, setL_len]; exact hul) w
      rw [set_odd (setL s 10 (0, 0)) 10 (by omega) (by omega) 0] at r3
      have ha := fun h => set_auto (s := s) 10 (by omega) h
      have hx := fun h => set_px (s := setL (setL s 10 (0, 0)) 10 (3 + q, 0)) 10 (by omega) (n := n) h
      generalize rightB s = B at *
      generalize rightB (setL (setL (setL s 10 (0, 0)) 10 (3 + q, 0)) 10 (1, n)) = B4 at *
      have HX := Lib.hid hx
      have HA := Lib.hid ha
      clear hx ha
      go_upto_region 6 with (((go_at_call 17; (with_reducible refine (slens2_any _ _).mono ?_)); rintro e w' ⟨rfl, hP, h⟩; have hb := Below_then hb h (Nat.le_refl _); have hX := Blk_below hX h (Blk_lt hX); have hp : w'.cell? ⟨_, 10, none⟩ = some (.pointer (some ⟨w.heap.size, 22, none⟩)) := Blk_cell hP 10; have c0 := St_cell (s := s) (j := 22) (v := .int .u8 (s).m3.1) hX rfl; have c1 := St_cell (s := s) (j := 22 + 1) (v := .int .i64 (s).m3.2) hX rfl; have f0 := Blk_frozen hX 22; have f1 := Blk_frozen hX (22 + 1); simp only [Nat.reduceAdd] at c1 f1))
      have hX : Blk ((w'.setCell ⟨w.heap.size, 22, none⟩ (.int .u8 0)).setCell ⟨w.heap.size, 22 + 1, none⟩ (.int .i64 0)) w.heap.size 28 (scells (setL s 10 (0, 0))).toArray := Blk_upd (Blk_set hX 22 (.int .u8 0)) (22 + 1) (.int .i64 0) (by simp [scells, setL])
      have hb : Below w.heap.size w ((w'.setCell ⟨w.heap.size, 22, none⟩ (.int .u8 0)).setCell ⟨w.heap.size, 22 + 1, none⟩ (.int .i64 0)) := (hb.setCell (by simp) _).setCell (by simp) _
      simp only [Nat.reduceAdd] at hX hb
      generalize hww : (w'.setCell ⟨w.heap.size, 22, none⟩ (.int .u8 0)).setCell _ (.int .i64 0) = wa at *
      clear hww hP hp c0 c1 f0 f1 h
      go_cut [28] (fun v wx => v = .bool false ∧ Below wa.heap.size wa wx)
      case first =>
        cases B
        · go_wp2_with fail
          go_meet
          exact ⟨rfl, Below.refl _ _⟩
        · rw [HA.out rfl] at r2
          go_wp2_with (first | ((with_reducible refine at_op ⟨some 25, .load 28 (.tmp 3), _, _, _, _⟩ ?_); refine wpList_load_want rfl 28 (.tmp 3) rfl _ 0 rfl (scells (setL s 10 (0, 0))) _ (range_st hX) Try.underlying28 rfl info_st ?_) | ((go_at_call 10; (with_reducible refine (r2 _).mono ?_)); rintro e w' ⟨rfl, h⟩))
          go_meet
          exact ⟨rfl, h⟩
      case rest =>
      obtain ⟨rfl, h⟩ := hcut
      have hb := Below_then hb h (Nat.le_refl _)
      have hX := Blk_below hX h (Blk_lt hX)
      clear h r2
      go_upto_region 9 with (((go_at_call 17; (with_reducible refine (slens2_any _ _).mono ?_)); rintro e w' ⟨rfl, hP, h⟩; have hb := Below_then hb h (Nat.le_refl _); have hX := Blk_below hX h (Blk_lt hX); have hp : w'.cell? ⟨_, 10, none⟩ = some (.pointer (some ⟨w.heap.size, 22, none⟩)) := Blk_cell hP 10; have c0 := St_cell (s := (setL s 10 (0, 0))) (j := 22) (v := .int .u8 ((setL s 10 (0, 0))).m3.1) hX rfl; have c1 := St_cell (s := (setL s 10 (0, 0))) (j := 22 + 1) (v := .int .i64 ((setL s 10 (0, 0))).m3.2) hX rfl; have f0 := Blk_frozen hX 22; have f1 := Blk_frozen hX (22 + 1); simp only [Nat.reduceAdd] at c1 f1))
      have hX : Blk ((w'.setCell ⟨w.heap.size, 22, none⟩ (.int .u8 (3 + q))).setCell ⟨w.heap.size, 22 + 1, none⟩ (.int .i64 0)) w.heap.size 28 (scells (setL (setL s 10 (0, 0)) 10 (3 + q, 0))).toArray := Blk_upd (Blk_set hX 22 (.int .u8 (3 + q))) (22 + 1) (.int .i64 0) (by simp [scells, setL])
      have hb : Below w.heap.size w ((w'.setCell ⟨w.heap.size, 22, none⟩ (.int .u8 (3 + q))).setCell ⟨w.heap.size, 22 + 1, none⟩ (.int .i64 0)) := (hb.setCell (by simp) _).setCell (by simp) _
      simp only [Nat.reduceAdd] at hX hb
      generalize hww : (w'.setCell ⟨w.heap.size, 22, none⟩ (.int .u8 (3 + q))).setCell _ (.int .i64 0) = wb at *
      clear hww hP hp c0 c1 f0 f1 h
      go_upto_region 11 with (first | ((with_reducible refine at_op ⟨some 38, .load 28 (.tmp 3), _, _, _, _⟩ ?_); refine wpList_load_mid rfl 28 (.tmp 3) rfl _ 0 rfl (scells (setL (setL s 10 (0, 0)) 10 (3 + q, 0))) _ (range_st hX) Try.underlying28 rfl info_st ?_) | ((go_at_call 10; (with_reducible refine (r3 _).mono ?_)); rintro e w' ⟨rfl, h⟩; (have hb := Below_then hb h (Nat.le_refl _); have hX := Blk_below hX h (Blk_lt hX))))
      clear r3 h
      go_upto_region 12 with (((go_at_call 17; (with_reducible refine (slens2_any _ _).mono ?_)); rintro e w' ⟨rfl, hP, h⟩; have hb := Below_then hb h (Nat.le_refl _); have hX := Blk_below hX h (Blk_lt hX); have hp : w'.cell? ⟨_, 10, none⟩ = some (.pointer (some ⟨w.heap.size, 22, none⟩)) := Blk_cell hP 10; have c0 := St_cell (s := (setL (setL s 10 (0, 0)) 10 (3 + q, 0))) (j := 22) (v := .int .u8 ((setL (setL s 10 (0, 0)) 10 (3 + q, 0))).m3.1) hX rfl; have c1 := St_cell (s := (setL (setL s 10 (0, 0)) 10 (3 + q, 0))) (j := 22 + 1) (v := .int .i64 ((setL (setL s 10 (0, 0)) 10 (3 + q, 0))).m3.2) hX rfl; have f0 := Blk_frozen hX 22; have f1 := Blk_frozen hX (22 + 1); simp only [Nat.reduceAdd] at c1 f1))
      have hX : Blk ((w'.setCell ⟨w.heap.size, 22, none⟩ (.int .u8 1)).setCell ⟨w.heap.size, 22 + 1, none⟩ (.int .i64 n)) w.heap.size 28 (scells (setL (setL (setL s 10 (0, 0)) 10 (3 + q, 0)) 10 (1, n))).toArray := Blk_upd (Blk_set hX 22 (.int .u8 1)) (22 + 1) (.int .i64 n) (by simp [scells, setL])
      have hb : Below w.heap.size w ((w'.setCell ⟨w.heap.size, 22, none⟩ (.int .u8 1)).setCell ⟨w.heap.size, 22 + 1, none⟩ (.int .i64 n)) := (hb.setCell (by simp) _).setCell (by simp) _
      simp only [Nat.reduceAdd] at hX hb
      generalize hww : (w'.setCell ⟨w.heap.size, 22, none⟩ (.int .u8 1)).setCell _ (.int .i64 n) = wc at *
      clear hww hP hp c0 c1 f0 f1 h
      cases B4
      · go_wp2_with (first | ((with_reducible refine at_op ⟨some 47, .load 28 (.tmp 3), _, _, _, _⟩ ?_); refine wpList_load_mid rfl 28 (.tmp 3) rfl _ 0 rfl (scells (setL (setL (setL s 10 (0, 0)) 10 (3 + q, 0)) 10 (1, n))) _ (range_st hX) Try.underlying28 rfl info_st ?_) | ((go_at_call 10; (with_reducible refine (r4 _).mono ?_)); rintro e w' ⟨rfl, h⟩; (have hb := Below_then hb h (Nat.le_refl _); have hX := Blk_below hX h (Blk_lt hX))) | ((go_at_call 9; (with_reducible refine (hkw _).mono ?_)); rintro e w' ⟨rfl, h⟩; (have hb := Below_then hb h (Nat.le_refl _); have hX := Blk_below hX h (Blk_lt hX))))
        go_ret
        exact ⟨rfl, hb⟩
      · obtain ⟨g1, g2, g3⟩ := HX.out rfl
        have d1 : decide (-1099511627776 ≤ n) = true := decide_eq_true g1
        have d2 : decide (n ≤ 1099511627776) = true := decide_eq_true g2
        cases g : decide (0 ≤ n)
        all_goals
          go_wp2_with (first | ((with_reducible refine at_op ⟨some 47, .load 28 (.tmp 3), _, _, _, _⟩ ?_); refine wpList_load_mid rfl 28 (.tmp 3) rfl _ 0 rfl (scells (setL (setL (setL s 10 (0, 0)) 10 (3 + q, 0)) 10 (1, n))) _ (range_st hX) Try.underlying28 rfl info_st ?_) | ((go_at_call 10; (with_reducible refine (r4 _).mono ?_)); rintro e w' ⟨rfl, h⟩; (have hb := Below_then hb h (Nat.le_refl _); have hX := Blk_below hX h (Blk_lt hX))) | ((go_at_call 9; (with_reducible refine (hkw _).mono ?_)); rintro e w' ⟨rfl, h⟩; (have hb := Below_then hb h (Nat.le_refl _); have hX := Blk_below hX h (Blk_lt hX))))
          first
            | (go_ret; exact ⟨rfl, hb⟩)
            | (exact absurd (of_decide_eq_false g) (by omega))
theorem sautos_walk (w : World) {cs : Array Value} {a} {wv n : Int} (h0 : E28 w (Value.agg cs).cells.toList a) (h1 : (Lit.int .u8 wv).wf = true) (h2 : (Lit.int .i64 n).wf = true) :
    Calls Try.prog 6 #[.agg cs, .int .u8 wv, .int .i64 n] w fun e w' => e = .returned (.bool true) ∧ Below w.heap.size w w' := by
  obtain ⟨s, e, k1, k2, _⟩ := style_of h0
  have hm : 0 ≤ wv ∧ wv ≤ 255 := by
    simp [Lit.wf, IntKind.min, IntKind.max, IntKind.signed, IntKind.bits] at h1
    omega
  rw [e]
  exact sautos_any s k1 k2 wv n hm h2 w
end Go.Proofs.Ytedlfkklkoihjaa
