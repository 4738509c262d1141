/-
  The walk of EdgesPoints. No condition.
-/
import Derived.Test.YtfhbndfhmphnaaaXN
set_option linter.unusedVariables false
set_option linter.unusedSimpArgs false
namespace Go.Proofs.Ytfhbndfhmphnaaa
open Go.RowKit Go.BigFrame

theorem iBo : (Try.prog.info? 4).map (fun i => (i.zero, i.size, i.bytes)) = some (some (.bool false), 1, 1) := by kernel_rfl
set_option maxRecDepth 20000 in
set_option maxHeartbeats 8000000 in
theorem points_any (a b : Q4) (w : World) : Calls Try.prog 5 #[qv a, qv b] w fun e w' => e = .returned (.bool true) ∧ Below w.heap.size w w' := by
  obtain ⟨i0, hi0, hz0, hz1, hz2⟩ := info_parts iBo
  have hmk : ∀ w : World, (Instr.makeSlice 40 (.int .i64 40) (.int .i64 40)).run Try.prog w = _ := run_make_blk (P := Try.prog) Try.underlying40 hi0 hz0 (x := .bool false) rfl hz1 .i64 .i64 40 (by rw [hz2]; omega) (by simp only [maxLen]; omega)
  obtain ⟨Z, hZ⟩ : ∃ Z, (List.replicate 40 (Value.bool false)).toArray = Z := ⟨_, rfl⟩
  simp only [hZ] at hmk
  have HZ := Lib.hid hZ
  clear hZ
  have hX := Blk_alloc (Blk_new w 33 #[.int .i64 a.a, .int .i64 a.b, .int .i64 a.c, .int .i64 a.d]) (.cells #[.int .i64 b.a, .int .i64 b.b, .int .i64 b.c, .int .i64 b.d] 33)
  have hY := Blk_new (w.alloc (.cells #[.int .i64 a.a, .int .i64 a.b, .int .i64 a.c, .int .i64 a.d] 33)) 33 #[.int .i64 b.a, .int .i64 b.b, .int .i64 b.c, .int .i64 b.d]
  have hbw : Below w.heap.size w ((w.alloc (.cells #[.int .i64 a.a, .int .i64 a.b, .int .i64 a.c, .int .i64 a.d] 33)).alloc (.cells #[.int .i64 b.a, .int .i64 b.b, .int .i64 b.c, .int .i64 b.d] 33)) := by (repeat' (first | (with_reducible exact Below.refl _ _) | (with_reducible assumption) | (with_reducible refine Below.alloc ?_ ?_ _) | (with_reducible refine Below.drew ?_) | (with_reducible refine Below_drewN ?_ _) | (with_reducible refine Below.setCell ?_ ?_ _) | go_size))
  simp only [World.size_alloc] at hY
  have s1 := fun w => small_any a w
  have s2 := fun w => small_any b w
  have hp := smQ_sm a
  have hq := smQ_sm b
  generalize smQ a = p at *
  generalize smQ b = q at *
  have k1 := fun w => cover2_any hp.lim hq.lim w
  have m1 := fun w => Meet_any p q hp.lim.ok hq.lim.ok w
  have i1 := fun w => Inside_any p q hp.lim.ok hq.lim.ok w
  have hab := join_ab hp hq
  have HP := Lib.hid (And.intro hp hq)
  have HJ := Lib.hid (fun i j => @join_pt p q i j)
  have HC := Lib.hid (fun co al R C (h : Inv p q (Sk 39 0) co al R C) => And.intro (And.intro (h.meet hp hq) (h.ins hp hq)) (h.cov hp hq))
  have pa := hp.a
  have pb := hp.b
  have qa := hq.a
  have qb := hq.b
  clear hp hq
  generalize join p q = J at *
  have hkw := works_any
  unfold qv at *
  go_enter Try.func5, Try.ntmps5
  go_upto_region 1 with fail
  generalize (w.alloc (.cells #[.int .i64 a.a, .int .i64 a.b, .int .i64 a.c, .int .i64 a.d] 33)).alloc (.cells #[.int .i64 b.a, .int .i64 b.b, .int .i64 b.c, .int .i64 b.d] 33) = w3 at *
  (have x0 := Blk_cell hX 0; have x1 := Blk_cell hX 1; have x2 := Blk_cell hX 2; have x3 := Blk_cell hX 3; have y0 := Blk_cell hY 0; have y1 := Blk_cell hY 1; have y2 := Blk_cell hY 2; have y3 := Blk_cell hY 3; have fx0 := Blk_frozen hX 0; have fx1 := Blk_frozen hX 1; have fx2 := Blk_frozen hX 2; have fx3 := Blk_frozen hX 3; have fy0 := Blk_frozen hY 0; have fy1 := Blk_frozen hY 1; have fy2 := Blk_frozen hY 2; have fy3 := Blk_frozen hY 3)
  go_upto_region 2 with ((go_at_call 20; (with_reducible refine (s1 _).mono ?_); rintro e w' ⟨rfl, h⟩; have hbw := Below_then hbw h (Nat.le_refl _); have hX := Blk_below hX h (Blk_lt hX); have hY := Blk_below hY h (Blk_lt hY); (have x0 := Blk_cell hX 0; have x1 := Blk_cell hX 1; have x2 := Blk_cell hX 2; have x3 := Blk_cell hX 3; have y0 := Blk_cell hY 0; have y1 := Blk_cell hY 1; have y2 := Blk_cell hY 2; have y3 := Blk_cell hY 3; have fx0 := Blk_frozen hX 0; have fx1 := Blk_frozen hX 1; have fx2 := Blk_frozen hX 2; have fx3 := Blk_frozen hX 3; have fy0 := Blk_frozen hY 0; have fy1 := Blk_frozen hY 1; have fy2 := Blk_frozen hY 2; have fy3 := Blk_frozen hY 3)))
  have n1 : w.heap.size + 1 ≠ w.heap.size := by omega
  have n2 : w.heap.size ≠ w.heap.size + 1 := by omega
  have hX := (Blk_set (Blk_set (Blk_set (Blk_set hX 0 (.int .i64 p.a)) 1 (.int .i64 p.b)) 2 (.int .i64 p.c)) 3 (.int .i64 p.d))
  have hY := (Blk_far (p := ⟨w.heap.size, 3, none⟩) (Blk_far (p := ⟨w.heap.size, 2, none⟩) (Blk_far (p := ⟨w.heap.size, 1, none⟩) (Blk_far (p := ⟨w.heap.size, 0, none⟩) hY n1 (.int .i64 p.a)) n1 (.int .i64 p.b)) n1 (.int .i64 p.c)) n1 (.int .i64 p.d))
  have hbw := (((hbw.setCell (p := ⟨w.heap.size, 0, none⟩) (Nat.le_refl _) (.int .i64 p.a)).setCell (p := ⟨w.heap.size, 1, none⟩) (Nat.le_refl _) (.int .i64 p.b)).setCell (p := ⟨w.heap.size, 2, none⟩) (Nat.le_refl _) (.int .i64 p.c)).setCell (p := ⟨w.heap.size, 3, none⟩) (Nat.le_refl _) (.int .i64 p.d)
  simp only [List.setIfInBounds_toArray, List.set_cons_zero, List.set_cons_succ] at hX
  generalize hww : (((w'.setCell ⟨w.heap.size, 0, none⟩ (.int .i64 p.a)).setCell ⟨w.heap.size, 1, none⟩ (.int .i64 p.b)).setCell ⟨w.heap.size, 2, none⟩ (.int .i64 p.c)).setCell ⟨w.heap.size, 3, none⟩ (.int .i64 p.d) = ww at *
  clear hww h
  (have x0 := Blk_cell hX 0; have x1 := Blk_cell hX 1; have x2 := Blk_cell hX 2; have x3 := Blk_cell hX 3; have y0 := Blk_cell hY 0; have y1 := Blk_cell hY 1; have y2 := Blk_cell hY 2; have y3 := Blk_cell hY 3; have fx0 := Blk_frozen hX 0; have fx1 := Blk_frozen hX 1; have fx2 := Blk_frozen hX 2; have fx3 := Blk_frozen hX 3; have fy0 := Blk_frozen hY 0; have fy1 := Blk_frozen hY 1; have fy2 := Blk_frozen hY 2; have fy3 := Blk_frozen hY 3)
  go_upto_region 3 with ((go_at_call 20; (with_reducible refine (s2 _).mono ?_); rintro e w' ⟨rfl, h⟩; have hbw := Below_then hbw h (Nat.le_refl _); have hX := Blk_below hX h (Blk_lt hX); have hY := Blk_below hY h (Blk_lt hY); (have x0 := Blk_cell hX 0; have x1 := Blk_cell hX 1; have x2 := Blk_cell hX 2; have x3 := Blk_cell hX 3; have y0 := Blk_cell hY 0; have y1 := Blk_cell hY 1; have y2 := Blk_cell hY 2; have y3 := Blk_cell hY 3; have fx0 := Blk_frozen hX 0; have fx1 := Blk_frozen hX 1; have fx2 := Blk_frozen hX 2; have fx3 := Blk_frozen hX 3; have fy0 := Blk_frozen hY 0; have fy1 := Blk_frozen hY 1; have fy2 := Blk_frozen hY 2; have fy3 := Blk_frozen hY 3)))
  have hX := (Blk_far (p := ⟨w.heap.size + 1, 3, none⟩) (Blk_far (p := ⟨w.heap.size + 1, 2, none⟩) (Blk_far (p := ⟨w.heap.size + 1, 1, none⟩) (Blk_far (p := ⟨w.heap.size + 1, 0, none⟩) hX n2 (.int .i64 q.a)) n2 (.int .i64 q.b)) n2 (.int .i64 q.c)) n2 (.int .i64 q.d))
  have hY := (Blk_set (Blk_set (Blk_set (Blk_set hY 0 (.int .i64 q.a)) 1 (.int .i64 q.b)) 2 (.int .i64 q.c)) 3 (.int .i64 q.d))
  have hbw := (((hbw.setCell (p := ⟨w.heap.size + 1, 0, none⟩) (by simp) (.int .i64 q.a)).setCell (p := ⟨w.heap.size + 1, 1, none⟩) (by simp) (.int .i64 q.b)).setCell (p := ⟨w.heap.size + 1, 2, none⟩) (by simp) (.int .i64 q.c)).setCell (p := ⟨w.heap.size + 1, 3, none⟩) (by simp) (.int .i64 q.d)
  simp only [List.setIfInBounds_toArray, List.set_cons_zero, List.set_cons_succ] at hY
  generalize hww : (((w'.setCell ⟨w.heap.size + 1, 0, none⟩ (.int .i64 q.a)).setCell ⟨w.heap.size + 1, 1, none⟩ (.int .i64 q.b)).setCell ⟨w.heap.size + 1, 2, none⟩ (.int .i64 q.c)).setCell ⟨w.heap.size + 1, 3, none⟩ (.int .i64 q.d) = ww at *
  clear hww h
  (have x0 := Blk_cell hX 0; have x1 := Blk_cell hX 1; have x2 := Blk_cell hX 2; have x3 := Blk_cell hX 3; have y0 := Blk_cell hY 0; have y1 := Blk_cell hY 1; have y2 := Blk_cell hY 2; have y3 := Blk_cell hY 3; have fx0 := Blk_frozen hX 0; have fx1 := Blk_frozen hX 1; have fx2 := Blk_frozen hX 2; have fx3 := Blk_frozen hX 3; have fy0 := Blk_frozen hY 0; have fy1 := Blk_frozen hY 1; have fy2 := Blk_frozen hY 2; have fy3 := Blk_frozen hY 3)
  go_upto_region 8 with ((go_at_call 21; (with_reducible refine (k1 _).mono ?_); rintro e w' ⟨rfl, h⟩; have hbw := Below_then hbw h (Nat.le_refl _); have hX := Blk_below hX h (Blk_lt hX); have hY := Blk_below hY h (Blk_lt hY); (have x0 := Blk_cell hX 0; have x1 := Blk_cell hX 1; have x2 := Blk_cell hX 2; have x3 := Blk_cell hX 3; have y0 := Blk_cell hY 0; have y1 := Blk_cell hY 1; have y2 := Blk_cell hY 2; have y3 := Blk_cell hY 3; have fx0 := Blk_frozen hX 0; have fx1 := Blk_frozen hX 1; have fx2 := Blk_frozen hX 2; have fx3 := Blk_frozen hX 3; have fy0 := Blk_frozen hY 0; have fy1 := Blk_frozen hY 1; have fy2 := Blk_frozen hY 2; have fy3 := Blk_frozen hY 3)))
  have hJb := Blk_new w' 33 #[.int .i64 J.a, .int .i64 J.b, .int .i64 J.c, .int .i64 J.d]
  have hX := Blk_alloc hX (.cells #[.int .i64 J.a, .int .i64 J.b, .int .i64 J.c, .int .i64 J.d] 33)
  have hY := Blk_alloc hY (.cells #[.int .i64 J.a, .int .i64 J.b, .int .i64 J.c, .int .i64 J.d] 33)
  have hbw := hbw.alloc hbw.size (.cells #[.int .i64 J.a, .int .i64 J.b, .int .i64 J.c, .int .i64 J.d] 33)
  obtain ⟨gJ, hgJ⟩ : ∃ g, w'.heap.size = g := ⟨_, rfl⟩
  simp only [hgJ] at hJb ⊢
  generalize hwj : w'.alloc (.cells #[.int .i64 J.a, .int .i64 J.b, .int .i64 J.c, .int .i64 J.d] 33) = wj at *
  clear hwj h hgJ k1 s1 s2
  go_upto_region 10 with fail
  have hPS : PS w ((wj.alloc (.cells Z 4)).alloc (.cells Z 4)) w.heap.size (w.heap.size + 1) gJ wj.heap.size (wj.heap.size + 1) p q J (List.replicate 40 false) (List.replicate 40 false) := by
    have hb2 := (hbw.alloc hbw.size (.cells Z 4)).alloc (by simp; have := hbw.size; omega) (.cells Z 4)
    refine ⟨hb2, Blk_alloc (Blk_alloc hX _) _, Blk_alloc (Blk_alloc hY _) _, Blk_alloc (Blk_alloc hJb _) _, ?_, ?_, hbw.size, by have := hbw.size; omega, by omega⟩
    · rw [List.map_replicate, HZ.out]; exact Blk_alloc (Blk_new wj _ _) _
    · rw [List.map_replicate, HZ.out]; exact Blk_new2 (by simp)
  generalize hwk : (wj.alloc (.cells Z 4)).alloc (.cells Z 4) = wk at *
  obtain ⟨gC, hgC⟩ : ∃ g, wj.heap.size + 1 = g := ⟨_, rfl⟩
  simp only [hgC] at hPS ⊢
  obtain ⟨gR, hgR⟩ : ∃ g, wj.heap.size = g := ⟨_, rfl⟩
  simp only [hgR] at hPS ⊢
  have HPS := Lib.hid hPS
  clear hwk hgC hgR hX hY hJb hbw hPS hmk hi0 hz0 hz1 hz2
  clear x0 x1 x2 x3 y0 y1 y2 y3 fx0 fx1 fx2 fx3 fy0 fy1 fy2 fy3
  go_wp2_with fail
  go_loopw [7, 8, 11, 12, 13, 14, 29, 30, 31, 32, 33, 34, 35, 36, 37, 38, 39, 40, 41, 42, 43, 44, 45, 46, 47, 48, 49, 50, 51, 52, 53, 54, 55, 56, 57, 58, 59, 60, 61, 62, 63, 64, 65, 66, 67, 68, 69, 70, 71, 72, 73, 74, 75, 76] (fun u v i _ _ _ _ _ _ _ _ _ _ _ _ _ _ _ _ _ _ _ _ _ _ _ _ _ _ _ _ _ _ _ _ _ _ _ _ _ _ _ _ _ _ _ _ _ _ _ _ _ _ _ wr => ∃ (k : Nat) (co al : Bool) (R C : List Bool), k ≤ 39 ∧ i = .int .i64 ((k : Int) - 9) ∧ u = .bool co ∧ v = .bool al ∧ Inv p q (Sk k 0) co al R C ∧ PS w wr w.heap.size (w.heap.size + 1) gJ gR gC p q J R C) (fun _ _ i _ _ _ _ _ _ _ _ _ _ _ _ _ _ _ _ _ _ _ _ _ _ _ _ _ _ _ _ _ _ _ _ _ _ _ _ _ _ _ _ _ _ _ _ _ _ _ _ _ _ _ _ => (30 - intOf i).toNat)
  case atStart => exact ⟨0, _, _, _, _, by omega, by go_num, rfl, rfl, Inv.nil p q, HPS.out⟩
  case round =>
    obtain ⟨k, co, al, R, C, hk, rfl, rfl, rfl, hI, hPS⟩ := hrel
    by_cases hlt : k < 39
    · have HI0 := Lib.hid hI
      have HP0 := Lib.hid hPS
      clear hI hPS
      go_wp2_with fail
      rw [show decide ((k : Int) - 9 < 30) = true from decide_eq_true (by omega)]
      go_loopw [7, 8, 12, 13, 14, 33, 34, 35, 36, 37, 38, 39, 40, 41, 42, 43, 44, 45, 46, 47, 48, 49, 50, 51, 52, 53, 54, 55, 56, 57, 58, 59, 60, 61, 62, 63, 64, 65, 66, 67, 68, 69, 70, 71, 72, 73, 74, 75, 76] (fun u v i _ _ _ _ _ _ _ _ _ _ _ _ _ _ _ _ _ _ _ _ _ _ _ _ _ _ _ _ _ _ _ _ _ _ _ _ _ _ _ _ _ _ _ _ _ _ wr => ∃ (m : Nat) (co al : Bool) (R C : List Bool), m ≤ 39 ∧ i = .int .i64 ((m : Int) - 9) ∧ u = .bool co ∧ v = .bool al ∧ Inv p q (Sk k m) co al R C ∧ PS w wr w.heap.size (w.heap.size + 1) gJ gR gC p q J R C) (fun _ _ i _ _ _ _ _ _ _ _ _ _ _ _ _ _ _ _ _ _ _ _ _ _ _ _ _ _ _ _ _ _ _ _ _ _ _ _ _ _ _ _ _ _ _ _ _ _ _ => (30 - intOf i).toNat)
      case atStart => exact ⟨0, _, _, _, _, by omega, by go_num, rfl, rfl, HI0.out, HP0.out⟩
      case round =>
        obtain ⟨m, co, al, R, C, hm, rfl, rfl, rfl, hI, hPS⟩ := hrel
        by_cases hml : m < 39
        · have c1 := fun w => has_any p ((k : Int) - 9) ((m : Int) - 9) (wr64 (by omega) (by omega)) (wr64 (by omega) (by omega)) w
          have c2 := fun w => has_any q ((k : Int) - 9) ((m : Int) - 9) (wr64 (by omega) (by omega)) (wr64 (by omega) (by omega)) w
          have c3 := fun w => has_any J ((k : Int) - 9) ((m : Int) - 9) (wr64 (by omega) (by omega)) (wr64 (by omega) (by omega)) w
          have hj := HJ.out k m
          have hrm : m < R.length := by rw [hI.rl]; omega
          have hck : k < C.length := by rw [hI.cl]; omega
          obtain ⟨o1, e1⟩ : ∃ o, pt p k m = o := ⟨_, rfl⟩
          obtain ⟨o2, e2⟩ : ∃ o, pt q k m = o := ⟨_, rfl⟩
          rw [e1, e2] at hj
          rw [show hasB p ((k : Int) - 9) ((m : Int) - 9) = o1 from e1] at c1
          rw [show hasB q ((k : Int) - 9) ((m : Int) - 9) = o2 from e2] at c2
          have HI := Lib.hid (And.intro hI (And.intro hml (And.intro e1 e2)))
          have hw1 : wrap64 ((m : Int) - 9 + 9) = (m : Int) := by rw [show (m : Int) - 9 + 9 = m by omega]; exact wr64 (by omega) (by omega)
          have hw2 : wrap64 ((k : Int) - 9 + 9) = (k : Int) := by rw [show (k : Int) - 9 + 9 = k by omega]; exact wr64 (by omega) (by omega)
          have ne := hPS.ne
          have ne' := hPS.ne.symm
          have nj1 : gR ≠ gJ := blk_neq hPS.r hPS.j (by decide)
          have nj2 : gC ≠ gJ := blk_neq hPS.c hPS.j (by decide)
          clear hI e1 e2
          unfold qv at c1 c2 c3
          have x0 := Blk_cell hPS.x 0
          have x1 := Blk_cell hPS.x 1
          have x2 := Blk_cell hPS.x 2
          have x3 := Blk_cell hPS.x 3
          have y0 := Blk_cell hPS.y 0
          have y1 := Blk_cell hPS.y 1
          have y2 := Blk_cell hPS.y 2
          have y3 := Blk_cell hPS.y 3
          have j0 := Blk_cell hPS.j 0
          have j1 := Blk_cell hPS.j 1
          have j2 := Blk_cell hPS.j 2
          have j3 := Blk_cell hPS.j 3
          have fr := Blk_frozen hPS.r m
          have fc := Blk_frozen hPS.c k
          have cr := bl_cell hPS.r hrm
          have cc := bl_cell hPS.c hck
          cases o1
          · cases o2
            · clear c3 hj hw1 hw2 cr cc
              cases co
              · cases al
                · go_wp2_with (first | (go_at_call 22; (with_reducible refine (c1 _).mono ?_); rintro e w' ⟨rfl, h⟩; have hPS := hPS.below h; (have x0 := Blk_cell hPS.x 0; have x1 := Blk_cell hPS.x 1; have x2 := Blk_cell hPS.x 2; have x3 := Blk_cell hPS.x 3; have y0 := Blk_cell hPS.y 0; have y1 := Blk_cell hPS.y 1; have y2 := Blk_cell hPS.y 2; have y3 := Blk_cell hPS.y 3; have j0 := Blk_cell hPS.j 0; have j1 := Blk_cell hPS.j 1; have j2 := Blk_cell hPS.j 2; have j3 := Blk_cell hPS.j 3; have fr := Blk_frozen hPS.r m; have fc := Blk_frozen hPS.c k; have cr := bl_cell hPS.r hrm; have cc := bl_cell hPS.c hck)) | (go_at_call 22; (with_reducible refine (c2 _).mono ?_); rintro e w' ⟨rfl, h⟩; have hPS := hPS.below h; (have x0 := Blk_cell hPS.x 0; have x1 := Blk_cell hPS.x 1; have x2 := Blk_cell hPS.x 2; have x3 := Blk_cell hPS.x 3; have y0 := Blk_cell hPS.y 0; have y1 := Blk_cell hPS.y 1; have y2 := Blk_cell hPS.y 2; have y3 := Blk_cell hPS.y 3; have j0 := Blk_cell hPS.j 0; have j1 := Blk_cell hPS.j 1; have j2 := Blk_cell hPS.j 2; have j3 := Blk_cell hPS.j 3; have fr := Blk_frozen hPS.r m; have fc := Blk_frozen hPS.c k; have cr := bl_cell hPS.r hrm; have cc := bl_cell hPS.c hck)))
                  go_roundw
                  case rel => exact ⟨m + 1, _, _, R, C, by omega, by go_num, rfl, rfl, HI.out.1.step' HI.out.2.1 HI.out.2.2.1 HI.out.2.2.2, hPS⟩
                  case measure => simp [intOf]; omega
                · go_wp2_with (first | (go_at_call 22; (with_reducible refine (c1 _).mono ?_); rintro e w' ⟨rfl, h⟩; have hPS := hPS.below h; (have x0 := Blk_cell hPS.x 0; have x1 := Blk_cell hPS.x 1; have x2 := Blk_cell hPS.x 2; have x3 := Blk_cell hPS.x 3; have y0 := Blk_cell hPS.y 0; have y1 := Blk_cell hPS.y 1; have y2 := Blk_cell hPS.y 2; have y3 := Blk_cell hPS.y 3; have j0 := Blk_cell hPS.j 0; have j1 := Blk_cell hPS.j 1; have j2 := Blk_cell hPS.j 2; have j3 := Blk_cell hPS.j 3; have fr := Blk_frozen hPS.r m; have fc := Blk_frozen hPS.c k; have cr := bl_cell hPS.r hrm; have cc := bl_cell hPS.c hck)) | (go_at_call 22; (with_reducible refine (c2 _).mono ?_); rintro e w' ⟨rfl, h⟩; have hPS := hPS.below h; (have x0 := Blk_cell hPS.x 0; have x1 := Blk_cell hPS.x 1; have x2 := Blk_cell hPS.x 2; have x3 := Blk_cell hPS.x 3; have y0 := Blk_cell hPS.y 0; have y1 := Blk_cell hPS.y 1; have y2 := Blk_cell hPS.y 2; have y3 := Blk_cell hPS.y 3; have j0 := Blk_cell hPS.j 0; have j1 := Blk_cell hPS.j 1; have j2 := Blk_cell hPS.j 2; have j3 := Blk_cell hPS.j 3; have fr := Blk_frozen hPS.r m; have fc := Blk_frozen hPS.c k; have cr := bl_cell hPS.r hrm; have cc := bl_cell hPS.c hck)))
                  go_roundw
                  case rel => exact ⟨m + 1, _, _, R, C, by omega, by go_num, rfl, rfl, HI.out.1.step' HI.out.2.1 HI.out.2.2.1 HI.out.2.2.2, hPS⟩
                  case measure => simp [intOf]; omega
              · cases al
                · go_wp2_with (first | (go_at_call 22; (with_reducible refine (c1 _).mono ?_); rintro e w' ⟨rfl, h⟩; have hPS := hPS.below h; (have x0 := Blk_cell hPS.x 0; have x1 := Blk_cell hPS.x 1; have x2 := Blk_cell hPS.x 2; have x3 := Blk_cell hPS.x 3; have y0 := Blk_cell hPS.y 0; have y1 := Blk_cell hPS.y 1; have y2 := Blk_cell hPS.y 2; have y3 := Blk_cell hPS.y 3; have j0 := Blk_cell hPS.j 0; have j1 := Blk_cell hPS.j 1; have j2 := Blk_cell hPS.j 2; have j3 := Blk_cell hPS.j 3; have fr := Blk_frozen hPS.r m; have fc := Blk_frozen hPS.c k; have cr := bl_cell hPS.r hrm; have cc := bl_cell hPS.c hck)) | (go_at_call 22; (with_reducible refine (c2 _).mono ?_); rintro e w' ⟨rfl, h⟩; have hPS := hPS.below h; (have x0 := Blk_cell hPS.x 0; have x1 := Blk_cell hPS.x 1; have x2 := Blk_cell hPS.x 2; have x3 := Blk_cell hPS.x 3; have y0 := Blk_cell hPS.y 0; have y1 := Blk_cell hPS.y 1; have y2 := Blk_cell hPS.y 2; have y3 := Blk_cell hPS.y 3; have j0 := Blk_cell hPS.j 0; have j1 := Blk_cell hPS.j 1; have j2 := Blk_cell hPS.j 2; have j3 := Blk_cell hPS.j 3; have fr := Blk_frozen hPS.r m; have fc := Blk_frozen hPS.c k; have cr := bl_cell hPS.r hrm; have cc := bl_cell hPS.c hck)))
                  go_roundw
                  case rel => exact ⟨m + 1, _, _, R, C, by omega, by go_num, rfl, rfl, HI.out.1.step' HI.out.2.1 HI.out.2.2.1 HI.out.2.2.2, hPS⟩
                  case measure => simp [intOf]; omega
                · go_wp2_with (first | (go_at_call 22; (with_reducible refine (c1 _).mono ?_); rintro e w' ⟨rfl, h⟩; have hPS := hPS.below h; (have x0 := Blk_cell hPS.x 0; have x1 := Blk_cell hPS.x 1; have x2 := Blk_cell hPS.x 2; have x3 := Blk_cell hPS.x 3; have y0 := Blk_cell hPS.y 0; have y1 := Blk_cell hPS.y 1; have y2 := Blk_cell hPS.y 2; have y3 := Blk_cell hPS.y 3; have j0 := Blk_cell hPS.j 0; have j1 := Blk_cell hPS.j 1; have j2 := Blk_cell hPS.j 2; have j3 := Blk_cell hPS.j 3; have fr := Blk_frozen hPS.r m; have fc := Blk_frozen hPS.c k; have cr := bl_cell hPS.r hrm; have cc := bl_cell hPS.c hck)) | (go_at_call 22; (with_reducible refine (c2 _).mono ?_); rintro e w' ⟨rfl, h⟩; have hPS := hPS.below h; (have x0 := Blk_cell hPS.x 0; have x1 := Blk_cell hPS.x 1; have x2 := Blk_cell hPS.x 2; have x3 := Blk_cell hPS.x 3; have y0 := Blk_cell hPS.y 0; have y1 := Blk_cell hPS.y 1; have y2 := Blk_cell hPS.y 2; have y3 := Blk_cell hPS.y 3; have j0 := Blk_cell hPS.j 0; have j1 := Blk_cell hPS.j 1; have j2 := Blk_cell hPS.j 2; have j3 := Blk_cell hPS.j 3; have fr := Blk_frozen hPS.r m; have fc := Blk_frozen hPS.c k; have cr := bl_cell hPS.r hrm; have cc := bl_cell hPS.c hck)))
                  go_roundw
                  case rel => exact ⟨m + 1, _, _, R, C, by omega, by go_num, rfl, rfl, HI.out.1.step' HI.out.2.1 HI.out.2.2.1 HI.out.2.2.2, hPS⟩
                  case measure => simp [intOf]; omega
            · rw [show hasB J ((k : Int) - 9) ((m : Int) - 9) = true from hj rfl] at c3
              clear hj
              cases co
              · cases al
                · go_wp2_with (first | (go_at_call 22; (with_reducible refine (c1 _).mono ?_); rintro e w' ⟨rfl, h⟩; have hPS := hPS.below h; (have x0 := Blk_cell hPS.x 0; have x1 := Blk_cell hPS.x 1; have x2 := Blk_cell hPS.x 2; have x3 := Blk_cell hPS.x 3; have y0 := Blk_cell hPS.y 0; have y1 := Blk_cell hPS.y 1; have y2 := Blk_cell hPS.y 2; have y3 := Blk_cell hPS.y 3; have j0 := Blk_cell hPS.j 0; have j1 := Blk_cell hPS.j 1; have j2 := Blk_cell hPS.j 2; have j3 := Blk_cell hPS.j 3; have fr := Blk_frozen hPS.r m; have fc := Blk_frozen hPS.c k; have cr := bl_cell hPS.r hrm; have cc := bl_cell hPS.c hck)) | (go_at_call 22; (with_reducible refine (c2 _).mono ?_); rintro e w' ⟨rfl, h⟩; have hPS := hPS.below h; (have x0 := Blk_cell hPS.x 0; have x1 := Blk_cell hPS.x 1; have x2 := Blk_cell hPS.x 2; have x3 := Blk_cell hPS.x 3; have y0 := Blk_cell hPS.y 0; have y1 := Blk_cell hPS.y 1; have y2 := Blk_cell hPS.y 2; have y3 := Blk_cell hPS.y 3; have j0 := Blk_cell hPS.j 0; have j1 := Blk_cell hPS.j 1; have j2 := Blk_cell hPS.j 2; have j3 := Blk_cell hPS.j 3; have fr := Blk_frozen hPS.r m; have fc := Blk_frozen hPS.c k; have cr := bl_cell hPS.r hrm; have cc := bl_cell hPS.c hck)) | (go_at_call 22; (with_reducible refine (c3 _).mono ?_); rintro e w' ⟨rfl, h⟩; have hPS := ((hPS.setR m).setC k).below h))
                  go_roundw
                  case rel => exact ⟨m + 1, _, _, R.set m true, C.set k true, by omega, by go_num, rfl, rfl, HI.out.1.step' HI.out.2.1 HI.out.2.2.1 HI.out.2.2.2, hPS⟩
                  case measure => simp [intOf]; omega
                · go_wp2_with (first | (go_at_call 22; (with_reducible refine (c1 _).mono ?_); rintro e w' ⟨rfl, h⟩; have hPS := hPS.below h; (have x0 := Blk_cell hPS.x 0; have x1 := Blk_cell hPS.x 1; have x2 := Blk_cell hPS.x 2; have x3 := Blk_cell hPS.x 3; have y0 := Blk_cell hPS.y 0; have y1 := Blk_cell hPS.y 1; have y2 := Blk_cell hPS.y 2; have y3 := Blk_cell hPS.y 3; have j0 := Blk_cell hPS.j 0; have j1 := Blk_cell hPS.j 1; have j2 := Blk_cell hPS.j 2; have j3 := Blk_cell hPS.j 3; have fr := Blk_frozen hPS.r m; have fc := Blk_frozen hPS.c k; have cr := bl_cell hPS.r hrm; have cc := bl_cell hPS.c hck)) | (go_at_call 22; (with_reducible refine (c2 _).mono ?_); rintro e w' ⟨rfl, h⟩; have hPS := hPS.below h; (have x0 := Blk_cell hPS.x 0; have x1 := Blk_cell hPS.x 1; have x2 := Blk_cell hPS.x 2; have x3 := Blk_cell hPS.x 3; have y0 := Blk_cell hPS.y 0; have y1 := Blk_cell hPS.y 1; have y2 := Blk_cell hPS.y 2; have y3 := Blk_cell hPS.y 3; have j0 := Blk_cell hPS.j 0; have j1 := Blk_cell hPS.j 1; have j2 := Blk_cell hPS.j 2; have j3 := Blk_cell hPS.j 3; have fr := Blk_frozen hPS.r m; have fc := Blk_frozen hPS.c k; have cr := bl_cell hPS.r hrm; have cc := bl_cell hPS.c hck)) | (go_at_call 22; (with_reducible refine (c3 _).mono ?_); rintro e w' ⟨rfl, h⟩; have hPS := ((hPS.setR m).setC k).below h))
                  go_roundw
                  case rel => exact ⟨m + 1, _, _, R.set m true, C.set k true, by omega, by go_num, rfl, rfl, HI.out.1.step' HI.out.2.1 HI.out.2.2.1 HI.out.2.2.2, hPS⟩
                  case measure => simp [intOf]; omega
              · cases al
                · go_wp2_with (first | (go_at_call 22; (with_reducible refine (c1 _).mono ?_); rintro e w' ⟨rfl, h⟩; have hPS := hPS.below h; (have x0 := Blk_cell hPS.x 0; have x1 := Blk_cell hPS.x 1; have x2 := Blk_cell hPS.x 2; have x3 := Blk_cell hPS.x 3; have y0 := Blk_cell hPS.y 0; have y1 := Blk_cell hPS.y 1; have y2 := Blk_cell hPS.y 2; have y3 := Blk_cell hPS.y 3; have j0 := Blk_cell hPS.j 0; have j1 := Blk_cell hPS.j 1; have j2 := Blk_cell hPS.j 2; have j3 := Blk_cell hPS.j 3; have fr := Blk_frozen hPS.r m; have fc := Blk_frozen hPS.c k; have cr := bl_cell hPS.r hrm; have cc := bl_cell hPS.c hck)) | (go_at_call 22; (with_reducible refine (c2 _).mono ?_); rintro e w' ⟨rfl, h⟩; have hPS := hPS.below h; (have x0 := Blk_cell hPS.x 0; have x1 := Blk_cell hPS.x 1; have x2 := Blk_cell hPS.x 2; have x3 := Blk_cell hPS.x 3; have y0 := Blk_cell hPS.y 0; have y1 := Blk_cell hPS.y 1; have y2 := Blk_cell hPS.y 2; have y3 := Blk_cell hPS.y 3; have j0 := Blk_cell hPS.j 0; have j1 := Blk_cell hPS.j 1; have j2 := Blk_cell hPS.j 2; have j3 := Blk_cell hPS.j 3; have fr := Blk_frozen hPS.r m; have fc := Blk_frozen hPS.c k; have cr := bl_cell hPS.r hrm; have cc := bl_cell hPS.c hck)) | (go_at_call 22; (with_reducible refine (c3 _).mono ?_); rintro e w' ⟨rfl, h⟩; have hPS := ((hPS.setR m).setC k).below h))
                  go_roundw
                  case rel => exact ⟨m + 1, _, _, R.set m true, C.set k true, by omega, by go_num, rfl, rfl, HI.out.1.step' HI.out.2.1 HI.out.2.2.1 HI.out.2.2.2, hPS⟩
                  case measure => simp [intOf]; omega
                · go_wp2_with (first | (go_at_call 22; (with_reducible refine (c1 _).mono ?_); rintro e w' ⟨rfl, h⟩; have hPS := hPS.below h; (have x0 := Blk_cell hPS.x 0; have x1 := Blk_cell hPS.x 1; have x2 := Blk_cell hPS.x 2; have x3 := Blk_cell hPS.x 3; have y0 := Blk_cell hPS.y 0; have y1 := Blk_cell hPS.y 1; have y2 := Blk_cell hPS.y 2; have y3 := Blk_cell hPS.y 3; have j0 := Blk_cell hPS.j 0; have j1 := Blk_cell hPS.j 1; have j2 := Blk_cell hPS.j 2; have j3 := Blk_cell hPS.j 3; have fr := Blk_frozen hPS.r m; have fc := Blk_frozen hPS.c k; have cr := bl_cell hPS.r hrm; have cc := bl_cell hPS.c hck)) | (go_at_call 22; (with_reducible refine (c2 _).mono ?_); rintro e w' ⟨rfl, h⟩; have hPS := hPS.below h; (have x0 := Blk_cell hPS.x 0; have x1 := Blk_cell hPS.x 1; have x2 := Blk_cell hPS.x 2; have x3 := Blk_cell hPS.x 3; have y0 := Blk_cell hPS.y 0; have y1 := Blk_cell hPS.y 1; have y2 := Blk_cell hPS.y 2; have y3 := Blk_cell hPS.y 3; have j0 := Blk_cell hPS.j 0; have j1 := Blk_cell hPS.j 1; have j2 := Blk_cell hPS.j 2; have j3 := Blk_cell hPS.j 3; have fr := Blk_frozen hPS.r m; have fc := Blk_frozen hPS.c k; have cr := bl_cell hPS.r hrm; have cc := bl_cell hPS.c hck)) | (go_at_call 22; (with_reducible refine (c3 _).mono ?_); rintro e w' ⟨rfl, h⟩; have hPS := ((hPS.setR m).setC k).below h))
                  go_roundw
                  case rel => exact ⟨m + 1, _, _, R.set m true, C.set k true, by omega, by go_num, rfl, rfl, HI.out.1.step' HI.out.2.1 HI.out.2.2.1 HI.out.2.2.2, hPS⟩
                  case measure => simp [intOf]; omega
          · rw [show hasB J ((k : Int) - 9) ((m : Int) - 9) = true from hj rfl] at c3
            clear hj
            cases o2
            · cases co
              · cases al
                · go_wp2_with (first | (go_at_call 22; (with_reducible refine (c1 _).mono ?_); rintro e w' ⟨rfl, h⟩; have hPS := hPS.below h; (have x0 := Blk_cell hPS.x 0; have x1 := Blk_cell hPS.x 1; have x2 := Blk_cell hPS.x 2; have x3 := Blk_cell hPS.x 3; have y0 := Blk_cell hPS.y 0; have y1 := Blk_cell hPS.y 1; have y2 := Blk_cell hPS.y 2; have y3 := Blk_cell hPS.y 3; have j0 := Blk_cell hPS.j 0; have j1 := Blk_cell hPS.j 1; have j2 := Blk_cell hPS.j 2; have j3 := Blk_cell hPS.j 3; have fr := Blk_frozen hPS.r m; have fc := Blk_frozen hPS.c k; have cr := bl_cell hPS.r hrm; have cc := bl_cell hPS.c hck)) | (go_at_call 22; (with_reducible refine (c2 _).mono ?_); rintro e w' ⟨rfl, h⟩; have hPS := hPS.below h; (have x0 := Blk_cell hPS.x 0; have x1 := Blk_cell hPS.x 1; have x2 := Blk_cell hPS.x 2; have x3 := Blk_cell hPS.x 3; have y0 := Blk_cell hPS.y 0; have y1 := Blk_cell hPS.y 1; have y2 := Blk_cell hPS.y 2; have y3 := Blk_cell hPS.y 3; have j0 := Blk_cell hPS.j 0; have j1 := Blk_cell hPS.j 1; have j2 := Blk_cell hPS.j 2; have j3 := Blk_cell hPS.j 3; have fr := Blk_frozen hPS.r m; have fc := Blk_frozen hPS.c k; have cr := bl_cell hPS.r hrm; have cc := bl_cell hPS.c hck)) | (go_at_call 22; (with_reducible refine (c3 _).mono ?_); rintro e w' ⟨rfl, h⟩; have hPS := ((hPS.setR m).setC k).below h))
                  go_roundw
                  case rel => exact ⟨m + 1, _, _, R.set m true, C.set k true, by omega, by go_num, rfl, rfl, HI.out.1.step' HI.out.2.1 HI.out.2.2.1 HI.out.2.2.2, hPS⟩
                  case measure => simp [intOf]; omega
                · go_wp2_with (first | (go_at_call 22; (with_reducible refine (c1 _).mono ?_); rintro e w' ⟨rfl, h⟩; have hPS := hPS.below h; (have x0 := Blk_cell hPS.x 0; have x1 := Blk_cell hPS.x 1; have x2 := Blk_cell hPS.x 2; have x3 := Blk_cell hPS.x 3; have y0 := Blk_cell hPS.y 0; have y1 := Blk_cell hPS.y 1; have y2 := Blk_cell hPS.y 2; have y3 := Blk_cell hPS.y 3; have j0 := Blk_cell hPS.j 0; have j1 := Blk_cell hPS.j 1; have j2 := Blk_cell hPS.j 2; have j3 := Blk_cell hPS.j 3; have fr := Blk_frozen hPS.r m; have fc := Blk_frozen hPS.c k; have cr := bl_cell hPS.r hrm; have cc := bl_cell hPS.c hck)) | (go_at_call 22; (with_reducible refine (c2 _).mono ?_); rintro e w' ⟨rfl, h⟩; have hPS := hPS.below h; (have x0 := Blk_cell hPS.x 0; have x1 := Blk_cell hPS.x 1; have x2 := Blk_cell hPS.x 2; have x3 := Blk_cell hPS.x 3; have y0 := Blk_cell hPS.y 0; have y1 := Blk_cell hPS.y 1; have y2 := Blk_cell hPS.y 2; have y3 := Blk_cell hPS.y 3; have j0 := Blk_cell hPS.j 0; have j1 := Blk_cell hPS.j 1; have j2 := Blk_cell hPS.j 2; have j3 := Blk_cell hPS.j 3; have fr := Blk_frozen hPS.r m; have fc := Blk_frozen hPS.c k; have cr := bl_cell hPS.r hrm; have cc := bl_cell hPS.c hck)) | (go_at_call 22; (with_reducible refine (c3 _).mono ?_); rintro e w' ⟨rfl, h⟩; have hPS := ((hPS.setR m).setC k).below h))
                  go_roundw
                  case rel => exact ⟨m + 1, _, _, R.set m true, C.set k true, by omega, by go_num, rfl, rfl, HI.out.1.step' HI.out.2.1 HI.out.2.2.1 HI.out.2.2.2, hPS⟩
                  case measure => simp [intOf]; omega
              · cases al
                · go_wp2_with (first | (go_at_call 22; (with_reducible refine (c1 _).mono ?_); rintro e w' ⟨rfl, h⟩; have hPS := hPS.below h; (have x0 := Blk_cell hPS.x 0; have x1 := Blk_cell hPS.x 1; have x2 := Blk_cell hPS.x 2; have x3 := Blk_cell hPS.x 3; have y0 := Blk_cell hPS.y 0; have y1 := Blk_cell hPS.y 1; have y2 := Blk_cell hPS.y 2; have y3 := Blk_cell hPS.y 3; have j0 := Blk_cell hPS.j 0; have j1 := Blk_cell hPS.j 1; have j2 := Blk_cell hPS.j 2; have j3 := Blk_cell hPS.j 3; have fr := Blk_frozen hPS.r m; have fc := Blk_frozen hPS.c k; have cr := bl_cell hPS.r hrm; have cc := bl_cell hPS.c hck)) | (go_at_call 22; (with_reducible refine (c2 _).mono ?_); rintro e w' ⟨rfl, h⟩; have hPS := hPS.below h; (have x0 := Blk_cell hPS.x 0; have x1 := Blk_cell hPS.x 1; have x2 := Blk_cell hPS.x 2; have x3 := Blk_cell hPS.x 3; have y0 := Blk_cell hPS.y 0; have y1 := Blk_cell hPS.y 1; have y2 := Blk_cell hPS.y 2; have y3 := Blk_cell hPS.y 3; have j0 := Blk_cell hPS.j 0; have j1 := Blk_cell hPS.j 1; have j2 := Blk_cell hPS.j 2; have j3 := Blk_cell hPS.j 3; have fr := Blk_frozen hPS.r m; have fc := Blk_frozen hPS.c k; have cr := bl_cell hPS.r hrm; have cc := bl_cell hPS.c hck)) | (go_at_call 22; (with_reducible refine (c3 _).mono ?_); rintro e w' ⟨rfl, h⟩; have hPS := ((hPS.setR m).setC k).below h))
                  go_roundw
                  case rel => exact ⟨m + 1, _, _, R.set m true, C.set k true, by omega, by go_num, rfl, rfl, HI.out.1.step' HI.out.2.1 HI.out.2.2.1 HI.out.2.2.2, hPS⟩
                  case measure => simp [intOf]; omega
                · go_wp2_with (first | (go_at_call 22; (with_reducible refine (c1 _).mono ?_); rintro e w' ⟨rfl, h⟩; have hPS := hPS.below h; (have x0 := Blk_cell hPS.x 0; have x1 := Blk_cell hPS.x 1; have x2 := Blk_cell hPS.x 2; have x3 := Blk_cell hPS.x 3; have y0 := Blk_cell hPS.y 0; have y1 := Blk_cell hPS.y 1; have y2 := Blk_cell hPS.y 2; have y3 := Blk_cell hPS.y 3; have j0 := Blk_cell hPS.j 0; have j1 := Blk_cell hPS.j 1; have j2 := Blk_cell hPS.j 2; have j3 := Blk_cell hPS.j 3; have fr := Blk_frozen hPS.r m; have fc := Blk_frozen hPS.c k; have cr := bl_cell hPS.r hrm; have cc := bl_cell hPS.c hck)) | (go_at_call 22; (with_reducible refine (c2 _).mono ?_); rintro e w' ⟨rfl, h⟩; have hPS := hPS.below h; (have x0 := Blk_cell hPS.x 0; have x1 := Blk_cell hPS.x 1; have x2 := Blk_cell hPS.x 2; have x3 := Blk_cell hPS.x 3; have y0 := Blk_cell hPS.y 0; have y1 := Blk_cell hPS.y 1; have y2 := Blk_cell hPS.y 2; have y3 := Blk_cell hPS.y 3; have j0 := Blk_cell hPS.j 0; have j1 := Blk_cell hPS.j 1; have j2 := Blk_cell hPS.j 2; have j3 := Blk_cell hPS.j 3; have fr := Blk_frozen hPS.r m; have fc := Blk_frozen hPS.c k; have cr := bl_cell hPS.r hrm; have cc := bl_cell hPS.c hck)) | (go_at_call 22; (with_reducible refine (c3 _).mono ?_); rintro e w' ⟨rfl, h⟩; have hPS := ((hPS.setR m).setC k).below h))
                  go_roundw
                  case rel => exact ⟨m + 1, _, _, R.set m true, C.set k true, by omega, by go_num, rfl, rfl, HI.out.1.step' HI.out.2.1 HI.out.2.2.1 HI.out.2.2.2, hPS⟩
                  case measure => simp [intOf]; omega
            · cases co
              · cases al
                · go_wp2_with (first | (go_at_call 22; (with_reducible refine (c1 _).mono ?_); rintro e w' ⟨rfl, h⟩; have hPS := hPS.below h; (have x0 := Blk_cell hPS.x 0; have x1 := Blk_cell hPS.x 1; have x2 := Blk_cell hPS.x 2; have x3 := Blk_cell hPS.x 3; have y0 := Blk_cell hPS.y 0; have y1 := Blk_cell hPS.y 1; have y2 := Blk_cell hPS.y 2; have y3 := Blk_cell hPS.y 3; have j0 := Blk_cell hPS.j 0; have j1 := Blk_cell hPS.j 1; have j2 := Blk_cell hPS.j 2; have j3 := Blk_cell hPS.j 3; have fr := Blk_frozen hPS.r m; have fc := Blk_frozen hPS.c k; have cr := bl_cell hPS.r hrm; have cc := bl_cell hPS.c hck)) | (go_at_call 22; (with_reducible refine (c2 _).mono ?_); rintro e w' ⟨rfl, h⟩; have hPS := hPS.below h; (have x0 := Blk_cell hPS.x 0; have x1 := Blk_cell hPS.x 1; have x2 := Blk_cell hPS.x 2; have x3 := Blk_cell hPS.x 3; have y0 := Blk_cell hPS.y 0; have y1 := Blk_cell hPS.y 1; have y2 := Blk_cell hPS.y 2; have y3 := Blk_cell hPS.y 3; have j0 := Blk_cell hPS.j 0; have j1 := Blk_cell hPS.j 1; have j2 := Blk_cell hPS.j 2; have j3 := Blk_cell hPS.j 3; have fr := Blk_frozen hPS.r m; have fc := Blk_frozen hPS.c k; have cr := bl_cell hPS.r hrm; have cc := bl_cell hPS.c hck)) | (go_at_call 22; (with_reducible refine (c3 _).mono ?_); rintro e w' ⟨rfl, h⟩; have hPS := ((hPS.setR m).setC k).below h))
                  go_roundw
                  case rel => exact ⟨m + 1, _, _, R.set m true, C.set k true, by omega, by go_num, rfl, rfl, HI.out.1.step' HI.out.2.1 HI.out.2.2.1 HI.out.2.2.2, hPS⟩
                  case measure => simp [intOf]; omega
                · go_wp2_with (first | (go_at_call 22; (with_reducible refine (c1 _).mono ?_); rintro e w' ⟨rfl, h⟩; have hPS := hPS.below h; (have x0 := Blk_cell hPS.x 0; have x1 := Blk_cell hPS.x 1; have x2 := Blk_cell hPS.x 2; have x3 := Blk_cell hPS.x 3; have y0 := Blk_cell hPS.y 0; have y1 := Blk_cell hPS.y 1; have y2 := Blk_cell hPS.y 2; have y3 := Blk_cell hPS.y 3; have j0 := Blk_cell hPS.j 0; have j1 := Blk_cell hPS.j 1; have j2 := Blk_cell hPS.j 2; have j3 := Blk_cell hPS.j 3; have fr := Blk_frozen hPS.r m; have fc := Blk_frozen hPS.c k; have cr := bl_cell hPS.r hrm; have cc := bl_cell hPS.c hck)) | (go_at_call 22; (with_reducible refine (c2 _).mono ?_); rintro e w' ⟨rfl, h⟩; have hPS := hPS.below h; (have x0 := Blk_cell hPS.x 0; have x1 := Blk_cell hPS.x 1; have x2 := Blk_cell hPS.x 2; have x3 := Blk_cell hPS.x 3; have y0 := Blk_cell hPS.y 0; have y1 := Blk_cell hPS.y 1; have y2 := Blk_cell hPS.y 2; have y3 := Blk_cell hPS.y 3; have j0 := Blk_cell hPS.j 0; have j1 := Blk_cell hPS.j 1; have j2 := Blk_cell hPS.j 2; have j3 := Blk_cell hPS.j 3; have fr := Blk_frozen hPS.r m; have fc := Blk_frozen hPS.c k; have cr := bl_cell hPS.r hrm; have cc := bl_cell hPS.c hck)) | (go_at_call 22; (with_reducible refine (c3 _).mono ?_); rintro e w' ⟨rfl, h⟩; have hPS := ((hPS.setR m).setC k).below h))
                  go_roundw
                  case rel => exact ⟨m + 1, _, _, R.set m true, C.set k true, by omega, by go_num, rfl, rfl, HI.out.1.step' HI.out.2.1 HI.out.2.2.1 HI.out.2.2.2, hPS⟩
                  case measure => simp [intOf]; omega
              · cases al
                · go_wp2_with (first | (go_at_call 22; (with_reducible refine (c1 _).mono ?_); rintro e w' ⟨rfl, h⟩; have hPS := hPS.below h; (have x0 := Blk_cell hPS.x 0; have x1 := Blk_cell hPS.x 1; have x2 := Blk_cell hPS.x 2; have x3 := Blk_cell hPS.x 3; have y0 := Blk_cell hPS.y 0; have y1 := Blk_cell hPS.y 1; have y2 := Blk_cell hPS.y 2; have y3 := Blk_cell hPS.y 3; have j0 := Blk_cell hPS.j 0; have j1 := Blk_cell hPS.j 1; have j2 := Blk_cell hPS.j 2; have j3 := Blk_cell hPS.j 3; have fr := Blk_frozen hPS.r m; have fc := Blk_frozen hPS.c k; have cr := bl_cell hPS.r hrm; have cc := bl_cell hPS.c hck)) | (go_at_call 22; (with_reducible refine (c2 _).mono ?_); rintro e w' ⟨rfl, h⟩; have hPS := hPS.below h; (have x0 := Blk_cell hPS.x 0; have x1 := Blk_cell hPS.x 1; have x2 := Blk_cell hPS.x 2; have x3 := Blk_cell hPS.x 3; have y0 := Blk_cell hPS.y 0; have y1 := Blk_cell hPS.y 1; have y2 := Blk_cell hPS.y 2; have y3 := Blk_cell hPS.y 3; have j0 := Blk_cell hPS.j 0; have j1 := Blk_cell hPS.j 1; have j2 := Blk_cell hPS.j 2; have j3 := Blk_cell hPS.j 3; have fr := Blk_frozen hPS.r m; have fc := Blk_frozen hPS.c k; have cr := bl_cell hPS.r hrm; have cc := bl_cell hPS.c hck)) | (go_at_call 22; (with_reducible refine (c3 _).mono ?_); rintro e w' ⟨rfl, h⟩; have hPS := ((hPS.setR m).setC k).below h))
                  go_roundw
                  case rel => exact ⟨m + 1, _, _, R.set m true, C.set k true, by omega, by go_num, rfl, rfl, HI.out.1.step' HI.out.2.1 HI.out.2.2.1 HI.out.2.2.2, hPS⟩
                  case measure => simp [intOf]; omega
                · go_wp2_with (first | (go_at_call 22; (with_reducible refine (c1 _).mono ?_); rintro e w' ⟨rfl, h⟩; have hPS := hPS.below h; (have x0 := Blk_cell hPS.x 0; have x1 := Blk_cell hPS.x 1; have x2 := Blk_cell hPS.x 2; have x3 := Blk_cell hPS.x 3; have y0 := Blk_cell hPS.y 0; have y1 := Blk_cell hPS.y 1; have y2 := Blk_cell hPS.y 2; have y3 := Blk_cell hPS.y 3; have j0 := Blk_cell hPS.j 0; have j1 := Blk_cell hPS.j 1; have j2 := Blk_cell hPS.j 2; have j3 := Blk_cell hPS.j 3; have fr := Blk_frozen hPS.r m; have fc := Blk_frozen hPS.c k; have cr := bl_cell hPS.r hrm; have cc := bl_cell hPS.c hck)) | (go_at_call 22; (with_reducible refine (c2 _).mono ?_); rintro e w' ⟨rfl, h⟩; have hPS := hPS.below h; (have x0 := Blk_cell hPS.x 0; have x1 := Blk_cell hPS.x 1; have x2 := Blk_cell hPS.x 2; have x3 := Blk_cell hPS.x 3; have y0 := Blk_cell hPS.y 0; have y1 := Blk_cell hPS.y 1; have y2 := Blk_cell hPS.y 2; have y3 := Blk_cell hPS.y 3; have j0 := Blk_cell hPS.j 0; have j1 := Blk_cell hPS.j 1; have j2 := Blk_cell hPS.j 2; have j3 := Blk_cell hPS.j 3; have fr := Blk_frozen hPS.r m; have fc := Blk_frozen hPS.c k; have cr := bl_cell hPS.r hrm; have cc := bl_cell hPS.c hck)) | (go_at_call 22; (with_reducible refine (c3 _).mono ?_); rintro e w' ⟨rfl, h⟩; have hPS := ((hPS.setR m).setC k).below h))
                  go_roundw
                  case rel => exact ⟨m + 1, _, _, R.set m true, C.set k true, by omega, by go_num, rfl, rfl, HI.out.1.step' HI.out.2.1 HI.out.2.2.1 HI.out.2.2.2, hPS⟩
                  case measure => simp [intOf]; omega
        · obtain rfl : m = 39 := by omega
          have HI := Lib.hid hI
          clear hI
          go_wp2_with fail
          go_roundw
          case rel => exact ⟨k + 1, co, al, R, C, by omega, by go_num, rfl, rfl, HI.out.next, hPS⟩
          case measure => simp [intOf]; omega
    · obtain rfl : k = 39 := by omega
      have hco := HC.out co al R C hI
      obtain ⟨⟨hm1, hi1⟩, hcov⟩ := hco
      have hrl := hI.rl
      have hcl := hI.cl
      rw [hm1] at m1
      rw [hi1] at i1
      obtain ⟨⟨v1, v2⟩, ⟨v3, v4⟩, v5, v6, v7, v8, ⟨v9, v10⟩, v11, v12, v13, v14, v15⟩ := hcov
      have hbw := hPS.b
      have d1 : decide (J.a < -9) = false := decide_eq_false (by omega)
      have d2 : decide (J.b < -9) = false := decide_eq_false (by omega)
      have d3 : decide (29 < J.c) = false := decide_eq_false (by omega)
      have d4 : decide (29 < J.d) = false := decide_eq_false (by omega)
      have w1 : wrap64 (J.a + J.c) = J.a + J.c := wr64 (by omega) (by omega)
      have w2 : wrap64 (J.b + J.d) = J.b + J.d := wr64 (by omega) (by omega)
      have d5 : decide (30 < J.a + J.c) = false := decide_eq_false (by omega)
      have d6 : decide (30 < J.b + J.d) = false := decide_eq_false (by omega)
      have d7 : decide (9 < J.a) = false := decide_eq_false (by omega)
      have d8 : decide (9 < J.b) = false := decide_eq_false (by omega)
      have x0 := Blk_cell hPS.x 0
      have x1 := Blk_cell hPS.x 1
      have x2 := Blk_cell hPS.x 2
      have x3 := Blk_cell hPS.x 3
      have y0 := Blk_cell hPS.y 0
      have y1 := Blk_cell hPS.y 1
      have y2 := Blk_cell hPS.y 2
      have y3 := Blk_cell hPS.y 3
      have j0 := Blk_cell hPS.j 0
      have j1 := Blk_cell hPS.j 1
      have j2 := Blk_cell hPS.j 2
      have j3 := Blk_cell hPS.j 3
      have hX := hPS.x
      have hY := hPS.y
      by_cases hW : 0 < J.c
      · have d9 : decide (0 < J.c) = true := decide_eq_true hW
        have d10 : decide (0 < J.d) = true := decide_eq_true (v11.1 hW)
        have hH := v11.1 hW
        obtain ⟨i2, hi2⟩ : ∃ i : Nat, J.a + 9 = (i : Int) := ⟨(J.a + 9).toNat, by omega⟩
        obtain ⟨i3, hi3⟩ : ∃ i : Nat, J.a + J.c - 1 + 9 = (i : Int) := ⟨(J.a + J.c - 1 + 9).toNat, by omega⟩
        obtain ⟨i4, hi4⟩ : ∃ i : Nat, J.b + 9 = (i : Int) := ⟨(J.b + 9).toNat, by omega⟩
        obtain ⟨i5, hi5⟩ : ∃ i : Nat, J.b + J.d - 1 + 9 = (i : Int) := ⟨(J.b + J.d - 1 + 9).toNat, by omega⟩
        have e2 := v12 hW
        have e3 := v13 hW
        have e4 := v14 hW
        have e5 := v15 hW
        rw [hi2, Int.toNat_natCast] at e2
        rw [hi3, Int.toNat_natCast] at e3
        rw [hi4, Int.toNat_natCast] at e4
        rw [hi5, Int.toNat_natCast] at e5
        have q2 := bl_cell hPS.c (m := i2) (by omega)
        have q3 := bl_cell hPS.c (m := i3) (by omega)
        have q4 := bl_cell hPS.r (m := i4) (by omega)
        have q5 := bl_cell hPS.r (m := i5) (by omega)
        rw [e2] at q2
        rw [e3] at q3
        rw [e4] at q4
        rw [e5] at q5
        have b2 : i2 < 40 := by omega
        have b3 : i3 < 40 := by omega
        have b4 : i4 < 40 := by omega
        have b5 : i5 < 40 := by omega
        have u1 : wrap64 (J.a + 9) = (i2 : Int) := by rw [← hi2]; exact wr64 (by omega) (by omega)
        have u2 : wrap64 (J.a + J.c - 1) = J.a + J.c - 1 := wr64 (by omega) (by omega)
        have u3 : wrap64 (J.a + J.c - 1 + 9) = (i3 : Int) := by rw [← hi3]; exact wr64 (by omega) (by omega)
        have z1 : wrap64 (J.b + 9) = (i4 : Int) := by rw [← hi4]; exact wr64 (by omega) (by omega)
        have z2 : wrap64 (J.b + J.d - 1) = J.b + J.d - 1 := wr64 (by omega) (by omega)
        have z3 : wrap64 (J.b + J.d - 1 + 9) = (i5 : Int) := by rw [← hi5]; exact wr64 (by omega) (by omega)
        clear e2 e3 e4 e5 v12 v13 v14 v15 hi2 hi3 hi4 hi5 hI hm1 hi1 v1 v2 v3 v4 v5 v6 v7 v8 v9 v10 v11 hab pa pb qa qb
        go_wp2_with (first | (go_at_call 16; (with_reducible refine (m1 _).mono ?_); rintro e w' ⟨rfl, h⟩; have hbw := Below_then hbw h (Nat.le_refl _); have hX := Blk_below hX h (Blk_lt hX); have hY := Blk_below hY h (Blk_lt hY); (have x0 := Blk_cell hX 0; have x1 := Blk_cell hX 1; have x2 := Blk_cell hX 2; have x3 := Blk_cell hX 3; have y0 := Blk_cell hY 0; have y1 := Blk_cell hY 1; have y2 := Blk_cell hY 2; have y3 := Blk_cell hY 3; have fx0 := Blk_frozen hX 0; have fx1 := Blk_frozen hX 1; have fx2 := Blk_frozen hX 2; have fx3 := Blk_frozen hX 3; have fy0 := Blk_frozen hY 0; have fy1 := Blk_frozen hY 1; have fy2 := Blk_frozen hY 2; have fy3 := Blk_frozen hY 3)) | (go_at_call 18; (with_reducible refine (i1 _).mono ?_); rintro e w' ⟨rfl, h⟩; have hbw := Below_then hbw h (Nat.le_refl _); have hX := Blk_below hX h (Blk_lt hX); have hY := Blk_below hY h (Blk_lt hY); (have x0 := Blk_cell hX 0; have x1 := Blk_cell hX 1; have x2 := Blk_cell hX 2; have x3 := Blk_cell hX 3; have y0 := Blk_cell hY 0; have y1 := Blk_cell hY 1; have y2 := Blk_cell hY 2; have y3 := Blk_cell hY 3; have fx0 := Blk_frozen hX 0; have fx1 := Blk_frozen hX 1; have fx2 := Blk_frozen hX 2; have fx3 := Blk_frozen hX 3; have fy0 := Blk_frozen hY 0; have fy1 := Blk_frozen hY 1; have fy2 := Blk_frozen hY 2; have fy3 := Blk_frozen hY 3)) | (go_at_call 9; (with_reducible refine (hkw _).mono ?_); rintro e w' ⟨rfl, h⟩; have hbw := Below_then hbw h (Nat.le_refl _); have hX := Blk_below hX h (Blk_lt hX); have hY := Blk_below hY h (Blk_lt hY); (have x0 := Blk_cell hX 0; have x1 := Blk_cell hX 1; have x2 := Blk_cell hX 2; have x3 := Blk_cell hX 3; have y0 := Blk_cell hY 0; have y1 := Blk_cell hY 1; have y2 := Blk_cell hY 2; have y3 := Blk_cell hY 3; have fx0 := Blk_frozen hX 0; have fx1 := Blk_frozen hX 1; have fx2 := Blk_frozen hX 2; have fx3 := Blk_frozen hX 3; have fy0 := Blk_frozen hY 0; have fy1 := Blk_frozen hY 1; have fy2 := Blk_frozen hY 2; have fy3 := Blk_frozen hY 3)))
        go_ret
        exact ⟨rfl, hbw⟩
      · have d9 : decide (0 < J.c) = false := decide_eq_false hW
        have d10 : decide (0 < J.d) = false := decide_eq_false (fun h => hW (v11.2 h))
        clear v12 v13 v14 v15 hI hm1 hi1 v1 v2 v3 v4 v5 v6 v7 v8 v9 v10 v11 hab pa pb qa qb
        go_wp2_with (first | (go_at_call 16; (with_reducible refine (m1 _).mono ?_); rintro e w' ⟨rfl, h⟩; have hbw := Below_then hbw h (Nat.le_refl _); have hX := Blk_below hX h (Blk_lt hX); have hY := Blk_below hY h (Blk_lt hY); (have x0 := Blk_cell hX 0; have x1 := Blk_cell hX 1; have x2 := Blk_cell hX 2; have x3 := Blk_cell hX 3; have y0 := Blk_cell hY 0; have y1 := Blk_cell hY 1; have y2 := Blk_cell hY 2; have y3 := Blk_cell hY 3; have fx0 := Blk_frozen hX 0; have fx1 := Blk_frozen hX 1; have fx2 := Blk_frozen hX 2; have fx3 := Blk_frozen hX 3; have fy0 := Blk_frozen hY 0; have fy1 := Blk_frozen hY 1; have fy2 := Blk_frozen hY 2; have fy3 := Blk_frozen hY 3)) | (go_at_call 18; (with_reducible refine (i1 _).mono ?_); rintro e w' ⟨rfl, h⟩; have hbw := Below_then hbw h (Nat.le_refl _); have hX := Blk_below hX h (Blk_lt hX); have hY := Blk_below hY h (Blk_lt hY); (have x0 := Blk_cell hX 0; have x1 := Blk_cell hX 1; have x2 := Blk_cell hX 2; have x3 := Blk_cell hX 3; have y0 := Blk_cell hY 0; have y1 := Blk_cell hY 1; have y2 := Blk_cell hY 2; have y3 := Blk_cell hY 3; have fx0 := Blk_frozen hX 0; have fx1 := Blk_frozen hX 1; have fx2 := Blk_frozen hX 2; have fx3 := Blk_frozen hX 3; have fy0 := Blk_frozen hY 0; have fy1 := Blk_frozen hY 1; have fy2 := Blk_frozen hY 2; have fy3 := Blk_frozen hY 3)) | (go_at_call 9; (with_reducible refine (hkw _).mono ?_); rintro e w' ⟨rfl, h⟩; have hbw := Below_then hbw h (Nat.le_refl _); have hX := Blk_below hX h (Blk_lt hX); have hY := Blk_below hY h (Blk_lt hY); (have x0 := Blk_cell hX 0; have x1 := Blk_cell hX 1; have x2 := Blk_cell hX 2; have x3 := Blk_cell hX 3; have y0 := Blk_cell hY 0; have y1 := Blk_cell hY 1; have y2 := Blk_cell hY 2; have y3 := Blk_cell hY 3; have fx0 := Blk_frozen hX 0; have fx1 := Blk_frozen hX 1; have fx2 := Blk_frozen hX 2; have fx3 := Blk_frozen hX 3; have fy0 := Blk_frozen hY 0; have fy1 := Blk_frozen hY 1; have fy2 := Blk_frozen hY 2; have fy3 := Blk_frozen hY 3)))
        go_ret
        exact ⟨rfl, hbw⟩
theorem points_walk (w : World) {ca cb : Array Value} {x y : Int × Int × Int × Int} (h0 : E33 w (Value.agg ca).cells.toList x) (h1 : E33 w (Value.agg cb).cells.toList y) :
    Calls Try.prog 5 #[.agg ca, .agg cb] w fun e w' => e = .returned (.bool true) ∧ Below w.heap.size w w' := by
  obtain ⟨r, hr, e0⟩ := quad_rc h0
  obtain ⟨q, hq, e1⟩ := quad_rc h1
  rw [e0, e1]
  exact points_any r q w
end Go.Proofs.Ytfhbndfhmphnaaa
