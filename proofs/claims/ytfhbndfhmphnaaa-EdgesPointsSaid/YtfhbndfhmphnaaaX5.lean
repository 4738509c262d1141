/-
  A rectangle that grows (edges.Grow). No condition.
-/
import Derived.Test.YtfhbndfhmphnaaaX4
set_option linter.unusedVariables false
set_option linter.unusedSimpArgs false
namespace Go.Proofs.Ytfhbndfhmphnaaa
open Go.RowKit Go.BigFrame

def growV (r s : Q4) : Q4 := ⟨cutV (r.a - s.d), cutV (r.b - s.a), cutV (r.c + s.d + s.b), cutV (r.d + s.a + s.c)⟩
def growB (r s : Q4) : Bool := cutB (r.a - s.d) || cutB (r.b - s.a) || cutB (r.c + s.d + s.b) || cutB (r.d + s.a + s.c)
def z4 (q : Q4) : Bool := q.a == 0 && (q.b == 0 && (q.c == 0 && q.d == 0))
theorem z4_zero {q : Q4} (h : z4 q = true) : q = ⟨0, 0, 0, 0⟩ := by
  obtain ⟨a, b, c, d⟩ := q
  simp [z4] at h
  obtain ⟨rfl, rfl, rfl, rfl⟩ := h
  rfl
theorem S8 {w : World} {g k : Nat} {t t2 : TypeId} {x y z u : Int} {a b c d : Bool} (h : Blk w g t #[.int .i64 x, .int .i64 y, .int .i64 z, .int .i64 u]) (h2 : Blk w k t2 #[.bool a, .bool b, .bool c, .bool d]) :
    w.cell? ⟨g, 0, none⟩ = some (.int .i64 x) ∧ w.cell? ⟨g, 1, none⟩ = some (.int .i64 y) ∧ w.cell? ⟨g, 2, none⟩ = some (.int .i64 z) ∧ w.cell? ⟨g, 3, none⟩ = some (.int .i64 u) ∧ w.cell? ⟨k, 0, none⟩ = some (.bool a) ∧ w.cell? ⟨k, 1, none⟩ = some (.bool b) ∧ w.cell? ⟨k, 2, none⟩ = some (.bool c) ∧ w.cell? ⟨k, 3, none⟩ = some (.bool d) :=
  ⟨Blk_cell h 0, Blk_cell h 1, Blk_cell h 2, Blk_cell h 3, Blk_cell h2 0, Blk_cell h2 1, Blk_cell h2 2, Blk_cell h2 3⟩
set_option maxRecDepth 20000 in
set_option maxHeartbeats 4000000 in
theorem grow_any (r s : Q4) (hr : r.ok) (hs : s.ok) (w : World) : Calls Try.prog 14 #[qv r, qv s] w fun e w' => e = .returned (.tuple #[qv (growV r s), .bool (growB r s)]) ∧ Below w.heap.size w w' := by
  have hz0 := fun (h : (z4 r && z4 s) = true) => (show r = ⟨0, 0, 0, 0⟩ ∧ s = ⟨0, 0, 0, 0⟩ from by rw [Bool.and_eq_true] at h; exact ⟨z4_zero h.1, z4_zero h.2⟩)
  have HZ := Lib.hid hz0
  obtain ⟨zb, hzb⟩ : ∃ b, (z4 r && z4 s) = b := ⟨_, rfl⟩
  rw [hzb] at HZ
  obtain ⟨x1, x2, x3, x4⟩ := r
  obtain ⟨y1, y2, y3, y4⟩ := s
  obtain ⟨ha, hb, hc, hd⟩ := hr
  obtain ⟨ka, kb, kc, kd⟩ := hs
  unfold growV growB qv
  simp only [] at *
  have heq := eq4_int
  have HZB := Lib.hid hzb
  have hX := Blk_alloc (Blk_alloc (Blk_new w 33 #[.int .i64 x1, .int .i64 x2, .int .i64 x3, .int .i64 x4]) (.cells #[.int .i64 y1, .int .i64 y2, .int .i64 y3, .int .i64 y4] 24)) (.cells #[.int .i64 0, .int .i64 0, .int .i64 0, .int .i64 0] 33)
  have hY := Blk_alloc (Blk_new (w.alloc (.cells #[.int .i64 x1, .int .i64 x2, .int .i64 x3, .int .i64 x4] 33)) 24 #[.int .i64 y1, .int .i64 y2, .int .i64 y3, .int .i64 y4]) (.cells #[.int .i64 0, .int .i64 0, .int .i64 0, .int .i64 0] 33)
  have hR := Blk_new ((w.alloc (.cells #[.int .i64 x1, .int .i64 x2, .int .i64 x3, .int .i64 x4] 33)).alloc (.cells #[.int .i64 y1, .int .i64 y2, .int .i64 y3, .int .i64 y4] 24)) 33 #[.int .i64 0, .int .i64 0, .int .i64 0, .int .i64 0]
  have hb0 : Below w.heap.size w (((w.alloc (.cells #[.int .i64 x1, .int .i64 x2, .int .i64 x3, .int .i64 x4] 33)).alloc (.cells #[.int .i64 y1, .int .i64 y2, .int .i64 y3, .int .i64 y4] 24)).alloc (.cells #[.int .i64 0, .int .i64 0, .int .i64 0, .int .i64 0] 33)) := by (repeat' (first | (with_reducible exact Below.refl _ _) | (with_reducible assumption) | (with_reducible refine Below.alloc ?_ ?_ _) | (with_reducible refine Below.drew ?_) | (with_reducible refine Below_drewN ?_ _) | (with_reducible refine Below.setCell ?_ ?_ _) | go_size))
  have hsz : (((w.alloc (.cells #[.int .i64 x1, .int .i64 x2, .int .i64 x3, .int .i64 x4] 33)).alloc (.cells #[.int .i64 y1, .int .i64 y2, .int .i64 y3, .int .i64 y4] 24)).alloc (.cells #[.int .i64 0, .int .i64 0, .int .i64 0, .int .i64 0] 33)).heap.size = w.heap.size + 3 := by simp
  simp only [World.size_alloc] at hY hR
  clear hz0 hzb
  go_enter Try.func14, Try.ntmps14
  go_upto_region 1 with fail
  generalize ((w.alloc (.cells #[.int .i64 x1, .int .i64 x2, .int .i64 x3, .int .i64 x4] 33)).alloc (.cells #[.int .i64 y1, .int .i64 y2, .int .i64 y3, .int .i64 y4] 24)).alloc (.cells #[.int .i64 0, .int .i64 0, .int .i64 0, .int .i64 0] 33) = w3 at *
  have a0 := Blk_cell hX 0
  have a1 := Blk_cell hX 1
  have a2 := Blk_cell hX 2
  have a3 := Blk_cell hX 3
  have b0 := Blk_cell hY 0
  have b1 := Blk_cell hY 1
  have b2 := Blk_cell hY 2
  have b3 := Blk_cell hY 3
  go_cut [15] (fun v wx => v = .bool zb ∧ w3 = wx)
  case first =>
    go_wp2_with fail
    all_goals (try subst_vars)
    all_goals go_meet
    all_goals exact ⟨congrArg Value.bool (by simp [z4, *]), rfl⟩
  case rest =>
    obtain ⟨rfl, rfl⟩ := hcut
    clear heq
    cases zb
    · have hbX := Blk_alloc (Blk_alloc hX (.cells #[.int .i64 0, .int .i64 0, .int .i64 0, .int .i64 0] 33)) (.cells #[.bool false, .bool false, .bool false, .bool false] 50)
      have hbY := Blk_alloc (Blk_alloc hY (.cells #[.int .i64 0, .int .i64 0, .int .i64 0, .int .i64 0] 33)) (.cells #[.bool false, .bool false, .bool false, .bool false] 50)
      have hbR := Blk_alloc (Blk_alloc hR (.cells #[.int .i64 0, .int .i64 0, .int .i64 0, .int .i64 0] 33)) (.cells #[.bool false, .bool false, .bool false, .bool false] 50)
      have hbO := Blk_alloc (Blk_new w3 33 #[.int .i64 0, .int .i64 0, .int .i64 0, .int .i64 0]) (.cells #[.bool false, .bool false, .bool false, .bool false] 50)
      have hbF := Blk_new2 (w := w3.alloc (.cells #[.int .i64 0, .int .i64 0, .int .i64 0, .int .i64 0] 33)) (g := w.heap.size + 3 + 1) (t := 50) (cs := #[.bool false, .bool false, .bool false, .bool false]) (by simp <;> omega)
      have hb5 : Below w.heap.size w ((w3.alloc (.cells #[.int .i64 0, .int .i64 0, .int .i64 0, .int .i64 0] 33)).alloc (.cells #[.bool false, .bool false, .bool false, .bool false] 50)) := (hb0.alloc hb0.size _).alloc (by simp <;> omega) _
      rw [hsz] at hbO
      have hs5 : ((w3.alloc (.cells #[.int .i64 0, .int .i64 0, .int .i64 0, .int .i64 0] 33)).alloc (.cells #[.bool false, .bool false, .bool false, .bool false] 50)).heap.size = w.heap.size + 5 := by simp; omega
      go_upto_region 5 with fail
      generalize (w3.alloc (.cells #[.int .i64 0, .int .i64 0, .int .i64 0, .int .i64 0] 33)).alloc (.cells #[.bool false, .bool false, .bool false, .bool false] 50) = w5 at *
      clear hX hY hR hb0 hsz a0 a1 a2 a3 b0 b1 b2 b3
      have e0 : w.heap.size + 3 ≠ w.heap.size + 3 + 1 := by omega
      have a0 := Blk_cell hbX 0
      have a1 := Blk_cell hbX 1
      have a2 := Blk_cell hbX 2
      have a3 := Blk_cell hbX 3
      have b0 := Blk_cell hbY 0
      have b1 := Blk_cell hbY 1
      have b2 := Blk_cell hbY 2
      have b3 := Blk_cell hbY 3
      have hcall := less_from_any x1 y4 w5 ha kd
      have hs0 := hb5.size
      go_upto_region 6 with ((go_at_call 27; (with_reducible refine hcall.mono ?_)); rintro e w6 ⟨rfl, g1⟩; replace hbX := Blk_below hbX g1 (Blk_lt hbX); replace hbY := Blk_below hbY g1 (Blk_lt hbY); replace hbR := Blk_below hbR g1 (Blk_lt hbR); replace hbO := Blk_below hbO g1 (Blk_lt hbO); replace hbF := Blk_below hbF g1 (Blk_lt hbF); have fo := Blk_frozen hbO 0; have do_ := Blk_cell hbO 0; have ff := Blk_frozen hbF 0; have df := Blk_cell hbF 0)
      replace hb5 := ((Below_then hb5 g1 (Nat.le_refl _)).setCell (p := ⟨w.heap.size + 3, 0, none⟩) (by simp) (.int .i64 (cutV (x1 - y4)))).setCell (p := ⟨w.heap.size + 3 + 1, 0, none⟩) (by simp <;> omega) (.bool (cutB (x1 - y4)))
      replace hbX := Blk_far (Blk_far hbX (p := ⟨w.heap.size + 3, 0, none⟩) (by simp) (.int .i64 (cutV (x1 - y4)))) (p := ⟨w.heap.size + 3 + 1, 0, none⟩) (by simp <;> omega) (.bool (cutB (x1 - y4)))
      replace hbY := Blk_far (Blk_far hbY (p := ⟨w.heap.size + 3, 0, none⟩) (by simp) (.int .i64 (cutV (x1 - y4)))) (p := ⟨w.heap.size + 3 + 1, 0, none⟩) (by simp <;> omega) (.bool (cutB (x1 - y4)))
      replace hbR := Blk_far (Blk_far hbR (p := ⟨w.heap.size + 3, 0, none⟩) (by simp <;> omega) (.int .i64 (cutV (x1 - y4)))) (p := ⟨w.heap.size + 3 + 1, 0, none⟩) (by simp <;> omega) (.bool (cutB (x1 - y4)))
      replace hbO := Blk_far (Blk_set hbO 0 (.int .i64 (cutV (x1 - y4)))) (p := ⟨w.heap.size + 3 + 1, 0, none⟩) e0 (.bool (cutB (x1 - y4)))
      replace hbF := Blk_set (Blk_far hbF (p := ⟨w.heap.size + 3, 0, none⟩) (fun h => e0 h.symm) (.int .i64 (cutV (x1 - y4)))) 0 (.bool (cutB (x1 - y4)))
      simp only [List.setIfInBounds_toArray, List.set_cons_zero, List.set_cons_succ] at hbO hbF
      clear a0 a1 a2 a3 b0 b1 b2 b3 fo do_ ff df hcall hs0 g1
      generalize (w6.setCell ⟨w.heap.size + 3, 0, none⟩ (.int .i64 (cutV (x1 - y4)))).setCell ⟨w.heap.size + 3 + 1, 0, none⟩ (.bool (cutB (x1 - y4))) = w7 at *
      have a0 := Blk_cell hbX 0
      have a1 := Blk_cell hbX 1
      have a2 := Blk_cell hbX 2
      have a3 := Blk_cell hbX 3
      have b0 := Blk_cell hbY 0
      have b1 := Blk_cell hbY 1
      have b2 := Blk_cell hbY 2
      have b3 := Blk_cell hbY 3
      have hcall := less_from_any x2 y1 w7 hb ka
      have hs0 := hb5.size
      go_upto_region 7 with ((go_at_call 27; (with_reducible refine hcall.mono ?_)); rintro e w8 ⟨rfl, g1⟩; replace hbX := Blk_below hbX g1 (Blk_lt hbX); replace hbY := Blk_below hbY g1 (Blk_lt hbY); replace hbR := Blk_below hbR g1 (Blk_lt hbR); replace hbO := Blk_below hbO g1 (Blk_lt hbO); replace hbF := Blk_below hbF g1 (Blk_lt hbF); have fo := Blk_frozen hbO 1; have do_ := Blk_cell hbO 1; have ff := Blk_frozen hbF 1; have df := Blk_cell hbF 1)
      replace hb5 := ((Below_then hb5 g1 (Nat.le_refl _)).setCell (p := ⟨w.heap.size + 3, 1, none⟩) (by simp) (.int .i64 (cutV (x2 - y1)))).setCell (p := ⟨w.heap.size + 3 + 1, 1, none⟩) (by simp <;> omega) (.bool (cutB (x2 - y1)))
      replace hbX := Blk_far (Blk_far hbX (p := ⟨w.heap.size + 3, 1, none⟩) (by simp) (.int .i64 (cutV (x2 - y1)))) (p := ⟨w.heap.size + 3 + 1, 1, none⟩) (by simp <;> omega) (.bool (cutB (x2 - y1)))
      replace hbY := Blk_far (Blk_far hbY (p := ⟨w.heap.size + 3, 1, none⟩) (by simp) (.int .i64 (cutV (x2 - y1)))) (p := ⟨w.heap.size + 3 + 1, 1, none⟩) (by simp <;> omega) (.bool (cutB (x2 - y1)))
      replace hbR := Blk_far (Blk_far hbR (p := ⟨w.heap.size + 3, 1, none⟩) (by simp <;> omega) (.int .i64 (cutV (x2 - y1)))) (p := ⟨w.heap.size + 3 + 1, 1, none⟩) (by simp <;> omega) (.bool (cutB (x2 - y1)))
      replace hbO := Blk_far (Blk_set hbO 1 (.int .i64 (cutV (x2 - y1)))) (p := ⟨w.heap.size + 3 + 1, 1, none⟩) e0 (.bool (cutB (x2 - y1)))
      replace hbF := Blk_set (Blk_far hbF (p := ⟨w.heap.size + 3, 1, none⟩) (fun h => e0 h.symm) (.int .i64 (cutV (x2 - y1)))) 1 (.bool (cutB (x2 - y1)))
      simp only [List.setIfInBounds_toArray, List.set_cons_zero, List.set_cons_succ] at hbO hbF
      clear a0 a1 a2 a3 b0 b1 b2 b3 fo do_ ff df hcall hs0 g1
      generalize (w8.setCell ⟨w.heap.size + 3, 1, none⟩ (.int .i64 (cutV (x2 - y1)))).setCell ⟨w.heap.size + 3 + 1, 1, none⟩ (.bool (cutB (x2 - y1))) = w9 at *
      have a0 := Blk_cell hbX 0
      have a1 := Blk_cell hbX 1
      have a2 := Blk_cell hbX 2
      have a3 := Blk_cell hbX 3
      have b0 := Blk_cell hbY 0
      have b1 := Blk_cell hbY 1
      have b2 := Blk_cell hbY 2
      have b3 := Blk_cell hbY 3
      have hcall := sum3_any w9 x3 y4 y2 (i64_wf2 hc) (i64_wf2 kd) (i64_wf2 kb)
      have hs0 := hb5.size
      go_upto_region 8 with ((go_at_call 25; (with_reducible refine hcall.mono ?_)); rintro e wa ⟨rfl, g1⟩; replace hbX := Blk_below hbX g1 (Blk_lt hbX); replace hbY := Blk_below hbY g1 (Blk_lt hbY); replace hbR := Blk_below hbR g1 (Blk_lt hbR); replace hbO := Blk_below hbO g1 (Blk_lt hbO); replace hbF := Blk_below hbF g1 (Blk_lt hbF); have fo := Blk_frozen hbO 2; have do_ := Blk_cell hbO 2; have ff := Blk_frozen hbF 2; have df := Blk_cell hbF 2)
      replace hb5 := ((Below_then hb5 g1 (Nat.le_refl _)).setCell (p := ⟨w.heap.size + 3, 2, none⟩) (by simp) (.int .i64 (cutV (x3 + y4 + y2)))).setCell (p := ⟨w.heap.size + 3 + 1, 2, none⟩) (by simp <;> omega) (.bool (cutB (x3 + y4 + y2)))
      replace hbX := Blk_far (Blk_far hbX (p := ⟨w.heap.size + 3, 2, none⟩) (by simp) (.int .i64 (cutV (x3 + y4 + y2)))) (p := ⟨w.heap.size + 3 + 1, 2, none⟩) (by simp <;> omega) (.bool (cutB (x3 + y4 + y2)))
      replace hbY := Blk_far (Blk_far hbY (p := ⟨w.heap.size + 3, 2, none⟩) (by simp) (.int .i64 (cutV (x3 + y4 + y2)))) (p := ⟨w.heap.size + 3 + 1, 2, none⟩) (by simp <;> omega) (.bool (cutB (x3 + y4 + y2)))
      replace hbR := Blk_far (Blk_far hbR (p := ⟨w.heap.size + 3, 2, none⟩) (by simp <;> omega) (.int .i64 (cutV (x3 + y4 + y2)))) (p := ⟨w.heap.size + 3 + 1, 2, none⟩) (by simp <;> omega) (.bool (cutB (x3 + y4 + y2)))
      replace hbO := Blk_far (Blk_set hbO 2 (.int .i64 (cutV (x3 + y4 + y2)))) (p := ⟨w.heap.size + 3 + 1, 2, none⟩) e0 (.bool (cutB (x3 + y4 + y2)))
      replace hbF := Blk_set (Blk_far hbF (p := ⟨w.heap.size + 3, 2, none⟩) (fun h => e0 h.symm) (.int .i64 (cutV (x3 + y4 + y2)))) 2 (.bool (cutB (x3 + y4 + y2)))
      simp only [List.setIfInBounds_toArray, List.set_cons_zero, List.set_cons_succ] at hbO hbF
      clear a0 a1 a2 a3 b0 b1 b2 b3 fo do_ ff df hcall hs0 g1
      generalize (wa.setCell ⟨w.heap.size + 3, 2, none⟩ (.int .i64 (cutV (x3 + y4 + y2)))).setCell ⟨w.heap.size + 3 + 1, 2, none⟩ (.bool (cutB (x3 + y4 + y2))) = wb at *
      have a0 := Blk_cell hbX 0
      have a1 := Blk_cell hbX 1
      have a2 := Blk_cell hbX 2
      have a3 := Blk_cell hbX 3
      have b0 := Blk_cell hbY 0
      have b1 := Blk_cell hbY 1
      have b2 := Blk_cell hbY 2
      have b3 := Blk_cell hbY 3
      have hcall := sum3_any wb x4 y1 y3 (i64_wf2 hd) (i64_wf2 ka) (i64_wf2 kc)
      have hs0 := hb5.size
      go_upto_region 9 with ((go_at_call 25; (with_reducible refine hcall.mono ?_)); rintro e wc ⟨rfl, g1⟩; replace hbX := Blk_below hbX g1 (Blk_lt hbX); replace hbY := Blk_below hbY g1 (Blk_lt hbY); replace hbR := Blk_below hbR g1 (Blk_lt hbR); replace hbO := Blk_below hbO g1 (Blk_lt hbO); replace hbF := Blk_below hbF g1 (Blk_lt hbF); have fo := Blk_frozen hbO 3; have do_ := Blk_cell hbO 3; have ff := Blk_frozen hbF 3; have df := Blk_cell hbF 3)
      replace hb5 := ((Below_then hb5 g1 (Nat.le_refl _)).setCell (p := ⟨w.heap.size + 3, 3, none⟩) (by simp) (.int .i64 (cutV (x4 + y1 + y3)))).setCell (p := ⟨w.heap.size + 3 + 1, 3, none⟩) (by simp <;> omega) (.bool (cutB (x4 + y1 + y3)))
      replace hbX := Blk_far (Blk_far hbX (p := ⟨w.heap.size + 3, 3, none⟩) (by simp) (.int .i64 (cutV (x4 + y1 + y3)))) (p := ⟨w.heap.size + 3 + 1, 3, none⟩) (by simp <;> omega) (.bool (cutB (x4 + y1 + y3)))
      replace hbY := Blk_far (Blk_far hbY (p := ⟨w.heap.size + 3, 3, none⟩) (by simp) (.int .i64 (cutV (x4 + y1 + y3)))) (p := ⟨w.heap.size + 3 + 1, 3, none⟩) (by simp <;> omega) (.bool (cutB (x4 + y1 + y3)))
      replace hbR := Blk_far (Blk_far hbR (p := ⟨w.heap.size + 3, 3, none⟩) (by simp <;> omega) (.int .i64 (cutV (x4 + y1 + y3)))) (p := ⟨w.heap.size + 3 + 1, 3, none⟩) (by simp <;> omega) (.bool (cutB (x4 + y1 + y3)))
      replace hbO := Blk_far (Blk_set hbO 3 (.int .i64 (cutV (x4 + y1 + y3)))) (p := ⟨w.heap.size + 3 + 1, 3, none⟩) e0 (.bool (cutB (x4 + y1 + y3)))
      replace hbF := Blk_set (Blk_far hbF (p := ⟨w.heap.size + 3, 3, none⟩) (fun h => e0 h.symm) (.int .i64 (cutV (x4 + y1 + y3)))) 3 (.bool (cutB (x4 + y1 + y3)))
      simp only [List.setIfInBounds_toArray, List.set_cons_zero, List.set_cons_succ] at hbO hbF
      clear a0 a1 a2 a3 b0 b1 b2 b3 fo do_ ff df hcall hs0 g1
      generalize (wc.setCell ⟨w.heap.size + 3, 3, none⟩ (.int .i64 (cutV (x4 + y1 + y3)))).setCell ⟨w.heap.size + 3 + 1, 3, none⟩ (.bool (cutB (x4 + y1 + y3))) = wd at *
      obtain ⟨v1, q1⟩ : ∃ x, cutV (x1 - y4) = x := ⟨_, rfl⟩
      obtain ⟨v2, q2⟩ : ∃ x, cutV (x2 - y1) = x := ⟨_, rfl⟩
      obtain ⟨v3, q3⟩ : ∃ x, cutV (x3 + y4 + y2) = x := ⟨_, rfl⟩
      obtain ⟨v4, q4⟩ : ∃ x, cutV (x4 + y1 + y3) = x := ⟨_, rfl⟩
      obtain ⟨B1, p1⟩ : ∃ x, cutB (x1 - y4) = x := ⟨_, rfl⟩
      obtain ⟨B2, p2⟩ : ∃ x, cutB (x2 - y1) = x := ⟨_, rfl⟩
      obtain ⟨B3, p3⟩ : ∃ x, cutB (x3 + y4 + y2) = x := ⟨_, rfl⟩
      obtain ⟨B4, p4⟩ : ∃ x, cutB (x4 + y1 + y3) = x := ⟨_, rfl⟩
      rw [q1, q2, q3, q4] at hbO
      rw [p1, p2, p3, p4] at hbF
      have HV := Lib.hid (And.intro (And.intro (And.intro q1 q2) (And.intro q3 q4)) (And.intro (And.intro p1 p2) (And.intro p3 p4)))
      clear q1 q2 q3 q4 p1 p2 p3 p4
      have heq := eq4_bool
      have f0 := Blk_frozen hbR 0
      have f1 := Blk_frozen hbR 1
      have f2 := Blk_frozen hbR 2
      have f3 := Blk_frozen hbR 3
      have r0 := Blk_cell hbR 0
      have r1 := Blk_cell hbR 1
      have r2 := Blk_cell hbR 2
      have r3 := Blk_cell hbR 3
      go_region_held3 (fun w' => w'.cell? ⟨w.heap.size + 3, 0, none⟩ = some (.int .i64 v1) ∧ w'.cell? ⟨w.heap.size + 3, 1, none⟩ = some (.int .i64 v2) ∧ w'.cell? ⟨w.heap.size + 3, 2, none⟩ = some (.int .i64 v3) ∧ w'.cell? ⟨w.heap.size + 3, 3, none⟩ = some (.int .i64 v4) ∧ w'.cell? ⟨w.heap.size + 3 + 1, 0, none⟩ = some (.bool B1) ∧ w'.cell? ⟨w.heap.size + 3 + 1, 1, none⟩ = some (.bool B2) ∧ w'.cell? ⟨w.heap.size + 3 + 1, 2, none⟩ = some (.bool B3) ∧ w'.cell? ⟨w.heap.size + 3 + 1, 3, none⟩ = some (.bool B4))
        (first
          | (with_reducible assumption)
          | exact S8 (t := 33) (t2 := 50) (by (repeat' (first | (with_reducible exact hbO) | (with_reducible exact hbF) | (with_reducible refine Blk_drew ?_) | (refine Blk_far ?_ (by simp <;> omega) _)))) (by (repeat' (first | (with_reducible exact hbO) | (with_reducible exact hbF) | (with_reducible refine Blk_drew ?_) | (refine Blk_far ?_ (by simp <;> omega) _)))))
        (fail)
      clear heq
      go_wp2_with fail
      have hBf := Blk_drew (Blk_set (Blk_set (Blk_set (Blk_set hbR 0 (.int .i64 v1)) 1 (.int .i64 v2)) 2 (.int .i64 v3)) 3 (.int .i64 v4))
      have e0 := Blk_cell hBf 0
      have e1 := Blk_cell hBf 1
      have e2 := Blk_cell hBf 2
      have e3 := Blk_cell hBf 3
      refine bodyPost_ret (v := .tuple #[.agg #[.int .i64 v1, .int .i64 v2, .int .i64 v3, .int .i64 v4], .bool (B1 || (B2 || (B3 || B4)))]) (by simp at e0 e1 e2 e3; simp [results, Try.results14, go_sem, e0, e1, e2, e3]) rfl ⟨?_, ?_⟩
      · obtain ⟨⟨⟨q1, q2⟩, q3, q4⟩, ⟨p1, p2⟩, p3, p4⟩ := HV.out
        rw [q1, q2, q3, q4, p1, p2, p3, p4, Bool.or_assoc, Bool.or_assoc]
      · exact ((((hb5.setCell (by simp <;> omega) _).setCell (by simp <;> omega) _).setCell (by simp <;> omega) _).setCell (by simp <;> omega) _).drew
    · obtain ⟨e1, e2⟩ := HZ.out rfl
      injection e1 with e11 e12 e13 e14
      injection e2 with e21 e22 e23 e24
      subst e11; subst e12; subst e13; subst e14; subst e21; subst e22; subst e23; subst e24
      have r0 := Blk_cell hR 0
      have r1 := Blk_cell hR 1
      have r2 := Blk_cell hR 2
      have r3 := Blk_cell hR 3
      have f0 := Blk_frozen hR 0
      have f1 := Blk_frozen hR 1
      have f2 := Blk_frozen hR 2
      have f3 := Blk_frozen hR 3
      go_wp2_with fail
      have hBf := Blk_set (Blk_set (Blk_set (Blk_set hR 0 (.int .i64 0)) 1 (.int .i64 0)) 2 (.int .i64 0)) 3 (.int .i64 0)
      have e0 := Blk_cell hBf 0
      have e1 := Blk_cell hBf 1
      have e2 := Blk_cell hBf 2
      have e3 := Blk_cell hBf 3
      refine bodyPost_ret (v := .tuple #[.agg #[.int .i64 0, .int .i64 0, .int .i64 0, .int .i64 0], .bool false]) (by simp at e0 e1 e2 e3; simp [results, Try.results14, go_sem, e0, e1, e2, e3]) rfl ⟨rfl, (((hb0.setCell (by simp <;> omega) _).setCell (by simp <;> omega) _).setCell (by simp <;> omega) _).setCell (by simp <;> omega) _⟩
end Go.Proofs.Ytfhbndfhmphnaaa
