/-
  The reference's turned number, sum, and 'less' (jambref02). No condition.
-/
import Derived.Test.YtfhbndfhmphnaaaR
import Derived.Test.YtfhbndfhmphnaaaU
set_option linter.unusedVariables false
set_option linter.unusedSimpArgs false
namespace Go.Proofs.Ytfhbndfhmphnaaa
open Go.RowKit Go.BigFrame

theorem BV.parts2 {w : World} {v : Value} {z : Int} {K : Nat} (h : BV w v z K) : ∃ s A n c l, v = .agg #[.bool s, .slice A n c] ∧ RowKit.Hid (s = decide (z < 0) ∧ BS w (.slice A n c) l ∧ bval l = z.natAbs ∧ l.length ≤ K) := by
  obtain ⟨A, n, c, l, h1, h2⟩ := h.parts
  exact ⟨_, A, n, c, l, h1, Lib.hid ⟨rfl, h2⟩⟩
set_option maxRecDepth 20000 in
set_option maxHeartbeats 4000000 in
theorem minus_any (w : World) (x : Int) (hx : (Lit.int .i64 x).wf = true) :
    Calls Try.prog 31 #[.int .i64 x] w fun e w' => ∃ v, e = .returned v ∧ BV w' v (-x) 192 ∧ Below w.heap.size w w' := by
  have hR := Blk_new w 54 #[.bool false, .slice none 0 0]
  have hb0 : Below w.heap.size w (w.alloc (.cells #[.bool false, .slice none 0 0] 54)) := by (repeat' (first | (with_reducible exact Below.refl _ _) | (with_reducible assumption) | (with_reducible refine Below.alloc ?_ ?_ _) | (with_reducible refine Below.drew ?_) | (with_reducible refine Below_drewN ?_ _) | (with_reducible refine Below.setCell ?_ ?_ _) | go_size))
  have ho1 := fun w => of_any w (-1) (by decide)
  have ho2 := fun w => of_any w x hx
  go_enter Try.func31, Try.ntmps31
  go_upto_region 1 with fail
  generalize w.alloc (.cells #[.bool false, .slice none 0 0] 54) = w0 at *
  go_wp2_with (first
    | (go_at_call 30; (with_reducible refine (ho1 _).mono ?_); rintro e w1 ⟨v1, rfl, hB1, h1⟩; have hR1 := Blk_below hR h1 (Blk_lt hR))
    | (go_at_call 30; (with_reducible refine (ho2 _).mono ?_); rintro e w2 ⟨v2, rfl, hB2, h2⟩; have hR2 := Blk_below hR1 h2 (Blk_lt hR1); have hB12 := hB1.mono h2)
    | (go_at_call 49; (with_reducible refine (mul_any _ hB12 hB2 (by omega) (by omega)).mono ?_); rintro e w3 ⟨v3, rfl, hB3, h3⟩; have hR3 := Blk_below hR2 h3 (Blk_lt hR2); have f06 := Blk_frozen hR3 0; have f16 := Blk_frozen hR3 1; rw [show (-1) * x = -x by omega] at hB3; have c06 := Blk_cell hR3 0; have c16 := Blk_cell hR3 1; obtain ⟨sz, G6, m6, g6, l6, rfl, HB⟩ := hB3.parts2))
  have hBf := Blk_set (Blk_set hR3 0 (.bool sz)) 1 (.slice G6 m6 g6)
  have e0 := Blk_cell hBf 0
  have e1 := Blk_cell hBf 1
  refine bodyPost_ret (v := .agg #[.bool sz, .slice G6 m6 g6]) (by simp at e0 e1; simp [results, Try.results31, go_sem, e0, e1]) rfl ⟨_, rfl, ?_, ?_⟩
  · obtain ⟨q1, q2, q3, q4⟩ := HB.out
    exact ⟨l6, _, by rw [← q1], (q2.far hR3 (by decide) _ _).far (Blk_set hR3 0 _) (by decide) _ _, q3, q4⟩
  · exact ((Below_then hb0 (Below_then (Below_then h1 h2 (Nat.le_refl _)) h3 (Nat.le_refl _)) (Nat.le_refl _)).setCell (by simp) _).setCell (by simp) _
set_option maxRecDepth 20000 in
set_option maxHeartbeats 4000000 in
theorem radd_any (w : World) (x y : Int) (hx : (Lit.int .i64 x).wf = true) (hy : (Lit.int .i64 y).wf = true) :
    Calls Try.prog 32 #[.int .i64 x, .int .i64 y] w fun e w' => ∃ v, e = .returned v ∧ BV w' v (x + y) 65 ∧ Below w.heap.size w w' := by
  have hR := Blk_new w 54 #[.bool false, .slice none 0 0]
  have hb0 : Below w.heap.size w (w.alloc (.cells #[.bool false, .slice none 0 0] 54)) := by (repeat' (first | (with_reducible exact Below.refl _ _) | (with_reducible assumption) | (with_reducible refine Below.alloc ?_ ?_ _) | (with_reducible refine Below.drew ?_) | (with_reducible refine Below_drewN ?_ _) | (with_reducible refine Below.setCell ?_ ?_ _) | go_size))
  have ho1 := fun w => of_any w x hx
  have ho2 := fun w => of_any w y hy
  go_enter Try.func32, Try.ntmps32
  go_upto_region 1 with fail
  generalize w.alloc (.cells #[.bool false, .slice none 0 0] 54) = w0 at *
  go_wp2_with (first
    | (go_at_call 30; (with_reducible refine (ho1 _).mono ?_); rintro e w1 ⟨v1, rfl, hB1, h1⟩; have hR1 := Blk_below hR h1 (Blk_lt hR))
    | (go_at_call 30; (with_reducible refine (ho2 _).mono ?_); rintro e w2 ⟨v2, rfl, hB2, h2⟩; have hR2 := Blk_below hR1 h2 (Blk_lt hR1); have hB12 := hB1.mono h2)
    | (go_at_call 29; (with_reducible refine (add_any _ hB12 hB2 (by omega) (by omega)).mono ?_); rintro e w3 ⟨v3, rfl, hB3, h3⟩; have hR3 := Blk_below hR2 h3 (Blk_lt hR2); have f06 := Blk_frozen hR3 0; have f16 := Blk_frozen hR3 1; have c06 := Blk_cell hR3 0; have c16 := Blk_cell hR3 1; obtain ⟨sz, G6, m6, g6, l6, rfl, HB⟩ := hB3.parts2))
  have hBf := Blk_set (Blk_set hR3 0 (.bool sz)) 1 (.slice G6 m6 g6)
  have e0 := Blk_cell hBf 0
  have e1 := Blk_cell hBf 1
  refine bodyPost_ret (v := .agg #[.bool sz, .slice G6 m6 g6]) (by simp at e0 e1; simp [results, Try.results32, go_sem, e0, e1]) rfl ⟨_, rfl, ?_, ?_⟩
  · obtain ⟨q1, q2, q3, q4⟩ := HB.out
    exact ⟨l6, _, by rw [← q1], (q2.far hR3 (by decide) _ _).far (Blk_set hR3 0 _) (by decide) _ _, q3, q4⟩
  · exact ((Below_then hb0 (Below_then (Below_then h1 h2 (Nat.le_refl _)) h3 (Nat.le_refl _)) (Nat.le_refl _)).setCell (by simp) _).setCell (by simp) _
set_option maxRecDepth 20000 in
set_option maxHeartbeats 4000000 in
theorem bless_any (w : World) {va vb : Value} {za zb : Int} {Ka Kb : Nat} (ha : BV w va za Ka) (hb : BV w vb zb Kb) (hKa : Ka ≤ 10000) (hKb : Kb ≤ 10000) :
    Calls Try.prog 51 #[va, vb] w fun e w' => e = .returned (.bool (decide (za < zb))) ∧ Below w.heap.size w w' := by
  have hdec : decide (za < zb) = decide (za + (-1) * zb < 0) := by apply decide_eq_decide.2; omega
  obtain ⟨sa, A, n, c, la, rfl, HA⟩ := ha.parts2
  obtain ⟨sb, D, m, d, lb, rfl, HB⟩ := hb.parts2
  have hX := Blk_alloc (Blk_new w 54 #[.bool sa, .slice A n c]) (.cells #[.bool sb, .slice D m d] 54)
  have hY := Blk_new (w.alloc (.cells #[.bool sa, .slice A n c] 54)) 54 #[.bool sb, .slice D m d]
  have hb0 : Below w.heap.size w ((w.alloc (.cells #[.bool sa, .slice A n c] 54)).alloc (.cells #[.bool sb, .slice D m d] 54)) := by (repeat' (first | (with_reducible exact Below.refl _ _) | (with_reducible assumption) | (with_reducible refine Below.alloc ?_ ?_ _) | (with_reducible refine Below.drew ?_) | (with_reducible refine Below_drewN ?_ _) | (with_reducible refine Below.setCell ?_ ?_ _) | go_size))
  simp only [World.size_alloc] at hY
  have ho := fun w => of_any w (-1) (by decide)
  rw [hdec]
  clear hdec
  go_enter Try.func51, Try.ntmps51
  go_upto_region 1 with fail
  generalize (w.alloc (.cells #[.bool sa, .slice A n c] 54)).alloc (.cells #[.bool sb, .slice D m d] 54) = w0 at *
  have HVA := Lib.hid (ha.mono hb0)
  have HVB := Lib.hid (hb.mono hb0)
  clear ha hb
  have x0 := Blk_cell hX 0
  have x1 := Blk_cell hX 1
  have y0 := Blk_cell hY 0
  have y1 := Blk_cell hY 1
  have hS : ∀ w', Below w0.heap.size w0 w' → (fun w' => Below w0.heap.size w0 w' ∧ w'.cell? ⟨w.heap.size, 0, none⟩ = some (.bool sa) ∧ w'.cell? ⟨w.heap.size, 1, none⟩ = some (.slice A n c) ∧ w'.cell? ⟨w.heap.size + 1, 0, none⟩ = some (.bool sb) ∧ w'.cell? ⟨w.heap.size + 1, 1, none⟩ = some (.slice D m d)) w' := fun w' h => ⟨h, (h.cell (cell_lt x0)).trans x0, (h.cell (cell_lt x1)).trans x1, (h.cell (cell_lt y0)).trans y0, (h.cell (cell_lt y1)).trans y1⟩
  have HH := Lib.hid hS
  clear hS
  go_region_held3 (fun w' => Below w0.heap.size w0 w' ∧ w'.cell? ⟨w.heap.size, 0, none⟩ = some (.bool sa) ∧ w'.cell? ⟨w.heap.size, 1, none⟩ = some (.slice A n c) ∧ w'.cell? ⟨w.heap.size + 1, 0, none⟩ = some (.bool sb) ∧ w'.cell? ⟨w.heap.size + 1, 1, none⟩ = some (.slice D m d))
    (first
      | (with_reducible assumption)
      | exact HH.out _ (Below.refl _ _).drew
      | exact HH.out _ (Below_then hh hw (Nat.le_refl _))
      | exact HH.out _ ((‹Below _ _ _ ∧ _›).1.alloc (‹Below _ _ _ ∧ _›).1.size _)
      | exact HH.out _ ((Below_then hh hw (Nat.le_refl _)).alloc (Below_then hh hw (Nat.le_refl _)).size _)
      | (refine HH.out _ (((‹Below _ _ _ ∧ _›).1.setCell ?_ _).setCell ?_ _) <;> (simp; first | done | omega)))
    (first
      | (go_at_call 30; have hh := (‹Below _ _ _ ∧ _›).1; (with_reducible refine (ho _).mono ?_); rintro e w' ⟨v1, rfl, hB1, hw⟩; have hq := hh.size; have hv := hw.size; (try simp only [World.size_alloc, World.size_drew] at hq hv); ((first | (have hN := Blk_below hN hw (Blk_lt hN)) | (have hN := Blk_below (Blk_drew (Blk_new w0 54 #[.bool false, .slice none 0 0])) hw (by simp)) | (have hN := Blk_below (Blk_new _ 54 #[.bool false, .slice none 0 0]) hw (by simp)) | skip); try (have n0 := Blk_cell hN 0; have n1 := Blk_cell hN 1; have fn0 := Blk_frozen hN 0; have fn1 := Blk_frozen hN 1)); have HB1 := Lib.hid hB1; clear hB1)
      | (go_at_call 49; have hh := (‹Below _ _ _ ∧ _›).1; (with_reducible refine (mul_any _ (HB1.out.mono (by (repeat' (first | (with_reducible exact Below.refl _ _) | (with_reducible assumption) | (with_reducible refine Below.alloc ?_ ?_ _) | (with_reducible refine Below.drew ?_) | (with_reducible refine Below_drewN ?_ _) | (with_reducible refine Below.setCell ?_ ?_ _) | go_size)))) (HVB.out.mono hh) (by omega) (by omega)).mono ?_); rintro e w' ⟨v2, rfl, hB2, hw⟩; have hq := hh.size; have hv := hw.size; (try simp only [World.size_alloc, World.size_drew] at hq hv); ((first | (have hN := Blk_below hN hw (Blk_lt hN)) | (have hN := Blk_below (Blk_drew (Blk_new w0 54 #[.bool false, .slice none 0 0])) hw (by simp)) | (have hN := Blk_below (Blk_new _ 54 #[.bool false, .slice none 0 0]) hw (by simp)) | skip); try (have n0 := Blk_cell hN 0; have n1 := Blk_cell hN 1; have fn0 := Blk_frozen hN 0; have fn1 := Blk_frozen hN 1)); have HB2 := Lib.hid hB2; clear hB2)
      | (go_at_call 29; have hh := (‹Below _ _ _ ∧ _›).1; (with_reducible refine (add_any _ (HVA.out.mono hh) (HB2.out.mono (by (repeat' (first | (with_reducible exact Below.refl _ _) | (with_reducible assumption) | (with_reducible refine Below.alloc ?_ ?_ _) | (with_reducible refine Below.drew ?_) | (with_reducible refine Below_drewN ?_ _) | (with_reducible refine Below.setCell ?_ ?_ _) | go_size)))) (by omega) (by omega)).mono ?_); rintro e w' ⟨v3, rfl, hB3, hw⟩; have hq := hh.size; have hv := hw.size; (try simp only [World.size_alloc, World.size_drew] at hq hv); ((first | (have hN := Blk_below hN hw (Blk_lt hN)) | (have hN := Blk_below (Blk_drew (Blk_new w0 54 #[.bool false, .slice none 0 0])) hw (by simp)) | (have hN := Blk_below (Blk_new _ 54 #[.bool false, .slice none 0 0]) hw (by simp)) | skip); try (have n0 := Blk_cell hN 0; have n1 := Blk_cell hN 1; have fn0 := Blk_frozen hN 0; have fn1 := Blk_frozen hN 1)); obtain ⟨sz, G6, m6, g6, l6, rfl, HB3⟩ := hB3.parts2))
  all_goals
    have hbe := (‹Below w0.heap.size w0 _ ∧ _›).1
    try (have e0 := Blk_cell (Blk_set (Blk_set hN 0 (.bool sz)) 1 (.slice G6 m6 g6)) 0; simp at e0)
    go_wp2_with fail
    go_ret
    refine ⟨?_, Below_then hb0 hbe (Nat.le_refl _)⟩
    rw [HB3.out.1]
    rfl
theorem bless_d (w : World) {va vb : Value} {za zb : Int} {Ka Kb : Nat} {d : Bool} (hd : decide (za < zb) = d) (ha : BV w va za Ka) (hb : BV w vb zb Kb) (hKa : Ka ≤ 10000) (hKb : Kb ≤ 10000) :
    Calls Try.prog 51 #[va, vb] w fun e w' => e = .returned (.bool d) ∧ Below w.heap.size w w' := hd ▸ bless_any w ha hb hKa hKb
end Go.Proofs.Ytfhbndfhmphnaaa
