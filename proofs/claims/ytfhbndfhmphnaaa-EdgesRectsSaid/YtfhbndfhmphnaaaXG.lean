/-
  The reference's 'Grow' (jambref02). No condition.
-/
import Derived.Test.YtfhbndfhmphnaaaXF
import Derived.Test.YtfhbndfhmphnaaaX5
set_option linter.unusedVariables false
set_option linter.unusedSimpArgs false
namespace Go.Proofs.Ytfhbndfhmphnaaa
open Go.RowKit Go.BigFrame

theorem rcut_d (w : World) {va : Value} {z V : Int} {K : Nat} {B : Bool} (ha : BV w va z K) (hK : K ≤ 60000) (hv : cutV z = V ∧ cutB z = B) :
    Calls Try.prog 28 #[va] w fun e w' => e = .returned (.tuple #[.int .i64 V, .bool B]) ∧ Below w.heap.size w w' := by
  obtain ⟨rfl, rfl⟩ := hv
  exact rcut_any w ha hK
set_option maxRecDepth 20000 in
set_option maxHeartbeats 4000000 in
theorem rgrow_any (r s : Q4) (hr : r.ok) (hs : s.ok) (w : World) : Calls Try.prog 15 #[qv r, qv s] w fun e w' => e = .returned (.tuple #[qv (growV r s), .bool (growB r s)]) ∧ Below w.heap.size w w' := by
  obtain ⟨x1, x2, x3, x4⟩ := r
  obtain ⟨y1, y2, y3, y4⟩ := s
  obtain ⟨ha, hb, hc, hd⟩ := hr
  obtain ⟨ka, kb, kc, kd⟩ := hs
  unfold growV growB qv
  simp only [] at *
  have hX := Blk_alloc (Blk_alloc (Blk_new w 33 #[.int .i64 x1, .int .i64 x2, .int .i64 x3, .int .i64 x4]) (.cells #[.int .i64 y1, .int .i64 y2, .int .i64 y3, .int .i64 y4] 24)) (.cells #[.int .i64 0, .int .i64 0, .int .i64 0, .int .i64 0] 33)
  have hY := Blk_alloc (Blk_new (w.alloc (.cells #[.int .i64 x1, .int .i64 x2, .int .i64 x3, .int .i64 x4] 33)) 24 #[.int .i64 y1, .int .i64 y2, .int .i64 y3, .int .i64 y4]) (.cells #[.int .i64 0, .int .i64 0, .int .i64 0, .int .i64 0] 33)
  have hR := Blk_new ((w.alloc (.cells #[.int .i64 x1, .int .i64 x2, .int .i64 x3, .int .i64 x4] 33)).alloc (.cells #[.int .i64 y1, .int .i64 y2, .int .i64 y3, .int .i64 y4] 24)) 33 #[.int .i64 0, .int .i64 0, .int .i64 0, .int .i64 0]
  have hb0 : Below w.heap.size w (((w.alloc (.cells #[.int .i64 x1, .int .i64 x2, .int .i64 x3, .int .i64 x4] 33)).alloc (.cells #[.int .i64 y1, .int .i64 y2, .int .i64 y3, .int .i64 y4] 24)).alloc (.cells #[.int .i64 0, .int .i64 0, .int .i64 0, .int .i64 0] 33)) := by (repeat' (first | (with_reducible exact Below.refl _ _) | (with_reducible assumption) | (with_reducible refine Below.alloc ?_ ?_ _) | (with_reducible refine Below.drew ?_) | (with_reducible refine Below_drewN ?_ _) | (with_reducible refine Below.setCell ?_ ?_ _) | go_size))
  simp only [World.size_alloc] at hY hR
  have o1 := fun w => of_any w x1 (i64_wf2 ha)
  have o2 := fun w => of_any w x2 (i64_wf2 hb)
  have o3 := fun w => of_any w x3 (i64_wf2 hc)
  have o4 := fun w => of_any w x4 (i64_wf2 hd)
  have m1 := fun w => minus_any w y4 (i64_wf2 kd)
  have m2 := fun w => minus_any w y1 (i64_wf2 ka)
  have m3 := fun w => radd_any w y4 y2 (i64_wf2 kd) (i64_wf2 kb)
  have m4 := fun w => radd_any w y1 y3 (i64_wf2 ka) (i64_wf2 kc)
  obtain ⟨V1, q1⟩ : ∃ x, cutV (x1 - y4) = x := ⟨_, rfl⟩
  obtain ⟨B1, p1⟩ : ∃ x, cutB (x1 - y4) = x := ⟨_, rfl⟩
  rw [q1, p1]
  obtain ⟨V2, q2⟩ : ∃ x, cutV (x2 - y1) = x := ⟨_, rfl⟩
  obtain ⟨B2, p2⟩ : ∃ x, cutB (x2 - y1) = x := ⟨_, rfl⟩
  rw [q2, p2]
  obtain ⟨V3, q3⟩ : ∃ x, cutV (x3 + y4 + y2) = x := ⟨_, rfl⟩
  obtain ⟨B3, p3⟩ : ∃ x, cutB (x3 + y4 + y2) = x := ⟨_, rfl⟩
  rw [q3, p3]
  obtain ⟨V4, q4⟩ : ∃ x, cutV (x4 + y1 + y3) = x := ⟨_, rfl⟩
  obtain ⟨B4, p4⟩ : ∃ x, cutB (x4 + y1 + y3) = x := ⟨_, rfl⟩
  rw [q4, p4]
  have HV1 := Lib.hid (And.intro q1 p1)
  have HV2 := Lib.hid (And.intro q2 p2)
  have HV3 := Lib.hid (And.intro q3 p3)
  have HV4 := Lib.hid (And.intro q4 p4)
  clear q1 q2 q3 q4 p1 p2 p3 p4
  go_enter Try.func15, Try.ntmps15
  go_upto_region 1 with fail
  generalize ((w.alloc (.cells #[.int .i64 x1, .int .i64 x2, .int .i64 x3, .int .i64 x4] 33)).alloc (.cells #[.int .i64 y1, .int .i64 y2, .int .i64 y3, .int .i64 y4] 24)).alloc (.cells #[.int .i64 0, .int .i64 0, .int .i64 0, .int .i64 0] 33) = w3 at *
  have a0 := Blk_cell hX 0
  have a1 := Blk_cell hX 1
  have a2 := Blk_cell hX 2
  have a3 := Blk_cell hX 3
  have b0 := Blk_cell hY 0
  have b1 := Blk_cell hY 1
  have b2 := Blk_cell hY 2
  have b3 := Blk_cell hY 3
  have hS : ∀ w', Below w3.heap.size w3 w' → (fun w' => Below w3.heap.size w3 w' ∧ w'.cell? ⟨w.heap.size, 0, none⟩ = some (.int .i64 x1) ∧ w'.cell? ⟨w.heap.size, 1, none⟩ = some (.int .i64 x2) ∧ w'.cell? ⟨w.heap.size, 2, none⟩ = some (.int .i64 x3) ∧ w'.cell? ⟨w.heap.size, 3, none⟩ = some (.int .i64 x4) ∧ w'.cell? ⟨w.heap.size + 1, 0, none⟩ = some (.int .i64 y1) ∧ w'.cell? ⟨w.heap.size + 1, 1, none⟩ = some (.int .i64 y2) ∧ w'.cell? ⟨w.heap.size + 1, 2, none⟩ = some (.int .i64 y3) ∧ w'.cell? ⟨w.heap.size + 1, 3, none⟩ = some (.int .i64 y4)) w' := fun w' h => ⟨h, (h.cell (cell_lt a0)).trans a0, (h.cell (cell_lt a1)).trans a1, (h.cell (cell_lt a2)).trans a2, (h.cell (cell_lt a3)).trans a3, (h.cell (cell_lt b0)).trans b0, (h.cell (cell_lt b1)).trans b1, (h.cell (cell_lt b2)).trans b2, (h.cell (cell_lt b3)).trans b3⟩
  have HH := Lib.hid hS
  have hcur := Below.refl w3.heap.size w3
  clear hS a0 a1 a2 a3 b0 b1 b2 b3 ha hb hc hd ka kb kc kd
  go_cut [6, 7] from 14 to 24 (fun u v wx => u = .int .i64 V1 ∧ v = .bool B1 ∧ Below w3.heap.size w3 wx)
  case first =>
    go_region_held3 (fun w' => Below w3.heap.size w3 w' ∧ w'.cell? ⟨w.heap.size, 0, none⟩ = some (.int .i64 x1) ∧ w'.cell? ⟨w.heap.size, 1, none⟩ = some (.int .i64 x2) ∧ w'.cell? ⟨w.heap.size, 2, none⟩ = some (.int .i64 x3) ∧ w'.cell? ⟨w.heap.size, 3, none⟩ = some (.int .i64 x4) ∧ w'.cell? ⟨w.heap.size + 1, 0, none⟩ = some (.int .i64 y1) ∧ w'.cell? ⟨w.heap.size + 1, 1, none⟩ = some (.int .i64 y2) ∧ w'.cell? ⟨w.heap.size + 1, 2, none⟩ = some (.int .i64 y3) ∧ w'.cell? ⟨w.heap.size + 1, 3, none⟩ = some (.int .i64 y4))
      (first
        | (with_reducible assumption)
        | exact HH.out _ hcur.drew
        | exact HH.out _ (Below_then hh hw (Nat.le_refl _)))
      (first
        | (go_at_call 30; have hh := (‹Below _ _ _ ∧ _›).1; (with_reducible refine (o1 _).mono ?_); rintro e w' ⟨v1, rfl, hB1, hw⟩; have HB1 := Lib.hid hB1; clear hB1)
        | (go_at_call 31; have hh := (‹Below _ _ _ ∧ _›).1; (with_reducible refine (m1 _).mono ?_); rintro e w' ⟨v2, rfl, hB2, hw⟩; have HB2 := Lib.hid hB2; clear hB2)
        | (go_at_call 29; have hh := (‹Below _ _ _ ∧ _›).1; (with_reducible refine (add_any _ (HB1.out.mono (by (repeat' (first | (with_reducible exact Below.refl _ _) | (with_reducible assumption) | (with_reducible refine Below.alloc ?_ ?_ _) | (with_reducible refine Below.drew ?_) | (with_reducible refine Below_drewN ?_ _) | (with_reducible refine Below.setCell ?_ ?_ _) | go_size)))) (HB2.out.mono (by (repeat' (first | (with_reducible exact Below.refl _ _) | (with_reducible assumption) | (with_reducible refine Below.alloc ?_ ?_ _) | (with_reducible refine Below.drew ?_) | (with_reducible refine Below_drewN ?_ _) | (with_reducible refine Below.setCell ?_ ?_ _) | go_size)))) (by omega) (by omega)).mono ?_); rintro e w' ⟨v3, rfl, hB3, hw⟩; rw [show x1 + -y4 = x1 - y4 by omega] at hB3; have HB3 := Lib.hid hB3; clear hB3)
        | (go_at_call 28; have hh := (‹Below _ _ _ ∧ _›).1; (with_reducible refine (rcut_d _ HB3.out (by omega) HV1.out).mono ?_); rintro e w' ⟨rfl, hw⟩))
    all_goals
      have hbe := (‹Below w3.heap.size w3 _ ∧ _›).1
      go_wp2_with fail
      go_meet
      exact ⟨rfl, rfl, hbe⟩
  case rest =>
  clear hcur
  obtain ⟨rfl, rfl, hcur⟩ := hcut
  go_upto_region 2 with fail
  go_cut [8, 9] from 25 to 35 (fun u v wx => u = .int .i64 V2 ∧ v = .bool B2 ∧ Below w3.heap.size w3 wx)
  case first =>
    go_region_held3 (fun w' => Below w3.heap.size w3 w' ∧ w'.cell? ⟨w.heap.size, 0, none⟩ = some (.int .i64 x1) ∧ w'.cell? ⟨w.heap.size, 1, none⟩ = some (.int .i64 x2) ∧ w'.cell? ⟨w.heap.size, 2, none⟩ = some (.int .i64 x3) ∧ w'.cell? ⟨w.heap.size, 3, none⟩ = some (.int .i64 x4) ∧ w'.cell? ⟨w.heap.size + 1, 0, none⟩ = some (.int .i64 y1) ∧ w'.cell? ⟨w.heap.size + 1, 1, none⟩ = some (.int .i64 y2) ∧ w'.cell? ⟨w.heap.size + 1, 2, none⟩ = some (.int .i64 y3) ∧ w'.cell? ⟨w.heap.size + 1, 3, none⟩ = some (.int .i64 y4))
      (first
        | (with_reducible assumption)
        | exact HH.out _ hcur.drew
        | exact HH.out _ (Below_then hh hw (Nat.le_refl _)))
      (first
        | (go_at_call 30; have hh := (‹Below _ _ _ ∧ _›).1; (with_reducible refine (o2 _).mono ?_); rintro e w' ⟨v1, rfl, hB1, hw⟩; have HB1 := Lib.hid hB1; clear hB1)
        | (go_at_call 31; have hh := (‹Below _ _ _ ∧ _›).1; (with_reducible refine (m2 _).mono ?_); rintro e w' ⟨v2, rfl, hB2, hw⟩; have HB2 := Lib.hid hB2; clear hB2)
        | (go_at_call 29; have hh := (‹Below _ _ _ ∧ _›).1; (with_reducible refine (add_any _ (HB1.out.mono (by (repeat' (first | (with_reducible exact Below.refl _ _) | (with_reducible assumption) | (with_reducible refine Below.alloc ?_ ?_ _) | (with_reducible refine Below.drew ?_) | (with_reducible refine Below_drewN ?_ _) | (with_reducible refine Below.setCell ?_ ?_ _) | go_size)))) (HB2.out.mono (by (repeat' (first | (with_reducible exact Below.refl _ _) | (with_reducible assumption) | (with_reducible refine Below.alloc ?_ ?_ _) | (with_reducible refine Below.drew ?_) | (with_reducible refine Below_drewN ?_ _) | (with_reducible refine Below.setCell ?_ ?_ _) | go_size)))) (by omega) (by omega)).mono ?_); rintro e w' ⟨v3, rfl, hB3, hw⟩; rw [show x2 + -y1 = x2 - y1 by omega] at hB3; have HB3 := Lib.hid hB3; clear hB3)
        | (go_at_call 28; have hh := (‹Below _ _ _ ∧ _›).1; (with_reducible refine (rcut_d _ HB3.out (by omega) HV2.out).mono ?_); rintro e w' ⟨rfl, hw⟩))
    all_goals
      have hbe := (‹Below w3.heap.size w3 _ ∧ _›).1
      go_wp2_with fail
      go_meet
      exact ⟨rfl, rfl, hbe⟩
  case rest =>
  clear hcur
  obtain ⟨rfl, rfl, hcur⟩ := hcut
  go_upto_region 3 with fail
  go_cut [10, 11] from 36 to 48 (fun u v wx => u = .int .i64 V3 ∧ v = .bool B3 ∧ Below w3.heap.size w3 wx)
  case first =>
    go_region_held3 (fun w' => Below w3.heap.size w3 w' ∧ w'.cell? ⟨w.heap.size, 0, none⟩ = some (.int .i64 x1) ∧ w'.cell? ⟨w.heap.size, 1, none⟩ = some (.int .i64 x2) ∧ w'.cell? ⟨w.heap.size, 2, none⟩ = some (.int .i64 x3) ∧ w'.cell? ⟨w.heap.size, 3, none⟩ = some (.int .i64 x4) ∧ w'.cell? ⟨w.heap.size + 1, 0, none⟩ = some (.int .i64 y1) ∧ w'.cell? ⟨w.heap.size + 1, 1, none⟩ = some (.int .i64 y2) ∧ w'.cell? ⟨w.heap.size + 1, 2, none⟩ = some (.int .i64 y3) ∧ w'.cell? ⟨w.heap.size + 1, 3, none⟩ = some (.int .i64 y4))
      (first
        | (with_reducible assumption)
        | exact HH.out _ hcur.drew
        | exact HH.out _ (Below_then hh hw (Nat.le_refl _)))
      (first
        | (go_at_call 30; have hh := (‹Below _ _ _ ∧ _›).1; (with_reducible refine (o3 _).mono ?_); rintro e w' ⟨v1, rfl, hB1, hw⟩; have HB1 := Lib.hid hB1; clear hB1)
        | (go_at_call 32; have hh := (‹Below _ _ _ ∧ _›).1; (with_reducible refine (m3 _).mono ?_); rintro e w' ⟨v2, rfl, hB2, hw⟩; have HB2 := Lib.hid hB2; clear hB2)
        | (go_at_call 29; have hh := (‹Below _ _ _ ∧ _›).1; (with_reducible refine (add_any _ (HB1.out.mono (by (repeat' (first | (with_reducible exact Below.refl _ _) | (with_reducible assumption) | (with_reducible refine Below.alloc ?_ ?_ _) | (with_reducible refine Below.drew ?_) | (with_reducible refine Below_drewN ?_ _) | (with_reducible refine Below.setCell ?_ ?_ _) | go_size)))) (HB2.out.mono (by (repeat' (first | (with_reducible exact Below.refl _ _) | (with_reducible assumption) | (with_reducible refine Below.alloc ?_ ?_ _) | (with_reducible refine Below.drew ?_) | (with_reducible refine Below_drewN ?_ _) | (with_reducible refine Below.setCell ?_ ?_ _) | go_size)))) (by omega) (by omega)).mono ?_); rintro e w' ⟨v3, rfl, hB3, hw⟩; rw [show x3 + (y4 + y2) = x3 + y4 + y2 by omega] at hB3; have HB3 := Lib.hid hB3; clear hB3)
        | (go_at_call 28; have hh := (‹Below _ _ _ ∧ _›).1; (with_reducible refine (rcut_d _ HB3.out (by omega) HV3.out).mono ?_); rintro e w' ⟨rfl, hw⟩))
    all_goals
      have hbe := (‹Below w3.heap.size w3 _ ∧ _›).1
      go_wp2_with fail
      go_meet
      exact ⟨rfl, rfl, hbe⟩
  case rest =>
  clear hcur
  obtain ⟨rfl, rfl, hcur⟩ := hcut
  go_upto_region 4 with fail
  go_cut [12, 13] from 49 to 61 (fun u v wx => u = .int .i64 V4 ∧ v = .bool B4 ∧ Below w3.heap.size w3 wx)
  case first =>
    go_region_held3 (fun w' => Below w3.heap.size w3 w' ∧ w'.cell? ⟨w.heap.size, 0, none⟩ = some (.int .i64 x1) ∧ w'.cell? ⟨w.heap.size, 1, none⟩ = some (.int .i64 x2) ∧ w'.cell? ⟨w.heap.size, 2, none⟩ = some (.int .i64 x3) ∧ w'.cell? ⟨w.heap.size, 3, none⟩ = some (.int .i64 x4) ∧ w'.cell? ⟨w.heap.size + 1, 0, none⟩ = some (.int .i64 y1) ∧ w'.cell? ⟨w.heap.size + 1, 1, none⟩ = some (.int .i64 y2) ∧ w'.cell? ⟨w.heap.size + 1, 2, none⟩ = some (.int .i64 y3) ∧ w'.cell? ⟨w.heap.size + 1, 3, none⟩ = some (.int .i64 y4))
      (first
        | (with_reducible assumption)
        | exact HH.out _ hcur.drew
        | exact HH.out _ (Below_then hh hw (Nat.le_refl _)))
      (first
        | (go_at_call 30; have hh := (‹Below _ _ _ ∧ _›).1; (with_reducible refine (o4 _).mono ?_); rintro e w' ⟨v1, rfl, hB1, hw⟩; have HB1 := Lib.hid hB1; clear hB1)
        | (go_at_call 32; have hh := (‹Below _ _ _ ∧ _›).1; (with_reducible refine (m4 _).mono ?_); rintro e w' ⟨v2, rfl, hB2, hw⟩; have HB2 := Lib.hid hB2; clear hB2)
        | (go_at_call 29; have hh := (‹Below _ _ _ ∧ _›).1; (with_reducible refine (add_any _ (HB1.out.mono (by (repeat' (first | (with_reducible exact Below.refl _ _) | (with_reducible assumption) | (with_reducible refine Below.alloc ?_ ?_ _) | (with_reducible refine Below.drew ?_) | (with_reducible refine Below_drewN ?_ _) | (with_reducible refine Below.setCell ?_ ?_ _) | go_size)))) (HB2.out.mono (by (repeat' (first | (with_reducible exact Below.refl _ _) | (with_reducible assumption) | (with_reducible refine Below.alloc ?_ ?_ _) | (with_reducible refine Below.drew ?_) | (with_reducible refine Below_drewN ?_ _) | (with_reducible refine Below.setCell ?_ ?_ _) | go_size)))) (by omega) (by omega)).mono ?_); rintro e w' ⟨v3, rfl, hB3, hw⟩; rw [show x4 + (y1 + y3) = x4 + y1 + y3 by omega] at hB3; have HB3 := Lib.hid hB3; clear hB3)
        | (go_at_call 28; have hh := (‹Below _ _ _ ∧ _›).1; (with_reducible refine (rcut_d _ HB3.out (by omega) HV4.out).mono ?_); rintro e w' ⟨rfl, hw⟩))
    all_goals
      have hbe := (‹Below w3.heap.size w3 _ ∧ _›).1
      go_wp2_with fail
      go_meet
      exact ⟨rfl, rfl, hbe⟩
  case rest =>
  clear hcur
  obtain ⟨rfl, rfl, hcur⟩ := hcut
  have hRc := Blk_below hR hcur (Blk_lt hR)
  have fr0 := Blk_frozen hRc 0
  have fr1 := Blk_frozen hRc 1
  have fr2 := Blk_frozen hRc 2
  have fr3 := Blk_frozen hRc 3
  have r0 := Blk_cell hRc 0
  have r1 := Blk_cell hRc 1
  have r2 := Blk_cell hRc 2
  have r3 := Blk_cell hRc 3
  have hsz := hcur.size
  have hs0 := hb0.size
  cases B1
  · cases B2
    · cases B3
      · go_wp2_with fail
        have hBf := Blk_set (Blk_set (Blk_set (Blk_set hRc 0 (.int .i64 V1)) 1 (.int .i64 V2)) 2 (.int .i64 V3)) 3 (.int .i64 V4)
        have e0 := Blk_cell hBf 0
        have e1 := Blk_cell hBf 1
        have e2 := Blk_cell hBf 2
        have e3 := Blk_cell hBf 3
        refine bodyPost_ret (v := .tuple #[.agg #[.int .i64 V1, .int .i64 V2, .int .i64 V3, .int .i64 V4], .bool B4]) (by simp at e0 e1 e2 e3; simp [results, Try.results15, go_sem, e0, e1, e2, e3]) rfl ⟨rfl, ?_⟩
        exact (((((Below_then hb0 hcur (Nat.le_refl _))).setCell (by simp <;> omega) _).setCell (by simp <;> omega) _).setCell (by simp <;> omega) _).setCell (by simp <;> omega) _
      · go_wp2_with fail
        have hBf := Blk_set (Blk_set (Blk_set (Blk_set hRc 0 (.int .i64 V1)) 1 (.int .i64 V2)) 2 (.int .i64 V3)) 3 (.int .i64 V4)
        have e0 := Blk_cell hBf 0
        have e1 := Blk_cell hBf 1
        have e2 := Blk_cell hBf 2
        have e3 := Blk_cell hBf 3
        refine bodyPost_ret (v := .tuple #[.agg #[.int .i64 V1, .int .i64 V2, .int .i64 V3, .int .i64 V4], .bool true]) (by simp at e0 e1 e2 e3; simp [results, Try.results15, go_sem, e0, e1, e2, e3]) rfl ⟨rfl, ?_⟩
        exact (((((Below_then hb0 hcur (Nat.le_refl _))).setCell (by simp <;> omega) _).setCell (by simp <;> omega) _).setCell (by simp <;> omega) _).setCell (by simp <;> omega) _
    · go_wp2_with fail
      have hBf := Blk_set (Blk_set (Blk_set (Blk_set hRc 0 (.int .i64 V1)) 1 (.int .i64 V2)) 2 (.int .i64 V3)) 3 (.int .i64 V4)
      have e0 := Blk_cell hBf 0
      have e1 := Blk_cell hBf 1
      have e2 := Blk_cell hBf 2
      have e3 := Blk_cell hBf 3
      refine bodyPost_ret (v := .tuple #[.agg #[.int .i64 V1, .int .i64 V2, .int .i64 V3, .int .i64 V4], .bool true]) (by simp at e0 e1 e2 e3; simp [results, Try.results15, go_sem, e0, e1, e2, e3]) rfl ⟨rfl, ?_⟩
      exact (((((Below_then hb0 hcur (Nat.le_refl _))).setCell (by simp <;> omega) _).setCell (by simp <;> omega) _).setCell (by simp <;> omega) _).setCell (by simp <;> omega) _
  · go_wp2_with fail
    have hBf := Blk_set (Blk_set (Blk_set (Blk_set hRc 0 (.int .i64 V1)) 1 (.int .i64 V2)) 2 (.int .i64 V3)) 3 (.int .i64 V4)
    have e0 := Blk_cell hBf 0
    have e1 := Blk_cell hBf 1
    have e2 := Blk_cell hBf 2
    have e3 := Blk_cell hBf 3
    refine bodyPost_ret (v := .tuple #[.agg #[.int .i64 V1, .int .i64 V2, .int .i64 V3, .int .i64 V4], .bool true]) (by simp at e0 e1 e2 e3; simp [results, Try.results15, go_sem, e0, e1, e2, e3]) rfl ⟨rfl, ?_⟩
    exact (((((Below_then hb0 hcur (Nat.le_refl _))).setCell (by simp <;> omega) _).setCell (by simp <;> omega) _).setCell (by simp <;> omega) _).setCell (by simp <;> omega) _
end Go.Proofs.Ytfhbndfhmphnaaa
