/-
  The anchor. No condition.
-/
import Derived.Test.YtlfjbkmdehpahaaPl
set_option linter.unusedVariables false
set_option linter.unusedSimpArgs false
namespace Go.Proofs.Ytlfjbkmdehpahaa
open Go.RowKit Go.BigFrame

theorem pc0 : chain plainL 0 = [] := chain_none (by decide)
theorem pc1 : chain plainL 1 = [0] := (chain_some (p := 0) (by decide)).trans (by rw [pc0])
theorem pc2 : chain plainL 2 = [1, 0] := (chain_some (p := 1) (by decide)).trans (by rw [pc1])
theorem pc3 : chain plainL 3 = [2, 1, 0] := (chain_some (p := 2) (by decide)).trans (by rw [pc2])
theorem pc4 : chain plainL 4 = [3, 2, 1, 0] := (chain_some (p := 3) (by decide)).trans (by rw [pc3])
theorem pc5 : chain plainL 5 = [0] := (chain_some (p := 0) (by decide)).trans (by rw [pc0])
theorem plain_fine : Fine plainL := by
  refine ⟨by decide, by decide, fun i hi => ?_⟩
  have hi' : i < 6 := hi
  obtain rfl | rfl | rfl | rfl | rfl | rfl : i = 0 ∨ i = 1 ∨ i = 2 ∨ i = 3 ∨ i = 4 ∨ i = 5 := by omega
  all_goals
    unfold nodeE underB belowB deep
    simp only [Nat.reduceSub, pc0, pc1, pc2, pc3, pc4, pc5]
    decide
theorem pi0 : island plainL 0 = 0 := island_root (by decide)
theorem pi1 : island plainL 1 = 0 := (island_up (p := 0) (by decide) (by decide)).trans pi0
theorem pi2 : island plainL 2 = 2 := island_root (by decide)
theorem pi3 : island plainL 3 = 3 := island_root (by decide)
theorem pi4 : island plainL 4 = 3 := (island_up (p := 3) (by decide) (by decide)).trans pi3
theorem pi5 : island plainL 5 = 0 := (island_up (p := 0) (by decide) (by decide)).trans pi0
theorem p_roots : (rootsL plainL 6).map Int.ofNat = [0, 2, 3] := by decide
theorem p_of : ofL plainL 6 = [0, 0, 2, 3, 3, 0] := by
  show [ofAt plainL 0, ofAt plainL 1, ofAt plainL 2, ofAt plainL 3, ofAt plainL 4, ofAt plainL 5] = _
  unfold ofAt
  rw [pi0, pi1, pi2, pi3, pi4, pi5]
  decide
theorem p_in (r : Int) (x : List Nat) (hr : rootB plainL r = true) (h : ([1, 2, 3, 4, 5].filter fun i => inAt plainL r i) = x) : insideI plainL r = x := by
  unfold insideI
  rw [hr]
  exact h
theorem p_par (i : Nat) : i < 6 → (parOf plainL i).toNat = [0, 0, 1, 2, 3, 0].getD i 0 := by
  intro hi
  obtain rfl | rfl | rfl | rfl | rfl | rfl : i = 0 ∨ i = 1 ∨ i = 2 ∨ i = 3 ∨ i = 4 ∨ i = 5 := by omega
  all_goals decide
theorem p_in0 : (insideI plainL 0).map Int.ofNat = [1, 2, 5] := by
  rw [p_in 0 [1, 2, 5] (by decide)]
  · rfl
  unfold inAt
  simp only [List.filter_cons, p_par 1 (by omega), p_par 2 (by omega), p_par 3 (by omega), p_par 4 (by omega), p_par 5 (by omega), List.filter_nil, List.getD_cons_zero, List.getD_cons_succ, pi0, pi1, pi2, pi3]
  decide
theorem p_in2 : (insideI plainL 2).map Int.ofNat = [3] := by
  rw [p_in 2 [3] (by decide)]
  · rfl
  unfold inAt
  simp only [List.filter_cons, p_par 1 (by omega), p_par 2 (by omega), p_par 3 (by omega), p_par 4 (by omega), p_par 5 (by omega), List.filter_nil, List.getD_cons_zero, List.getD_cons_succ, pi0, pi1, pi2, pi3]
  decide
theorem p_over3 : overI plainL 3 = 2 := by
  unfold overI
  rw [if_neg (by decide)]
  show ((island plainL 2 : Nat) : Int) = 2
  rw [pi2]; rfl
theorem p_over0 : overI plainL 0 = -1 := by unfold overI; rw [if_pos (.inl (Int.le_refl _))]

set_option maxRecDepth 100000 in
set_option maxHeartbeats 4000000 in
theorem works_any (w : World) : Calls Try.prog 7 #[] w fun e w' => e = .returned (.bool true) ∧ Below w.heap.size w w' := by
  go_enter Try.func7, Try.ntmps7
  go_wp2_with fail
  refine (plain_any w).mono ?_
  rintro e w1 ⟨g, rfl, hT1, hb1⟩
  have hbT := Blk_new w1 25 #[.slice (some ⟨g, 0, none⟩) 6 6, .slice none 0 0, .int .i64 0]
  have hX := (Below.refl w1.heap.size w1).alloc (Nat.le_refl _) (.cells #[.slice (some ⟨g, 0, none⟩) 6 6, .slice none 0 0, .int .i64 0] 25)
  go_wp2_with fail
  generalize w1.alloc (.cells #[.slice (some ⟨g, 0, none⟩) 6 6, .slice none 0 0, .int .i64 0] 25) = x1 at hbT hX ⊢
  have hT := hT1.mono hX
  have hb := Below_same hb1 hX
  clear hT1 hb1 hX
  have t10 := Blk_cell hbT 0
  have t11 := Blk_cell hbT 1
  have t12 := Blk_cell hbT 2
  go_wp2_with fail
  refine (iroots_any (A := some ⟨g, 0, none⟩) (D := none) (n := 6) (c := 6) (m := 0) (d := 0) (v := 0) (L := plainL) (adv := [])  _ hT (by omega)).mono ?_
  intro e y1 hr1
  rw [p_roots] at hr1
  obtain ⟨Z1, z1, rfl, ha1, hm1, I1, _, hy1⟩ := hr1.out (n := 3) rfl
  clear hr1 t10 t11 t12
  have hb := Below_same hb hy1
  have hT := hT.mono hy1
  have hbT := Blk_below hbT hy1 (Blk_lt hbT)
  unfold maxLen at hm1
  go_wp2_with fail
  have J1 := Ints.of_blk (kd := .i64) (l := [0, 2, 3]) (Blk_new y1 3 #[.int .i64 0, .int .i64 2, .int .i64 3])
  refine (same_any [0, 2, 3] [0, 2, 3] _ _ 3 3 _ _ _ (I1.mono ((Below.refl _ _).alloc (Nat.le_refl _) _)) J1 (by unfold maxLen; omega) (by unfold maxLen; omega)).mono ?_
  rintro e v1 ⟨he1, hs1⟩
  rw [decide_eq_true rfl] at he1
  subst he1
  have hs1 := Below_al hs1
  have hb := Below_same hb hs1
  have hT := hT.mono hs1
  have hbT := Blk_below hbT hs1 (Blk_lt hbT)
  clear J1 I1 hy1 hs1
  have t20 := Blk_cell hbT 0
  have t21 := Blk_cell hbT 1
  have t22 := Blk_cell hbT 2
  go_wp2_with fail
  refine (iof_any (A := some ⟨g, 0, none⟩) (D := none) (n := 6) (c := 6) (m := 0) (d := 0) (v := 0) (L := plainL) (adv := [])  _ hT plain_fine).mono ?_
  intro e y2 hr2
  rw [p_of] at hr2
  obtain ⟨Z2, z2, rfl, ha2, hm2, I2, _, hy2⟩ := hr2.out (n := 6) rfl
  clear hr2 t20 t21 t22
  have hb := Below_same hb hy2
  have hT := hT.mono hy2
  have hbT := Blk_below hbT hy2 (Blk_lt hbT)
  unfold maxLen at hm2
  go_wp2_with fail
  have J2 := Ints.of_blk (kd := .i64) (l := [0, 0, 2, 3, 3, 0]) (Blk_new y2 3 #[.int .i64 0, .int .i64 0, .int .i64 2, .int .i64 3, .int .i64 3, .int .i64 0])
  refine (same_any [0, 0, 2, 3, 3, 0] [0, 0, 2, 3, 3, 0] _ _ 6 6 _ _ _ (I2.mono ((Below.refl _ _).alloc (Nat.le_refl _) _)) J2 (by unfold maxLen; omega) (by unfold maxLen; omega)).mono ?_
  rintro e v2 ⟨he2, hs2⟩
  rw [decide_eq_true rfl] at he2
  subst he2
  have hs2 := Below_al hs2
  have hb := Below_same hb hs2
  have hT := hT.mono hs2
  have hbT := Blk_below hbT hs2 (Blk_lt hbT)
  clear J2 I2 hy2 hs2
  have t30 := Blk_cell hbT 0
  have t31 := Blk_cell hbT 1
  have t32 := Blk_cell hbT 2
  go_wp2_with fail
  refine (iinside_any (A := some ⟨g, 0, none⟩) (D := none) (n := 6) (c := 6) (m := 0) (d := 0) (v := 0) (L := plainL) (adv := []) 0 _ hT plain_fine).mono ?_
  intro e y3 hr3
  rw [p_in0] at hr3
  obtain ⟨Z3, z3, rfl, ha3, hm3, I3, _, hy3⟩ := hr3.out (n := 3) rfl
  clear hr3 t30 t31 t32
  have hb := Below_same hb hy3
  have hT := hT.mono hy3
  have hbT := Blk_below hbT hy3 (Blk_lt hbT)
  unfold maxLen at hm3
  go_wp2_with fail
  have J3 := Ints.of_blk (kd := .i64) (l := [1, 2, 5]) (Blk_new y3 3 #[.int .i64 1, .int .i64 2, .int .i64 5])
  refine (same_any [1, 2, 5] [1, 2, 5] _ _ 3 3 _ _ _ (I3.mono ((Below.refl _ _).alloc (Nat.le_refl _) _)) J3 (by unfold maxLen; omega) (by unfold maxLen; omega)).mono ?_
  rintro e v3 ⟨he3, hs3⟩
  rw [decide_eq_true rfl] at he3
  subst he3
  have hs3 := Below_al hs3
  have hb := Below_same hb hs3
  have hT := hT.mono hs3
  have hbT := Blk_below hbT hs3 (Blk_lt hbT)
  clear J3 I3 hy3 hs3
  have t40 := Blk_cell hbT 0
  have t41 := Blk_cell hbT 1
  have t42 := Blk_cell hbT 2
  go_wp2_with fail
  refine (iinside_any (A := some ⟨g, 0, none⟩) (D := none) (n := 6) (c := 6) (m := 0) (d := 0) (v := 0) (L := plainL) (adv := []) 2 _ hT plain_fine).mono ?_
  intro e y4 hr4
  rw [p_in2] at hr4
  obtain ⟨Z4, z4, rfl, ha4, hm4, I4, _, hy4⟩ := hr4.out (n := 1) rfl
  clear hr4 t40 t41 t42
  have hb := Below_same hb hy4
  have hT := hT.mono hy4
  have hbT := Blk_below hbT hy4 (Blk_lt hbT)
  unfold maxLen at hm4
  go_wp2_with fail
  have J4 := Ints.of_blk (kd := .i64) (l := [3]) (Blk_new y4 3 #[.int .i64 3])
  refine (same_any [3] [3] _ _ 1 1 _ _ _ (I4.mono ((Below.refl _ _).alloc (Nat.le_refl _) _)) J4 (by unfold maxLen; omega) (by unfold maxLen; omega)).mono ?_
  rintro e v4 ⟨he4, hs4⟩
  rw [decide_eq_true rfl] at he4
  subst he4
  have hs4 := Below_al hs4
  have hb := Below_same hb hs4
  have hT := hT.mono hs4
  have hbT := Blk_below hbT hs4 (Blk_lt hbT)
  clear J4 I4 hy4 hs4
  have t50 := Blk_cell hbT 0
  have t51 := Blk_cell hbT 1
  have t52 := Blk_cell hbT 2
  go_wp2_with fail
  refine (iover_any (A := some ⟨g, 0, none⟩) (D := none) (n := 6) (c := 6) (m := 0) (d := 0) (v := 0) (L := plainL) (adv := []) 3 _ hT plain_fine).mono ?_
  rintro e y5 ⟨he5, hy5⟩
  rw [p_over3] at he5
  subst he5
  clear t50 t51 t52
  have hb := Below_same hb hy5
  have hT := hT.mono hy5
  have hbT := Blk_below hbT hy5 (Blk_lt hbT)
  clear hy5
  have t60 := Blk_cell hbT 0
  have t61 := Blk_cell hbT 1
  have t62 := Blk_cell hbT 2
  go_wp2_with fail
  refine (iover_any (A := some ⟨g, 0, none⟩) (D := none) (n := 6) (c := 6) (m := 0) (d := 0) (v := 0) (L := plainL) (adv := []) 0 _ hT plain_fine).mono ?_
  rintro e y6 ⟨he6, hy6⟩
  rw [p_over0] at he6
  subst he6
  clear t60 t61 t62
  have hb := Below_same hb hy6
  have hT := hT.mono hy6
  have hbT := Blk_below hbT hy6 (Blk_lt hbT)
  clear hy6
  go_wp2_with fail
  go_ret
  exact ⟨rfl, hb⟩
end Go.Proofs.Ytlfjbkmdehpahaa
