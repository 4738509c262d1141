/-
  Margins, borders, paddings (style.edges). No condition.
-/
import Derived.Test.YtedlfkklkoihjaaTW2
set_option linter.unusedVariables false
set_option linter.unusedSimpArgs false
namespace Go.Proofs.Ytedlfkklkoihjaa
open Go.RowKit Go.BigFrame

theorem so4_no {s : St} (k : Nat) (hk : k < 4) (h : edgeAt s k = false) : so4 s = false := by
  obtain rfl | rfl | rfl | rfl : k = 0 ∨ k = 1 ∨ k = 2 ∨ k = 3 := by omega
  all_goals
    simp only [edgeAt, mG, bG, pG] at h
    simp [so4, h]
theorem so4_yes {s : St} (h : ∀ j, j < 4 → edgeAt s j = true) : so4 s = true := by
  have h0 := h 0 (by omega)
  have h1 := h 1 (by omega)
  have h2 := h 2 (by omega)
  have h3 := h 3 (by omega)
  simp only [edgeAt, mG, bG, pG] at h0 h1 h2 h3
  simp [so4, h0, h1, h2, h3]
set_option maxRecDepth 20000 in
set_option maxHeartbeats 4000000 in
theorem so4_any {w : World} {g : Nat} {s : St} (hB : Blk w g 28 (scells s).toArray) : Calls Try.prog 35 #[.pointer (some ⟨g, 0, none⟩)] w fun e w' => e = .returned (.bool (so4 s)) ∧ Below w.heap.size w w' := by
  have m00 := St_cell (j := 16) (v := .int .u8 s.m0.1) hB rfl
  have m01 := St_cell (j := 17) (v := .int .i64 s.m0.2) hB rfl
  have m10 := St_cell (j := 18) (v := .int .u8 s.m1.1) hB rfl
  have m11 := St_cell (j := 19) (v := .int .i64 s.m1.2) hB rfl
  have m20 := St_cell (j := 20) (v := .int .u8 s.m2.1) hB rfl
  have m21 := St_cell (j := 21) (v := .int .i64 s.m2.2) hB rfl
  have m30 := St_cell (j := 22) (v := .int .u8 s.m3.1) hB rfl
  have m31 := St_cell (j := 23) (v := .int .i64 s.m3.2) hB rfl
  have HN := Lib.hid (fun k => @so4_no s k)
  have HY := Lib.hid (@so4_yes s)
  have hix0 : ∀ w : World, (Instr.index 24 (.agg #[.int .u8 s.m0.1, .int .i64 s.m0.2, .int .u8 s.m1.1, .int .i64 s.m1.2, .int .u8 s.m2.1, .int .i64 s.m2.2, .int .u8 s.m3.1, .int .i64 s.m3.2]) (.int .i64 0)).run Try.prog w = .ok (.agg #[.int .u8 s.m0.1, .int .i64 s.m0.2]) w := fun w => by kernel_rfl
  have hix1 : ∀ w : World, (Instr.index 24 (.agg #[.int .u8 s.m0.1, .int .i64 s.m0.2, .int .u8 s.m1.1, .int .i64 s.m1.2, .int .u8 s.m2.1, .int .i64 s.m2.2, .int .u8 s.m3.1, .int .i64 s.m3.2]) (.int .i64 1)).run Try.prog w = .ok (.agg #[.int .u8 s.m1.1, .int .i64 s.m1.2]) w := fun w => by kernel_rfl
  have hix2 : ∀ w : World, (Instr.index 24 (.agg #[.int .u8 s.m0.1, .int .i64 s.m0.2, .int .u8 s.m1.1, .int .i64 s.m1.2, .int .u8 s.m2.1, .int .i64 s.m2.2, .int .u8 s.m3.1, .int .i64 s.m3.2]) (.int .i64 2)).run Try.prog w = .ok (.agg #[.int .u8 s.m2.1, .int .i64 s.m2.2]) w := fun w => by kernel_rfl
  have hix3 : ∀ w : World, (Instr.index 24 (.agg #[.int .u8 s.m0.1, .int .i64 s.m0.2, .int .u8 s.m1.1, .int .i64 s.m1.2, .int .u8 s.m2.1, .int .i64 s.m2.2, .int .u8 s.m3.1, .int .i64 s.m3.2]) (.int .i64 3)).run Try.prog w = .ok (.agg #[.int .u8 s.m3.1, .int .i64 s.m3.2]) w := fun w => by kernel_rfl
  go_enter Try.func35, Try.ntmps35
  go_wp2_with fail
  go_loopw [3, 4, 9, 10, 11, 12, 13, 14, 15, 16, 17, 18, 19, 20, 21, 22, 23, 24, 25, 26, 27, 28, 29, 30, 31, 32, 33, 34, 35, 36] (fun _ _ i _ _ _ _ _ _ _ _ _ _ _ _ _ _ _ _ _ _ _ _ _ _ _ _ _ _ _ wr => ∃ k : Nat, k ≤ 4 ∧ i = .int .i64 k ∧ Below w.heap.size w wr ∧ Blk wr g 28 (scells s).toArray ∧ (∀ j, j < k → edgeAt s j = true)) (fun _ _ i _ _ _ _ _ _ _ _ _ _ _ _ _ _ _ _ _ _ _ _ _ _ _ _ _ _ _ _ => 4 - (intOf i).toNat)
  case atStart => exact ⟨0, by omega, rfl, Below.refl _ _, hB, fun j hj => by omega⟩
  case round =>
    clear hB m00 m01 m10 m11 m20 m21 m30 m31
    obtain ⟨k, hk, rfl, hb, hB, hA⟩ := hrel
    have HA := Lib.hid hA
    clear hA
    by_cases hlt : k < 4
    · obtain rfl | rfl | rfl | rfl : k = 0 ∨ k = 1 ∨ k = 2 ∨ k = 3 := by omega
      · have cb := St_cell (j := 24 + 0) (v := .int .i64 s.b0) hB rfl
        have cp := St_cell (j := 28 + 0) (v := .int .i64 s.p0) hB rfl
        have h1 := fun w => smay_any s.m0.1 s.m0.2 (-1) (.inr rfl) w
        have h2 := swithin_any s.b0 0 1099511627776
        have h3 := swithin_any s.p0 0 1099511627776
        have HE := Lib.hid (show edgeAt s 0 = (mayB (s.m0.1, s.m0.2) (-1) && (inB s.b0 0 1099511627776 && inB s.p0 0 1099511627776)) from rfl)
        generalize mayB (s.m0.1, s.m0.2) (-1) = b1 at *
        generalize inB s.b0 0 1099511627776 = b2 at *
        generalize inB s.p0 0 1099511627776 = b3 at *
        simp only [Nat.reduceAdd] at cb cp
        cases b1
        · go_wp2_with ((go_at_call 32; (with_reducible refine (h1 _).mono ?_)); rintro e w' ⟨rfl, h⟩; (have h := Below_al h; have hB := Blk_below hB h (Blk_lt hB); have hb := Below_then hb h (Nat.le_refl _); have cb := St_cell (j := 24 + 0) (v := .int .i64 s.b0) hB rfl; have cp := St_cell (j := 28 + 0) (v := .int .i64 s.p0) hB rfl))
          go_ret
          exact ⟨bool_eq (HN.out 0 (by omega) HE.out).symm, hb⟩
        · cases b2
          · go_wp2_with (first | ((go_at_call 32; (with_reducible refine (h1 _).mono ?_)); rintro e w' ⟨rfl, h⟩; (have h := Below_al h; have hB := Blk_below hB h (Blk_lt hB); have hb := Below_then hb h (Nat.le_refl _); have cb := St_cell (j := 24 + 0) (v := .int .i64 s.b0) hB rfl; have cp := St_cell (j := 28 + 0) (v := .int .i64 s.p0) hB rfl)) | ((go_at_call 38; (with_reducible refine (h2 _).mono ?_)); rintro e w2 ⟨rfl, rfl⟩))
            go_ret
            exact ⟨bool_eq (HN.out 0 (by omega) HE.out).symm, hb⟩
          · cases b3
            · go_wp2_with (first | ((go_at_call 32; (with_reducible refine (h1 _).mono ?_)); rintro e w' ⟨rfl, h⟩; (have h := Below_al h; have hB := Blk_below hB h (Blk_lt hB); have hb := Below_then hb h (Nat.le_refl _); have cb := St_cell (j := 24 + 0) (v := .int .i64 s.b0) hB rfl; have cp := St_cell (j := 28 + 0) (v := .int .i64 s.p0) hB rfl)) | ((go_at_call 38; (with_reducible refine (h2 _).mono ?_)); rintro e w2 ⟨rfl, rfl⟩) | ((go_at_call 38; (with_reducible refine (h3 _).mono ?_)); rintro e w3 ⟨rfl, rfl⟩))
              go_ret
              exact ⟨bool_eq (HN.out 0 (by omega) HE.out).symm, hb⟩
            · go_wp2_with (first | ((go_at_call 32; (with_reducible refine (h1 _).mono ?_)); rintro e w' ⟨rfl, h⟩; (have h := Below_al h; have hB := Blk_below hB h (Blk_lt hB); have hb := Below_then hb h (Nat.le_refl _); have cb := St_cell (j := 24 + 0) (v := .int .i64 s.b0) hB rfl; have cp := St_cell (j := 28 + 0) (v := .int .i64 s.p0) hB rfl)) | ((go_at_call 38; (with_reducible refine (h2 _).mono ?_)); rintro e w2 ⟨rfl, rfl⟩) | ((go_at_call 38; (with_reducible refine (h3 _).mono ?_)); rintro e w3 ⟨rfl, rfl⟩))
              go_roundw
              case rel => exact ⟨0 + 1, by omega, by go_num, hb, hB, fun j hj => (by rcases Nat.lt_succ_iff_lt_or_eq.1 hj with h' | rfl; exact HA.out j h'; exact HE.out)⟩
              case measure => simp [intOf]
      · have cb := St_cell (j := 24 + 1) (v := .int .i64 s.b1) hB rfl
        have cp := St_cell (j := 28 + 1) (v := .int .i64 s.p1) hB rfl
        have h1 := fun w => smay_any s.m1.1 s.m1.2 (-1) (.inr rfl) w
        have h2 := swithin_any s.b1 0 1099511627776
        have h3 := swithin_any s.p1 0 1099511627776
        have HE := Lib.hid (show edgeAt s 1 = (mayB (s.m1.1, s.m1.2) (-1) && (inB s.b1 0 1099511627776 && inB s.p1 0 1099511627776)) from rfl)
        generalize mayB (s.m1.1, s.m1.2) (-1) = b1 at *
        generalize inB s.b1 0 1099511627776 = b2 at *
        generalize inB s.p1 0 1099511627776 = b3 at *
        simp only [Nat.reduceAdd] at cb cp
        cases b1
        · go_wp2_with ((go_at_call 32; (with_reducible refine (h1 _).mono ?_)); rintro e w' ⟨rfl, h⟩; (have h := Below_al h; have hB := Blk_below hB h (Blk_lt hB); have hb := Below_then hb h (Nat.le_refl _); have cb := St_cell (j := 24 + 1) (v := .int .i64 s.b1) hB rfl; have cp := St_cell (j := 28 + 1) (v := .int .i64 s.p1) hB rfl))
          go_ret
          exact ⟨bool_eq (HN.out 1 (by omega) HE.out).symm, hb⟩
        · cases b2
          · go_wp2_with (first | ((go_at_call 32; (with_reducible refine (h1 _).mono ?_)); rintro e w' ⟨rfl, h⟩; (have h := Below_al h; have hB := Blk_below hB h (Blk_lt hB); have hb := Below_then hb h (Nat.le_refl _); have cb := St_cell (j := 24 + 1) (v := .int .i64 s.b1) hB rfl; have cp := St_cell (j := 28 + 1) (v := .int .i64 s.p1) hB rfl)) | ((go_at_call 38; (with_reducible refine (h2 _).mono ?_)); rintro e w2 ⟨rfl, rfl⟩))
            go_ret
            exact ⟨bool_eq (HN.out 1 (by omega) HE.out).symm, hb⟩
          · cases b3
            · go_wp2_with (first | ((go_at_call 32; (with_reducible refine (h1 _).mono ?_)); rintro e w' ⟨rfl, h⟩; (have h := Below_al h; have hB := Blk_below hB h (Blk_lt hB); have hb := Below_then hb h (Nat.le_refl _); have cb := St_cell (j := 24 + 1) (v := .int .i64 s.b1) hB rfl; have cp := St_cell (j := 28 + 1) (v := .int .i64 s.p1) hB rfl)) | ((go_at_call 38; (with_reducible refine (h2 _).mono ?_)); rintro e w2 ⟨rfl, rfl⟩) | ((go_at_call 38; (with_reducible refine (h3 _).mono ?_)); rintro e w3 ⟨rfl, rfl⟩))
              go_ret
              exact ⟨bool_eq (HN.out 1 (by omega) HE.out).symm, hb⟩
            · go_wp2_with (first | ((go_at_call 32; (with_reducible refine (h1 _).mono ?_)); rintro e w' ⟨rfl, h⟩; (have h := Below_al h; have hB := Blk_below hB h (Blk_lt hB); have hb := Below_then hb h (Nat.le_refl _); have cb := St_cell (j := 24 + 1) (v := .int .i64 s.b1) hB rfl; have cp := St_cell (j := 28 + 1) (v := .int .i64 s.p1) hB rfl)) | ((go_at_call 38; (with_reducible refine (h2 _).mono ?_)); rintro e w2 ⟨rfl, rfl⟩) | ((go_at_call 38; (with_reducible refine (h3 _).mono ?_)); rintro e w3 ⟨rfl, rfl⟩))
              go_roundw
              case rel => exact ⟨1 + 1, by omega, by go_num, hb, hB, fun j hj => (by rcases Nat.lt_succ_iff_lt_or_eq.1 hj with h' | rfl; exact HA.out j h'; exact HE.out)⟩
              case measure => simp [intOf]
      · have cb := St_cell (j := 24 + 2) (v := .int .i64 s.b2) hB rfl
        have cp := St_cell (j := 28 + 2) (v := .int .i64 s.p2) hB rfl
        have h1 := fun w => smay_any s.m2.1 s.m2.2 (-1) (.inr rfl) w
        have h2 := swithin_any s.b2 0 1099511627776
        have h3 := swithin_any s.p2 0 1099511627776
        have HE := Lib.hid (show edgeAt s 2 = (mayB (s.m2.1, s.m2.2) (-1) && (inB s.b2 0 1099511627776 && inB s.p2 0 1099511627776)) from rfl)
        generalize mayB (s.m2.1, s.m2.2) (-1) = b1 at *
        generalize inB s.b2 0 1099511627776 = b2 at *
        generalize inB s.p2 0 1099511627776 = b3 at *
        simp only [Nat.reduceAdd] at cb cp
        cases b1
        · go_wp2_with ((go_at_call 32; (with_reducible refine (h1 _).mono ?_)); rintro e w' ⟨rfl, h⟩; (have h := Below_al h; have hB := Blk_below hB h (Blk_lt hB); have hb := Below_then hb h (Nat.le_refl _); have cb := St_cell (j := 24 + 2) (v := .int .i64 s.b2) hB rfl; have cp := St_cell (j := 28 + 2) (v := .int .i64 s.p2) hB rfl))
          go_ret
          exact ⟨bool_eq (HN.out 2 (by omega) HE.out).symm, hb⟩
        · cases b2
          · go_wp2_with (first | ((go_at_call 32; (with_reducible refine (h1 _).mono ?_)); rintro e w' ⟨rfl, h⟩; (have h := Below_al h; have hB := Blk_below hB h (Blk_lt hB); have hb := Below_then hb h (Nat.le_refl _); have cb := St_cell (j := 24 + 2) (v := .int .i64 s.b2) hB rfl; have cp := St_cell (j := 28 + 2) (v := .int .i64 s.p2) hB rfl)) | ((go_at_call 38; (with_reducible refine (h2 _).mono ?_)); rintro e w2 ⟨rfl, rfl⟩))
            go_ret
            exact ⟨bool_eq (HN.out 2 (by omega) HE.out).symm, hb⟩
          · cases b3
            · go_wp2_with (first | ((go_at_call 32; (with_reducible refine (h1 _).mono ?_)); rintro e w' ⟨rfl, h⟩; (have h := Below_al h; have hB := Blk_below hB h (Blk_lt hB); have hb := Below_then hb h (Nat.le_refl _); have cb := St_cell (j := 24 + 2) (v := .int .i64 s.b2) hB rfl; have cp := St_cell (j := 28 + 2) (v := .int .i64 s.p2) hB rfl)) | ((go_at_call 38; (with_reducible refine (h2 _).mono ?_)); rintro e w2 ⟨rfl, rfl⟩) | ((go_at_call 38; (with_reducible refine (h3 _).mono ?_)); rintro e w3 ⟨rfl, rfl⟩))
              go_ret
              exact ⟨bool_eq (HN.out 2 (by omega) HE.out).symm, hb⟩
            · go_wp2_with (first | ((go_at_call 32; (with_reducible refine (h1 _).mono ?_)); rintro e w' ⟨rfl, h⟩; (have h := Below_al h; have hB := Blk_below hB h (Blk_lt hB); have hb := Below_then hb h (Nat.le_refl _); have cb := St_cell (j := 24 + 2) (v := .int .i64 s.b2) hB rfl; have cp := St_cell (j := 28 + 2) (v := .int .i64 s.p2) hB rfl)) | ((go_at_call 38; (with_reducible refine (h2 _).mono ?_)); rintro e w2 ⟨rfl, rfl⟩) | ((go_at_call 38; (with_reducible refine (h3 _).mono ?_)); rintro e w3 ⟨rfl, rfl⟩))
              go_roundw
              case rel => exact ⟨2 + 1, by omega, by go_num, hb, hB, fun j hj => (by rcases Nat.lt_succ_iff_lt_or_eq.1 hj with h' | rfl; exact HA.out j h'; exact HE.out)⟩
              case measure => simp [intOf]
      · have cb := St_cell (j := 24 + 3) (v := .int .i64 s.b3) hB rfl
        have cp := St_cell (j := 28 + 3) (v := .int .i64 s.p3) hB rfl
        have h1 := fun w => smay_any s.m3.1 s.m3.2 (-1) (.inr rfl) w
        have h2 := swithin_any s.b3 0 1099511627776
        have h3 := swithin_any s.p3 0 1099511627776
        have HE := Lib.hid (show edgeAt s 3 = (mayB (s.m3.1, s.m3.2) (-1) && (inB s.b3 0 1099511627776 && inB s.p3 0 1099511627776)) from rfl)
        generalize mayB (s.m3.1, s.m3.2) (-1) = b1 at *
        generalize inB s.b3 0 1099511627776 = b2 at *
        generalize inB s.p3 0 1099511627776 = b3 at *
        simp only [Nat.reduceAdd] at cb cp
        cases b1
        · go_wp2_with ((go_at_call 32; (with_reducible refine (h1 _).mono ?_)); rintro e w' ⟨rfl, h⟩; (have h := Below_al h; have hB := Blk_below hB h (Blk_lt hB); have hb := Below_then hb h (Nat.le_refl _); have cb := St_cell (j := 24 + 3) (v := .int .i64 s.b3) hB rfl; have cp := St_cell (j := 28 + 3) (v := .int .i64 s.p3) hB rfl))
          go_ret
          exact ⟨bool_eq (HN.out 3 (by omega) HE.out).symm, hb⟩
        · cases b2
          · go_wp2_with (first | ((go_at_call 32; (with_reducible refine (h1 _).mono ?_)); rintro e w' ⟨rfl, h⟩; (have h := Below_al h; have hB := Blk_below hB h (Blk_lt hB); have hb := Below_then hb h (Nat.le_refl _); have cb := St_cell (j := 24 + 3) (v := .int .i64 s.b3) hB rfl; have cp := St_cell (j := 28 + 3) (v := .int .i64 s.p3) hB rfl)) | ((go_at_call 38; (with_reducible refine (h2 _).mono ?_)); rintro e w2 ⟨rfl, rfl⟩))
            go_ret
            exact ⟨bool_eq (HN.out 3 (by omega) HE.out).symm, hb⟩
          · cases b3
            · go_wp2_with (first | ((go_at_call 32; (with_reducible refine (h1 _).mono ?_)); rintro e w' ⟨rfl, h⟩; (have h := Below_al h; have hB := Blk_below hB h (Blk_lt hB); have hb := Below_then hb h (Nat.le_refl _); have cb := St_cell (j := 24 + 3) (v := .int .i64 s.b3) hB rfl; have cp := St_cell (j := 28 + 3) (v := .int .i64 s.p3) hB rfl)) | ((go_at_call 38; (with_reducible refine (h2 _).mono ?_)); rintro e w2 ⟨rfl, rfl⟩) | ((go_at_call 38; (with_reducible refine (h3 _).mono ?_)); rintro e w3 ⟨rfl, rfl⟩))
              go_ret
              exact ⟨bool_eq (HN.out 3 (by omega) HE.out).symm, hb⟩
            · go_wp2_with (first | ((go_at_call 32; (with_reducible refine (h1 _).mono ?_)); rintro e w' ⟨rfl, h⟩; (have h := Below_al h; have hB := Blk_below hB h (Blk_lt hB); have hb := Below_then hb h (Nat.le_refl _); have cb := St_cell (j := 24 + 3) (v := .int .i64 s.b3) hB rfl; have cp := St_cell (j := 28 + 3) (v := .int .i64 s.p3) hB rfl)) | ((go_at_call 38; (with_reducible refine (h2 _).mono ?_)); rintro e w2 ⟨rfl, rfl⟩) | ((go_at_call 38; (with_reducible refine (h3 _).mono ?_)); rintro e w3 ⟨rfl, rfl⟩))
              go_roundw
              case rel => exact ⟨3 + 1, by omega, by go_num, hb, hB, fun j hj => (by rcases Nat.lt_succ_iff_lt_or_eq.1 hj with h' | rfl; exact HA.out j h'; exact HE.out)⟩
              case measure => simp [intOf]
    · obtain rfl : k = 4 := by omega
      go_wp2_with fail
      go_ret
      exact ⟨bool_eq (HY.out HA.out).symm, hb⟩
end Go.Proofs.Ytedlfkklkoihjaa
