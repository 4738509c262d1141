/-
  Which styles may be (style.Right). No condition.
-/
import Derived.Test.YtedlfkklkoihjaaTW4
set_option linter.unusedVariables false
set_option linter.unusedSimpArgs false
namespace Go.Proofs.Ytedlfkklkoihjaa
open Go.RowKit Go.BigFrame

def boxC : Array Value := #[.string { data := #[115, 105, 100, 101, 115] }, .func (.func 30) #[] #[], .string { data := #[119, 105, 100, 116, 104, 115] }, .func (.func 31) #[] #[], .string { data := #[104, 101, 105, 103, 104, 116, 115] }, .func (.func 33) #[] #[], .string { data := #[101, 100, 103, 101, 115] }, .func (.func 35) #[] #[], .string { data := #[112, 108, 97, 99, 101, 115] }, .func (.func 36) #[] #[], .string { data := #[108, 105, 110, 101, 115] }, .func (.func 37) #[] #[], .string { data := #[111, 114, 100, 101, 114] }, .func (.func 39) #[] #[], .string { data := #[102, 97, 99, 116, 111, 114, 115] }, .func (.func 40) #[] #[], .string { data := #[117, 110, 105, 116, 115] }, .func (.func 41) #[] #[]]
theorem box_any2 (w : World) : Calls Try.prog 20 #[] w fun e w' => e = .returned (.slice (some ⟨w.heap.size, 0, none⟩) 9 9) ∧ Blk w' w.heap.size 49 boxC ∧ Below w.heap.size w w' := by
  go_enter Try.func20, Try.ntmps20
  go_wp2_with fail
  go_ret
  exact ⟨rfl, Blk_new w _ _, by (repeat' (first | (with_reducible exact Below.refl _ _) | (with_reducible assumption) | (with_reducible refine Below.alloc ?_ ?_ _) | (with_reducible refine Below.drew ?_) | (with_reducible refine Below_drewN ?_ _) | (with_reducible refine Below.setCell ?_ ?_ _) | go_size))⟩
def soK (s : St) : Nat → Bool
  | 0 => so1 s
  | 1 => so2 s
  | 2 => so3 s
  | 3 => so4 s
  | 4 => so5 s
  | 5 => so6 s
  | 6 => so7 s
  | 7 => so8 s
  | _ => so9 s
theorem so4_eq (s : St) : so4 s = (edgeB s.m0 s.b0 s.p0 && edgeB s.m1 s.b1 s.p1 && edgeB s.m2 s.b2 s.p2 && edgeB s.m3 s.b3 s.p3) := rfl
theorem box_so (s : St) : boxB s = (so4 s && so2 s && so3 s && so1 s && so5 s && so8 s && so6 s && so7 s && so9 s) := by
  have e1 : so1 s = decide (s.float ≤ 2 ∧ s.clear ≤ 3) := by unfold so1; rw [Bool.decide_and]
  have e5 : so5 s = decide (s.align ≤ 2 ∧ s.justify ≤ 3 ∧ s.items ≤ 3) := by unfold so5; rw [Bool.decide_and, Bool.decide_and, Bool.and_assoc]
  rw [e1, e5]
  rfl
theorem so_no {s : St} (k : Nat) (hk : k < 9) (h : soK s k = false) : boxB s = false := by
  rw [box_so]
  obtain rfl | rfl | rfl | rfl | rfl | rfl | rfl | rfl | rfl : k = 0 ∨ k = 1 ∨ k = 2 ∨ k = 3 ∨ k = 4 ∨ k = 5 ∨ k = 6 ∨ k = 7 ∨ k = 8 := by omega
  all_goals
    simp only [soK] at h
    simp [h]
theorem so_yes {s : St} (h : ∀ j, j < 9 → soK s j = true) : boxB s = true := by
  have h0 := h 0 (by omega)
  have h1 := h 1 (by omega)
  have h2 := h 2 (by omega)
  have h3 := h 3 (by omega)
  have h4 := h 4 (by omega)
  have h5 := h 5 (by omega)
  have h6 := h 6 (by omega)
  have h7 := h 7 (by omega)
  have h8 := h 8 (by omega)
  simp only [soK] at h0 h1 h2 h3 h4 h5 h6 h7 h8
  rw [box_so]
  simp only [h0, h1, h2, h3, h4, h5, h6, h7, h8, Bool.and_self]
theorem so7w {s : St} (hw : s.Wf) {w : World} {g : Nat} (hB : Blk w g 28 (scells s).toArray) : Calls Try.prog 39 #[.pointer (some ⟨g, 0, none⟩)] w fun e w' => e = .returned (.bool (so7 s)) ∧ Below w.heap.size w w' := so7_any hB hw
set_option maxRecDepth 100000 in
set_option maxHeartbeats 8000000 in
theorem sright_any (s : St) (hw : s.Wf) (hu : s.units.length ≤ maxLen) (w : World) :
    Calls Try.prog 10 #[.agg (scells s).toArray] w fun e w' => e = .returned (.bool (rightB s)) ∧ Below w.heap.size w w' := by
  have hbk := Blk_new w 28 (scells s).toArray
  have hb0 := (Below.refl w.heap.size w).alloc (Nat.le_refl _) (.cells (scells s).toArray 28)
  have c0 := St_cell (j := 0) (v := .int .u8 s.kind) hbk rfl
  have cu := St_cell (j := 42) (v := .slice s.uA s.units.length s.uc) hbk rfl
  have hu' := hu
  unfold maxLen at hu'
  by_cases h3 : s.kind = 3
  · have h1 : ¬ (s.kind = 1 ∨ s.kind = 2) := by omega
    have HE := Lib.hid (show rightB s = (emptyB s && decide (s.units.length ≤ 65536)) by unfold rightB; rw [if_neg h1, if_pos h3])
    have hem := sbare_any s
    rw [h3] at c0
    clear h1 h3
    cases q : emptyB s
    all_goals
      have HQ := Lib.hid q
      rw [q] at hem
      clear q
      go_enter Try.func10, Try.ntmps10
      go_wp2_with (first | (refine wpList_load_mid (op := ⟨some 9, _, _, _, _, _⟩) rfl 28 (.tmp 1) rfl _ 0 rfl (scells s) _ (range_st hbk) Try.underlying28 rfl info_st ?_) | go_at_call 19; refine (hem _).mono ?_; rintro e w1 ⟨rfl, h1⟩; have cu1 := (h1.cell (cell_lt cu)).trans cu)
      go_ret
      refine ⟨bool_eq ?_, Below_al h1⟩
      rw [HE.out, HQ.out]
      first | (simp; done) | (simp; omega) | (rw [Bool.true_and]; apply decide_eq_decide.2; omega)
  · have b3 : (s.kind == 3) = false := by simpa using h3
    by_cases h12 : s.kind = 1 ∨ s.kind = 2
    · have HR := Lib.hid (show rightB s = boxB s by unfold rightB; rw [if_pos h12])
      have hbx := box_any2
      have hlt := Blk_lt hbk
      have hsf : ∀ (n : FuncId) (w : World) (a : Addr), (store a (.func (.func n) #[] #[])).run Try.prog w = stored Try.prog w a (.func (.func n) #[] #[]) .plain := fun n w a => run_store Try.prog w a _ .plain rfl
      rcases h12 with h1 | h1
      all_goals
        rw [h1] at c0
        clear h1 h3 b3
        go_enter Try.func10, Try.ntmps10
        go_upto_region 7 with ((go_at_call 20; (with_reducible refine (hbx _).mono ?_)); rintro e w2 ⟨rfl, hL, g2⟩)
        have hB := Blk_below hbk g2 hlt
        have hb := Below_then hb0 g2 (Nat.le_refl _)
        simp only [World.size_alloc] at hL
        go_wp2_with fail
        go_loopw [4, 22, 23, 24, 25, 26, 27, 28, 29, 30] (fun _ i _ _ _ _ _ _ _ _ wr => ∃ k : Nat, k ≤ 9 ∧ i = .int .i64 k ∧ Below w.heap.size w wr ∧ Blk wr w.heap.size 28 (scells s).toArray ∧ Blk wr (w.heap.size + 1) 49 boxC ∧ (∀ j, j < k → soK s j = true)) (fun _ i _ _ _ _ _ _ _ _ _ => 9 - (intOf i).toNat)
        case atStart => exact ⟨0, by omega, rfl, hb, hB, hL, fun j hj => by omega⟩
        case round =>
          clear c0 cu hbk hB hb hL
          obtain ⟨k, hk, rfl, hb, hB, hL, hA⟩ := hrel
          have HA := Lib.hid hA
          clear hA
          by_cases hlt : k < 9
          · obtain rfl | rfl | rfl | rfl | rfl | rfl | rfl | rfl | rfl : k = 0 ∨ k = 1 ∨ k = 2 ∨ k = 3 ∨ k = 4 ∨ k = 5 ∨ k = 6 ∨ k = 7 ∨ k = 8 := by omega
            · have d0 : wr.cell? ⟨w.heap.size + 1, 2 * 0, none⟩ = _ := Blk_cell hL (2 * 0)
              have d1 : wr.cell? ⟨w.heap.size + 1, 2 * 0 + 1, none⟩ = _ := Blk_cell hL (2 * 0 + 1)
              simp only [boxC, Nat.reduceMul, Nat.reduceAdd, List.getElem?_toArray, List.getElem?_cons_zero, List.getElem?_cons_succ] at d0 d1
              have hBa := fun o => Blk_alloc hB o
              have hc := fun o => so1_any (hBa o)
              have HE := Lib.hid (show soK s 0 = so1 s from rfl)
              generalize so1 s = b1 at *
              cases b1
              · go_wp2_with ((go_at_call 30; (with_reducible refine (hc _).mono ?_)); rintro e w' ⟨rfl, h⟩; have h := Below_al h; have hb := Below_then hb h (Nat.le_refl _))
                go_ret
                exact ⟨bool_eq (HR.out.trans (so_no 0 (by omega) HE.out)).symm, hb⟩
              · go_wp2_with ((go_at_call 30; (with_reducible refine (hc _).mono ?_)); rintro e w' ⟨rfl, h⟩; have h := Below_al h; have hb := Below_then hb h (Nat.le_refl _); have hB := Blk_below hB h (Blk_lt hB); have hL := Blk_below hL h (Blk_lt hL))
                go_roundw
                case rel => exact ⟨0 + 1, by omega, by go_num, hb, hB, hL, fun j hj => (by rcases Nat.lt_succ_iff_lt_or_eq.1 hj with h' | rfl; exact HA.out j h'; exact HE.out)⟩
                case measure => simp [intOf]
            · have d0 : wr.cell? ⟨w.heap.size + 1, 2 * 1, none⟩ = _ := Blk_cell hL (2 * 1)
              have d1 : wr.cell? ⟨w.heap.size + 1, 2 * 1 + 1, none⟩ = _ := Blk_cell hL (2 * 1 + 1)
              simp only [boxC, Nat.reduceMul, Nat.reduceAdd, List.getElem?_toArray, List.getElem?_cons_zero, List.getElem?_cons_succ] at d0 d1
              have hBa := fun o => Blk_alloc hB o
              have hc := fun o => so2_any (hBa o)
              have HE := Lib.hid (show soK s 1 = so2 s from rfl)
              generalize so2 s = b1 at *
              cases b1
              · go_wp2_with ((go_at_call 31; (with_reducible refine (hc _).mono ?_)); rintro e w' ⟨rfl, h⟩; have h := Below_al h; have hb := Below_then hb h (Nat.le_refl _))
                go_ret
                exact ⟨bool_eq (HR.out.trans (so_no 1 (by omega) HE.out)).symm, hb⟩
              · go_wp2_with ((go_at_call 31; (with_reducible refine (hc _).mono ?_)); rintro e w' ⟨rfl, h⟩; have h := Below_al h; have hb := Below_then hb h (Nat.le_refl _); have hB := Blk_below hB h (Blk_lt hB); have hL := Blk_below hL h (Blk_lt hL))
                go_roundw
                case rel => exact ⟨1 + 1, by omega, by go_num, hb, hB, hL, fun j hj => (by rcases Nat.lt_succ_iff_lt_or_eq.1 hj with h' | rfl; exact HA.out j h'; exact HE.out)⟩
                case measure => simp [intOf]
            · have d0 : wr.cell? ⟨w.heap.size + 1, 2 * 2, none⟩ = _ := Blk_cell hL (2 * 2)
              have d1 : wr.cell? ⟨w.heap.size + 1, 2 * 2 + 1, none⟩ = _ := Blk_cell hL (2 * 2 + 1)
              simp only [boxC, Nat.reduceMul, Nat.reduceAdd, List.getElem?_toArray, List.getElem?_cons_zero, List.getElem?_cons_succ] at d0 d1
              have hBa := fun o => Blk_alloc hB o
              have hc := fun o => so3_any (hBa o)
              have HE := Lib.hid (show soK s 2 = so3 s from rfl)
              generalize so3 s = b1 at *
              cases b1
              · go_wp2_with ((go_at_call 33; (with_reducible refine (hc _).mono ?_)); rintro e w' ⟨rfl, h⟩; have h := Below_al h; have hb := Below_then hb h (Nat.le_refl _))
                go_ret
                exact ⟨bool_eq (HR.out.trans (so_no 2 (by omega) HE.out)).symm, hb⟩
              · go_wp2_with ((go_at_call 33; (with_reducible refine (hc _).mono ?_)); rintro e w' ⟨rfl, h⟩; have h := Below_al h; have hb := Below_then hb h (Nat.le_refl _); have hB := Blk_below hB h (Blk_lt hB); have hL := Blk_below hL h (Blk_lt hL))
                go_roundw
                case rel => exact ⟨2 + 1, by omega, by go_num, hb, hB, hL, fun j hj => (by rcases Nat.lt_succ_iff_lt_or_eq.1 hj with h' | rfl; exact HA.out j h'; exact HE.out)⟩
                case measure => simp [intOf]
            · have d0 : wr.cell? ⟨w.heap.size + 1, 2 * 3, none⟩ = _ := Blk_cell hL (2 * 3)
              have d1 : wr.cell? ⟨w.heap.size + 1, 2 * 3 + 1, none⟩ = _ := Blk_cell hL (2 * 3 + 1)
              simp only [boxC, Nat.reduceMul, Nat.reduceAdd, List.getElem?_toArray, List.getElem?_cons_zero, List.getElem?_cons_succ] at d0 d1
              have hBa := fun o => Blk_alloc hB o
              have hc := fun o => so4_any (hBa o)
              have HE := Lib.hid (show soK s 3 = so4 s from rfl)
              generalize so4 s = b1 at *
              cases b1
              · go_wp2_with ((go_at_call 35; (with_reducible refine (hc _).mono ?_)); rintro e w' ⟨rfl, h⟩; have h := Below_al h; have hb := Below_then hb h (Nat.le_refl _))
                go_ret
                exact ⟨bool_eq (HR.out.trans (so_no 3 (by omega) HE.out)).symm, hb⟩
              · go_wp2_with ((go_at_call 35; (with_reducible refine (hc _).mono ?_)); rintro e w' ⟨rfl, h⟩; have h := Below_al h; have hb := Below_then hb h (Nat.le_refl _); have hB := Blk_below hB h (Blk_lt hB); have hL := Blk_below hL h (Blk_lt hL))
                go_roundw
                case rel => exact ⟨3 + 1, by omega, by go_num, hb, hB, hL, fun j hj => (by rcases Nat.lt_succ_iff_lt_or_eq.1 hj with h' | rfl; exact HA.out j h'; exact HE.out)⟩
                case measure => simp [intOf]
            · have d0 : wr.cell? ⟨w.heap.size + 1, 2 * 4, none⟩ = _ := Blk_cell hL (2 * 4)
              have d1 : wr.cell? ⟨w.heap.size + 1, 2 * 4 + 1, none⟩ = _ := Blk_cell hL (2 * 4 + 1)
              simp only [boxC, Nat.reduceMul, Nat.reduceAdd, List.getElem?_toArray, List.getElem?_cons_zero, List.getElem?_cons_succ] at d0 d1
              have hBa := fun o => Blk_alloc hB o
              have hc := fun o => so5_any (hBa o)
              have HE := Lib.hid (show soK s 4 = so5 s from rfl)
              generalize so5 s = b1 at *
              cases b1
              · go_wp2_with ((go_at_call 36; (with_reducible refine (hc _).mono ?_)); rintro e w' ⟨rfl, h⟩; have h := Below_al h; have hb := Below_then hb h (Nat.le_refl _))
                go_ret
                exact ⟨bool_eq (HR.out.trans (so_no 4 (by omega) HE.out)).symm, hb⟩
              · go_wp2_with ((go_at_call 36; (with_reducible refine (hc _).mono ?_)); rintro e w' ⟨rfl, h⟩; have h := Below_al h; have hb := Below_then hb h (Nat.le_refl _); have hB := Blk_below hB h (Blk_lt hB); have hL := Blk_below hL h (Blk_lt hL))
                go_roundw
                case rel => exact ⟨4 + 1, by omega, by go_num, hb, hB, hL, fun j hj => (by rcases Nat.lt_succ_iff_lt_or_eq.1 hj with h' | rfl; exact HA.out j h'; exact HE.out)⟩
                case measure => simp [intOf]
            · have d0 : wr.cell? ⟨w.heap.size + 1, 2 * 5, none⟩ = _ := Blk_cell hL (2 * 5)
              have d1 : wr.cell? ⟨w.heap.size + 1, 2 * 5 + 1, none⟩ = _ := Blk_cell hL (2 * 5 + 1)
              simp only [boxC, Nat.reduceMul, Nat.reduceAdd, List.getElem?_toArray, List.getElem?_cons_zero, List.getElem?_cons_succ] at d0 d1
              have hBa := fun o => Blk_alloc hB o
              have hc := fun o => so6_any (hBa o)
              have HE := Lib.hid (show soK s 5 = so6 s from rfl)
              generalize so6 s = b1 at *
              cases b1
              · go_wp2_with ((go_at_call 37; (with_reducible refine (hc _).mono ?_)); rintro e w' ⟨rfl, h⟩; have h := Below_al h; have hb := Below_then hb h (Nat.le_refl _))
                go_ret
                exact ⟨bool_eq (HR.out.trans (so_no 5 (by omega) HE.out)).symm, hb⟩
              · go_wp2_with ((go_at_call 37; (with_reducible refine (hc _).mono ?_)); rintro e w' ⟨rfl, h⟩; have h := Below_al h; have hb := Below_then hb h (Nat.le_refl _); have hB := Blk_below hB h (Blk_lt hB); have hL := Blk_below hL h (Blk_lt hL))
                go_roundw
                case rel => exact ⟨5 + 1, by omega, by go_num, hb, hB, hL, fun j hj => (by rcases Nat.lt_succ_iff_lt_or_eq.1 hj with h' | rfl; exact HA.out j h'; exact HE.out)⟩
                case measure => simp [intOf]
            · have d0 : wr.cell? ⟨w.heap.size + 1, 2 * 6, none⟩ = _ := Blk_cell hL (2 * 6)
              have d1 : wr.cell? ⟨w.heap.size + 1, 2 * 6 + 1, none⟩ = _ := Blk_cell hL (2 * 6 + 1)
              simp only [boxC, Nat.reduceMul, Nat.reduceAdd, List.getElem?_toArray, List.getElem?_cons_zero, List.getElem?_cons_succ] at d0 d1
              have hBa := fun o => Blk_alloc hB o
              have hc := fun o => so7w hw (hBa o)
              have HE := Lib.hid (show soK s 6 = so7 s from rfl)
              generalize so7 s = b1 at *
              cases b1
              · go_wp2_with ((go_at_call 39; (with_reducible refine (hc _).mono ?_)); rintro e w' ⟨rfl, h⟩; have h := Below_al h; have hb := Below_then hb h (Nat.le_refl _))
                go_ret
                exact ⟨bool_eq (HR.out.trans (so_no 6 (by omega) HE.out)).symm, hb⟩
              · go_wp2_with ((go_at_call 39; (with_reducible refine (hc _).mono ?_)); rintro e w' ⟨rfl, h⟩; have h := Below_al h; have hb := Below_then hb h (Nat.le_refl _); have hB := Blk_below hB h (Blk_lt hB); have hL := Blk_below hL h (Blk_lt hL))
                go_roundw
                case rel => exact ⟨6 + 1, by omega, by go_num, hb, hB, hL, fun j hj => (by rcases Nat.lt_succ_iff_lt_or_eq.1 hj with h' | rfl; exact HA.out j h'; exact HE.out)⟩
                case measure => simp [intOf]
            · have d0 : wr.cell? ⟨w.heap.size + 1, 2 * 7, none⟩ = _ := Blk_cell hL (2 * 7)
              have d1 : wr.cell? ⟨w.heap.size + 1, 2 * 7 + 1, none⟩ = _ := Blk_cell hL (2 * 7 + 1)
              simp only [boxC, Nat.reduceMul, Nat.reduceAdd, List.getElem?_toArray, List.getElem?_cons_zero, List.getElem?_cons_succ] at d0 d1
              have hBa := fun o => Blk_alloc hB o
              have hc := fun o => so8_any (hBa o)
              have HE := Lib.hid (show soK s 7 = so8 s from rfl)
              generalize so8 s = b1 at *
              cases b1
              · go_wp2_with ((go_at_call 40; (with_reducible refine (hc _).mono ?_)); rintro e w' ⟨rfl, h⟩; have h := Below_al h; have hb := Below_then hb h (Nat.le_refl _))
                go_ret
                exact ⟨bool_eq (HR.out.trans (so_no 7 (by omega) HE.out)).symm, hb⟩
              · go_wp2_with ((go_at_call 40; (with_reducible refine (hc _).mono ?_)); rintro e w' ⟨rfl, h⟩; have h := Below_al h; have hb := Below_then hb h (Nat.le_refl _); have hB := Blk_below hB h (Blk_lt hB); have hL := Blk_below hL h (Blk_lt hL))
                go_roundw
                case rel => exact ⟨7 + 1, by omega, by go_num, hb, hB, hL, fun j hj => (by rcases Nat.lt_succ_iff_lt_or_eq.1 hj with h' | rfl; exact HA.out j h'; exact HE.out)⟩
                case measure => simp [intOf]
            · have d0 : wr.cell? ⟨w.heap.size + 1, 2 * 8, none⟩ = _ := Blk_cell hL (2 * 8)
              have d1 : wr.cell? ⟨w.heap.size + 1, 2 * 8 + 1, none⟩ = _ := Blk_cell hL (2 * 8 + 1)
              simp only [boxC, Nat.reduceMul, Nat.reduceAdd, List.getElem?_toArray, List.getElem?_cons_zero, List.getElem?_cons_succ] at d0 d1
              have hBa := fun o => Blk_alloc hB o
              have hc := fun o => so9_any (hBa o)
              have HE := Lib.hid (show soK s 8 = so9 s from rfl)
              generalize so9 s = b1 at *
              cases b1
              · go_wp2_with ((go_at_call 41; (with_reducible refine (hc _).mono ?_)); rintro e w' ⟨rfl, h⟩; have h := Below_al h; have hb := Below_then hb h (Nat.le_refl _))
                go_ret
                exact ⟨bool_eq (HR.out.trans (so_no 8 (by omega) HE.out)).symm, hb⟩
              · go_wp2_with ((go_at_call 41; (with_reducible refine (hc _).mono ?_)); rintro e w' ⟨rfl, h⟩; have h := Below_al h; have hb := Below_then hb h (Nat.le_refl _); have hB := Blk_below hB h (Blk_lt hB); have hL := Blk_below hL h (Blk_lt hL))
                go_roundw
                case rel => exact ⟨8 + 1, by omega, by go_num, hb, hB, hL, fun j hj => (by rcases Nat.lt_succ_iff_lt_or_eq.1 hj with h' | rfl; exact HA.out j h'; exact HE.out)⟩
                case measure => simp [intOf]
          · obtain rfl : k = 9 := by omega
            go_wp2_with fail
            go_ret
            exact ⟨bool_eq (HR.out.trans (so_yes HA.out)).symm, hb⟩
    · have h1 : ¬ s.kind = 1 := fun h => h12 (.inl h)
      have h2 : ¬ s.kind = 2 := fun h => h12 (.inr h)
      have HE := Lib.hid (show rightB s = false by unfold rightB; rw [if_neg h12, if_neg h3])
      have b1 : (s.kind == 1) = false := by simpa using h1
      have b2 : (s.kind == 2) = false := by simpa using h2
      clear h1 h2 h3 h12
      go_enter Try.func10, Try.ntmps10
      go_wp2_with fail
      go_ret
      exact ⟨bool_eq HE.out.symm, hb0⟩
end Go.Proofs.Ytedlfkklkoihjaa
