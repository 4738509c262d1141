/-
  Which trees may be (jambref05.Check); which box is a root (jambref05.Root). No condition.
-/
import Derived.Test.YtlfjbkmdehpahaaTN
set_option linter.unusedVariables false
set_option linter.unusedSimpArgs false
namespace Go.Proofs.Ytlfjbkmdehpahaa
open Go.RowKit Go.BigFrame

def advAt (adv : List Int) (j : Nat) : Bool := inB (adv.getD j 0) 0 1099511627776
theorem adv_no {adv : List Int} {j : Nat} (hj : j < adv.length) (h : advAt adv j = false) : advOk adv = false := by
  unfold advOk
  rw [List.all_eq_false]
  refine ⟨adv[j], List.getElem_mem _, ?_⟩
  unfold advAt at h
  simp [List.getD, hj] at h
  simp [h]
theorem adv_yes {adv : List Int} (h : AllB (advAt adv) adv.length) : advOk adv = true := by
  unfold advOk
  rw [List.all_eq_true]
  intro x hx
  obtain ⟨j, hj, rfl⟩ := List.mem_iff_getElem.1 hx
  have := h j hj
  unfold advAt at this
  simpa [List.getD, hj] using this
theorem advAt_no {adv : List Int} {j : Nat} (h : adv.getD j 0 < 0 ∨ 1099511627776 < adv.getD j 0) : advAt adv j = false := decide_eq_false (by omega)
theorem advAt_yes {adv : List Int} {j : Nat} (h : 0 ≤ adv.getD j 0) (h2 : adv.getD j 0 ≤ 1099511627776) : advAt adv j = true := decide_eq_true (by omega)
theorem chk_many {L : List Nd} {adv : List Int} {v : Int} (h : 65536 < L.length ∨ 4096 < adv.length) : check L adv v = (0, 7) := by unfold check; rw [if_pos h]
theorem chk_form {L : List Nd} {adv : List Int} {v : Int} (h : L.length ≤ 65536) (h1 : adv.length ≤ 4096) (h2 : L.length = 0 ∨ v < 0 ∨ 1099511627776 < v) : check L adv v = (0, 6) := by
  unfold check; rw [if_neg (by omega), if_pos]
  rcases h2 with h2 | h2
  · exact .inl h2
  · exact .inr (decide_eq_false (by omega))
theorem chk_adv {L : List Nd} {adv : List Int} {v : Int} (h : L.length ≤ 65536) (h1 : adv.length ≤ 4096) (h2 : 0 < L.length) (h3 : 0 ≤ v) (h4 : v ≤ 1099511627776) (h5 : advOk adv = false) : check L adv v = (0, 6) := by
  unfold check; rw [if_neg (by omega), if_neg, if_pos h5]
  rintro (h | h)
  · omega
  · rw [show inB v 0 1099511627776 = true from decide_eq_true (by omega)] at h; cases h
theorem chk_bad {L : List Nd} {adv : List Int} {v : Int} (h : L.length ≤ 65536) (h1 : adv.length ≤ 4096) (h2 : 0 < L.length) (h3 : 0 ≤ v) (h4 : v ≤ 1099511627776) (h5 : advOk adv = true) : check L adv v = badAt L 0 := by
  unfold check; rw [if_neg (by omega), if_neg, if_neg (by rw [h5]; simp)]
  rintro (h | h)
  · omega
  · rw [show inB v 0 1099511627776 = true from decide_eq_true (by omega)] at h; cases h
section
variable {A D : Option Addr} {n c m d : Nat} {v : Int} {L : List Nd} {adv : List Int}
theorem pair_ret {a b : Int} {x : Int × Int} (h : (a, b) = x) : Ending.returned (.tuple #[.int .i64 a, .int .i64 b]) = .returned (.tuple #[.int .i64 x.1, .int .i64 x.2]) := by rw [← h]
set_option maxRecDepth 100000 in
set_option maxHeartbeats 4000000 in
theorem check_any (w : World) (h : Trd w A n D m L adv) (hwf : TrWf n c m d L adv v) :
    Calls Try.prog 18 #[.agg #[.slice A n c, .slice D m d, .int .i64 v]] w fun e w' => e = .returned (.tuple #[.int .i64 (check L adv v).1, .int .i64 (check L adv v).2]) ∧ Below w.heap.size w w' := by
  have hn := Nat.le_trans hwf.nc hwf.cmax
  have hm := Nat.le_trans hwf.md hwf.dmax
  have hn' := hn
  have hm' := hm
  unfold maxLen at hn' hm'
  have hl := h.len
  have hal := h.advs.len_eq
  have hbT := Blk_new w 25 #[.slice A n c, .slice D m d, .int .i64 v]
  have hb0 := (Below.refl w.heap.size w).alloc (Nat.le_refl _) (.cells #[.slice A n c, .slice D m d, .int .i64 v] 25)
  by_cases q1 : 65536 < n ∨ 4096 < m
  · have HE := Lib.hid (chk_many (v := v) (show 65536 < L.length ∨ 4096 < adv.length by omega))
    clear hl hal
    rcases (show 65536 < (n : Int) ∨ ((n : Int) ≤ 65536 ∧ 4096 < (m : Int)) by omega) with g1 | ⟨g1, g2⟩
    all_goals
      clear q1
      go_enter Try.func18, Try.ntmps18
      go_wp2_with fail
      go_ret2
      exact ⟨pair_ret HE.out.symm, hb0⟩
  have g1 : (n : Int) ≤ 65536 := by omega
  have g2 : (m : Int) ≤ 4096 := by omega
  by_cases q2 : n = 0 ∨ v < 0 ∨ 1099511627776 < v
  · have HE := Lib.hid (chk_form (v := v) (L := L) (adv := adv) (by omega) (by omega) (by omega))
    clear hl hal q1
    rcases (show n = 0 ∨ 0 < n ∧ (v < 0 ∨ 0 ≤ v ∧ 1099511627776 < v) by omega) with q3 | ⟨q3, q4 | ⟨q4, q5⟩⟩
    · subst q3
      clear q2
      go_enter Try.func18, Try.ntmps18
      go_wp2_with fail
      go_ret2
      exact ⟨pair_ret HE.out.symm, hb0⟩
    all_goals
      have q6 : ((n : Int) == 0) = false := by simp; omega
      clear q2
      go_enter Try.func18, Try.ntmps18
      go_wp2_with fail
      go_ret2
      exact ⟨pair_ret HE.out.symm, hb0⟩
  have q6 : ((n : Int) == 0) = false := by simp; omega
  have q3 : 0 ≤ v := by omega
  have q4 : v ≤ 1099511627776 := by omega
  have HA := Lib.hid (fun h => chk_adv (v := v) (L := L) (adv := adv) (by omega) (by omega) (by omega) q3 q4 h)
  have HB := Lib.hid (fun h => chk_bad (v := v) (L := L) (adv := adv) (by omega) (by omega) (by omega) q3 q4 h)
  have HLN := Lib.hid hl
  have HAL := Lib.hid hal
  clear q1 q2 hl hal
  go_enter Try.func18, Try.ntmps18
  go_wp2_with fail
  go_loop [4, 31, 32, 33, 34, 35, 36, 37, 38, 39, 40, 41, 42, 43, 44, 45, 46, 47, 48, 49, 50, 51] (fun k _ _ _ _ _ _ _ _ _ _ _ _ _ _ _ _ _ _ _ _ _ => ∃ j : Nat, j ≤ m ∧ k = .int .i64 j ∧ AllB (advAt adv) j) (fun k _ _ _ _ _ _ _ _ _ _ _ _ _ _ _ _ _ _ _ _ _ => m - (intOf k).toNat)
  case atStart => exact ⟨0, by omega, rfl, AllB.zero _⟩
  case round =>
    obtain ⟨j, hj, rfl, hN⟩ := hrel
    have HN := Lib.hid hN
    clear hN
    by_cases hlt : j < m
    · obtain ⟨b, off, rfl, hB, hc⟩ := h.advs.at_ (by omega)
      have c0 := hc j hlt
      have HNO := Lib.hid (fun h => HA.out (adv_no (show j < adv.length by rw [HAL.out]; exact hlt) (advAt_no h)))
      have HYE := Lib.hid (fun h h2 => HN.out.next (advAt_yes h h2))
      generalize adv.getD j 0 = x at c0 HNO HYE
      clear hc h hwf HA
      go_wp2_with fail
      all_goals first
        | (go_ret2
           exact ⟨pair_ret (HNO.out (by omega)).symm, hb0⟩)
        | (go_round
           case rel => exact ⟨j + 1, by omega, by go_num, HYE.out (by omega) (by omega)⟩
           case measure => simp [intOf]; omega)
    · have hj4 : j = m := by omega
      have hge : ¬ (j : Int) < m := by omega
      have HE := Lib.hid (HB.out (adv_yes (by rw [HAL.out, ← hj4]; exact HN.out)))
      clear hj4 HN HA HB
      go_wp2_with fail
      clear hlt hj hge
      go_loopw [5, 6, 52, 53, 54, 55, 56, 57, 58, 59, 60, 61, 62, 63, 64, 65] (fun k _ _ _ _ _ _ _ _ _ _ _ _ _ _ _ wr => ∃ i : Nat, i ≤ n ∧ k = .int .i64 i ∧ badAt L 0 = badAt L i ∧ Below w.heap.size w wr ∧ Blk wr w.heap.size 25 #[.slice A n c, .slice D m d, .int .i64 v]) (fun k _ _ _ _ _ _ _ _ _ _ _ _ _ _ _ _ => n - (intOf k).toNat)
      case atStart => exact ⟨0, by omega, rfl, rfl, hb0, hbT⟩
      case round =>
        clear hb0 hbT
        obtain ⟨i, hi, rfl, hB, hb, hbT⟩ := hrel
        have HBA := Lib.hid (HE.out.trans hB)
        have HBI := Lib.hid hB
        clear hB
        have t0 := Blk_cell hbT 0
        have t1 := Blk_cell hbT 1
        have t2 := Blk_cell hbT 2
        by_cases hlt : i < n
        · have hnc := node_any (c := c) (d := d) (v := v) i wr (h.mono hb) hwf hlt hn
          by_cases h0 : nodeE L i = 0
          · have HS := Lib.hid (bad_miss (by rw [HLN.out]; exact hlt) h0)
            rw [h0] at hnc
            clear h0
            go_wp2_with (go_at_call 26; refine hnc.mono ?_; rintro e w1 ⟨rfl, h1⟩)
            have hb2 := Below_same hb h1
            have hbT2 := Blk_below hbT h1 (Blk_lt hbT)
            go_roundw
            case rel => exact ⟨i + 1, by omega, by go_num, HBI.out.trans HS.out, hb2, hbT2⟩
            case measure => simp [intOf]; omega
          · have HS := Lib.hid (HBA.out.trans (bad_hit (by rw [HLN.out]; exact hlt) h0))
            have h0' : (nodeE L i != 0) = true := by simpa using h0
            clear h0
            go_wp2_with (go_at_call 26; refine hnc.mono ?_; rintro e w1 ⟨rfl, h1⟩)
            go_ret2
            exact ⟨pair_ret HS.out.symm, Below_same hb h1⟩
        · have HS := Lib.hid (HBA.out.trans (bad_end (by rw [HLN.out]; omega)))
          go_wp2_with fail
          go_ret2
          exact ⟨pair_ret HS.out.symm, hb⟩
end
end Go.Proofs.Ytlfjbkmdehpahaa
