/-
  The quotient of numbers of any size (jambref01.Div). No condition.
-/
import Derived.Test.YtedlfkklkoihjaaU
import Derived.Test.YtedlfkklkoihjaaF
set_option linter.unusedVariables false
set_option linter.unusedSimpArgs false
namespace Go.Proofs.Ytedlfkklkoihjaa
open Go.RowKit Go.BigFrame

theorem fl_sg {sa sb : Bool} {za zb : Int} {N M : Nat} (hsb : decide (zb < 0) = sb) (h1 : za = sgn sa N) (h2 : zb = sgn sb M) (hM : 0 < M) :
    fl za zb = if sa = sb then ((N / M : Nat) : Int) else -((N / M : Nat) : Int) - (if N % M = 0 then 0 else 1) := by
  unfold fl
  cases sb
  · have hz : ¬ zb < 0 := by simpa using hsb
    rw [if_neg hz, h1, h2]
    cases sa
    · simp [sgn]
    · simp only [sgn, if_true, Bool.true_eq_false, if_false, Bool.false_eq_true]; exact neg_div N M hM
  · have hz : zb < 0 := by simpa using hsb
    rw [if_pos hz, h1, h2]
    cases sa
    · simp only [sgn, if_true, if_false, Bool.false_eq_true, Int.neg_neg]; exact neg_div N M hM
    · simp [sgn]
theorem div_step {r M V b x O : Nat} (h : O * M + r = V) (hx : b + 2 * r = x) (hge : M ≤ x) : (1 + 2 * O) * M + (x - M) = b + 2 * V := by
  rw [Nat.add_mul, Nat.one_mul, Nat.mul_assoc]
  omega
theorem div_keep {r M V b x O : Nat} (h : O * M + r = V) (hx : b + 2 * r = x) : (0 + 2 * O) * M + x = b + 2 * V := by
  rw [Nat.zero_add, Nat.mul_assoc]
  omega
theorem BS_far_blk {w : World} {A : Option Addr} {n c g : Nat} {l : List Bool} (h : BS w (.slice A n c) l) (hne : ∀ a, A = some a → a.block ≠ g) (i : Nat) (u : Value) : BS (w.setCell ⟨g, i, none⟩ u) (.slice A n c) l := by
  obtain ⟨A', c', e, h1, h2, h3⟩ := h
  injection e with e1 e2 e3
  subst e1; subst e2; subst e3
  refine ⟨A, c, rfl, h1, h2, h3.len_eq, fun h0 => ?_, fun h0 => ?_⟩
  · obtain ⟨b, off, e, hB, hc⟩ := h3.at_ h0
    refine ⟨b, off, e, by simpa using hB, fun k hk => ?_⟩
    rw [← hc k hk]
    have := Below.heap_setCell w ⟨g, i, none⟩ u b (hne _ e)
    simp only [World.cell?, this]
  · obtain ⟨b, off, cs, e, hB⟩ := h3.typ h0
    exact ⟨b, off, cs, e, Blk_far hB (hne _ e) u⟩
theorem drop_set (l : List Bool) (j : Nat) (h : j < l.length) : bval ((l.set j true).drop j) = 1 + 2 * bval (l.drop (j + 1)) := by
  rw [bval_drop]
  have e : (l.set j true).drop (j + 1) = l.drop (j + 1) := by rw [List.drop_set]; simp
  rw [e]
  simp [bit, h]
theorem map_set_bool (l : List Bool) (j : Nat) : ((l.map Value.bool).toArray.setIfInBounds j (.bool true)) = ((l.set j true).map Value.bool).toArray := by
  simp [List.map_set]
set_option maxRecDepth 20000 in
set_option maxHeartbeats 8000000 in
theorem div_any (w : World) {va vb : Value} {za zb : Int} {Ka Kb : Nat} (ha : BV w va za Ka) (hb : BV w vb zb Kb) (hKa : Ka ≤ 20000) (hKb : Kb ≤ 20000) (hzb : zb ≠ 0) :
    Calls Try.prog 46 #[va, vb] w fun e w' => ∃ v, e = .returned v ∧ BV w' v (fl za zb) (Ka + 65) ∧ Below w.heap.size w w' := by
  obtain ⟨la, sva, rfl, ⟨A, c, rfl, ha1, ha2, hA⟩, ha4, ha5⟩ := ha
  obtain ⟨lb, svb, rfl, ⟨D, d, rfl, hb1, hb2, hB⟩, hb4, hb5⟩ := hb
  obtain ⟨n, hn⟩ : ∃ n, la.length = n := ⟨_, rfl⟩
  obtain ⟨m, hm⟩ : ∃ n, lb.length = n := ⟨_, rfl⟩
  rw [hn] at ha1 hA ha5 ⊢
  rw [hm] at hb1 hB hb5 ⊢
  obtain ⟨sa, hsa⟩ : ∃ s, decide (za < 0) = s := ⟨_, rfl⟩
  obtain ⟨sb, hsb⟩ : ∃ s, decide (zb < 0) = s := ⟨_, rfl⟩
  rw [hsa, hsb]
  have q1 := sg_eq hsa
  have q2 := sg_eq hsb
  rw [← ha4] at q1
  rw [← hb4] at q2
  have hM0 : 0 < bval lb := by omega
  have hF := fl_sg hsb q1 q2 hM0
  have HF := Lib.hid hF
  have HM0 := Lib.hid hM0
  have HN := Lib.hid (And.intro hn hm)
  clear q1 q2 ha4 hb4 hsa hsb hn hm hF hM0 hzb
  obtain ⟨i0, hi0, hz0, hz1, hz2⟩ := info_parts iB
  have hmk := run_make_blk (P := Try.prog) Try.underlying54 hi0 hz0 (x := .bool false) rfl hz1 .i64 .i64 n (by rw [hz2]; omega) (by unfold maxLen; omega)
  have hfd := field1
  go_enter Try.func46, Try.ntmps46
  go_wp2_with fail
  clear hmk
  go_loopw [5, 7, 17, 18, 19, 20, 21, 22, 23, 24, 25, 26, 27, 28, 29, 30, 31, 32, 33, 34, 35, 36, 37, 38, 39, 40, 41, 42, 43] (fun v i _ _ _ _ _ _ _ _ _ _ _ _ _ _ _ _ _ _ _ _ _ _ _ _ _ _ _ wr => ∃ (k : Nat) (z : Int) (rl ol : List Bool), k ≤ n ∧ i = .int .i64 z ∧ z = (k : Int) - 1 ∧ Below w.heap.size w wr ∧ w.heap.size + 3 < wr.heap.size ∧ Blk wr w.heap.size 56 #[.bool sa, .slice A n c] ∧ Blk wr (w.heap.size + 1) 56 #[.bool sb, .slice D m d] ∧ Blk wr (w.heap.size + 1 + 1) 56 #[.bool false, .slice none 0 0] ∧ Blk wr (w.heap.size + 1 + 1 + 1) 4 (ol.map Value.bool).toArray ∧ ol.length = n ∧ (∀ q, q < k → ol.getD q false = false) ∧ BS wr v rl ∧ rl.length + k ≤ n ∧ bval rl < bval lb ∧ bval (ol.drop k) * bval lb + bval rl = bval (la.drop k)) (fun _ i _ _ _ _ _ _ _ _ _ _ _ _ _ _ _ _ _ _ _ _ _ _ _ _ _ _ _ _ => (intOf i + 1).toNat)
  case atStart =>
    refine ⟨n, _, [], List.replicate n false, Nat.le_refl _, rfl, rfl, by (repeat' (first | (with_reducible exact Below.refl _ _) | (with_reducible assumption) | (with_reducible refine Below.alloc ?_ ?_ _) | (with_reducible refine Below.drew ?_) | (with_reducible refine Below_drewN ?_ _) | (with_reducible refine Below.setCell ?_ ?_ _) | go_size)), by simp, ?_, ?_, ?_, ?_, by simp, fun q hq => by simp [List.getD, hq], BS_nil _, by simp, by have := HM0.out; simpa [bval] using this, ?_⟩
    · exact Blk_alloc (Blk_alloc (Blk_alloc (Blk_new w _ _) _) _) _
    · exact Blk_alloc (Blk_alloc (by simpa using Blk_new (w.alloc (.cells #[.bool sa, .slice A n c] 56)) 56 #[.bool sb, .slice D m d]) _) _
    · exact Blk_alloc (by simpa using Blk_new ((w.alloc (.cells #[.bool sa, .slice A n c] 56)).alloc (.cells #[.bool sb, .slice D m d] 56)) 56 #[.bool false, .slice none 0 0]) _
    · have h := Blk_new (((w.alloc (.cells #[.bool sa, .slice A n c] 56)).alloc (.cells #[.bool sb, .slice D m d] 56)).alloc (.cells #[.bool false, .slice none 0 0] 56)) 4 (Array.replicate n (.bool false))
      simpa using h
    · rw [List.drop_eq_nil_of_le (by simp), List.drop_eq_nil_of_le (by rw [HN.out.1]; omega)]; simp [bval]
  case round =>
    obtain ⟨k, z, rl, ol, hk, rfl, hz, hbr, hsz, hX, hY, hR, hO, hol, hfa, hBS, hrl, hlt, he⟩ := hrel
    have x1 := Blk_cell hX 1
    have y1 := Blk_cell hY 1
    cases k with
    | zero =>
      have hz1' : z = -1 := by omega
      subst hz1'
      have x0 := Blk_cell hX 0
      have y0 := Blk_cell hY 0
      rw [List.drop_zero, List.drop_zero] at he
      have hdm : bval la / bval lb = bval ol ∧ bval la % bval lb = bval rl := by
        rw [← he]
        exact ⟨by rw [Nat.mul_comm, Nat.mul_add_div HM0.out, Nat.div_eq_of_lt hlt]; simp, by rw [Nat.mul_comm, Nat.mul_add_mod, Nat.mod_eq_of_lt hlt]⟩
      have hOB : Bls wr (some ⟨w.heap.size + 1 + 1 + 1, 0, none⟩) n ol := hol ▸ Bls.of_blk hO
      have hOS : BS wr (.slice (some ⟨w.heap.size + 1 + 1 + 1, 0, none⟩) n n) ol := ⟨_, n, by rw [hol], by omega, by unfold maxLen; omega, by rw [hol]; exact hOB⟩
      have HDM := Lib.hid hdm
      have HOL := Lib.hid hol
      have hsh := short_any wr (sa != sb) hOS (by omega)
      clear he hdm hlt hz hfa hol
      have e : (!(sa == sb)) = (sa != sb) := rfl
      go_upto_region 11 with (first | simp only [e] | ((go_at_call 52; (with_reducible refine (hsh).mono ?_)); rintro e w7 ⟨v7, rfl, hBV7, h7⟩; obtain ⟨G7, m7, g7, l7, rfl, hBS7, hv7, hl7⟩ := hBV7.parts))
      have hb8 : Below wr.heap.size wr (w7.alloc (.cells #[.bool (decide (sgn (sa != sb) (bval ol) < 0)), .slice G7 m7 g7] 56)) := h7.alloc h7.size _
      have hT8 := Blk_new w7 56 #[.bool (decide (sgn (sa != sb) (bval ol) < 0)), .slice G7 m7 g7]
      have hBS8 := hBS7.mono ((Below.refl _ w7).alloc (Nat.le_refl _) (.cells #[.bool (decide (sgn (sa != sb) (bval ol) < 0)), .slice G7 m7 g7] 56))
      have hs7 := h7.size
      have hs8 : (w7.alloc (.cells #[.bool (decide (sgn (sa != sb) (bval ol) < 0)), .slice G7 m7 g7] 56)).heap.size = w7.heap.size + 1 := by simp
      generalize w7.alloc (.cells #[.bool (decide (sgn (sa != sb) (bval ol) < 0)), .slice G7 m7 g7] 56) = w8 at *
      have hb8w := Below_then hbr hb8 (Nat.le_refl _)
      have hX8 := Blk_below hX hb8 (by omega)
      have hY8 := Blk_below hY hb8 (by omega)
      have hR8 := Blk_below hR hb8 (by omega)
      have hO8 := hOS.mono hb8
      have hRS8 := hBS.mono hb8
      obtain ⟨G5, g5, rfl, _, _, _⟩ := hBS
      have x08 := Blk_cell hX8 0
      have y08 := Blk_cell hY8 0
      have t80 := Blk_cell hT8 0
      have t81 := Blk_cell hT8 1
      have f80 := Blk_frozen hT8 0
      have f81 := Blk_frozen hT8 1
      have HT := Lib.hid (show w.heap.size + 3 < w7.heap.size by omega)
      clear hX hY hR hO hBS7 h7 hsh hb8 hOS hOB hs7
      by_cases hss : sa = sb
      · have hz : sgn (sa != sb) (bval ol) = fl za zb := by
          rw [HF.out, if_pos hss, HDM.out.1, hss, bne_self_eq_false]; rfl
        rw [hz] at hv7 hT8 t80 ⊢
        have HV7 := Lib.hid (And.intro hv7 hl7)
        subst hss
        clear hv7 hl7 hz t80 t81
        have tt0 := Blk_cell hT8 0
        have tt1 := Blk_cell hT8 1
        have rf0 := Blk_frozen hR8 0
        have rf1 := Blk_frozen hR8 1
        have rd0 := Blk_cell hR8 0
        have rd1 := Blk_cell hR8 1
        obtain ⟨sz, hsz2⟩ : ∃ s, decide (fl za zb < 0) = s := ⟨_, rfl⟩
        rw [hsz2] at tt0 ⊢
        have HSZ := Lib.hid hsz2
        have hBf := Blk_set (Blk_set hR8 0 (.bool sz)) 1 (.slice G7 m7 g7)
        have e0 := Blk_cell hBf 0
        have e1 := Blk_cell hBf 1
        clear hsz2
        go_wp2_with (fail)
        refine bodyPost_ret (v := .agg #[.bool sz, .slice G7 m7 g7]) (by simp at e0 e1; simp [results, Try.results46, go_sem, e0, e1]) rfl ⟨_, rfl, ?_, ?_⟩
        · exact ⟨l7, _, by rw [HSZ.out], (hBS8.far hR8 (by decide) _ _).far (Blk_set hR8 0 _) (by decide) _ _, HV7.out.1, (by have := HV7.out.2; have := HOL.out; omega)⟩
        · exact ((hb8w).setCell (by simp <;> omega) _).setCell (by simp <;> omega) _
      · have hne : (sa == sb) = false := by simpa using hss
        by_cases hr0 : bval rl = 0
        · have hz : sgn (sa != sb) (bval ol) = fl za zb := by
            have h1 := HDM.out.2
            rw [hr0] at h1
            rw [HF.out, if_neg hss, HDM.out.1, h1, if_pos rfl]
            have : (sa != sb) = true := by simpa using hss
            rw [this]; simp [sgn]
          rw [hz] at hv7 hT8 t80 ⊢
          have HV7 := Lib.hid (And.intro hv7 hl7)
          have HR0 := Lib.hid hr0
          clear hv7 hl7 hz hr0
          go_upto_region 13 with ((go_at_call 52; (with_reducible refine ((short_any2 _ false hRS8 (by omega))).mono ?_)); rintro e w9 ⟨k9, s9, rfl, _, h9, hk9⟩; obtain rfl : k9 = 0 := hk9.2 HR0.out; clear hk9)
          have hR9 := Blk_below hR8 h9 (Blk_lt hR8)
          have hT9 := Blk_below hT8 h9 (Blk_lt hT8)
          have hBS9 := hBS8.mono h9
          have hb9w := Below_then hb8w h9 (Nat.le_refl _)
          have tt0 := Blk_cell hT9 0
          have tt1 := Blk_cell hT9 1
          have rf0 := Blk_frozen hR9 0
          have rf1 := Blk_frozen hR9 1
          have rd0 := Blk_cell hR9 0
          have rd1 := Blk_cell hR9 1
          obtain ⟨sz, hsz2⟩ : ∃ s, decide (fl za zb < 0) = s := ⟨_, rfl⟩
          rw [hsz2] at tt0 ⊢
          have HSZ := Lib.hid hsz2
          have hBf := Blk_set (Blk_set hR9 0 (.bool sz)) 1 (.slice G7 m7 g7)
          have e0 := Blk_cell hBf 0
          have e1 := Blk_cell hBf 1
          clear hsz2
          go_wp2_with (fail)
          refine bodyPost_ret (v := .agg #[.bool sz, .slice G7 m7 g7]) (by simp at e0 e1; simp [results, Try.results46, go_sem, e0, e1]) rfl ⟨_, rfl, ?_, ?_⟩
          · exact ⟨l7, _, by rw [HSZ.out], (hBS9.far hR9 (by decide) _ _).far (Blk_set hR9 0 _) (by decide) _ _, HV7.out.1, (by have := HV7.out.2; have := HOL.out; omega)⟩
          · exact ((hb9w).setCell (by simp <;> omega) _).setCell (by simp <;> omega) _
        · have hz : sgn true (bval ol) + -1 = fl za zb := by
            rw [HF.out, if_neg hss, HDM.out.1, HDM.out.2, if_neg hr0]
            simp [sgn]; omega
          have HZ := Lib.hid hz
          have HR0 := Lib.hid hr0
          have hof := fun w => of_any w (-1) (by decide)
          clear hz hr0 hv7 hl7
          go_upto_region 13 with (first | ((go_at_call 52; (with_reducible refine ((short_any2 _ false hRS8 (by omega))).mono ?_)); rintro e w9 ⟨k9, s9, rfl, _, h9, hk9⟩; have hk9p : 0 < k9 := (by have := HR0.out; omega); clear hk9; have hO9 := hO8.mono h9) | ((go_at_call 52; (with_reducible refine ((short_any _ true hO9 (by have := HOL.out; omega))).mono ?_)); rintro e w10 ⟨v10, rfl, hB10, h10⟩) | ((go_at_call 26; (with_reducible refine ((hof _)).mono ?_)); rintro e w11 ⟨v11, rfl, hB11, h11⟩; have hB101 := hB10.mono h11) | ((go_at_call 54; (with_reducible refine ((add_any _ hB101 hB11 (by have := HOL.out; omega) (by omega))).mono ?_)); rintro e w12 ⟨v12, rfl, hB12, h12⟩; have h129 := Below_same (Below_same (Below_same h9 h10) h11) h12; have hR12 := Blk_below hR8 h129 (Blk_lt hR8); have hT12 := Blk_below hT8 h129 (Blk_lt hT8); rw [HZ.out] at hB12; obtain ⟨G12, m12, g12, l12, rfl, hBS12, hv12, hl12⟩ := hB12.parts; have f120 := Blk_frozen hT12 0; have f121 := Blk_frozen hT12 1; have d120 := Blk_cell hT12 0; have d121 := Blk_cell hT12 1))
          have hb12 := Below_then hb8w h129 (Nat.le_refl _)
          have hT13 := Blk_set (Blk_set hT12 0 (.bool (decide (fl za zb < 0)))) 1 (.slice G12 m12 g12)
          have hneR : w.heap.size + 1 + 1 ≠ w7.heap.size := by have := HT.out; omega
          have hR13 := Blk_far (Blk_far hR12 (p := ⟨w7.heap.size, 0, none⟩) hneR (.bool (decide (fl za zb < 0)))) (p := ⟨w7.heap.size, 1, none⟩) hneR (.slice G12 m12 g12)
          have hBS13 := (hBS12.far hT12 (by decide) 0 (.bool (decide (fl za zb < 0)))).far (Blk_set hT12 0 _) (by decide) 1 (.slice G12 m12 g12)
          have hb13 : Below w.heap.size w ((w12.setCell ⟨w7.heap.size, 0, none⟩ (.bool (decide (fl za zb < 0)))).setCell ⟨w7.heap.size, 1, none⟩ (.slice G12 m12 g12)) := (hb12.setCell (by have := HT.out; simp; omega) _).setCell (by have := HT.out; simp; omega) _
          have HV12 := Lib.hid (And.intro hv12 hl12)
          clear hv12 hl12 d120 d121 f120 f121 hof
          generalize (w12.setCell ⟨w7.heap.size, 0, none⟩ (.bool (decide (fl za zb < 0)))).setCell ⟨w7.heap.size, 1, none⟩ (.slice G12 m12 g12) = w13 at *
          have tt0 := Blk_cell hT13 0
          have tt1 := Blk_cell hT13 1
          have rf0 := Blk_frozen hR13 0
          have rf1 := Blk_frozen hR13 1
          have rd0 := Blk_cell hR13 0
          have rd1 := Blk_cell hR13 1
          obtain ⟨sz, hsz2⟩ : ∃ s, decide (fl za zb < 0) = s := ⟨_, rfl⟩
          simp at tt0 tt1
          rw [hsz2] at tt0
          have HSZ := Lib.hid hsz2
          have hBf := Blk_set (Blk_set hR13 0 (.bool sz)) 1 (.slice G12 m12 g12)
          have e0 := Blk_cell hBf 0
          have e1 := Blk_cell hBf 1
          clear hsz2
          go_wp2_with (fail)
          refine bodyPost_ret (v := .agg #[.bool sz, .slice G12 m12 g12]) (by simp at e0 e1; simp [results, Try.results46, go_sem, e0, e1]) rfl ⟨_, rfl, ?_, ?_⟩
          · exact ⟨l12, _, by rw [HSZ.out], (hBS13.far hR13 (by decide) _ _).far (Blk_set hR13 0 _) (by decide) _ _, HV12.out.1, (by have := HV12.out.2; have := HOL.out; omega)⟩
          · exact ((hb13).setCell (by simp <;> omega) _).setCell (by simp <;> omega) _
    | succ j =>
      have hzj : z = (j : Int) := by omega
      subst hzj
      obtain ⟨b, off, hAe, hBb, hc⟩ := hA.at_ (by omega)
      have cx : wr.cell? ⟨b, off + j, none⟩ = some (.bool (la.getD j false)) := (hbr.cell hBb).trans (hc j (by omega))
      have hdr := bval_drop la j
      subst hAe
      generalize la.getD j false = bt at *
      have HDR := Lib.hid hdr
      have HE := Lib.hid (And.intro hlt (And.intro he hfa))
      obtain ⟨G, g, rfl, hg1, hg2, hBl⟩ := hBS
      obtain ⟨rm, hrm⟩ : ∃ x, rl.length = x := ⟨_, rfl⟩
      rw [hrm] at hBl hg1 hrl ⊢
      have HRM := Lib.hid hrm
      have HBL := Lib.hid hBl
      clear hz hdr hc hlt he hrm hBl hfa
      go_upto_region 7 with ((with_reducible refine at_op ⟨some 28, _, _, _, _, _⟩ ?_); (refine wpList_append_src _ rfl (.tmp 26) (.tmp 27) 54 rfl wr.heap.size 4 i0 _ 1 1 Try.underlying54 hi0 hz0 hz1 hz2 rfl (by omega) (.slice (some ⟨wr.heap.size, 0, none⟩) 1 1) 1 [.bool bt] rfl (World.ownsRow_lit wr #[.bool bt] 1 (Nat.le_refl _) (by unfold maxLen; omega) (by simp)) G rm g (rl.map Value.bool) rfl (by rw [Nat.mul_one]; exact (HBL.out.mono ((Below.refl _ wr).alloc (Nat.le_refl _) _)).src) (one_bools _) (by simp only [maxLen]; omega) (by omega) (by simp) ?_); intro v5 w5 hown5 hg5 hat5)
      have hb5 : Below wr.heap.size wr w5 := ((Below.refl _ wr).alloc (Nat.le_refl _) (.cells #[.bool bt] 4)).grown hg5 (by simp) (fun q hq => by simp [Value.ownBlock] at hq; omega)
      have hs5 := hb5.size
      have hX5 := Blk_below hX hb5 (by omega)
      have hY5 := Blk_below hY hb5 (by omega)
      have hR5 := Blk_below hR hb5 (by omega)
      have hO5 := Blk_below hO hb5 (by omega)
      have y15 := Blk_cell hY5 1
      obtain ⟨E5, e5, rfl, _, _⟩ := own_slice hown5
      have hBl5 := Bls_of_own (l := bt :: rl) hown5
      have hBS5 := BS_own (l := bt :: rl) hown5
      have hlen5 := hBl5.len_eq
      have hB5 := hB.mono (Below_then hbr hb5 (Nat.le_refl _))
      have hls := less_any (c := e5) (d := d) w5 hBl5 hB5 (by omega) (by omega)
      have hv5 : bval (bt :: rl) = bit bt + 2 * bval rl := rfl
      clear hown5 hat5 hg5
      by_cases hge : bval (bt :: rl) < bval lb
      · rw [decide_eq_true hge] at hls
        have HGE := Lib.hid hge
        clear hge hv5
        go_wp2_with ((go_at_call 44; (with_reducible refine (hls).mono ?_)); rintro e w1 ⟨rfl, hq⟩; subst hq)
        go_roundw
        case rel =>
          refine ⟨j, _, bt :: rl, ol, by omega, rfl, rfl, Below_then hbr hb5 (Nat.le_refl _), by omega, hX5, hY5, hR5, hO5, hol, fun q hq => HE.out.2.2 q (by omega), hBS5, by have := HRM.out; simp only [List.length_cons]; omega, HGE.out, ?_⟩
          obtain ⟨_, he, hfa⟩ := HE.out
          rw [HDR.out, bval_drop ol j, hfa j (by omega)]
          exact div_keep he rfl
        case measure => simp [intOf]
      · rw [decide_eq_false hge] at hls
        have hmn := rminus_any2 (c := e5) (d := d) w5 hBl5 hB5 (by omega) (by omega) (by omega)
        have HGE := Lib.hid (And.intro hge hv5)
        clear hge hv5
        go_upto_region 9 with (first | ((go_at_call 44; (with_reducible refine (hls).mono ?_)); rintro e w1 ⟨rfl, hq⟩; subst hq) | ((go_at_call 53; (with_reducible refine (hmn).mono ?_)); rintro e w6 ⟨v6, out6, rfl, hBS6, hv6, hl6, h6, hfr⟩; have HO6 := Lib.hid (And.intro hv6 hl6); clear hv6 hl6; have HS6 := Lib.hid hBS6; obtain ⟨A6, c6, rfl, hc6, hm6, hBl6⟩ := hBS6; have HFR := Lib.hid hfr; clear hBl6 hfr) | ((go_at_call 52; (with_reducible refine ((short_any2 _ false HS6.out (by have := HO6.out.2; omega))).mono ?_)); rintro e w7 ⟨k7, s7, rfl, hBV7, h7, hk7⟩; clear hk7))
        have hb7 := Below_same (Below_same hb5 h6) h7
        have hs7 := hb7.size
        have hX7 := Blk_below hX hb7 (by omega)
        have hY7 := Blk_below hY hb7 (by omega)
        have hR7 := Blk_below hR hb7 (by omega)
        have hO7 := Blk_below hO hb7 (by omega)
        have o7 := Blk_cell hO7 j
        have f7 := Blk_frozen hO7 j
        obtain ⟨l7, sv7, hav, hBS7, hv7, hl7⟩ := hBV7
        have HL7 := Lib.hid (And.intro hv7 hl7)
        have hsv : sv7 = .slice A6 k7 c6 := by simp at hav; exact hav.2.symm
        subst hsv
        rw [show (ol.map Value.bool).toArray[j]? = some (.bool false) by have := HE.out.2.2 j (by omega); rw [List.getD_eq_getElem?_getD] at this; simp [hol, show j < n by omega] at this ⊢; exact this] at o7
        clear hav hv7 hl7 hls hmn
        go_wp2_with fail
        go_roundw
        case rel =>
          have hO8 := Blk_set hO7 j (.bool true)
          rw [map_set_bool] at hO8
          have hg := HGE.out
          have h6' := HO6.out
          have h7' := HL7.out
          obtain ⟨hlt, he, hfa⟩ := HE.out
          have hv : bval l7 = bval (bt :: rl) - bval lb := by rw [h7'.1, h6'.1]; simp [sgn]
          have hne : ∀ a, A6 = some a → a.block ≠ w.heap.size + 1 + 1 + 1 := fun a ha => by have := HFR.out a.block (by rw [ha]; rfl); omega
          refine ⟨j, _, l7, ol.set j true, by omega, rfl, rfl, (Below_then hbr hb7 (Nat.le_refl _)).setCell (by simp <;> omega) _, by simp <;> omega, Blk_far hX7 (by simp <;> omega) _, Blk_far hY7 (by simp <;> omega) _, Blk_far hR7 (by simp) _, hO8, by simp [hol], fun q hq => ?_, BS_far_blk hBS7 hne _ _, by have := HRM.out; omega, by rw [hv]; have := hg.2; have := bit_le bt; omega, ?_⟩
          · rw [List.getD_eq_getElem?_getD, List.getElem?_set_ne (by omega), ← List.getD_eq_getElem?_getD]; exact hfa q (by omega)
          · rw [drop_set ol j (by omega), hv, HDR.out]
            exact div_step he hg.2 (by omega)
        case measure => simp [intOf]
end Go.Proofs.Ytedlfkklkoihjaa
