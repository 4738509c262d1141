/-
  The document's islands, on (jambref18: Of, Over, Inside). No condition.
-/
import Derived.Test.YtlfjbkmdehpahaaIr
set_option linter.unusedVariables false
set_option linter.unusedSimpArgs false
namespace Go.Proofs.Ytlfjbkmdehpahaa
open Go.RowKit Go.BigFrame

def half (L : List Nd) (n k : Nat) : List Int := ofL L k ++ List.replicate (n - k) 0
theorem half_len {L : List Nd} {n k : Nat} (h : k ≤ n) : (half L n k).length = n := by simp [half, ofL_len]; omega
theorem half_set {L : List Nd} {n k : Nat} (h : k < n) : (half L n k).set k (ofAt L k) = half L n (k + 1) := by
  obtain ⟨m, rfl⟩ : ∃ m, n = k + 1 + m := ⟨n - (k + 1), by omega⟩
  unfold half
  rw [show k + 1 + m - k = m + 1 by omega, show k + 1 + m - (k + 1) = m by omega, List.replicate_succ (n := m), List.set_append_right _ _ (by rw [ofL_len]; exact Nat.le_refl _)]
  simp [ofL_len, ofL, List.range_succ]
theorem half_end {L : List Nd} {n k : Nat} (h : k = n) : half L n k = ofL L n := by subst h; simp [half]
section
variable {A D : Option Addr} {n c m d : Nat} {v : Int} {L : List Nd} {adv : List Int}
set_option maxHeartbeats 1000000 in
theorem of_any (w : World) (h : Trd w A n D m L adv) (hf : Fine L) :
    Calls Try.prog 12 #[.agg #[.slice A n c, .slice D m d, .int .i64 v]] w (RetInts (ofL L n) w) := by
  obtain ⟨i0, hi0, hz0, hz1, hz2⟩ := info_parts iI
  have hl := h.len
  have hsm := hf.small
  rw [hl] at hsm
  have hm : n ≤ maxLen := by unfold maxLen; omega
  have hmk := run_make_blk (P := Try.prog) Try.underlying29 hi0 hz0 (x := .int .i64 0) rfl hz1 .i64 .i64 n (by rw [hz2]; omega) hm
  have hb0 := ((Below.refl w.heap.size w).alloc (Nat.le_refl _) (.cells #[.slice A n c, .slice D m d, .int .i64 v] 25)).alloc (by simp) (.cells (List.replicate n (.int .i64 0)).toArray 3)
  have hbT := Blk_alloc (Blk_new w 25 #[.slice A n c, .slice D m d, .int .i64 v]) (.cells (List.replicate n (.int .i64 0)).toArray 3)
  have hR := Blk_new (w.alloc (.cells #[.slice A n c, .slice D m d, .int .i64 v] 25)) 3 (List.replicate n (.int .i64 0)).toArray
  rw [World.size_alloc] at hR
  have hR0 : Row ((w.alloc (.cells #[.slice A n c, .slice D m d, .int .i64 v] 25)).alloc (.cells (List.replicate n (.int .i64 0)).toArray 3)) 3 (w.heap.size + 1) (half L n 0) := by
    unfold Row half ofL; simpa using hR
  have HLN := Lib.hid hl
  clear hl hR
  go_enter Try.func12, Try.ntmps12
  go_wp2_with fail
  clear hmk
  go_loopw [4, 9, 10, 11, 12, 13, 14, 15, 16, 17, 18, 19, 20, 21, 22, 23, 24, 25, 26] (fun k _ _ _ _ _ _ _ _ _ _ _ _ _ _ _ _ _ _ wr => ∃ (j : Nat), j ≤ n ∧ k = .int .i64 j ∧ Row wr 3 (w.heap.size + 1) (half L n j) ∧ Below w.heap.size w wr ∧ Blk wr w.heap.size 25 #[.slice A n c, .slice D m d, .int .i64 v]) (fun k _ _ _ _ _ _ _ _ _ _ _ _ _ _ _ _ _ _ _ => n - (intOf k).toNat)
  case atStart => exact ⟨0, by omega, rfl, hR0, hb0, hbT⟩
  case round =>
    clear hb0 hbT hR0
    obtain ⟨j, hj, rfl, hR, hb, hbT⟩ := hrel
    have hsz := hb.size
    have hgl := Blk_lt hR
    by_cases hlt : j < n
    · have hz := half_set (L := L) hlt
      have hhl := half_len (L := L) hj
      have cR := hR.cell (i := j) (by rw [hhl]; exact hlt)
      have fR := Blk_frozen hR j
      have hR1 := hR.set j (-1)
      have hb1 : Below w.heap.size w (wr.setCell ⟨w.heap.size + 1, j, none⟩ (.int .i64 (-1))) := hb.setCell (by simp) _
      have hbT1 : Blk (wr.setCell ⟨w.heap.size + 1, j, none⟩ (.int .i64 (-1))) w.heap.size 25 #[.slice A n c, .slice D m d, .int .i64 v] := Blk_far hbT (by simp) _
      have hT1 := h.mono hb1
      have hbx := isBox_any (c := c) (d := d) (v := v) j _ hT1 hm
      have hbe : (decide (0 ≤ (j : Int)) && boxN L (j : Int).toNat) = !decide (kindOf L j = 3) := by
        unfold boxN; rw [Int.toNat_natCast, decide_eq_true (show j < L.length by rw [HLN.out]; exact hlt), decide_eq_true (Int.natCast_nonneg j)]; rfl
      rw [hbe] at hbx
      by_cases hk : kindOf L j = 3
      · rw [decide_eq_true hk] at hbx
        have hv : ofAt L j = -1 := by unfold ofAt; rw [if_pos hk]
        rw [hv] at hz
        rw [hz] at hR1
        clear hz hbe hk hv
        have t0 := Blk_cell hbT 0
        have t1 := Blk_cell hbT 1
        have t2 := Blk_cell hbT 2
        go_wp2_with (go_at_call 23; refine hbx.mono ?_; rintro e w1 ⟨rfl, h1⟩)
        have hb2 := Below_same hb1 h1
        have hbT2 := Blk_below hbT1 h1 (Blk_lt hbT1)
        have hR2 := hR1.below h1
        go_roundw
        case rel => exact ⟨j + 1, by omega, by go_num, hR2, hb2, hbT2⟩
        case measure => simp [intOf]; omega
      · rw [decide_eq_false hk] at hbx
        have hv : ofAt L j = (island L j : Nat) := by unfold ofAt; rw [if_neg hk]
        rw [hv] at hz
        have HZ := Lib.hid hz
        have HHL := Lib.hid hhl
        clear hz hbe hk hv hhl
        have t0 := Blk_cell hbT 0
        have t1 := Blk_cell hbT 1
        have t2 := Blk_cell hbT 2
        have HI := Lib.hid (fun (w1 : World) (h1 : Below (wr.setCell ⟨w.heap.size + 1, j, none⟩ (.int .i64 (-1))).heap.size (wr.setCell ⟨w.heap.size + 1, j, none⟩ (.int .i64 (-1))) w1) => island_any (c := c) (d := d) (v := v) j w1 (hT1.mono h1) hf hlt)
        have HB := Lib.hid (fun (w2 : World) (h2 : Below w.heap.size w w2) (x : Int) => (h2.setCell (p := ⟨w.heap.size + 1, j, none⟩) (by simp) (.int .i64 x)))
        go_wp2_with (first
          | (go_at_call 23; refine hbx.mono ?_; rintro e w1 ⟨rfl, h1⟩; have hbT2 := Blk_below hbT1 h1 (Blk_lt hbT1); have u0 := Blk_cell hbT2 0; have u1 := Blk_cell hbT2 1; have u2 := Blk_cell hbT2 2)
          | (go_at_call 24; refine (HI.out _ h1).mono ?_; rintro e w2 ⟨rfl, h2⟩; have hR2 := (hR1.below h1).below h2; have cR2 := hR2.cell (i := j) (by rw [List.length_set, HHL.out]; exact hlt); have fR2 := Blk_frozen hR2 j))
        have hb2 := Below_same (Below_same hb1 h1) h2
        have hbT3 := Blk_below hbT2 h2 (Blk_lt hbT2)
        have hR3 := hR2.set j (island L j : Nat)
        rw [List.set_set, HZ.out] at hR3
        go_roundw
        case rel => exact ⟨j + 1, by omega, by go_num, hR3, HB.out _ hb2 _, Blk_far hbT3 (by simp) _⟩
        case measure => simp [intOf]; omega
    · have hjn : j = n := by omega
      have HE := Lib.hid (half_end (L := L) hjn)
      subst hjn
      go_wp2_with fail
      go_ret
      rw [HE.out] at hR
      exact ret_row hR (ofL_len _ _) hm hb (by omega)
set_option maxHeartbeats 1000000 in
theorem over_any (r : Int) (w : World) (h : Trd w A n D m L adv) (hf : Fine L) :
    Calls Try.prog 14 #[.agg #[.slice A n c, .slice D m d, .int .i64 v], .int .i64 r] w fun e w' => e = .returned (.int .i64 (overI L r)) ∧ Below w.heap.size w w' := by
  have hl := h.len
  have hsm := hf.small
  rw [hl] at hsm
  have hm : n ≤ maxLen := by unfold maxLen; omega
  have hb0 := (Below.refl w.heap.size w).alloc (Nat.le_refl _) (.cells #[.slice A n c, .slice D m d, .int .i64 v] 25)
  have hbT := Blk_new w 25 #[.slice A n c, .slice D m d, .int .i64 v]
  by_cases h0 : r ≤ 0
  · have HE := Lib.hid (show overI L r = -1 by unfold overI; rw [if_pos (.inl h0)])
    clear hl
    go_enter Try.func14, Try.ntmps14
    go_wp2_with fail
    go_ret
    exact ⟨by rw [HE.out]; rfl, hb0⟩
  have h0' : decide (r ≤ 0) = false := decide_eq_false h0
  have hbx := isBox_any (c := c) (d := d) (v := v) r _ (h.mono hb0) hm
  have hrt := fun (w1 : World) (h1 : Below w.heap.size w w1) => root_any (c := c) (d := d) (v := v) r w1 (h.mono h1) hm
  cases hr : rootB L r
  · have HE := Lib.hid (show overI L r = -1 by unfold overI; rw [if_pos (.inr hr)])
    rw [hr] at hrt
    have HRT := Lib.hid hrt
    obtain ⟨q, hq⟩ : ∃ q, (decide (0 ≤ r) && boxN L r.toNat) = q := ⟨_, rfl⟩
    rw [hq] at hbx
    clear hq hr h0 hl hrt
    cases q
    all_goals
      go_enter Try.func14, Try.ntmps14
      go_wp2_with (first
        | (go_at_call 23; refine hbx.mono ?_; rintro e w1 ⟨rfl, h1⟩; have hb1 := Below_same hb0 h1; have hbT2 := Blk_below hbT h1 (Blk_lt hbT); have u0 := Blk_cell hbT2 0; have u1 := Blk_cell hbT2 1; have u2 := Blk_cell hbT2 2)
        | (go_at_call 17; refine (HRT.out _ hb1).mono ?_; rintro e w2 ⟨rfl, h2⟩))
      go_ret
      exact ⟨by rw [HE.out]; rfl, by first | exact Below_same hb1 h2 | exact hb1⟩
  · obtain ⟨k, rfl⟩ : ∃ k : Nat, r = (k : Int) := ⟨r.toNat, by omega⟩
    have hrk := root_kind hr
    have hpp := hf.par hrk.1 (by omega)
    have hkn : k < n := by rw [hl] at hrk; exact hrk.1
    obtain ⟨p, hpe⟩ : ∃ p : Nat, parOf L k = (p : Int) := ⟨(parOf L k).toNat, by omega⟩
    have HE := Lib.hid (show overI L k = (island L p : Nat) by
      unfold overI; rw [if_neg (by rw [hr]; rintro (h | h); omega; cases h), Int.toNat_natCast, hpe, Int.toNat_natCast])
    have hbe : (decide (0 ≤ (k : Int)) && boxN L (k : Int).toNat) = true := by
      unfold boxN; rw [Int.toNat_natCast, decide_eq_true hrk.1, decide_eq_false hrk.2, decide_eq_true (Int.natCast_nonneg k)]; rfl
    rw [hbe] at hbx
    rw [hr] at hrt
    have hpk : p < k := by omega
    obtain ⟨b, off, rfl, hB, hc⟩ := h.at_ (by omega)
    have cp : w.cell? ⟨b, off + k * 44, none⟩ = some (.int .i64 (parOf L k)) := hc k hkn 0 (by omega)
    rw [hpe] at cp
    have his := fun (w1 : World) (h1 : Below w.heap.size w w1) => island_any (c := c) (d := d) (v := v) p w1 (h.mono h1) hf (by omega)
    have HRT := Lib.hid hrt
    have HIS := Lib.hid his
    have hk0 : 0 ≤ (k : Int) := Int.natCast_nonneg k
    clear hbe hr h0 hl hrt his hpe hpp hrk hc
    go_enter Try.func14, Try.ntmps14
    go_wp2_with (first
        | (go_at_call 23; refine hbx.mono ?_; rintro e w1 ⟨rfl, h1⟩; have hb1 := Below_same hb0 h1; have hbT2 := Blk_below hbT h1 (Blk_lt hbT); have u0 := Blk_cell hbT2 0; have u1 := Blk_cell hbT2 1; have u2 := Blk_cell hbT2 2)
        | (go_at_call 17; refine (HRT.out _ hb1).mono ?_; rintro e w2 ⟨rfl, h2⟩; have hb2 := Below_same hb1 h2; have hbT3 := Blk_below hbT2 h2 (Blk_lt hbT2); have x0 := Blk_cell hbT3 0; have x1 := Blk_cell hbT3 1; have x2 := Blk_cell hbT3 2; have cp3 := (hb2.cell (cell_lt cp)).trans cp))
    have y0 := fun z : Up w2 => up_cell z x0
    have y1 := fun z : Up w2 => up_cell z x1
    have y2 := fun z : Up w2 => up_cell z x2
    have y3 := fun z : Up w2 => up_cell z cp3
    refine wp_region_up (by kernel_rfl) (by kernel_rfl) ?_
    repeat (go_big_quiet_step ((go_at_call 24; (with_reducible refine up_call (HIS.out _ (Below_same hb2 (Up.ok _)))))))
    refine wpQuiet_nil ?_
    intro w' hup
    go_wp2_with fail
    go_ret
    exact ⟨by rw [HE.out]; rfl, Below_same hb2 hup⟩
end
end Go.Proofs.Ytlfjbkmdehpahaa
