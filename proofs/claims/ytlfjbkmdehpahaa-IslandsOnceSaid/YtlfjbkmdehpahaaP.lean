/-
  IslandsPlays. No condition.
-/
import Derived.Test.YtlfjbkmdehpahaaWk
set_option linter.unusedVariables false
set_option linter.unusedSimpArgs false
namespace Go.Proofs.Ytlfjbkmdehpahaa
open Go.RowKit Go.BigFrame

theorem inside_len {L : List Nd} {r : Int} {n : Nat} (h : n ≤ maxLen) (hl : L.length = n) : ((insideI L r).map Int.ofNat).length ≤ maxLen := by
  rw [List.length_map]
  unfold insideI inL
  split
  · exact Nat.zero_le _
  · exact Nat.le_trans (List.length_filter_le _ _) (by rw [List.length_range']; omega)
section
variable {A D : Option Addr} {n c m d : Nat} {v : Int} {L : List Nd} {adv : List Int}
set_option maxRecDepth 100000 in
set_option maxHeartbeats 4000000 in
theorem plays_any (more : Int) (w : World) (h : Trd w A n D m L adv) (hwf : TrWf n c m d L adv v) :
    Calls Try.prog 3 #[.agg #[.slice A n c, .slice D m d, .int .i64 v], .int .i64 more] w fun e w' => e = .returned (.bool true) ∧ Below w.heap.size w w' := by
  have hbT := Blk_new w 25 #[.slice A n c, .slice D m d, .int .i64 v]
  have hb0 := (Below.refl w.heap.size w).alloc (Nat.le_refl _) (.cells #[.slice A n c, .slice D m d, .int .i64 v] 25)
  have hsc := small_any (c := c) (d := d) (v := v) _ (h.mono hb0) hwf
  go_enter Try.func3, Try.ntmps3
  go_wp2_with fail
  refine hsc.mono ?_
  rintro e w1 ⟨b, rfl, hsb, h1⟩
  have hb1 := Below_same hb0 h1
  have hbT1 := Blk_below hbT h1 (Blk_lt hbT)
  clear hbT hb0 h1 hsc
  cases b
  · clear hsb
    go_wp2_with (go_at_call 7; refine (works_any _).mono ?_; rintro e w9 ⟨rfl, h9⟩)
    go_ret
    exact ⟨rfl, Below_same hb1 h9⟩
  obtain ⟨hf, hl3⟩ := hsb rfl
  have hl := h.len
  have hn3 : n ≤ 300 := by omega
  have hn6 : n ≤ 65536 := by omega
  clear hsb hl3
  have hS : ∀ w', Below w1.heap.size w1 w' → Below w1.heap.size w1 w' ∧ w'.cell? ⟨w.heap.size, 0, none⟩ = some (.slice A n c) ∧ w'.cell? ⟨w.heap.size, 1, none⟩ = some (.slice D m d) ∧ w'.cell? ⟨w.heap.size, 2, none⟩ = some (.int .i64 v) :=
    fun w' h => ⟨h, Blk_cell (Blk_below hbT1 h (Blk_lt hbT1)) 0, Blk_cell (Blk_below hbT1 h (Blk_lt hbT1)) 1, Blk_cell (Blk_below hbT1 h (Blk_lt hbT1)) 2⟩
  have HH := Lib.hid hS
  have HT := Lib.hid (fun (w' : World) (hw : Below w1.heap.size w1 w') => h.mono (Below_same hb1 hw))
  have hsmr : ((rootsL L n).map Int.ofNat).length ≤ maxLen := by
    rw [List.length_map]; unfold rootsL maxLen
    exact Nat.le_trans (List.length_filter_le _ _) (by rw [List.length_range]; omega)
  have hsmo : n ≤ maxLen := by unfold maxLen; omega
  have HNO := Lib.hid (ofL_len L n)
  obtain ⟨nr, hnr⟩ : ∃ k, ((rootsL L n).map Int.ofNat).length = k := ⟨_, rfl⟩
  rw [hnr] at hsmr
  have HNR := Lib.hid hnr
  clear hnr
  have HLN := Lib.hid hl
  clear hS hl
  go_wp2_with fail
  go_region_held3 (fun w' => Below w1.heap.size w1 w' ∧ w'.cell? ⟨w.heap.size, 0, none⟩ = some (.slice A n c) ∧ w'.cell? ⟨w.heap.size, 1, none⟩ = some (.slice D m d) ∧ w'.cell? ⟨w.heap.size, 2, none⟩ = some (.int .i64 v))
    ((first
      | (with_reducible assumption)
      | exact (HH).out _ (Below.refl _ _).drew
      | exact (HH).out _ (Below_same hh hw)
      | exact (HH).out _ ((‹Below _ _ _ ∧ _›).1.alloc (‹Below _ _ _ ∧ _›).1.size _)))
    (first
      | (go_at_call 9; have hh := (‹Below _ _ _ ∧ _›).1; (with_reducible refine (iroots_any (c := c) (d := d) (v := v) _ (HT.out _ hh) hn6).mono ?_); intro e w' hret; obtain ⟨Z, zc, rfl, hzn, hzm, I1, hzf, hw⟩ := hret.out (HNR).out; clear hret hzf; (try have I1 := I1.mono hw); (try have J1 := J1.mono hw); (try have I2 := I2.mono hw); (try have J2 := J2.mono hw))
      | (go_at_call 10; have hh := (‹Below _ _ _ ∧ _›).1; (with_reducible refine (roots_any (c := c) (d := d) (v := v) _ (HT.out _ hh) hn6).mono ?_); intro e w' hret; obtain ⟨Z, zc, rfl, hzn, hzm, J1, hzf, hw⟩ := hret.out (HNR).out; clear hret hzf; (try have I1 := I1.mono hw); (try have J1 := J1.mono hw); (try have I2 := I2.mono hw); (try have J2 := J2.mono hw))
      | (go_at_call 11; have hh := (‹Below _ _ _ ∧ _›).1; (with_reducible refine (iof_any (c := c) (d := d) (v := v) _ (HT.out _ hh) hf).mono ?_); intro e w' hret; obtain ⟨Z, zc, rfl, hzn, hzm, I2, hzf, hw⟩ := hret.out (HNO).out; clear hret hzf; (try have I1 := I1.mono hw); (try have J1 := J1.mono hw); (try have I2 := I2.mono hw); (try have J2 := J2.mono hw))
      | (go_at_call 12; have hh := (‹Below _ _ _ ∧ _›).1; (with_reducible refine (of_any (c := c) (d := d) (v := v) _ (HT.out _ hh) hf).mono ?_); intro e w' hret; obtain ⟨Z, zc, rfl, hzn, hzm, J2, hzf, hw⟩ := hret.out (HNO).out; clear hret hzf; (try have I1 := I1.mono hw); (try have J1 := J1.mono hw); (try have I2 := I2.mono hw); (try have J2 := J2.mono hw))
      | (go_at_call 8; have hh := (‹Below _ _ _ ∧ _›).1; (with_reducible refine (same_any _ _ _ _ _ _ _ _ _ I1 J1 (by assumption) (by assumption)).mono ?_); rintro e w' ⟨hes, hw⟩; rw [decide_eq_true rfl] at hes; subst hes; (try have I1 := I1.mono hw); (try have J1 := J1.mono hw); (try have I2 := I2.mono hw); (try have J2 := J2.mono hw))
      | (go_at_call 8; have hh := (‹Below _ _ _ ∧ _›).1; (with_reducible refine (same_any _ _ _ _ _ _ _ _ _ I2 J2 (by assumption) (by assumption)).mono ?_); rintro e w' ⟨hes, hw⟩; rw [decide_eq_true rfl] at hes; subst hes; (try have I1 := I1.mono hw); (try have J1 := J1.mono hw); (try have I2 := I2.mono hw); (try have J2 := J2.mono hw)))
  have hb3 := (‹Below w1.heap.size w1 _ ∧ _›).1
  clear I1 J1 I2 J2
  go_wp2_with fail
  go_loopw [5, 24, 25, 26, 27, 28, 29, 30, 31, 32, 33, 34, 35, 36, 37, 38, 39, 40, 41, 42, 43, 44, 45, 46, 47, 48, 49, 50, 51, 52, 53] (fun i _ _ _ _ _ _ _ _ _ _ _ _ _ _ _ _ _ _ _ _ _ _ _ _ _ _ _ _ _ _ wr => ∃ (j : Nat) (r : Int), j ≤ n + 2 ∧ r = (j : Int) - 1 ∧ i = .int .i64 r ∧ Below w1.heap.size w1 wr) (fun i _ _ _ _ _ _ _ _ _ _ _ _ _ _ _ _ _ _ _ _ _ _ _ _ _ _ _ _ _ _ _ => n + 2 - (intOf i + 1).toNat)
  case atStart => exact ⟨0, -1, by omega, by omega, rfl, hb3⟩
  case round =>
    clear hb3
    obtain ⟨j, r, hj, hr, rfl, hb⟩ := hrel
    have HJ := Lib.hid hr
    have hr0 : -1 ≤ r := by omega
    have hsmi : ((insideI L r).map Int.ofNat).length ≤ maxLen := inside_len hsmo HLN.out
    obtain ⟨t0', t0, t1, t2⟩ := HH.out wr hb
    have HH2 := Lib.hid (fun (w' : World) (h : Below wr.heap.size wr w') => (⟨h, (HH.out w' (Below_same hb h)).2⟩ : Below wr.heap.size wr w' ∧ _))
    have HT2 := Lib.hid (fun (w' : World) (hw : Below wr.heap.size wr w') => HT.out w' (Below_same hb hw))
    have HN5 := Lib.hid (rfl : ((insideI L r).map Int.ofNat).length = ((insideI L r).map Int.ofNat).length)
    obtain ⟨ni, hni⟩ : ∃ k, ((insideI L r).map Int.ofNat).length = k := ⟨_, rfl⟩
    rw [hni] at hsmi
    have HNI := Lib.hid hni
    clear hni t0' HN5
    by_cases hlt : j < n + 2
    · have hrn : r ≤ n := by omega
      clear hr
      by_cases h60 : n ≤ 60
      · have h60' : (n : Int) ≤ 60 := by omega
        go_wp2_with fail
        go_region_held3 (fun w' => Below wr.heap.size wr w' ∧ w'.cell? ⟨w.heap.size, 0, none⟩ = some (.slice A n c) ∧ w'.cell? ⟨w.heap.size, 1, none⟩ = some (.slice D m d) ∧ w'.cell? ⟨w.heap.size, 2, none⟩ = some (.int .i64 v))
          ((first
            | (with_reducible assumption)
            | exact (HH2).out _ (Below.refl _ _).drew
            | exact (HH2).out _ (Below_same hh hw)
            | exact (HH2).out _ ((‹Below _ _ _ ∧ _›).1.alloc (‹Below _ _ _ ∧ _›).1.size _)))
          (first
            | (go_at_call 13; have hh := (‹Below _ _ _ ∧ _›).1; (with_reducible refine (iover_any (c := c) (d := d) (v := v) r _ (HT2.out _ hh) hf).mono ?_); rintro e w' ⟨rfl, hw⟩; (try have I1 := I1.mono hw); (try have J1 := J1.mono hw); (try have I2 := I2.mono hw); (try have J2 := J2.mono hw))
            | (go_at_call 14; have hh := (‹Below _ _ _ ∧ _›).1; (with_reducible refine (over_any (c := c) (d := d) (v := v) r _ (HT2.out _ hh) hf).mono ?_); rintro e w' ⟨rfl, hw⟩; (try have I1 := I1.mono hw); (try have J1 := J1.mono hw); (try have I2 := I2.mono hw); (try have J2 := J2.mono hw))
            | (go_at_call 15; have hh := (‹Below _ _ _ ∧ _›).1; (with_reducible refine (iinside_any (c := c) (d := d) (v := v) r _ (HT2.out _ hh) hf).mono ?_); intro e w' hret; obtain ⟨Z, zc, rfl, hzn, hzm, I1, hzf, hw⟩ := hret.out (HNI).out; clear hret hzf; (try have I1 := I1.mono hw); (try have J1 := J1.mono hw); (try have I2 := I2.mono hw); (try have J2 := J2.mono hw))
            | (go_at_call 16; have hh := (‹Below _ _ _ ∧ _›).1; (with_reducible refine (inside_any (c := c) (d := d) (v := v) r _ (HT2.out _ hh) hf).mono ?_); intro e w' hret; obtain ⟨Z, zc, rfl, hzn, hzm, J1, hzf, hw⟩ := hret.out (HNI).out; clear hret hzf; (try have I1 := I1.mono hw); (try have J1 := J1.mono hw); (try have I2 := I2.mono hw); (try have J2 := J2.mono hw))
            | (go_at_call 8; have hh := (‹Below _ _ _ ∧ _›).1; (with_reducible refine (same_any _ _ _ _ _ _ _ _ _ I1 J1 (by assumption) (by assumption)).mono ?_); rintro e w' ⟨hes, hw⟩; rw [decide_eq_true rfl] at hes; subst hes; (try have I1 := I1.mono hw); (try have J1 := J1.mono hw); (try have I2 := I2.mono hw); (try have J2 := J2.mono hw)))
        have hb4 := Below_same hb (‹Below wr.heap.size wr _ ∧ _›).1
        clear I1 J1
        go_wp2_with fail
        go_roundw
        case rel => exact ⟨j + 1, r + 1, by omega, by have := HJ.out; omega, by go_num, hb4⟩
        case measure => have := HJ.out; simp [intOf]; omega
      · have h60' : decide ((n : Int) ≤ 60) = false := decide_eq_false (by omega)
        have y0 := fun z : Up wr => up_cell z t0
        have y1 := fun z : Up wr => up_cell z t1
        have y2 := fun z : Up wr => up_cell z t2
        go_wp2_with fail
        refine wp_region_up (by kernel_rfl) (by kernel_rfl) ?_
        repeat (go_big_quiet_step ((first
                  | (go_at_call 13; (with_reducible refine up_call (iover_any (c := c) (d := d) (v := v) r _ (HT2.out _ (Up.ok _)) hf)))
                  | (go_at_call 14; (with_reducible refine up_call (over_any (c := c) (d := d) (v := v) r _ (HT2.out _ (Up.ok _)) hf))))))
        refine wpQuiet_nil ?_
        intro w' hup
        have hb4 := Below_same hb hup
        go_wp2_with fail
        go_roundw
        case rel => exact ⟨j + 1, r + 1, by omega, by have := HJ.out; omega, by go_num, hb4⟩
        case measure => have := HJ.out; simp [intOf]; omega
    · have hrn : ¬ r ≤ n := by omega
      have hsmm : ((insideI L more).map Int.ofNat).length ≤ maxLen := inside_len hsmo HLN.out
      obtain ⟨nm, hnm⟩ : ∃ k, ((insideI L more).map Int.ofNat).length = k := ⟨_, rfl⟩
      rw [hnm] at hsmm
      have HNM := Lib.hid hnm
      clear hr hnm
      go_wp2_with fail
      go_region_held3 (fun w' => Below wr.heap.size wr w' ∧ w'.cell? ⟨w.heap.size, 0, none⟩ = some (.slice A n c) ∧ w'.cell? ⟨w.heap.size, 1, none⟩ = some (.slice D m d) ∧ w'.cell? ⟨w.heap.size, 2, none⟩ = some (.int .i64 v))
          ((first
            | (with_reducible assumption)
            | exact (HH2).out _ (Below.refl _ _).drew
            | exact (HH2).out _ (Below_same hh hw)
            | exact (HH2).out _ ((‹Below _ _ _ ∧ _›).1.alloc (‹Below _ _ _ ∧ _›).1.size _)))
          (first
            | (go_at_call 13; have hh := (‹Below _ _ _ ∧ _›).1; (with_reducible refine (iover_any (c := c) (d := d) (v := v) more _ (HT2.out _ hh) hf).mono ?_); rintro e w' ⟨rfl, hw⟩; (try have I1 := I1.mono hw); (try have J1 := J1.mono hw); (try have I2 := I2.mono hw); (try have J2 := J2.mono hw))
            | (go_at_call 14; have hh := (‹Below _ _ _ ∧ _›).1; (with_reducible refine (over_any (c := c) (d := d) (v := v) more _ (HT2.out _ hh) hf).mono ?_); rintro e w' ⟨rfl, hw⟩; (try have I1 := I1.mono hw); (try have J1 := J1.mono hw); (try have I2 := I2.mono hw); (try have J2 := J2.mono hw))
            | (go_at_call 15; have hh := (‹Below _ _ _ ∧ _›).1; (with_reducible refine (iinside_any (c := c) (d := d) (v := v) more _ (HT2.out _ hh) hf).mono ?_); intro e w' hret; obtain ⟨Z, zc, rfl, hzn, hzm, I1, hzf, hw⟩ := hret.out (HNM).out; clear hret hzf; (try have I1 := I1.mono hw); (try have J1 := J1.mono hw); (try have I2 := I2.mono hw); (try have J2 := J2.mono hw))
            | (go_at_call 16; have hh := (‹Below _ _ _ ∧ _›).1; (with_reducible refine (inside_any (c := c) (d := d) (v := v) more _ (HT2.out _ hh) hf).mono ?_); intro e w' hret; obtain ⟨Z, zc, rfl, hzn, hzm, J1, hzf, hw⟩ := hret.out (HNM).out; clear hret hzf; (try have I1 := I1.mono hw); (try have J1 := J1.mono hw); (try have I2 := I2.mono hw); (try have J2 := J2.mono hw))
            | (go_at_call 8; have hh := (‹Below _ _ _ ∧ _›).1; (with_reducible refine (same_any _ _ _ _ _ _ _ _ _ I1 J1 (by assumption) (by assumption)).mono ?_); rintro e w' ⟨hes, hw⟩; rw [decide_eq_true rfl] at hes; subst hes; (try have I1 := I1.mono hw); (try have J1 := J1.mono hw); (try have I2 := I2.mono hw); (try have J2 := J2.mono hw))
            | (go_at_call 7; have hh := (‹Below _ _ _ ∧ _›).1; (with_reducible refine (works_any _).mono ?_); rintro e w' ⟨rfl, hw⟩; (try have I1 := I1.mono hw); (try have J1 := J1.mono hw); (try have I2 := I2.mono hw); (try have J2 := J2.mono hw)))
      have hb4 := Below_same hb (‹Below wr.heap.size wr _ ∧ _›).1
      go_wp2_with fail
      go_ret
      exact ⟨rfl, Below_same hb1 hb4⟩
end
end Go.Proofs.Ytlfjbkmdehpahaa
