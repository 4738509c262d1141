/-
  What the laws call: the same numbers; a small tree; the chapter's tree. No condition.
-/
import Derived.Test.YtlfjbkmdehpahaaIf
import Derived.Test.YtlfjbkmdehpahaaIr3
import Derived.Test.YtlfjbkmdehpahaaCom11
set_option linter.unusedVariables false
set_option linter.unusedSimpArgs false
namespace Go.Proofs.Ytlfjbkmdehpahaa
open Go.RowKit Go.BigFrame

theorem take_next {l m : List Int} {j n : Nat} (h1 : l.length = n) (h2 : m.length = n) (hj : j < n) (ht : l.take j = m.take j) (hx : l.getD j 0 = m.getD j 0) : l.take (j + 1) = m.take (j + 1) := by
  rw [List.take_succ_eq_append_getElem (by omega), List.take_succ_eq_append_getElem (by omega), ht]
  have e1 : l[j]'(by omega) = m[j]'(by omega) := by simpa [List.getD, h1, h2, hj] using hx
  rw [e1]
set_option maxHeartbeats 1000000 in
theorem same_any (l m : List Int) (A D : Option Addr) (n k c d : Nat) (w : World) (hI : Ints .i64 w A n l) (hJ : Ints .i64 w D k m) (hn : n ≤ maxLen) (hm : k ≤ maxLen) :
    Calls Try.prog 8 #[.slice A n c, .slice D k d] w fun e w' => e = .returned (.bool (decide (l = m))) ∧ Below w.heap.size w w' := by
  unfold maxLen at hn hm
  have h1 := hI.len_eq
  have h2 := hJ.len_eq
  by_cases hne : n = k
  rotate_left
  · have HD := Lib.hid (show decide (l = m) = false from decide_eq_false fun h => by rw [h] at h1; omega)
    have hne' : ((n : Int) != (k : Int)) = true := by simp; omega
    clear h1 h2
    go_enter Try.func8, Try.ntmps8
    go_wp2_with fail
    go_ret
    exact ⟨bool_eq HD.out.symm, by (repeat' (first | (with_reducible exact Below.refl _ _) | (with_reducible assumption) | (with_reducible refine Below.alloc ?_ ?_ _) | (with_reducible refine Below.drew ?_) | (with_reducible refine Below_drewN ?_ _) | (with_reducible refine Below.setCell ?_ ?_ _) | go_size))⟩
  subst hne
  have H1 := Lib.hid h1
  have H2 := Lib.hid h2
  clear h1 h2
  go_enter Try.func8, Try.ntmps8
  go_wp2_with fail
  go_loopw [5, 11, 12, 13, 14, 15, 16, 17, 18, 19, 20, 21, 22, 23, 24, 25] (fun i _ _ _ _ _ _ _ _ _ _ _ _ _ _ _ wr => ∃ j : Nat, j ≤ n ∧ i = .int .i64 j ∧ Below w.heap.size w wr ∧ l.take j = m.take j) (fun i _ _ _ _ _ _ _ _ _ _ _ _ _ _ _ _ => n - (intOf i).toNat)
  case atStart => exact ⟨0, by omega, rfl, Below.refl _ _, rfl⟩
  case round =>
    obtain ⟨j, hj, rfl, hb, htk⟩ := hrel
    have HT := Lib.hid htk
    clear htk
    by_cases hlt : j < n
    · obtain ⟨b, off, rfl, hB, hc⟩ := hI.at_ (by omega)
      obtain ⟨b', off', rfl, hB', hc'⟩ := hJ.at_ (by omega)
      have cx := (hb.cell (p := ⟨b, off + j, none⟩) hB).trans (hc j hlt)
      have cy := (hb.cell (p := ⟨b', off' + j, none⟩) hB').trans (hc' j hlt)
      have HN := Lib.hid (fun h => take_next H1.out H2.out hlt HT.out h)
      have HNE := Lib.hid (fun (h : ¬ l.getD j 0 = m.getD j 0) => (decide_eq_false (fun e => h (by rw [e])) : decide (l = m) = false))
      generalize l.getD j 0 = x at cx HN HNE
      generalize m.getD j 0 = y at cy HN HNE
      have ux := fun z : Up wr => up_cell z cx
      have uy := fun z : Up wr => up_cell z cy
      clear hc hc'
      by_cases hxy : x = y
      · have HS := Lib.hid (HN.out hxy)
        have e1 : (x != y) = false := by simpa using hxy
        clear hxy
        go_wp2_with fail
        refine wp_region_up (by kernel_rfl) (by kernel_rfl) ?_
        repeat (go_big_quiet_step (fail))
        refine wpQuiet_nil ?_
        intro w' hup
        go_wp2_with fail
        go_round
        case rel => exact ⟨j + 1, by omega, by go_num, Below_same hb hup, HS.out⟩
        case measure => simp [intOf]; omega
      · have HS := Lib.hid (HNE.out hxy)
        have e1 : (x != y) = true := by simpa using hxy
        clear hxy
        go_wp2_with fail
        refine wp_region_up (by kernel_rfl) (by kernel_rfl) ?_
        repeat (go_big_quiet_step (fail))
        refine wpQuiet_nil ?_
        intro w' hup
        go_wp2_with fail
        go_ret
        exact ⟨bool_eq HS.out.symm, Below_same hb hup⟩
    · have hjn : j = n := by omega
      have HD := Lib.hid (show decide (l = m) = true from decide_eq_true (by
        have := HT.out
        rw [hjn, List.take_of_length_le (by rw [H1.out]; exact Nat.le_refl _), List.take_of_length_le (by rw [H2.out]; exact Nat.le_refl _)] at this
        exact this))
      clear hjn
      go_wp2_with fail
      go_ret
      exact ⟨bool_eq HD.out.symm, hb⟩
section
variable {A D : Option Addr} {n c m d : Nat} {v : Int} {L : List Nd} {adv : List Int}
/-- A small tree that may be. -/
def SmallPost (L : List Nd) (w : World) (e : Ending) (w' : World) : Prop := ∃ b : Bool, e = .returned (.bool b) ∧ (b = true → Fine L ∧ L.length ≤ 300) ∧ Below w.heap.size w w'
set_option maxHeartbeats 1000000 in
theorem small_any (w : World) (h : Trd w A n D m L adv) (hwf : TrWf n c m d L adv v) :
    Calls Try.prog 6 #[.agg #[.slice A n c, .slice D m d, .int .i64 v]] w (SmallPost L w) := by
  have hm : n ≤ maxLen := Nat.le_trans hwf.nc hwf.cmax
  have hn' := hm
  unfold maxLen at hn'
  have hl := h.len
  have hb0 := (Below.refl w.heap.size w).alloc (Nat.le_refl _) (.cells #[.slice A n c, .slice D m d, .int .i64 v] 25)
  have hbT := Blk_new w 25 #[.slice A n c, .slice D m d, .int .i64 v]
  by_cases hbig : 300 < n
  · have hbig' : 300 < (n : Int) := by omega
    clear hl
    go_enter Try.func6, Try.ntmps6
    go_wp2_with fail
    go_ret
    exact ⟨false, rfl, (fun h => by cases h), hb0⟩
  have hsm : (n : Int) ≤ 300 := by omega
  have HLN := Lib.hid hl
  clear hl
  go_enter Try.func6, Try.ntmps6
  go_wp2_with fail
  go_loop [3, 4, 11, 12, 13, 14, 15, 16, 17, 18, 19, 20, 21, 22, 23, 24, 25, 26, 27, 28, 29, 30, 31, 32] (fun u k _ _ _ _ _ _ _ _ _ _ _ _ _ _ _ _ _ _ _ _ _ _ => ∃ (j x : Nat), j ≤ n ∧ x ≤ 9000 ∧ k = .int .i64 j ∧ u = .int .i64 x) (fun _ k _ _ _ _ _ _ _ _ _ _ _ _ _ _ _ _ _ _ _ _ _ _ => n - (intOf k).toNat)
  case atStart => exact ⟨0, 0, by omega, by omega, rfl, rfl⟩
  case round =>
    obtain ⟨j, x, hj, hx, rfl, rfl⟩ := hrel
    by_cases hgo : j < n ∧ x ≤ 4000
    · obtain ⟨hlt, hx4⟩ := hgo
      have hx4' : (x : Int) ≤ 4000 := by omega
      obtain ⟨b, off, rfl, hB, hc⟩ := h.at_ (by omega)
      have hul := hwf.ulen j hlt
      have cu : w.cell? ⟨b, off + j * 44 + 43, none⟩ = some (.slice (L.getD j nd0).st.uA (L.getD j nd0).st.units.length (L.getD j nd0).st.uc) := by rw [Nat.add_assoc]; exact hc j hlt 43 (by omega)
      unfold maxLen at hul
      generalize (L.getD j nd0).st.units.length = q at cu hul
      have hq : (q : Int) ≤ 9223372036854775807 := by omega
      clear hc
      by_cases hq5 : q ≤ 5000
      · have h5 : min (q : Int) 5000 = q := by omega
        go_wp2_with fail
        go_round
        case rel => exact ⟨j + 1, x + q, by omega, by omega, by go_num, by go_num⟩
        case measure => simp [intOf]; omega
      · have h5 : min (q : Int) 5000 = 5000 := by omega
        go_wp2_with fail
        go_round
        case rel => exact ⟨j + 1, x + 5000, by omega, by omega, by go_num, by go_num⟩
        case measure => simp [intOf]; omega
    · by_cases hx4 : 4000 < x
      · have hx4' : 4000 < (x : Int) := by omega
        by_cases hlt : j < n
        · have hx5 : decide ((x : Int) ≤ 4000) = false := decide_eq_false (by omega)
          have hlt' : (j : Int) < n := by omega
          clear hgo
          go_wp2_with fail
          go_ret
          exact ⟨false, rfl, (fun h => by cases h), hb0⟩
        · have hge : ¬ (j : Int) < n := by omega
          clear hgo
          go_wp2_with fail
          go_ret
          exact ⟨false, rfl, (fun h => by cases h), hb0⟩
      · have hx4' : (x : Int) ≤ 4000 := by omega
        have hge : ¬ (j : Int) < n := by omega
        have hcc := check_any (v := v) _ (h.mono hb0) hwf
        have hfin := fine_of (L := L) (adv := adv) (v := v)
        obtain ⟨r, hr⟩ : ∃ r, check L adv v = r := ⟨_, rfl⟩
        rw [hr] at hcc hfin
        have HF := Lib.hid hfin
        clear hfin hr hgo
        obtain ⟨r1, r2⟩ := r
        dsimp only at hcc
        go_wp2_with (go_at_call 18; refine hcc.mono ?_; rintro e w1 ⟨rfl, h1⟩)
        go_ret
        refine ⟨_, rfl, fun hb => ⟨HF.out (by simpa using hb), by rw [HLN.out]; omega⟩, Below_same hb0 h1⟩
end
end Go.Proofs.Ytlfjbkmdehpahaa
