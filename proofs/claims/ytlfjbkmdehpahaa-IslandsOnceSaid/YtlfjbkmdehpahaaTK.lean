/-
  The program's trees: which box is a root, parents, children (tree.Root, parents, Kids). No condition.
-/
import Derived.Test.YtlfjbkmdehpahaaTRt
import Derived.Test.YtlfjbkmdehpahaaTI
set_option linter.unusedVariables false
set_option linter.unusedSimpArgs false
namespace Go.Proofs.Ytlfjbkmdehpahaa
open Go.RowKit Go.BigFrame

section
variable {A D : Option Addr} {n c m d : Nat} {v : Int} {L : List Nd} {adv : List Int}
set_option maxRecDepth 100000 in
set_option maxHeartbeats 4000000 in
theorem troot_any (i : Int) (w : World) (h : Trd w A n D m L adv) (hn : n ≤ maxLen) :
    Calls Try.prog 20 #[.agg #[.slice A n c, .slice D m d, .int .i64 v], .int .i64 i] w fun e w' => e = .returned (.bool (rootB L i)) ∧ Below w.heap.size w w' := by
  have hl := h.len
  have hn' := hn
  unfold maxLen at hn'
  have hb0 := (Below.refl w.heap.size w).alloc (Nat.le_refl _) (.cells #[.slice A n c, .slice D m d, .int .i64 v] 25)
  by_cases q1 : i < 0 ∨ (n : Int) ≤ i
  · have HE := Lib.hid (root_out (L := L) (i := i) (by omega))
    clear hl
    rcases (show i < 0 ∨ 0 ≤ i ∧ (n : Int) ≤ i by omega) with g1 | ⟨g1, g2⟩
    all_goals
      clear q1
      go_enter Try.func20, Try.ntmps20
      go_wp2_with fail
      go_ret
      exact ⟨bool_eq HE.out.symm, hb0⟩
  obtain ⟨k, rfl⟩ : ∃ k : Nat, i = (k : Int) := ⟨i.toNat, by omega⟩
  have hk : k < n := by omega
  have hk0 : 0 ≤ (k : Int) := by omega
  obtain ⟨b, off, rfl, hB, hc⟩ := h.at_ (by omega)
  have hr := fun (w' : World) (hb : Below w.heap.size w w') => h.range hb hk rfl
  have hpar : ∀ p, par L k = some p → w.cell? ⟨b, off + p * 44 + 1, none⟩ = some (.int .u8 (kindOf L p)) := fun p hp => by
    have := par_lt hp
    rw [Nat.add_assoc]
    exact hc p (by omega) 1 (by omega)
  have hT := Lib.hid (fun h => root_text (L := L) (i := k) h)
  have hI := Lib.hid (fun h => root_in (L := L) (i := k) (by omega) h)
  have hpd : par L k = if 0 ≤ parOf L k ∧ parOf L k < k then some (parOf L k).toNat else none := rfl
  have HPD := Lib.hid hpd
  unfold kindOf at hT
  unfold kindOf at hI
  unfold parOf at HPD
  unfold kindOf at hpar
  obtain ⟨x, hx⟩ : ∃ x, L.getD k nd0 = x := ⟨_, rfl⟩
  rw [hx] at hr hT hI HPD
  have HR := Lib.hid hr
  have hN := Blk_new (w.alloc (.cells #[.slice (some ⟨b, off, none⟩) n c, .slice D m d, .int .i64 v] 25)) 42 (ncells x).toArray
  rw [World.size_alloc] at hN
  have hbT := Blk_alloc (Blk_new w 25 #[.slice (some ⟨b, off, none⟩) n c, .slice D m d, .int .i64 v]) (.cells (ncells x).toArray 42)
  have hb1 := hb0.alloc (by simp) (.cells (ncells x).toArray 42)
  have n0 := Nd_cell (j := 0) (v := .int .i64 x.parent) hN rfl
  have n1 := Nd_cell (j := 1) (v := .int .u8 x.st.kind) hN rfl
  have n2 := Nd_cell (j := 2) (v := .bool x.st.flow) hN rfl
  have n3 := Nd_cell (j := 3) (v := .int .u8 x.st.float) hN rfl
  have t0 := Blk_cell hbT 0
  have HPAR := Lib.hid hpar
  clear hc q1 hr hx hl hpd hpar
  go_enter Try.func20, Try.ntmps20
  go_upto_region 4 with (first
    | ((with_reducible refine at_op ⟨some 19, _, _, _, _, _⟩ ?_); refine wpList_load_mid rfl 42 (.tmp 18) rfl _ _ rfl (ncells x) _ (HR.out _ (by (repeat' (first | (with_reducible exact Below.refl _ _) | (with_reducible assumption) | (with_reducible refine Below.alloc ?_ ?_ _) | (with_reducible refine Below.drew ?_) | (with_reducible refine Below_drewN ?_ _) | (with_reducible refine Below.setCell ?_ ?_ _) | go_size)))) Try.underlying42 rfl info_nd ?_)
    | ((with_reducible refine at_op ⟨none, .store 42 (.tmp 5) (.tmp 19), _, _, _, _⟩ ?_); refine wpList_store_new rfl 42 (.tmp 5) (.tmp 19) rfl _ ?_ _ (ncells x).toArray rfl rfl info_nd rfl (one_nd x) ?_; · (simp; done)))
  by_cases q3 : x.st.kind = 3
  · have HE := Lib.hid (hT.out q3)
    rw [q3] at n1
    clear q3
    go_wp2_with fail
    go_ret
    exact ⟨bool_eq HE.out.symm, hb1⟩
  have HE := Lib.hid (hI.out q3)
  have k3 : (x.st.kind == 3) = false := by simpa using q3
  clear q3
  by_cases hp : 0 ≤ x.parent ∧ x.parent < k
  · obtain ⟨p, hpe⟩ : ∃ p : Nat, x.parent = (p : Int) := ⟨x.parent.toNat, by omega⟩
    have hpp : par L k = some p := by rw [HPD.out, if_pos hp, hpe, Int.toNat_natCast]
    have cp := HPAR.out p hpp
    have cpb := (hb1.cell (cell_lt cp)).trans cp
    have hpn : p < n := by have := par_lt hpp; omega
    have hpk : p < k := by omega
    rw [hpp] at HE
    dsimp only at HE
    obtain ⟨kp, hkp⟩ : ∃ q, (L.getD p nd0).st.kind = q := ⟨_, rfl⟩
    rw [hkp] at cp cpb HE
    rw [hpe] at n0
    clear hp hpp hpe cp hkp
    go_wp2_with fail
    all_goals
      go_ret
      refine ⟨bool_eq ?_, hb1⟩
      rw [HE.out]
      have ka : ((k : Int) == 0) = decide (k = 0) := by rw [Bool.eq_iff_iff]; simp
      have kb : (x.st.kind == 2) = decide (x.st.kind = 2) := rfl
      have kc : (kp == 2) = decide (kp = 2) := rfl
      clear n0 n1 n2 n3 hN hbT t0 cpb hb1 hb0 h HE HR HPAR HPD hT hI
      first | (simp_all; done) | (simp_all; rfl)
  · have hpp : par L k = none := by rw [HPD.out, if_neg hp]
    rw [hpp] at HE
    dsimp only at HE
    rcases (show x.parent < 0 ∨ 0 ≤ x.parent ∧ (k : Int) ≤ x.parent by omega) with g1 | ⟨g1, g2⟩
    all_goals
      try have g3 : decide (0 ≤ x.parent) = false := decide_eq_false (by omega)
      try have g4 : decide (x.parent < (k : Int)) = false := decide_eq_false (by omega)
      clear hp hpp
      go_wp2_with fail
      all_goals
        go_ret
        refine ⟨bool_eq ?_, hb1⟩
        rw [HE.out]
        have ka : ((k : Int) == 0) = decide (k = 0) := by rw [Bool.eq_iff_iff]; simp
        have kb : (x.st.kind == 2) = decide (x.st.kind = 2) := rfl
        clear n0 n1 n2 n3 hN hbT t0 hb1 hb0 h HE HR HPAR HPD hT hI
        first | (simp_all; done) | (simp_all; rfl)
end
end Go.Proofs.Ytlfjbkmdehpahaa
