/-
  The program's parents and children (tree.parents, Kids). No condition.
-/
import Derived.Test.YtlfjbkmdehpahaaTK
set_option linter.unusedVariables false
set_option linter.unusedSimpArgs false
namespace Go.Proofs.Ytlfjbkmdehpahaa
open Go.RowKit Go.BigFrame

def parentsL (L : List Nd) (k : Nat) : List Int := (List.range k).map fun i => optI (par L i)
theorem parentsL_next (L : List Nd) (k : Nat) : parentsL L (k + 1) = parentsL L k ++ [optI (par L k)] := by simp [parentsL, List.range_succ]
theorem parentsL_len (L : List Nd) (k : Nat) : (parentsL L k).length = k := by simp [parentsL]
theorem parentsL_get {L : List Nd} {n k : Nat} (h : k < n) : (parentsL L n).getD k 0 = optI (par L k) := by simp [parentsL, List.getD, h]
section
variable {A D : Option Addr} {n c m d : Nat} {v : Int} {L : List Nd} {adv : List Int}
theorem par_no {L : List Nd} {k : Nat} (h : parOf L k < 0 ∨ (k : Int) ≤ parOf L k) : optI (par L k) = -1 := by unfold par; rw [if_neg (by omega)]; rfl
theorem par_yes {L : List Nd} {k : Nat} (h : 0 ≤ parOf L k) (h2 : parOf L k < k) : optI (par L k) = parOf L k := by
  unfold par; rw [if_pos ⟨h, h2⟩]
  show ((parOf L k).toNat : Int) = _
  omega
set_option maxRecDepth 100000 in
set_option maxHeartbeats 4000000 in
theorem parents_any (w : World) (h : Trd w A n D m L adv) (hn : n ≤ 65536) :
    Calls Try.prog 27 #[.agg #[.slice A n c, .slice D m d, .int .i64 v]] w (RetInts (parentsL L n) w) := by
  obtain ⟨i0, hi0, hz0, hz1, hz2⟩ := info_parts iI
  have hm : n ≤ maxLen := by unfold maxLen; omega
  have hb0 := (Below.refl w.heap.size w).alloc (Nat.le_refl _) (.cells #[.slice A n c, .slice D m d, .int .i64 v] 25)
  go_enter Try.func27, Try.ntmps27
  go_wp2_with fail
  go_loopw [3, 4, 5, 6, 10, 11, 12, 13, 14, 15, 16, 17, 18, 19, 20, 21, 22, 23, 24, 25, 26, 27, 28] (fun l _ _ _ k _ _ _ _ _ _ _ _ _ _ _ _ _ _ _ _ _ _ wr => ∃ (j : Nat), j ≤ n ∧ k = .int .i64 j ∧ wr.ownsRow w.heap.size 3 1 l j ((parentsL L j).map (Value.int .i64)) ∧ Below w.heap.size w wr) (fun _ _ _ _ k _ _ _ _ _ _ _ _ _ _ _ _ _ _ _ _ _ _ _ => n - (intOf k).toNat)
  case atStart => exact ⟨0, by omega, rfl, World.ownsRow_nil _ _ _ _, hb0⟩
  case round =>
    clear hb0
    obtain ⟨j, hj, rfl, hown0, hb⟩ := hrel
    have hT := h.mono hb
    have hsz := hb.size
    by_cases hlt : j < n
    · obtain ⟨b, off, rfl, hB, hc⟩ := hT.at_ (by omega)
      have hr := hT.range (Below.refl _ _) hlt rfl
      have HN := Lib.hid (par_no (L := L) (k := j))
      have HY := Lib.hid (par_yes (L := L) (k := j))
      have HX := Lib.hid (parentsL_next L j)
      unfold parOf at HN HY
      obtain ⟨x, hx⟩ : ∃ x, L.getD j nd0 = x := ⟨_, rfl⟩
      rw [hx] at hr HN HY
      have hN := Blk_new wr 42 (ncells x).toArray
      have n0 := Nd_cell (j := 0) (v := .int .i64 x.parent) hN rfl
      have hb1 := hb.alloc hsz (.cells (ncells x).toArray 42)
      have hown := hown0.alloc (.cells (ncells x).toArray 42)
      clear hc hx hown0
      rcases (show x.parent < 0 ∨ (0 ≤ x.parent ∧ (j : Int) ≤ x.parent) ∨ (0 ≤ x.parent ∧ x.parent < j) by omega) with g1 | ⟨g1, g2⟩ | ⟨g1, g2⟩
      · have HP := Lib.hid (HN.out (.inl g1))
        go_wp2_with (first | ((with_reducible refine at_op ⟨some 14, _, _, _, _, _⟩ ?_); refine wpList_load_mid rfl 42 (.tmp 13) rfl _ _ rfl (ncells x) _ hr Try.underlying42 rfl info_nd ?_) | ((with_reducible refine at_op ⟨none, .store 42 (.tmp 5) (.tmp 14), _, _, _, _⟩ ?_); refine wpList_store_new rfl 42 (.tmp 5) (.tmp 14) rfl _ ?_ _ (ncells x).toArray rfl rfl info_nd rfl (one_nd x) ?_; · (simp; done)) | (at_builtin; go_must (refine wpList_append_src _ rfl (.tmp 24) (.tmp 26) 29 rfl w.heap.size 3 i0 _ 1 8 Try.underlying29 hi0 hz0 hz1 hz2 rfl (by omega) u3 j _ rfl (hown.alloc _) _ 1 1 [(.int .i64 (-1))] rfl (Src_at _ 3 #[(.int .i64 (-1))] 1 _ rfl (by simp)) (by simp [Value.oneCell']) (by simp only [maxLen]; omega) (by omega) (by simp; omega) ?_); intro v' w6 hown6 hg6 hat6))
        have hb3 : Below w.heap.size w w6 := (hb1.alloc hb1.size _).grown hg6 (by simp; omega) (fun z hz => (hown.lt z hz).1)
        go_roundw
        case rel => exact ⟨j + 1, by omega, by go_num, by rw [HX.out, HP.out]; simpa using hown6, hb3⟩
        case measure => simp [intOf]; omega
      · have g3 : decide (x.parent < 0) = false := decide_eq_false (by omega)
        have HP := Lib.hid (HN.out (.inr g2))
        go_wp2_with (first | ((with_reducible refine at_op ⟨some 14, _, _, _, _, _⟩ ?_); refine wpList_load_mid rfl 42 (.tmp 13) rfl _ _ rfl (ncells x) _ hr Try.underlying42 rfl info_nd ?_) | ((with_reducible refine at_op ⟨none, .store 42 (.tmp 5) (.tmp 14), _, _, _, _⟩ ?_); refine wpList_store_new rfl 42 (.tmp 5) (.tmp 14) rfl _ ?_ _ (ncells x).toArray rfl rfl info_nd rfl (one_nd x) ?_; · (simp; done)) | (at_builtin; go_must (refine wpList_append_src _ rfl (.tmp 24) (.tmp 26) 29 rfl w.heap.size 3 i0 _ 1 8 Try.underlying29 hi0 hz0 hz1 hz2 rfl (by omega) u3 j _ rfl (hown.alloc _) _ 1 1 [(.int .i64 (-1))] rfl (Src_at _ 3 #[(.int .i64 (-1))] 1 _ rfl (by simp)) (by simp [Value.oneCell']) (by simp only [maxLen]; omega) (by omega) (by simp; omega) ?_); intro v' w6 hown6 hg6 hat6))
        have hb3 : Below w.heap.size w w6 := (hb1.alloc hb1.size _).grown hg6 (by simp; omega) (fun z hz => (hown.lt z hz).1)
        go_roundw
        case rel => exact ⟨j + 1, by omega, by go_num, by rw [HX.out, HP.out]; simpa using hown6, hb3⟩
        case measure => simp [intOf]; omega
      · have g3 : decide (x.parent < 0) = false := decide_eq_false (by omega)
        have g4 : decide ((j : Int) ≤ x.parent) = false := decide_eq_false (by omega)
        have HP := Lib.hid (HY.out g1 g2)
        go_wp2_with (first | ((with_reducible refine at_op ⟨some 14, _, _, _, _, _⟩ ?_); refine wpList_load_mid rfl 42 (.tmp 13) rfl _ _ rfl (ncells x) _ hr Try.underlying42 rfl info_nd ?_) | ((with_reducible refine at_op ⟨none, .store 42 (.tmp 5) (.tmp 14), _, _, _, _⟩ ?_); refine wpList_store_new rfl 42 (.tmp 5) (.tmp 14) rfl _ ?_ _ (ncells x).toArray rfl rfl info_nd rfl (one_nd x) ?_; · (simp; done)) | (at_builtin; go_must (refine wpList_append_src _ rfl (.tmp 24) (.tmp 26) 29 rfl w.heap.size 3 i0 _ 1 8 Try.underlying29 hi0 hz0 hz1 hz2 rfl (by omega) u3 j _ rfl (hown.alloc _) _ 1 1 [(.int .i64 x.parent)] rfl (Src_at _ 3 #[(.int .i64 x.parent)] 1 _ rfl (by simp)) (by simp [Value.oneCell']) (by simp only [maxLen]; omega) (by omega) (by simp; omega) ?_); intro v' w6 hown6 hg6 hat6))
        have hb3 : Below w.heap.size w w6 := (hb1.alloc hb1.size _).grown hg6 (by simp; omega) (fun z hz => (hown.lt z hz).1)
        go_roundw
        case rel => exact ⟨j + 1, by omega, by go_num, by rw [HX.out, HP.out]; simpa using hown6, hb3⟩
        case measure => simp [intOf]; omega
    · have hjn : j = n := by omega
      rw [hjn] at hown0
      have HO := Lib.hid hown0
      clear hjn hown0
      go_wp2_with fail
      go_ret
      exact ret_own HO.out hb (Nat.le_refl _)

/-! ### Children -/
def kidsAt (L : List Nd) (k p : Nat) : List Int := ((List.range k).filter fun i => decide (par L i = some p)).map Int.ofNat
def kidsM (L : List Nd) (n k : Nat) : List (List Int) := (List.range n).map (kidsAt L k)
theorem kidsM_len (L : List Nd) (n k : Nat) : (kidsM L n k).length = n := by simp [kidsM]
theorem kidsM_get {L : List Nd} {n k p : Nat} (h : p < n) : (kidsM L n k).getD p [] = kidsAt L k p := by simp [kidsM, List.getD, h]
theorem kidsM_none {L : List Nd} {n k : Nat} (h : par L k = none) : kidsM L n (k + 1) = kidsM L n k := by
  unfold kidsM
  apply List.map_congr_left
  intro p _
  unfold kidsAt
  rw [List.range_succ, List.filter_append]
  simp [h]
theorem kidsM_some {L : List Nd} {n k p : Nat} (h : par L k = some p) (hp : p < n) : kidsM L n (k + 1) = (kidsM L n k).set p ((kidsM L n k).getD p [] ++ [(k : Int)]) := by
  rw [kidsM_get hp]
  unfold kidsM
  rw [map_range_set]
  apply List.map_congr_left
  intro q _
  by_cases e : q = p
  · subst e
    rw [if_pos rfl]
    unfold kidsAt
    rw [List.range_succ, List.filter_append]
    simp [h]
  · have e' : ¬ p = q := fun h => e h.symm
    rw [if_neg e]
    unfold kidsAt
    rw [List.range_succ, List.filter_append]
    simp [h, e']
theorem kidsM_zero (L : List Nd) (n : Nat) : kidsM L n 0 = List.replicate n [] := by
  apply List.ext_getElem (by simp [kidsM_len])
  intro q h1 h2
  simp [kidsM, kidsAt]
/-- A row of rows that is handed back. -/
def RetMat (ks : List (List Int)) (w : World) (e : Ending) (w' : World) : Prop :=
  ∃ g B vs, e = .returned (.slice (some ⟨g, 0, none⟩) ks.length ks.length) ∧ Mat w' B g 29 3 vs ks ∧ w.heap.size ≤ g ∧ B ≤ w'.heap.size ∧ Below w.heap.size w w'
theorem iK : (Try.prog.info? 29).map (fun i => (i.zero, i.size, i.bytes)) = some (some nilV, 1, 24) := by kernel_rfl
set_option maxRecDepth 100000 in
set_option maxHeartbeats 4000000 in
theorem tkids_any (w : World) (h : Trd w A n D m L adv) (hn : n ≤ 65536) :
    Calls Try.prog 21 #[.agg #[.slice A n c, .slice D m d, .int .i64 v]] w (RetMat (kidsM L n n) w) := by
  obtain ⟨i0, hi0, hz0, hz1, hz2⟩ := info_parts iI
  obtain ⟨j0, hj0, hy0, hy1, hy2⟩ := info_parts iK
  have hm : n ≤ maxLen := by unfold maxLen; omega
  have hmk := run_make_blk (P := Try.prog) Try.underlying49 hj0 hy0 (x := nilV) rfl hy1 .i64 .i64 n (by rw [hy2]; omega) hm
  have hb0 := ((Below.refl w.heap.size w).alloc (Nat.le_refl _) (.cells #[.slice A n c, .slice D m d, .int .i64 v] 25)).alloc (by simp) (.cells (List.replicate n nilV).toArray 29)
  have hR := Blk_new (w.alloc (.cells #[.slice A n c, .slice D m d, .int .i64 v] 25)) 29 (List.replicate n nilV).toArray
  rw [World.size_alloc] at hR
  have hpc := parents_any (c := c) (d := d) (v := v) _ (h.mono hb0) hn
  go_enter Try.func21, Try.ntmps21
  go_wp2_with (go_at_call 27; refine hpc.mono ?_; rintro e w1 ⟨P, pc, rfl, hpl, hpm, hPI, hfresh, h1⟩)
  have hpsz := h1.size
  simp only [World.size_alloc] at hpsz hfresh
  have hM0 := Mat.init (t1 := 3) hR (show w.heap.size + 1 < w1.heap.size by omega)
  rw [← kidsM_zero L n] at hM0
  have hM1 := hM0.below h1
  have hb1 := Below_same hb0 h1
  have hO1 := Only.refl [w.heap.size + 1] w1
  have hfr1 : ∀ a, P = some a → a.block ∉ [w.heap.size + 1] := fun a ha => by have := hfresh a ha; simp; omega
  clear hmk hpc hM0 hb0 hj0 hy0 hy1 hy2 h1 hR hfresh
  rw [parentsL_len] at hPI hpl ⊢
  go_loopw [4, 5, 13, 14, 15, 16, 17, 18, 19, 20, 21, 22, 23, 24, 25, 26, 27, 28, 29, 30] (fun _ _ k _ _ _ _ _ _ _ _ _ _ _ _ _ _ _ _ _ wr => ∃ (j : Nat) (vs : List Value), j ≤ n ∧ k = .int .i64 j ∧ Mat wr w1.heap.size (w.heap.size + 1) 29 3 vs (kidsM L n j) ∧ Only [w.heap.size + 1] w1 wr) (fun _ _ k _ _ _ _ _ _ _ _ _ _ _ _ _ _ _ _ _ _ => n - (intOf k).toNat)
  case atStart => exact ⟨0, _, by omega, rfl, hM1, hO1⟩
  case round =>
    clear hM1 hO1
    obtain ⟨j, vs, hj, rfl, hM, hO⟩ := hrel
    have hPI := hPI.only hO hfr1
    have hb := Only.after hb1 (Nat.le_refl _) hO (by simp)
    have hB := hO.size
    have hml := kidsM_len L n j
    by_cases hlt : j < n
    · have hg := parentsL_get (L := L) hlt
      obtain ⟨b, off, rfl, hPB, hPC⟩ := hPI.at_ (by omega)
      have cp := hPC j hlt
      rw [hg] at cp
      have hz := hb.size
      cases hp : par L j with
      | none =>
        rw [hp, show optI none = -1 from rfl] at cp
        have HK := Lib.hid (kidsM_none (n := n) hp)
        clear hp hg hPC hml
        go_wp2_with fail
        go_roundw
        case rel => exact ⟨j + 1, vs, by omega, by go_num, by rw [HK.out]; exact hM, hO⟩
        case measure => simp [intOf]; omega
      | some p =>
        rw [hp, show optI (some p) = (p : Int) from rfl] at cp
        have hpj := par_lt hp
        have hpn : p < (kidsM L n j).length := by rw [hml]; omega
        have hpn2 : (p : Int) < n := by omega
        have HK := Lib.hid (kidsM_some (n := n) hp (by omega))
        have hrow := hM.row p hpn
        have hcell := hM.cell hpn
        have hfr := Blk_frozen hM.blk p
        have hgl := Blk_lt hM.blk
        obtain ⟨xs, hxs⟩ : ∃ xs, (kidsM L n j).getD p [] = xs := ⟨_, rfl⟩
        obtain ⟨vp, hvp⟩ : ∃ x, vs.getD p nilV = x := ⟨_, rfl⟩
        rw [hxs, hvp] at hrow
        rw [hvp] at hcell
        have hxl : xs.length ≤ 65536 := by
          rw [← hxs, kidsM_get (by omega)]
          unfold kidsAt
          rw [List.length_map]
          exact Nat.le_trans (List.length_filter_le _ _) (by rw [List.length_range]; omega)
        have hown := hrow
        have HXS := Lib.hid hxs
        have HVP := Lib.hid hvp
        have hM2 := fun (o : Obj) => hM.below ((Below.refl wr.heap.size wr).alloc (Nat.le_refl _) o)
        have HM2 := Lib.hid hM2
        have HPN := Lib.hid hpn
        have hlo := fun (z : Nat) (hz : vp.ownBlock = some z) => hown.lt z hz
        have HLO := Lib.hid hlo
        clear hp hg hPC hml hxs hvp hrow hM2 hpn hlo
        have hvt : vs.toArray[p]? = some vp := by rw [← hcell, Blk_cell hM.blk]
        have HVT := Lib.hid hvt
        have HBK := Lib.hid hM.blk
        clear hvt
        go_wp2_with ((at_builtin; go_must (refine wpList_append_src _ rfl (.tmp 25) (.tmp 27) 29 rfl w1.heap.size 3 i0 _ 1 8 Try.underlying29 hi0 hz0 hz1 hz2 rfl (by omega) vp xs.length _ rfl (hown.alloc _) _ 1 1 [(.int .i64 (j : Int))] rfl (Src_at _ 3 #[(.int .i64 (j : Int))] 1 _ rfl (by simp)) (by simp [Value.oneCell']) (by simp only [maxLen]; omega) (by omega) (by simp; omega) ?_); intro v' w6 hown6 hg6 hat6); obtain ⟨A6, q6, rfl, h6a, h6b⟩ := own_slice hown6; have hB6 := Blk_grown (Blk_alloc HBK.out _) hg6 (fun e => by have := (HLO.out _ e.symm).1; omega); have c6 := (Blk_cell hB6 p).trans HVT.out; have f6 := Blk_frozen hB6 p)
        have hM6 := (HM2.out (.cells #[.int .i64 (j : Int)] 3)).app (p := p) (x := (j : Int)) (v' := .slice A6 (xs.length + 1) q6) HPN.out (by simp; omega) (by rw [HXS.out]; exact hown6) (by rw [HVP.out]; exact hg6) (by rw [HVP.out]; exact hat6)
        rw [← HK.out] at hM6
        have hO6 := ((hO.alloc (.cells #[.int .i64 (j : Int)] 3)).grown hg6 (fun z hz => (HLO.out z hz).1)).set (p := ⟨w.heap.size + 1, p, none⟩) (by simp) (.slice A6 (xs.length + 1) q6)
        clear hM hown hcell hfr hgl hown6 hg6 hat6 c6 f6 hB6 hb hO
        go_roundw
        case rel => exact ⟨j + 1, _, by omega, by go_num, hM6, hO6⟩
        case measure => simp [intOf]; omega
    · have hjn : j = n := by omega
      rw [hjn] at hM
      have HM := Lib.hid hM
      clear hjn hM
      go_wp2_with fail
      go_ret
      refine ⟨w.heap.size + 1, w1.heap.size, vs, ?_, HM.out, by omega, hB, hb⟩
      rw [kidsM_len]
      rfl
end
end Go.Proofs.Ytlfjbkmdehpahaa
