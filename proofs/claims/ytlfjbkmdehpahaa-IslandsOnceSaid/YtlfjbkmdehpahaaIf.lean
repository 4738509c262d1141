/-
  The program's islands (islands.Of, Roots, Over, Inside). No condition.
-/
import Derived.Test.YtlfjbkmdehpahaaDn
set_option linter.unusedVariables false
set_option linter.unusedSimpArgs false
namespace Go.Proofs.Ytlfjbkmdehpahaa
open Go.RowKit Go.BigFrame

section
variable {A D : Option Addr} {n c m d : Nat} {v : Int} {L : List Nd} {adv : List Int}
set_option maxHeartbeats 1000000 in
theorem iof_any (w : World) (h : Trd w A n D m L adv) (hf : Fine L) :
    Calls Try.prog 11 #[.agg #[.slice A n c, .slice D m d, .int .i64 v]] w (RetInts (ofL L n) w) := by
  obtain ⟨i0, hi0, hz0, hz1, hz2⟩ := info_parts iI
  have hl := h.len
  have hsm := hf.small
  have hpos := hf.pos
  rw [hl] at hsm hpos
  have hm : n ≤ maxLen := by unfold maxLen; omega
  have hmk := run_make_blk (P := Try.prog) Try.underlying29 hi0 hz0 (x := .int .i64 0) rfl hz1 .i64 .i64 n (by rw [hz2]; omega) hm
  have hsf : ∀ (w : World) (a : Addr) (f c : Array Value), (store a (.func (.func 22) f c)).run Try.prog w = stored Try.prog w a (.func (.func 22) f c) .plain := fun w a f c => run_store Try.prog w a _ .plain rfl
  have hT := Blk_new w 25 #[.slice A n c, .slice D m d, .int .i64 v]
  have hR := Blk_new (w.alloc (.cells #[.slice A n c, .slice D m d, .int .i64 v] 25)) 3 (List.replicate n (.int .i64 0)).toArray
  have hO := Blk_new ((w.alloc (.cells #[.slice A n c, .slice D m d, .int .i64 v] 25)).alloc (.cells (List.replicate n (.int .i64 0)).toArray 3)) 29 #[.slice (some ⟨w.heap.size + 1, 0, none⟩) n n]
  have hb0 := (((Below.refl w.heap.size w).alloc (Nat.le_refl _) (.cells #[.slice A n c, .slice D m d, .int .i64 v] 25)).alloc (by simp) (.cells (List.replicate n (.int .i64 0)).toArray 3)).alloc (by simp; omega) (.cells #[.slice (some ⟨w.heap.size + 1, 0, none⟩) n n] 29)
  have hT1 := Blk_alloc (Blk_alloc hT (.cells (List.replicate n (.int .i64 0)).toArray 3)) (.cells #[.slice (some ⟨w.heap.size + 1, 0, none⟩) n n] 29)
  have hR1 := Blk_alloc hR (.cells #[.slice (some ⟨w.heap.size + 1, 0, none⟩) n n] 29)
  simp only [World.size_alloc] at hR1 hO
  have hR0 : Row ((((w.alloc (.cells #[.slice A n c, .slice D m d, .int .i64 v] 25)).alloc (.cells (List.replicate n (.int .i64 0)).toArray 3)).alloc (.cells #[.slice (some ⟨w.heap.size + 1, 0, none⟩) n n] 29))) 3 (w.heap.size + 1) (List.replicate n 0) := by
    unfold Row; simpa using hR1
  have hkc := tkids_any (c := c) (d := d) (v := v) _ (h.mono hb0) hsm
  have hsz3 : (((w.alloc (.cells #[.slice A n c, .slice D m d, .int .i64 v] 25)).alloc (.cells (List.replicate n (.int .i64 0)).toArray 3)).alloc (.cells #[.slice (some ⟨w.heap.size + 1, 0, none⟩) n n] 29)).heap.size = w.heap.size + 1 + 1 + 1 := by simp
  obtain ⟨w3, hw3⟩ : ∃ x, ((w.alloc (.cells #[.slice A n c, .slice D m d, .int .i64 v] 25)).alloc (.cells (List.replicate n (.int .i64 0)).toArray 3)).alloc (.cells #[.slice (some ⟨w.heap.size + 1, 0, none⟩) n n] 29) = x := ⟨_, rfl⟩
  rw [hw3] at hb0 hT1 hR0 hO hkc hsz3
  have HW3 := Lib.hid hw3
  have HLN := Lib.hid hl
  have HS3 := Lib.hid hsz3
  clear hw3 hT hR hR1 hl hsz3
  go_enter Try.func11, Try.ntmps11
  go_upto_region 2 with fail
  rw [show (Array.replicate n (Value.int .i64 0)) = (List.replicate n (.int .i64 0)).toArray by simp]
  rw [HW3.out]
  have tt0 := Blk_cell hT1 0
  have tt1 := Blk_cell hT1 1
  have tt2 := Blk_cell hT1 2
  clear hmk
  go_upto_region 3 with (go_at_call 21; refine hkc.mono ?_; rintro e w1 ⟨g, B, vs, rfl, hM, hg, hB, h1⟩)
  rw [HS3.out] at hg
  have hs1 := h1.size
  rw [HS3.out] at hs1
  rw [kidsM_len]
  have hgB := hM.lt
  have hb1 := Below_same hb0 h1
  have hT2 := Blk_below hT1 h1 (by rw [HS3.out]; omega)
  have hO2 := Blk_below hO h1 (by rw [HS3.out]; omega)
  have hR2 := hR0.below h1
  have hK3 := Blk_new w1 49 #[.slice (some ⟨g, 0, none⟩) n n]
  have hF3 := Blk_new (w1.alloc (.cells #[.slice (some ⟨g, 0, none⟩) n n] 49)) 51 #[.func (.func 22) #[] #[.pointer (some ⟨w.heap.size, 0, none⟩), .pointer (some ⟨w.heap.size + 1 + 1, 0, none⟩), .pointer (some ⟨w1.heap.size, 0, none⟩), .pointer (some ⟨w1.heap.size + 1, 0, none⟩)]]
  rw [World.size_alloc] at hF3
  have hbb := fun (o1 o2 : Obj) => (Below.refl w1.heap.size w1).alloc (Nat.le_refl _) o1 |>.alloc (by simp) o2
  have hbe := hbb (.cells #[.slice (some ⟨g, 0, none⟩) n n] 49) (.cells #[.func (.func 22) #[] #[.pointer (some ⟨w.heap.size, 0, none⟩), .pointer (some ⟨w.heap.size + 1 + 1, 0, none⟩), .pointer (some ⟨w1.heap.size, 0, none⟩), .pointer (some ⟨w1.heap.size + 1, 0, none⟩)]] 51)
  have hE : Env A D n c m d v L adv w _ w.heap.size (w.heap.size + 1 + 1) (w.heap.size + 1) w1.heap.size g B (w1.heap.size + 1) vs :=
    ⟨h, Below_same hb1 hbe, Blk_below hT2 hbe (Blk_lt hT2), Blk_below hO2 hbe (Blk_lt hO2), Blk_alloc hK3 _, hF3, hM.below hbe, by omega, by omega⟩
  have hR4 := hR2.below hbe
  have hdc := down_any (c := c) (d := d) (v := v) w w.heap.size (w.heap.size + 1 + 1) (w.heap.size + 1) w1.heap.size g B (w1.heap.size + 1) vs hf n 0 (by omega) hpos 0 _ _ hE hR4 (by simp) (fun h0 _ => by rw [hf.root0] at h0; cases h0)
  have f0 := Blk_cell hF3 0
  have f1 := Blk_cell hE.t 0
  have hn0 : 0 < (n : Int) := by omega
  have HE := Lib.hid hE
  clear hE hR4 hbb hbe hK3 hF3 hT2 hO2 hR2 hb1 h1 tt0 tt1 tt2 hkc hT1 hR0 hO hb0 hM
  go_wp2_with (go_at_call 22; refine hdc.mono ?_; rintro e w5 ⟨rfl, ho5, o5, hR5, hG5⟩; have o0 := Blk_cell (HE.out.only ho5).o 0)
  go_ret
  rw [hG5.all hf HLN.out] at hR5
  exact ret_row hR5 (ofL_len _ _) hm (HE.out.only ho5).old (by omega)
set_option maxHeartbeats 1000000 in
theorem iroots_any (w : World) (h : Trd w A n D m L adv) (hn : n ≤ 65536) :
    Calls Try.prog 9 #[.agg #[.slice A n c, .slice D m d, .int .i64 v]] w (RetInts ((rootsL L n).map Int.ofNat) w) := by
  obtain ⟨i0, hi0, hz0, hz1, hz2⟩ := info_parts iI
  have hm : n ≤ maxLen := by unfold maxLen; omega
  have hb0 := (Below.refl w.heap.size w).alloc (Nat.le_refl _) (.cells #[.slice A n c, .slice D m d, .int .i64 v] 25)
  have hbT := Blk_new w 25 #[.slice A n c, .slice D m d, .int .i64 v]
  go_enter Try.func9, Try.ntmps9
  go_wp2_with fail
  go_loopw [3, 4, 8, 9, 10, 11, 12, 13, 14, 15, 16, 17, 18] (fun l _ k _ _ _ _ _ _ _ _ _ _ wr => ∃ (j q : Nat), j ≤ n ∧ q ≤ j ∧ k = .int .i64 j ∧ wr.ownsRow (w.heap.size + 1) 3 1 l q (((rootsL L j).map Int.ofNat).map (Value.int .i64)) ∧ Below w.heap.size w wr ∧ Blk wr w.heap.size 25 #[.slice A n c, .slice D m d, .int .i64 v]) (fun _ _ k _ _ _ _ _ _ _ _ _ _ _ => n - (intOf k).toNat)
  case atStart => exact ⟨0, 0, by omega, by omega, rfl, World.ownsRow_nil _ _ _ _, hb0, hbT⟩
  case round =>
    clear hb0 hbT
    obtain ⟨j, q, hj, hq, rfl, hown, hb, hbT⟩ := hrel
    have hT := h.mono hb
    have t0 := Blk_cell hbT 0
    have t1 := Blk_cell hbT 1
    have t2 := Blk_cell hbT 2
    have hsz := hb.size
    have hbl := Blk_lt hbT
    by_cases hlt : j < n
    · have hrc := troot_any (c := c) (d := d) (v := v) j wr hT hm
      cases hr : rootB L j
      · have HR := Lib.hid (rootsL_no hr)
        rw [hr] at hrc
        clear hr
        go_wp2_with (go_at_call 20; refine hrc.mono ?_; rintro e w1 ⟨rfl, h1⟩)
        have hb2 := Below_same hb h1
        have hbT2 := Blk_below hbT h1 (Blk_lt hbT)
        have hown2 := own_below hown h1
        go_roundw
        case rel => exact ⟨j + 1, q, by omega, by omega, by go_num, by rw [HR.out]; exact hown2, hb2, hbT2⟩
        case measure => simp [intOf]; omega
      · have HR := Lib.hid (rootsL_yes hr)
        rw [hr] at hrc
        clear hr
        have HO := Lib.hid hown
        clear hown
        go_wp2_with (first | (go_at_call 20; refine hrc.mono ?_; rintro e w1 ⟨rfl, h1⟩; have hown := own_below HO.out h1; have hs1 := h1.size) | (at_builtin; go_must (refine wpList_append_src _ rfl (.tmp 14) (.tmp 16) 29 rfl (w.heap.size + 1) 3 i0 _ 1 8 Try.underlying29 hi0 hz0 hz1 hz2 rfl (by omega) u3 q _ rfl (hown.alloc _) _ 1 1 [(.int .i64 (j : Int))] rfl (Src_at _ 3 #[(.int .i64 (j : Int))] 1 _ rfl (by simp)) (by simp [Value.oneCell']) (by simp only [maxLen]; omega) (by omega) (by simp; omega) ?_); intro v' w6 hown6 hg6 hat6))
        have hb2 := Below_same hb h1
        have hbT2 := Blk_below hbT h1 (Blk_lt hbT)
        have hb3 : Below w.heap.size w w6 := (hb2.alloc hb2.size _).grown hg6 (by simp; omega) (fun z hz => by have := (hown.lt z hz).1; omega)
        have hbT3 := Blk_grown (Blk_alloc hbT2 _) hg6 (fun e => by have := (hown.lt _ e.symm).1; omega)
        go_roundw
        case rel => exact ⟨j + 1, q + 1, by omega, by omega, by go_num, by rw [HR.out]; simpa using hown6, hb3, hbT3⟩
        case measure => simp [intOf]; omega
    · have hjn : j = n := by omega
      rw [hjn] at hown
      have HO := Lib.hid hown
      clear hjn hown
      go_wp2_with fail
      go_ret
      exact ret_own HO.out hb (by omega)
set_option maxHeartbeats 1000000 in
theorem iover_any (r : Int) (w : World) (h : Trd w A n D m L adv) (hf : Fine L) :
    Calls Try.prog 13 #[.agg #[.slice A n c, .slice D m d, .int .i64 v], .int .i64 r] w fun e w' => e = .returned (.int .i64 (overI L r)) ∧ Below w.heap.size w w' := by
  have hl := h.len
  have hsm := hf.small
  rw [hl] at hsm
  have hm : n ≤ maxLen := by unfold maxLen; omega
  have hb0 := (Below.refl w.heap.size w).alloc (Nat.le_refl _) (.cells #[.slice A n c, .slice D m d, .int .i64 v] 25)
  have hbT := Blk_new w 25 #[.slice A n c, .slice D m d, .int .i64 v]
  by_cases h0 : r ≤ 0
  · have HE := Lib.hid (show overI L r = -1 by unfold overI; rw [if_pos (.inl h0)])
    clear hl
    go_enter Try.func13, Try.ntmps13
    go_wp2_with fail
    go_ret
    exact ⟨by rw [HE.out]; rfl, hb0⟩
  have h0' : decide (r ≤ 0) = false := decide_eq_false h0
  have hrt := troot_any (c := c) (d := d) (v := v) r _ (h.mono hb0) hm
  cases hr : rootB L r
  · have HE := Lib.hid (show overI L r = -1 by unfold overI; rw [if_pos (.inr hr)])
    rw [hr] at hrt
    clear hr h0 hl
    go_enter Try.func13, Try.ntmps13
    go_wp2_with (go_at_call 20; refine hrt.mono ?_; rintro e w2 ⟨rfl, h2⟩)
    go_ret
    exact ⟨by rw [HE.out]; rfl, Below_same hb0 h2⟩
  · obtain ⟨k, rfl⟩ : ∃ k : Nat, r = (k : Int) := ⟨r.toNat, by omega⟩
    have hrk := root_kind hr
    have hpp := hf.par hrk.1 (by omega)
    have hkn : k < n := by rw [hl] at hrk; exact hrk.1
    have hnt := hf.not_text hrk.1 (by omega)
    obtain ⟨p, hpe⟩ : ∃ p : Nat, parOf L k = (p : Int) := ⟨(parOf L k).toNat, by omega⟩
    rw [hpe, Int.toNat_natCast] at hnt
    have HE := Lib.hid (show overI L k = (island L p : Nat) by
      unfold overI; rw [if_neg (by rw [hr]; rintro (h | h); omega; cases h), Int.toNat_natCast, hpe, Int.toNat_natCast])
    rw [hr] at hrt
    have hpk : p < k := by omega
    have hpn : p < n := by omega
    have hog := ofL_get (L := L) hpn
    rw [show ofAt L p = (island L p : Nat) by unfold ofAt; rw [if_neg hnt]] at hog
    obtain ⟨b, off, rfl, hB, hc⟩ := h.at_ (by omega)
    have cp : w.cell? ⟨b, off + k * 44, none⟩ = some (.int .i64 (parOf L k)) := hc k hkn 0 (by omega)
    rw [hpe] at cp
    have hk0 : 0 ≤ (k : Int) := Int.natCast_nonneg k
    have HOG := Lib.hid hog
    have hol := ofL_len L n
    have hil := island_le L p
    obtain ⟨is, hi⟩ : ∃ x : Nat, island L p = x := ⟨_, rfl⟩
    rw [hi] at HE HOG
    clear hr h0 hl hpe hpp hrk hc hnt hog hi hil
    go_enter Try.func13, Try.ntmps13
    go_wp2_with (go_at_call 20; refine hrt.mono ?_; rintro e w2 ⟨rfl, h2⟩)
    have hb2 := Below_same hb0 h2
    have hbT2 := Blk_below hbT h2 (Blk_lt hbT)
    have x0 := Blk_cell hbT2 0
    have x1 := Blk_cell hbT2 1
    have x2 := Blk_cell hbT2 2
    have cp2 := (hb2.cell (cell_lt cp)).trans cp
    have hoc := fun (w3 : World) (h3 : Below w2.heap.size w2 w3) => iof_any (c := c) (d := d) (v := v) w3 (h.mono (Below_same hb2 h3)) hf
    have HOC := Lib.hid hoc
    have HOL := Lib.hid hol
    have HX := Lib.hid (fun (w' : World) (h : Below w2.heap.size w2 w') => And.intro ((h.cell (cell_lt x0)).trans x0) (And.intro ((h.cell (cell_lt x1)).trans x1) (And.intro ((h.cell (cell_lt x2)).trans x2) ((h.cell (cell_lt cp2)).trans cp2))))
    clear hoc hol hrt
    go_wp2_with fail
    go_region_with ((go_at_call 11; (with_reducible refine (HOC.out _ (by (repeat' (first | (with_reducible exact Below.refl _ _) | (with_reducible assumption) | (with_reducible refine Below.alloc ?_ ?_ _) | (with_reducible refine Below.drew ?_) | (with_reducible refine Below_drewN ?_ _) | (with_reducible refine Below.setCell ?_ ?_ _) | go_size)))).mono ?_); intro e w' hret; obtain ⟨Z, zc, rfl, hz1, hz2, hZI, hzf, hw⟩ := hret.out HOL.out; obtain ⟨zb, zoff, rfl, hzB, hzC⟩ := hZI.at_ (by omega); have cz := hzC p hpn; have hw2 : Below w2.heap.size w2 w' := Below_same ((Below.refl _ _).drew) hw; obtain ⟨z0, z1, z2, z3⟩ := HX.out _ hw2; clear hret))
    all_goals
      go_wp2_with fail
      go_ret
      exact ⟨by rw [HE.out, ← HOG.out]; rfl, by have := Below_same hb2 hw2; (repeat' (first | (with_reducible exact Below.refl _ _) | (with_reducible assumption) | (with_reducible refine Below.alloc ?_ ?_ _) | (with_reducible refine Below.drew ?_) | (with_reducible refine Below_drewN ?_ _) | (with_reducible refine Below.setCell ?_ ?_ _) | go_size))⟩
set_option maxRecDepth 100000 in
set_option maxHeartbeats 4000000 in
theorem iinside_any (r : Int) (w : World) (h : Trd w A n D m L adv) (hf : Fine L) :
    Calls Try.prog 15 #[.agg #[.slice A n c, .slice D m d, .int .i64 v], .int .i64 r] w (RetInts ((insideI L r).map Int.ofNat) w) := by
  obtain ⟨i0, hi0, hz0, hz1, hz2⟩ := info_parts iI
  have hl := h.len
  have hsm := hf.small
  rw [hl] at hsm
  have hpos := hf.pos
  rw [hl] at hpos
  have hm : n ≤ maxLen := by unfold maxLen; omega
  have hb0 := (Below.refl w.heap.size w).alloc (Nat.le_refl _) (.cells #[.slice A n c, .slice D m d, .int .i64 v] 25)
  have hbT := Blk_new w 25 #[.slice A n c, .slice D m d, .int .i64 v]
  have hrt := troot_any (c := c) (d := d) (v := v) r _ (h.mono hb0) hm
  cases hr : rootB L r
  · have HE := Lib.hid (show insideI L r = [] by unfold insideI; rw [if_pos hr])
    rw [hr] at hrt
    clear hr hl
    go_enter Try.func15, Try.ntmps15
    go_wp2_with (go_at_call 20; refine hrt.mono ?_; rintro e w2 ⟨rfl, h2⟩)
    go_ret
    rw [HE.out]
    exact ret_nil _ _ (Below_same hb0 h2)
  · obtain ⟨k, rfl⟩ : ∃ k : Nat, r = (k : Int) := ⟨r.toNat, by
      rcases Int.lt_or_le r 0 with h0 | h0
      · rw [root_out (.inl h0)] at hr; cases hr
      · omega⟩
    have HE := Lib.hid (show insideI L k = inL L k n by unfold insideI; rw [if_neg (by rw [hr]; simp), hl])
    rw [hr] at hrt
    have HLN := Lib.hid hl
    clear hr hl
    go_enter Try.func15, Try.ntmps15
    go_upto_region 3 with (go_at_call 20; refine hrt.mono ?_; rintro e w2 ⟨rfl, h2⟩)
    have hb2 := Below_same hb0 h2
    have hbT2 := Blk_below hbT h2 (Blk_lt hbT)
    have hoc := iof_any (c := c) (d := d) (v := v) w2 (h.mono hb2) hf
    have x0 := Blk_cell hbT2 0
    have x1 := Blk_cell hbT2 1
    have x2 := Blk_cell hbT2 2
    have HOL := Lib.hid (ofL_len L n)
    clear hbT hb0 hrt h2
    go_wp2_with (go_at_call 11; refine hoc.mono ?_; intro e w3 hret; obtain ⟨Z, zc, rfl, hzn, hzx, hZI, hzf, h3⟩ := hret.out HOL.out; clear hret; have hbT3 := Blk_below hbT2 h3 (Blk_lt hbT2); have y0 := Blk_cell hbT3 0)
    have hb3 := Below_same hb2 h3
    have hO3 := Only.refl [] w3
    have hown3 := World.ownsRow_nil w3 w3.heap.size 3 1
    have hs3 := hb3.size
    clear x0 x1 x2 y0 hbT2 h3 hb2 hoc hzf hbT3
    go_loopw [5, 7, 8, 18, 19, 20, 21, 22, 23, 24, 25, 26, 27, 28, 29, 30, 31, 32, 33, 34, 35, 36, 37, 38, 39, 40, 41, 42, 43, 44] (fun l _ _ i _ _ _ _ _ _ _ _ _ _ _ _ _ _ _ _ _ _ _ _ _ _ _ _ _ _ wr => ∃ (j q : Nat), j ≤ n ∧ q ≤ j ∧ i = .int .i64 j ∧ wr.ownsRow w3.heap.size 3 1 l q (((inL L k j).map Int.ofNat).map (Value.int .i64)) ∧ Below w3.heap.size w3 wr) (fun _ _ _ i _ _ _ _ _ _ _ _ _ _ _ _ _ _ _ _ _ _ _ _ _ _ _ _ _ _ _ => n - (intOf i).toNat)
    case atStart => exact ⟨0, 0, by omega, by omega, rfl, hown3, Below.refl _ _⟩
    case round =>
      clear hO3 hown3
      obtain ⟨j, q, hj, hq, rfl, hown0, hb⟩ := hrel
      have hsz := hb.size
      have hZ := hZI.mono hb
      have hT := (h.mono hb3).mono hb
      by_cases hlt : j < n
      · obtain ⟨b, off, rfl, hB, hc⟩ := hT.at_ (by omega)
        have hrg := hT.range (Below.refl _ _) hlt rfl
        have HPP := Lib.hid (fun h0 => hf.par (show j < L.length by rw [HLN.out]; exact hlt) h0)
        have HNT := Lib.hid (fun h0 => hf.not_text (show j < L.length by rw [HLN.out]; exact hlt) h0)
        have hia : inAt L k j = (!decide (kindOf L j = 3) && decide (((island L (parOf L j).toNat : Nat) : Int) = k)) := rfl
        have HIA := Lib.hid hia
        have HY := Lib.hid (fun h0 h => inL_yes (L := L) (r := k) (k := j) h0 h)
        have HN := Lib.hid (fun h0 h => inL_no (L := L) (r := k) (k := j) h0 h)
        unfold parOf at HPP HNT
        unfold kindOf parOf at HIA
        obtain ⟨x, hx⟩ : ∃ x, L.getD j nd0 = x := ⟨_, rfl⟩
        rw [hx] at hrg HPP HNT HIA
        have hN := Blk_new wr 42 (ncells x).toArray
        have n0 := Nd_cell (j := 0) (v := .int .i64 x.parent) hN rfl
        have n1 := Nd_cell (j := 1) (v := .int .u8 x.st.kind) hN rfl
        have hb4 := hb.alloc hsz (.cells (ncells x).toArray 42)
        have hown := hown0.alloc (.cells (ncells x).toArray 42)
        have hZ4 := hZ.mono ((Below.refl wr.heap.size wr).alloc (Nat.le_refl _) (.cells (ncells x).toArray 42))
        clear hc hx hia hown0 hZ
        by_cases h0 : j = 0
        · subst h0
          have HK := Lib.hid (show inL L k (0 + 1) = inL L k 0 from rfl)
          go_wp2_with (first | ((with_reducible refine at_op ⟨some 22, _, _, _, _, _⟩ ?_); refine wpList_load_mid rfl 42 (.tmp 21) rfl _ _ rfl (ncells x) _ hrg Try.underlying42 rfl info_nd ?_) | ((with_reducible refine at_op ⟨none, .store 42 (.tmp 8) (.tmp 22), _, _, _, _⟩ ?_); refine wpList_store_new rfl 42 (.tmp 8) (.tmp 22) rfl _ ?_ _ (ncells x).toArray rfl rfl info_nd rfl (one_nd x) ?_; · (simp; done)))
          go_roundw
          case rel => exact ⟨0 + 1, q, by omega, by omega, by go_num, by rw [HK.out]; exact hown, hb4⟩
          case measure => simp [intOf]; omega
        have h1 : 1 ≤ j := by omega
        have h0' : 0 < (j : Int) := by omega
        by_cases hk : x.st.kind = 3
        · have HK := Lib.hid (HN.out h1 (by rw [HIA.out, decide_eq_true hk]; rfl))
          rw [hk] at n1
          clear hk h0
          go_wp2_with (first | ((with_reducible refine at_op ⟨some 22, _, _, _, _, _⟩ ?_); refine wpList_load_mid rfl 42 (.tmp 21) rfl _ _ rfl (ncells x) _ hrg Try.underlying42 rfl info_nd ?_) | ((with_reducible refine at_op ⟨none, .store 42 (.tmp 8) (.tmp 22), _, _, _, _⟩ ?_); refine wpList_store_new rfl 42 (.tmp 8) (.tmp 22) rfl _ ?_ _ (ncells x).toArray rfl rfl info_nd rfl (one_nd x) ?_; · (simp; done)))
          go_roundw
          case rel => exact ⟨j + 1, q, by omega, by omega, by go_num, by rw [HK.out]; exact hown, hb4⟩
          case measure => simp [intOf]; omega
        obtain ⟨hpp, hp0, hp1⟩ := HPP.out h1
        have hnt := HNT.out h1
        obtain ⟨p, hpe⟩ : ∃ p : Nat, x.parent = (p : Int) := ⟨x.parent.toNat, by omega⟩
        rw [hpe, Int.toNat_natCast] at hnt
        have hpn : p < n := by omega
        have hog := ofL_get (L := L) hpn
        rw [show ofAt L p = (island L p : Nat) by unfold ofAt; rw [if_neg hnt]] at hog
        obtain ⟨zb, zoff, rfl, hzB, hzC⟩ := hZ4.at_ (by omega)
        have cz := hzC p hpn
        rw [hog] at cz
        rw [hpe] at n0
        rw [hpe, Int.toNat_natCast, decide_eq_false hk] at HIA
        have hk3 : (x.st.kind != 3) = true := by simpa using hk
        have p0 : 0 ≤ (p : Int) := Int.natCast_nonneg p
        obtain ⟨is, hi⟩ : ∃ x : Nat, island L p = x := ⟨_, rfl⟩
        rw [hi] at cz HIA
        clear hpp hp0 hp1 hnt hpe hog hzC hk h0 hi
        by_cases he : (is : Int) = k
        · have HK := Lib.hid (HY.out h1 (by rw [HIA.out, decide_eq_true he]; rfl))
          have hk' : ((is : Int) == (k : Int)) = true := by simpa using he
          clear he
          go_wp2_with (first | ((with_reducible refine at_op ⟨some 22, _, _, _, _, _⟩ ?_); refine wpList_load_mid rfl 42 (.tmp 21) rfl _ _ rfl (ncells x) _ hrg Try.underlying42 rfl info_nd ?_) | ((with_reducible refine at_op ⟨none, .store 42 (.tmp 8) (.tmp 22), _, _, _, _⟩ ?_); refine wpList_store_new rfl 42 (.tmp 8) (.tmp 22) rfl _ ?_ _ (ncells x).toArray rfl rfl info_nd rfl (one_nd x) ?_; · (simp; done)) | (at_builtin; go_must (refine wpList_append_src _ rfl (.tmp 40) (.tmp 42) 29 rfl w3.heap.size 3 i0 _ 1 8 Try.underlying29 hi0 hz0 hz1 hz2 rfl (by omega) u5 q _ rfl (hown.alloc _) _ 1 1 [(.int .i64 (j : Int))] rfl (Src_at _ 3 #[(.int .i64 (j : Int))] 1 _ rfl (by simp)) (by simp [Value.oneCell']) (by simp only [maxLen]; omega) (by omega) (by simp; omega) ?_); intro v' w6 hown6 hg6 hat6))
          have hb6 : Below w3.heap.size w3 w6 := (hb4.alloc hb4.size _).grown hg6 (by simp; omega) (fun z hz => (hown.lt z hz).1)
          go_roundw
          case rel => exact ⟨j + 1, q + 1, by omega, by omega, by go_num, by rw [HK.out]; simpa using hown6, hb6⟩
          case measure => simp [intOf]; omega
        · have HK := Lib.hid (HN.out h1 (by rw [HIA.out, decide_eq_false he]; rfl))
          have hk' : ((is : Int) == (k : Int)) = false := by simpa using he
          clear he
          go_wp2_with (first | ((with_reducible refine at_op ⟨some 22, _, _, _, _, _⟩ ?_); refine wpList_load_mid rfl 42 (.tmp 21) rfl _ _ rfl (ncells x) _ hrg Try.underlying42 rfl info_nd ?_) | ((with_reducible refine at_op ⟨none, .store 42 (.tmp 8) (.tmp 22), _, _, _, _⟩ ?_); refine wpList_store_new rfl 42 (.tmp 8) (.tmp 22) rfl _ ?_ _ (ncells x).toArray rfl rfl info_nd rfl (one_nd x) ?_; · (simp; done)))
          go_roundw
          case rel => exact ⟨j + 1, q, by omega, by omega, by go_num, by rw [HK.out]; exact hown, hb4⟩
          case measure => simp [intOf]; omega
      · have hjn : j = n := by omega
        rw [hjn] at hown0
        have HO := Lib.hid hown0
        clear hjn hown0
        go_wp2_with fail
        go_ret
        rw [HE.out]
        exact ret_own HO.out (Below_same hb3 hb) hs3
end
end Go.Proofs.Ytlfjbkmdehpahaa
