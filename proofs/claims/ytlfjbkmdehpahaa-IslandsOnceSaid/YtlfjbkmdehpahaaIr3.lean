/-
  The document's islands, on (jambref18.Inside). No condition.
-/
import Derived.Test.YtlfjbkmdehpahaaIr2
set_option linter.unusedVariables false
set_option linter.unusedSimpArgs false
namespace Go.Proofs.Ytlfjbkmdehpahaa
open Go.RowKit Go.BigFrame

section
variable {A D : Option Addr} {n c m d : Nat} {v : Int} {L : List Nd} {adv : List Int}
theorem inL_one (L : List Nd) (r : Int) : inL L r 1 = [] := rfl
set_option maxHeartbeats 1000000 in
theorem inside_any (r : Int) (w : World) (h : Trd w A n D m L adv) (hf : Fine L) :
    Calls Try.prog 16 #[.agg #[.slice A n c, .slice D m d, .int .i64 v], .int .i64 r] w (RetInts ((insideI L r).map Int.ofNat) w) := by
  obtain ⟨i0, hi0, hz0, hz1, hz2⟩ := info_parts iI
  have hl := h.len
  have hsm := hf.small
  rw [hl] at hsm
  have hpos := hf.pos
  rw [hl] at hpos
  have hm : n ≤ maxLen := by unfold maxLen; omega
  have hb0 := (Below.refl w.heap.size w).alloc (Nat.le_refl _) (.cells #[.slice A n c, .slice D m d, .int .i64 v] 25)
  have hbT := Blk_new w 25 #[.slice A n c, .slice D m d, .int .i64 v]
  have hbx := isBox_any (c := c) (d := d) (v := v) r _ (h.mono hb0) hm
  have hrt := fun (w1 : World) (h1 : Below w.heap.size w w1) => root_any (c := c) (d := d) (v := v) r w1 (h.mono h1) hm
  cases hr : rootB L r
  · have HE := Lib.hid (show insideI L r = [] by unfold insideI; rw [if_pos hr])
    rw [hr] at hrt
    have HRT := Lib.hid hrt
    obtain ⟨q, hq⟩ : ∃ q, (decide (0 ≤ r) && boxN L r.toNat) = q := ⟨_, rfl⟩
    rw [hq] at hbx
    clear hq hr hl hrt
    cases q
    all_goals
      go_enter Try.func16, Try.ntmps16
      go_wp2_with (first
        | (go_at_call 23; refine hbx.mono ?_; rintro e w1 ⟨rfl, h1⟩; have hb1 := Below_same hb0 h1; have hbT2 := Blk_below hbT h1 (Blk_lt hbT); have u0 := Blk_cell hbT2 0; have u1 := Blk_cell hbT2 1; have u2 := Blk_cell hbT2 2)
        | (go_at_call 17; refine (HRT.out _ hb1).mono ?_; rintro e w2 ⟨rfl, h2⟩))
      go_ret
      rw [HE.out]
      exact ret_nil _ _ (by first | exact Below_same hb1 h2 | exact hb1)
  · obtain ⟨k, rfl⟩ : ∃ k : Nat, r = (k : Int) := ⟨r.toNat, by
      rcases Int.lt_or_le r 0 with h0 | h0
      · rw [root_out (.inl h0)] at hr; cases hr
      · omega⟩
    have hrk := root_kind hr
    have hkn : k < n := by rw [hl] at hrk; exact hrk.1
    have HE := Lib.hid (show insideI L k = inL L k n by unfold insideI; rw [if_neg (by rw [hr]; simp), hl])
    have hbe : (decide (0 ≤ (k : Int)) && boxN L (k : Int).toNat) = true := by
      unfold boxN; rw [Int.toNat_natCast, decide_eq_true hrk.1, decide_eq_false hrk.2, decide_eq_true (Int.natCast_nonneg k)]; rfl
    rw [hbe] at hbx
    rw [hr] at hrt
    have HRT := Lib.hid hrt
    have hk0 : 0 ≤ (k : Int) := Int.natCast_nonneg k
    have HLN := Lib.hid hl
    clear hbe hr hl hrt hrk
    go_enter Try.func16, Try.ntmps16
    go_wp2_with (first
        | (go_at_call 23; refine hbx.mono ?_; rintro e w1 ⟨rfl, h1⟩; have hb1 := Below_same hb0 h1; have hbT2 := Blk_below hbT h1 (Blk_lt hbT); have u0 := Blk_cell hbT2 0; have u1 := Blk_cell hbT2 1; have u2 := Blk_cell hbT2 2)
        | (go_at_call 17; refine (HRT.out _ hb1).mono ?_; rintro e w2 ⟨rfl, h2⟩; have hb2 := Below_same hb1 h2; have hbT3 := Blk_below hbT2 h2 (Blk_lt hbT2)))
    clear u0 u1 u2 hbT2 hbT hb0 hb1 h1 h2 hbx
    go_loopw [5, 6, 17, 18, 19, 20, 21, 22, 23, 24, 25, 26, 27, 28, 29, 30, 31, 32, 33, 34, 35, 36, 37, 38, 39, 40, 41, 42] (fun l i _ _ _ _ _ _ _ _ _ _ _ _ _ _ _ _ _ _ _ _ _ _ _ _ _ _ wr => ∃ (j q : Nat), 1 ≤ j ∧ j ≤ n ∧ q ≤ j ∧ i = .int .i64 j ∧ wr.ownsRow (w.heap.size + 1) 3 1 l q (((inL L k j).map Int.ofNat).map (Value.int .i64)) ∧ Below w.heap.size w wr ∧ Blk wr w.heap.size 25 #[.slice A n c, .slice D m d, .int .i64 v]) (fun _ i _ _ _ _ _ _ _ _ _ _ _ _ _ _ _ _ _ _ _ _ _ _ _ _ _ _ _ => n - (intOf i).toNat)
    case atStart => exact ⟨1, 0, by omega, by omega, by omega, rfl, by rw [inL_one]; exact World.ownsRow_nil _ _ _ _, hb2, hbT3⟩
    case round =>
      clear hb2 hbT3
      obtain ⟨j, q, hj1, hj, hq, rfl, hown, hb, hbT⟩ := hrel
      have hT := h.mono hb
      have t0 := Blk_cell hbT 0
      have t1 := Blk_cell hbT 1
      have t2 := Blk_cell hbT 2
      have hsz := hb.size
      have hbl := Blk_lt hbT
      by_cases hlt : j < n
      · have hbj := fun (w1 : World) (h1 : Below wr.heap.size wr w1) => isBox_any (c := c) (d := d) (v := v) j w1 (hT.mono h1) hm
        have hbe : (decide (0 ≤ (j : Int)) && boxN L (j : Int).toNat) = !decide (kindOf L j = 3) := by
          unfold boxN; rw [Int.toNat_natCast, decide_eq_true (show j < L.length by rw [HLN.out]; exact hlt), decide_eq_true (Int.natCast_nonneg j)]; rfl
        rw [hbe] at hbj
        have hpp := hf.par (show j < L.length by rw [HLN.out]; exact hlt) hj1
        obtain ⟨p, hpe⟩ : ∃ p : Nat, parOf L j = (p : Int) := ⟨(parOf L j).toNat, by omega⟩
        have hpj : p < j := by omega
        obtain ⟨b, off, rfl, hB, hc⟩ := hT.at_ (by omega)
        have cp : wr.cell? ⟨b, off + j * 44, none⟩ = some (.int .i64 (parOf L j)) := hc j hlt 0 (by omega)
        rw [hpe] at cp
        have his := fun (w1 : World) (h1 : Below wr.heap.size wr w1) => island_any (c := c) (d := d) (v := v) p w1 (hT.mono h1) hf (by omega)
        have hia : inAt L k j = (!decide (kindOf L j = 3) && decide (((island L p : Nat) : Int) = k)) := by unfold inAt; rw [hpe, Int.toNat_natCast]
        have HIS := Lib.hid his
        have HIA := Lib.hid hia
        have HBJ := Lib.hid hbj
        generalize (!decide (kindOf L j = 3)) = tx at HBJ HIA
        clear hbj his hia hbe hpp hpe hc
        have HY := Lib.hid (fun h => inL_yes (L := L) (r := k) hj1 h)
        have HN := Lib.hid (fun h => inL_no (L := L) (r := k) hj1 h)
        have y0 := fun z : Up wr => up_cell z t0
        have y1 := fun z : Up wr => up_cell z t1
        have y2 := fun z : Up wr => up_cell z t2
        have y3 := fun z : Up wr => up_cell z cp
        obtain ⟨is, hi⟩ : ∃ x : Nat, island L p = x := ⟨_, rfl⟩
        rw [hi] at HIS HIA
        clear hi
        have no : ∀ (w1 : World), Below wr.heap.size wr w1 → inAt L k j = false → w1.ownsRow (w.heap.size + 1) 3 1 u5 q (((inL L k (j + 1)).map Int.ofNat).map (Value.int .i64)) := fun w1 h1 hx => by rw [HN.out hx]; exact own_below hown h1
        have NO := Lib.hid no
        clear no
        cases tx
        · have hx : inAt L k j = false := by rw [HIA.out]; rfl
          have HX := Lib.hid hx
          clear hx
          go_wp2_with fail
          refine wp_region_up (by kernel_rfl) (by kernel_rfl) ?_
          repeat (go_big_quiet_step ((first | (go_at_call 23; (with_reducible refine up_call (HBJ.out _ (Up.ok _)))) | (go_at_call 24; (with_reducible refine up_call (HIS.out _ (Up.ok _)))))))
          refine wpQuiet_nil ?_
          intro w' hup
          go_wp2_with fail
          have hb2 := Below_same hb hup
          have hbT2 := Blk_below hbT hup (Blk_lt hbT)
          go_roundw
          case rel => exact ⟨j + 1, q, by omega, by omega, by omega, by go_num, NO.out _ hup HX.out, hb2, hbT2⟩
          case measure => simp [intOf]; omega
        · by_cases he : (is : Int) = k
          · have hx : inAt L k j = true := by rw [HIA.out, decide_eq_true he]; rfl
            have HX := Lib.hid (HY.out hx)
            have hk' : ((is : Int) == (k : Int)) = true := by simpa using he
            have HO := Lib.hid hown
            clear hx he hown
            go_wp2_with fail
            refine wp_region_up (by kernel_rfl) (by kernel_rfl) ?_
            repeat (go_big_quiet_step ((first | (go_at_call 23; (with_reducible refine up_call (HBJ.out _ (Up.ok _)))) | (go_at_call 24; (with_reducible refine up_call (HIS.out _ (Up.ok _)))))))
            refine wpQuiet_nil ?_
            intro w' hup
            have hown := own_below HO.out hup
            have hs1 := hup.size
            go_wp2_with (at_builtin; go_must (refine wpList_append_src _ rfl (.tmp 39) (.tmp 41) 29 rfl (w.heap.size + 1) 3 i0 _ 1 8 Try.underlying29 hi0 hz0 hz1 hz2 rfl (by omega) u5 q _ rfl (hown.alloc _) _ 1 1 [(.int .i64 (j : Int))] rfl (Src_at _ 3 #[(.int .i64 (j : Int))] 1 _ rfl (by simp)) (by simp [Value.oneCell']) (by simp only [maxLen]; omega) (by omega) (by simp; omega) ?_); intro v' w6 hown6 hg6 hat6)
            have hb2 := Below_same hb hup
            have hbT2 := Blk_below hbT hup (Blk_lt hbT)
            have hb3 : Below w.heap.size w w6 := (hb2.alloc hb2.size _).grown hg6 (by simp; omega) (fun z hz => by have := (hown.lt z hz).1; omega)
            have hbT3 := Blk_grown (Blk_alloc hbT2 _) hg6 (fun e => by have := (hown.lt _ e.symm).1; omega)
            go_roundw
            case rel => exact ⟨j + 1, q + 1, by omega, by omega, by omega, by go_num, by rw [HX.out]; simpa using hown6, hb3, hbT3⟩
            case measure => simp [intOf]; omega
          · have hx : inAt L k j = false := by rw [HIA.out, decide_eq_false he]; rfl
            have HX := Lib.hid hx
            have hk' : ((is : Int) == (k : Int)) = false := by simpa using he
            clear hx he
            go_wp2_with fail
            refine wp_region_up (by kernel_rfl) (by kernel_rfl) ?_
            repeat (go_big_quiet_step ((first | (go_at_call 23; (with_reducible refine up_call (HBJ.out _ (Up.ok _)))) | (go_at_call 24; (with_reducible refine up_call (HIS.out _ (Up.ok _)))))))
            refine wpQuiet_nil ?_
            intro w' hup
            go_wp2_with fail
            have hb2 := Below_same hb hup
            have hbT2 := Blk_below hbT hup (Blk_lt hbT)
            go_roundw
            case rel => exact ⟨j + 1, q, by omega, by omega, by omega, by go_num, NO.out _ hup HX.out, hb2, hbT2⟩
            case measure => simp [intOf]; omega
      · have hjn : j = n := by omega
        rw [hjn] at hown
        have HO := Lib.hid hown
        clear hjn hown
        go_wp2_with fail
        go_ret
        rw [HE.out]
        exact ret_own HO.out hb (by omega)
end
end Go.Proofs.Ytlfjbkmdehpahaa
