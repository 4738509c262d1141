/-
  The document's islands (jambref18). No condition.
-/
import Derived.Test.YtlfjbkmdehpahaaIs
set_option linter.unusedVariables false
set_option linter.unusedSimpArgs false
namespace Go.Proofs.Ytlfjbkmdehpahaa
open Go.RowKit Go.BigFrame

section
variable {A D : Option Addr} {n c m d : Nat} {v : Int} {L : List Nd} {adv : List Int}
theorem isBox_any (i : Int) (w : World) (h : Trd w A n D m L adv) (hn : n ≤ maxLen) :
    Calls Try.prog 23 #[.agg #[.slice A n c, .slice D m d, .int .i64 v], .int .i64 i] w fun e w' => e = .returned (.bool (decide (0 ≤ i) && boxN L i.toNat)) ∧ Below w.heap.size w w' := by
  have hl := h.len
  have hn' := hn
  unfold maxLen at hn'
  have hb0 := (Below.refl w.heap.size w).alloc (Nat.le_refl _) (.cells #[.slice A n c, .slice D m d, .int .i64 v] 25)
  rcases (show i < 0 ∨ (0 ≤ i ∧ (n : Int) ≤ i) ∨ (0 ≤ i ∧ i < n) by omega) with g1 | ⟨g1, g2⟩ | ⟨g1, g2⟩
  · have HE := Lib.hid (show (decide (0 ≤ i) && boxN L i.toNat) = false by rw [decide_eq_false (by omega)]; rfl)
    have g3 : decide (0 ≤ i) = false := decide_eq_false (by omega)
    clear hl
    go_enter Try.func23, Try.ntmps23
    go_wp2_with fail
    go_ret
    exact ⟨bool_eq HE.out.symm, hb0⟩
  · have HE := Lib.hid (show (decide (0 ≤ i) && boxN L i.toNat) = false by unfold boxN; rw [decide_eq_false (show ¬ i.toNat < L.length by omega)]; simp)
    have g3 : decide (i < (n : Int)) = false := decide_eq_false (by omega)
    clear hl
    go_enter Try.func23, Try.ntmps23
    go_wp2_with fail
    go_ret
    exact ⟨bool_eq HE.out.symm, hb0⟩
  · obtain ⟨k, rfl⟩ : ∃ k : Nat, i = (k : Int) := ⟨i.toNat, by omega⟩
    have hk : k < n := by omega
    obtain ⟨b, off, rfl, hB, hc⟩ := h.at_ (by omega)
    have ck : _ = some (Value.int .u8 (kindOf L k)) := hc k hk 1 (by omega)
    rw [← Nat.add_assoc] at ck
    have hE : (decide (0 ≤ (k : Int)) && boxN L (k : Int).toNat) = !decide (kindOf L k = 3) := by
      unfold boxN; rw [Int.toNat_natCast, decide_eq_true (show k < L.length by omega), decide_eq_true g1]; rfl
    have HE := Lib.hid hE
    generalize kindOf L k = q at ck HE
    clear hE hc hl
    go_enter Try.func23, Try.ntmps23
    go_wp2_with fail
    go_ret
    exact ⟨bool_eq (by rw [HE.out]; rfl), hb0⟩
set_option maxHeartbeats 1000000 in
theorem island_any (i : Nat) (w : World) (h : Trd w A n D m L adv) (hf : Fine L) (hi : i < n) :
    Calls Try.prog 24 #[.agg #[.slice A n c, .slice D m d, .int .i64 v], .int .i64 i] w fun e w' => e = .returned (.int .i64 (island L i : Nat)) ∧ Below w.heap.size w w' := by
  have hl := h.len
  have hn : n ≤ maxLen := by have := hf.small; unfold maxLen; omega
  have hb0 := (Below.refl w.heap.size w).alloc (Nat.le_refl _) (.cells #[.slice A n c, .slice D m d, .int .i64 v] 25)
  have hbT := Blk_new w 25 #[.slice A n c, .slice D m d, .int .i64 v]
  have HLN := Lib.hid hl
  clear hl
  go_enter Try.func24, Try.ntmps24
  go_wp2_with fail
  go_loopw [1, 5, 6, 7, 8, 9, 10, 11, 12, 13, 14] (fun k _ _ _ _ _ _ _ _ _ _ wr => ∃ j : Nat, j < n ∧ k = .int .i64 j ∧ island L i = island L j ∧ Below w.heap.size w wr ∧ Blk wr w.heap.size 25 #[.slice A n c, .slice D m d, .int .i64 v]) (fun k _ _ _ _ _ _ _ _ _ _ _ => (intOf k).toNat)
  case atStart => exact ⟨i, hi, rfl, rfl, hb0, hbT⟩
  case round =>
    clear hb0 hbT
    obtain ⟨j, hj, rfl, hE, hb, hbT⟩ := hrel
    have HE := Lib.hid hE
    clear hE
    have hT := h.mono hb
    have t0 := Blk_cell hbT 0
    have t1 := Blk_cell hbT 1
    have t2 := Blk_cell hbT 2
    have hrc := root_any (c := c) (d := d) (v := v) j wr hT hn
    obtain ⟨b, off, rfl, hB, hc⟩ := hT.at_ (by omega)
    have cp : wr.cell? ⟨b, off + j * 44, none⟩ = some (Value.int .i64 (parOf L j)) := hc j hj 0 (by omega)
    have hk0 : 0 ≤ (j : Int) := by omega
    cases hr : rootB L j
    · obtain ⟨h0, hp, hp0, hp1⟩ := hf.up (by rw [HLN.out]; exact hj) hr
      obtain ⟨p, hpe⟩ : ∃ p : Nat, parOf L j = (p : Int) := ⟨(parOf L j).toNat, by omega⟩
      rw [hpe] at cp hp
      rw [Int.toNat_natCast] at hp
      have HI := Lib.hid (island_up hr hp)
      have hpj : p < j := by omega
      rw [hr] at hrc
      clear hr hp hp0 hp1 hpe hc
      go_wp2_with (go_at_call 17; refine hrc.mono ?_; rintro e w1 ⟨rfl, h1⟩; have u0 := (h1.cell (cell_lt t0)).trans t0; have u1 := (h1.cell (cell_lt cp)).trans cp)
      have hb2 := Below_same hb h1
      have hbT2 := Blk_below hbT h1 (Blk_lt hbT)
      go_roundw
      case rel => exact ⟨p, by omega, rfl, HE.out.trans HI.out, hb2, hbT2⟩
      case measure => simp [intOf]; omega
    · have HI := Lib.hid (island_root hr)
      rw [hr] at hrc
      clear hr hc
      go_wp2_with (go_at_call 17; refine hrc.mono ?_; rintro e w1 ⟨rfl, h1⟩)
      go_ret
      exact ⟨by rw [HE.out, HI.out]; rfl, Below_same hb h1⟩
set_option maxHeartbeats 1000000 in
theorem roots_any (w : World) (h : Trd w A n D m L adv) (hn : n ≤ 65536) :
    Calls Try.prog 10 #[.agg #[.slice A n c, .slice D m d, .int .i64 v]] w (RetInts ((rootsL L n).map Int.ofNat) w) := by
  obtain ⟨i0, hi0, hz0, hz1, hz2⟩ := info_parts iI
  have hm : n ≤ maxLen := by unfold maxLen; omega
  have hb0 := (Below.refl w.heap.size w).alloc (Nat.le_refl _) (.cells #[.slice A n c, .slice D m d, .int .i64 v] 25)
  have hbT := Blk_new w 25 #[.slice A n c, .slice D m d, .int .i64 v]
  go_enter Try.func10, Try.ntmps10
  go_wp2_with fail
  go_loopw [3, 4, 5, 6, 7, 8, 9, 10, 11, 12, 13, 14, 15, 16, 17, 18] (fun l k _ _ _ _ _ _ _ _ _ _ _ _ _ _ wr => ∃ (j q : Nat), j ≤ n ∧ q ≤ j ∧ k = .int .i64 j ∧ wr.ownsRow (w.heap.size + 1) 3 1 l q (((rootsL L j).map Int.ofNat).map (Value.int .i64)) ∧ Below w.heap.size w wr ∧ Blk wr w.heap.size 25 #[.slice A n c, .slice D m d, .int .i64 v]) (fun _ k _ _ _ _ _ _ _ _ _ _ _ _ _ _ _ => n - (intOf k).toNat)
  case atStart => exact ⟨0, 0, by omega, by omega, rfl, World.ownsRow_nil _ _ _ _, hb0, hbT⟩
  case round =>
    clear hb0 hbT
    obtain ⟨j, q, hj, hq, rfl, hown, hb, hbT⟩ := hrel
    have hT := h.mono hb
    have t0 := Blk_cell hbT 0
    have t1 := Blk_cell hbT 1
    have t2 := Blk_cell hbT 2
    have hsz := hb.size
    have hbl := Blk_lt hbT
    by_cases hlt : j < n
    · have hrc := root_any (c := c) (d := d) (v := v) j wr hT hm
      cases hr : rootB L j
      · have HR := Lib.hid (rootsL_no hr)
        rw [hr] at hrc
        clear hr
        go_wp2_with (go_at_call 17; refine hrc.mono ?_; rintro e w1 ⟨rfl, h1⟩)
        have hb2 := Below_same hb h1
        have hbT2 := Blk_below hbT h1 (Blk_lt hbT)
        have hown2 := own_below hown h1
        go_roundw
        case rel => exact ⟨j + 1, q, by omega, by omega, by go_num, by rw [HR.out]; exact hown2, hb2, hbT2⟩
        case measure => simp [intOf]; omega
      · have HR := Lib.hid (rootsL_yes hr)
        rw [hr] at hrc
        clear hr
        have HO := Lib.hid hown
        clear hown
        go_wp2_with (first | (go_at_call 17; refine hrc.mono ?_; rintro e w1 ⟨rfl, h1⟩; have hown := own_below HO.out h1; have hs1 := h1.size) | (at_builtin; go_must (refine wpList_append_src _ rfl (.tmp 15) (.tmp 17) 29 rfl (w.heap.size + 1) 3 i0 _ 1 8 Try.underlying29 hi0 hz0 hz1 hz2 rfl (by omega) u3 q _ rfl (hown.alloc _) _ 1 1 [(.int .i64 (j : Int))] rfl (Src_at _ 3 #[(.int .i64 (j : Int))] 1 _ rfl (by simp)) (by simp [Value.oneCell']) (by simp only [maxLen]; omega) (by omega) (by simp; omega) ?_); intro v' w6 hown6 hg6 hat6))
        have hb2 := Below_same hb h1
        have hbT2 := Blk_below hbT h1 (Blk_lt hbT)
        have hb3 : Below w.heap.size w w6 := (hb2.alloc hb2.size _).grown hg6 (by simp; omega) (fun z hz => by have := (hown.lt z hz).1; omega)
        have hbT3 := Blk_grown (Blk_alloc hbT2 _) hg6 (fun e => by have := (hown.lt _ e.symm).1; omega)
        go_roundw
        case rel => exact ⟨j + 1, q + 1, by omega, by omega, by go_num, by rw [HR.out]; simpa using hown6, hb3, hbT3⟩
        case measure => simp [intOf]; omega
    · have hjn : j = n := by omega
      subst hjn
      go_wp2_with fail
      go_ret
      exact ret_own hown hb (by omega)
end
end Go.Proofs.Ytlfjbkmdehpahaa
