/-
  IslandsCut. No condition.
-/
import Derived.Test.YtlfjbkmdehpahaaP
import Derived.Test.YtlfjbkmdehpahaaTA
set_option linter.unusedVariables false
set_option linter.unusedSimpArgs false
namespace Go.Proofs.Ytlfjbkmdehpahaa
open Go.RowKit Go.BigFrame

theorem Agree.island {M L : List Nd} {k : Nat} (h : Agree M L k) (i : Nat) : i < k → Go.Proofs.Ytlfjbkmdehpahaa.island M i = Go.Proofs.Ytlfjbkmdehpahaa.island L i := by
  induction i using Nat.strongRecOn with
  | _ i ih =>
    intro hi
    cases hr : rootB L i
    · cases hp : Go.Proofs.Ytlfjbkmdehpahaa.par L i with
      | none =>
        have h1 : ∀ (N : List Nd), rootB N i = false → Go.Proofs.Ytlfjbkmdehpahaa.par N i = none → Go.Proofs.Ytlfjbkmdehpahaa.island N i = i := fun N h2 h3 => by
          rw [Go.Proofs.Ytlfjbkmdehpahaa.island, if_neg (by rw [h2]; simp)]
          split
          · rfl
          · rename_i q hq; rw [h3] at hq; cases hq
        rw [h1 L hr hp, h1 M ((h.root hi).trans hr) ((h.par hi).trans hp)]
      | some p =>
        have := par_lt hp
        rw [island_up hr hp, island_up ((h.root hi).trans hr) ((h.par hi).trans hp), ih p this (by omega)]
    · rw [island_root hr, island_root ((h.root hi).trans hr)]
theorem of_take {L : List Nd} {k n : Nat} (hk : k ≤ n) (hl : L.length = n) : (ofL L n).take k = ofL (L.take k) k := by
  have ha := Agree.take (L := L) (k := k) (by omega)
  apply List.ext_getElem (by simp [ofL]; omega)
  intro i h1 h2
  have hi : i < k := by simpa [ofL] using h2
  simp only [ofL, List.getElem_take, List.getElem_map, List.getElem_range]
  unfold ofAt
  rw [ha.kind hi, ha.island i hi]
section
variable {A D : Option Addr} {n c m d : Nat} {v : Int} {L : List Nd} {adv : List Int}
set_option maxRecDepth 100000 in
set_option maxHeartbeats 4000000 in
theorem cut_any (u : Int) (hu0 : 0 ≤ u) (hu1 : u ≤ 65535) (w : World) (h : Trd w A n D m L adv) (hwf : TrWf n c m d L adv v) :
    Calls Try.prog 5 #[.agg #[.slice A n c, .slice D m d, .int .i64 v], .int .u16 u] w fun e w' => e = .returned (.bool true) ∧ Below w.heap.size w w' := by
  have hbT := Blk_new w 25 #[.slice A n c, .slice D m d, .int .i64 v]
  have hb0 := (Below.refl w.heap.size w).alloc (Nat.le_refl _) (.cells #[.slice A n c, .slice D m d, .int .i64 v] 25)
  have hsc := small_any (c := c) (d := d) (v := v) _ (h.mono hb0) hwf
  go_enter Try.func5, Try.ntmps5
  go_wp2_with fail
  refine hsc.mono ?_
  rintro e w1 ⟨b, rfl, hsb, h1⟩
  have hb1 := Below_same hb0 h1
  have hbT1 := Blk_below hbT h1 (Blk_lt hbT)
  clear hbT hb0 h1 hsc
  cases b
  · clear hsb
    go_wp2_with (go_at_call 7; refine (works_any _).mono ?_; rintro e w9 ⟨rfl, h9⟩)
    go_ret
    exact ⟨rfl, Below_same hb1 h9⟩
  obtain ⟨hf, hl3⟩ := hsb rfl
  have hl := h.len
  have hpos := hf.pos
  have hn3 : n ≤ 300 := by omega
  have hn0 : 0 < n := by omega
  have h3 := Int.emod_nonneg u (show (n : Int) ≠ 0 by omega)
  have h4 := Int.emod_lt_of_pos u (show (0 : Int) < n by omega)
  obtain ⟨p, hp⟩ : ∃ p : Nat, u % (n : Int) = (p : Int) := ⟨(u % (n : Int)).toNat, by omega⟩
  have hpn : p < n := by omega
  have hf2 := hf.take (k := p + 1) (by omega) (by omega)
  have hcn : (n : Int) ≤ c := by have := hwf.nc; omega
  have hcm := hwf.cmax
  unfold maxLen at hcm
  have HTK := Lib.hid (of_take (L := L) (k := p + 1) (n := n) (by omega) hl)
  have HNO := Lib.hid (ofL_len L n)
  have HNK := Lib.hid (ofL_len (L.take (p + 1)) (p + 1))
  have HP := Lib.hid hp
  have hnz : ((n : Int) == 0) = false := by simp; omega
  have hT1 := h.mono hb1
  have t0 := Blk_cell hbT1 0
  have t1 := Blk_cell hbT1 1
  have t2 := Blk_cell hbT1 2
  have hpc : (p : Int) + 1 ≤ c := by omega
  have hf1 := hf
  clear hsb hl3 hp hl hpos
  go_upto_region 4 with fail
  rw [HP.out]
  clear h3 h4
  have HT := Lib.hid (fun (w' : World) (hw : Below w1.heap.size w1 w') => hT1.mono hw)
  have HT2 := Lib.hid (fun (w' : World) (hw : Below w1.heap.size w1 w') => (hT1.mono hw).cut (k := p + 1) (by omega))
  have hb2 := (Below.refl w1.heap.size w1).alloc (Nat.le_refl _) (.cells #[.slice A (p + 1) c, .slice D m d, .int .i64 v] 25)
  have hbC := Blk_new w1 25 #[.slice A (p + 1) c, .slice D m d, .int .i64 v]
  have hbT2 := Blk_below hbT1 hb2 (Blk_lt hbT1)
  have hp1 : (0 : Int) ≤ (p : Int) + 1 := by omega
  have hlt := Blk_lt hbT1
  go_upto_region 6 with fail
  have c0 := Blk_cell hbC 0
  have c1 := Blk_cell hbC 1
  have c2 := Blk_cell hbC 2
  have d0 := Blk_cell hbT2 0
  have d1 := Blk_cell hbT2 1
  have d2 := Blk_cell hbT2 2
  generalize w1.alloc (.cells #[.slice A (p + 1) c, .slice D m d, .int .i64 v] 25) = w2 at *
  have ho1 := iof_any (c := c) (d := d) (v := v) w2 (HT.out _ hb2) hf1
  go_upto_region 7 with (go_at_call 11; refine ho1.mono ?_; intro e w3 hret; obtain ⟨Z1, z1, rfl, h11, h12, I1, _, h13⟩ := hret.out HNO.out; clear hret)
  have hb3 := Below_same hb2 h13
  have e0 := (h13.cell (cell_lt c0)).trans c0
  have e1 := (h13.cell (cell_lt c1)).trans c1
  have e2 := (h13.cell (cell_lt c2)).trans c2
  have ho2 := iof_any (c := c) (d := d) (v := v) w3 (HT2.out _ hb3) hf2
  go_upto_region 8 with (go_at_call 11; refine ho2.mono ?_; intro e w4 hret; obtain ⟨Z2, z2, rfl, h21, h22, I2, _, h23⟩ := hret.out HNK.out; clear hret)
  have hb4 := Below_same hb3 h23
  have g0 := ((h13.trans (h23.mono h13.size)).cell (cell_lt d0)).trans d0
  have I3 := (I1.mono h23).take (k := p + 1) (by omega)
  rw [HTK.out] at I3
  have hbb := Below_same hb1 hb4
  unfold maxLen at h12 h22
  have hz1 : (p : Int) + 1 ≤ z1 := by omega
  have hpe : ((p : Int) + 1 == (p : Int) + 1) = true := by simp
  have hsm : p + 1 ≤ maxLen := by unfold maxLen; omega
  clear c0 c1 c2 d0 d1 d2 e0 e1 e2 ho1 ho2 h13 h23 hb2 hb3 hb4 hbC hbT2 I1
  go_wp2_with (first
    | (go_at_call 8; (with_reducible refine (same_any _ _ _ _ _ _ _ _ _ I3 I2 hsm hsm).mono ?_); rintro e w' ⟨hes, hw⟩; rw [decide_eq_true rfl] at hes; subst hes)
    | (go_at_call 7; refine (works_any _).mono ?_; rintro e w9 ⟨rfl, h9⟩))
  go_ret
  exact ⟨rfl, Below_same (Below_same hbb hw) h9⟩
end
end Go.Proofs.Ytlfjbkmdehpahaa
