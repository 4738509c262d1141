/-
  IslandsOnce. No condition.
-/
import Derived.Test.YtlfjbkmdehpahaaOl
set_option linter.unusedVariables false
set_option linter.unusedSimpArgs false
namespace Go.Proofs.Ytlfjbkmdehpahaa
open Go.RowKit Go.BigFrame

section
variable {A D : Option Addr} {n c m d : Nat} {v : Int} {L : List Nd} {adv : List Int}
/-- What the law keeps: the tree, its islands, its roots. -/
structure Kept (A D : Option Addr) (n c m d : Nat) (v : Int) (L : List Nd) (adv : List Int) (w0 w : World) (T R nr : Nat) (Z Y : Option Addr) : Prop where
  trd : Trd w0 A n D m L adv
  old : Below w0.heap.size w0 w
  t : Blk w T 25 #[.slice A n c, .slice D m d, .int .i64 v]
  of_ : Ints .i64 w Z n (ofL L n)
  rt : Ints .i64 w Y nr ((rootsL L n).map Int.ofNat)
  lo : w0.heap.size ≤ R
  ne : T ≠ R ∧ (∀ a, Z = some a → a.block ≠ R) ∧ ∀ a, Y = some a → a.block ≠ R
theorem Kept.only {w0 w w' : World} {T R nr : Nat} {Z Y : Option Addr} (h : Kept A D n c m d v L adv w0 w T R nr Z Y) (ho : Only [R] w w') : Kept A D n c m d v L adv w0 w' T R nr Z Y :=
  ⟨h.trd, Only.after h.old (Nat.le_refl _) ho (by simpa using h.lo), ho.blk h.t (by simpa using h.ne.1), h.of_.only ho (fun a ha => by simpa using h.ne.2.1 a ha), h.rt.only ho (fun a ha => by simpa using h.ne.2.2 a ha), h.lo, h.ne⟩
theorem Kept.now {w0 w : World} {T R nr : Nat} {Z Y : Option Addr} (h : Kept A D n c m d v L adv w0 w T R nr Z Y) : Trd w A n D m L adv := h.trd.mono h.old
set_option maxRecDepth 100000 in
set_option maxHeartbeats 4000000 in
theorem once_any (w : World) (h : Trd w A n D m L adv) (hwf : TrWf n c m d L adv v) :
    Calls Try.prog 4 #[.agg #[.slice A n c, .slice D m d, .int .i64 v]] w fun e w' => e = .returned (.bool true) ∧ Below w.heap.size w w' := by
  have hbT := Blk_new w 25 #[.slice A n c, .slice D m d, .int .i64 v]
  have hb0 := (Below.refl w.heap.size w).alloc (Nat.le_refl _) (.cells #[.slice A n c, .slice D m d, .int .i64 v] 25)
  have hsc := small_any (c := c) (d := d) (v := v) _ (h.mono hb0) hwf
  go_enter Try.func4, Try.ntmps4
  go_wp2_with fail
  refine hsc.mono ?_
  rintro e w1 ⟨b, rfl, hsb, h1⟩
  have hb1 := Below_same hb0 h1
  have hbT1 := Blk_below hbT h1 (Blk_lt hbT)
  clear hbT hb0 h1 hsc
  cases b
  · clear hsb
    go_wp2_with (go_at_call 7; refine (works_any _).mono ?_; rintro e w9 ⟨rfl, h9⟩)
    go_ret
    exact ⟨rfl, Below_same hb1 h9⟩
  obtain ⟨hf, hl3⟩ := hsb rfl
  have hl := h.len
  have hpos := hf.pos
  have hn3 : n ≤ 300 := by omega
  have hn0 : 0 < n := by omega
  have hm : n ≤ maxLen := by unfold maxLen; omega
  have HLN := Lib.hid hl
  obtain ⟨i0, hi0, hz0, hz1, hz2⟩ := info_parts iI
  have hmk := run_make_blk (P := Try.prog) Try.underlying29 hi0 hz0 (x := .int .i64 0) rfl hz1 .i64 .i64 n (by rw [hz2]; omega) hm
  have hR := Blk_new w1 3 (List.replicate n (.int .i64 0)).toArray
  have hbR := (Below.refl w1.heap.size w1).alloc (Nat.le_refl _) (.cells (List.replicate n (.int .i64 0)).toArray 3)
  have hb2 := Below_same hb1 hbR
  have hbT2 := Blk_below hbT1 hbR (Blk_lt hbT1)
  have hTR := Blk_lt hbT1
  have t0 := Blk_cell hbT1 0
  have t1 := Blk_cell hbT1 1
  have t2 := Blk_cell hbT1 2
  have hoc := iof_any (c := c) (d := d) (v := v) _ (h.mono hb2) hf
  have hw1 := hb1.size
  clear hl hpos hsb hl3
  go_upto_region 4 with fail
  rw [show (Array.replicate n (Value.int .i64 0)) = (List.replicate n (.int .i64 0)).toArray by simp]
  clear hmk t0 t1 t2 hi0 hz0 hz1 hz2
  have u0 := Blk_cell hbT2 0
  have u1 := Blk_cell hbT2 1
  have u2 := Blk_cell hbT2 2
  have hsR : (w1.alloc (.cells (List.replicate n (.int .i64 0)).toArray 3)).heap.size = w1.heap.size + 1 := by simp
  have hR0 : Row (w1.alloc (.cells (List.replicate n (.int .i64 0)).toArray 3)) 3 w1.heap.size (List.replicate n 0) := by
    unfold Row; simpa using hR
  generalize w1.alloc (.cells (List.replicate n (.int .i64 0)).toArray 3) = w2 at *
  clear hR hbR
  go_upto_region 5 with (go_at_call 11; refine hoc.mono ?_; intro e w3 hret; obtain ⟨Z, zc, rfl, hzn, hzx, hZI, hzf, h3⟩ := hret.out (ofL_len L n); clear hret)
  rw [hsR] at hzf
  have hb3 := Below_same hb2 h3
  have hbT3 := Blk_below hbT2 h3 (Blk_lt hbT2)
  have hR3 := hR0.below h3
  have hs3 := h3.size
  have v0 := Blk_cell hbT3 0
  have v1 := Blk_cell hbT3 1
  have v2 := Blk_cell hbT3 2
  have hrc := iroots_any (c := c) (d := d) (v := v) _ (h.mono hb3) (by omega)
  obtain ⟨nr, hnr⟩ : ∃ k, ((rootsL L n).map Int.ofNat).length = k := ⟨_, rfl⟩
  clear hoc u0 u1 u2
  go_upto_region 6 with (go_at_call 9; refine hrc.mono ?_; intro e w4 hret; obtain ⟨Y, yc, rfl, hyn, hyx, hYI, hyf, h4⟩ := hret.out hnr; clear hret)
  have hK : Kept A D n c m d v L adv w w4 w.heap.size w1.heap.size nr Z Y :=
    ⟨h, Below_same hb3 h4, Blk_below hbT3 h4 (Blk_lt hbT3), hZI.mono h4, hYI, hw1, by omega, fun a ha => by have := hzf a ha; omega, fun a ha => by have := hyf a ha; omega⟩
  have hR4 := hR3.below h4
  have hSe := Seen.start L n
  have hw5 := h4.size
  clear hrc v0 v1 v2 hR0 hR3 hbT1 hbT2 hbT3 hZI hYI h3 h4 hb3 hb2 hzf hyf hsR
  have hnr' : (rootsL L n).length = nr := by rw [← hnr, List.length_map]
  obtain ⟨hr0, hrp⟩ := rootsL_head hf hn0
  have HNR := Lib.hid hnr'
  have hnr3 : nr ≤ 300 := by
    rw [← hnr']; unfold rootsL
    exact Nat.le_trans (List.length_filter_le _ _) (by rw [List.length_range]; omega)
  have hnp : 0 < nr := by omega
  clear hnr hnr'
  have k0 := Blk_cell hK.t 0
  obtain ⟨yb, yo, rfl, hYB, hYC⟩ := hK.rt.at_ hnp
  have y0 := hYC 0 hnp
  rw [int_get, hr0, Nat.add_zero] at y0
  have hnz : ((nr : Int) == 0) = false := by simp; omega
  have hnp' : 0 < (nr : Int) := by omega
  clear hYC hr0 hrp
  go_wp2_with fail
  clear y0 k0
  obtain ⟨R, hRe⟩ : ∃ R, w1.heap.size = R := ⟨_, rfl⟩
  rw [hRe] at hK hR4 hw1 ⊢
  have HRE := Lib.hid hRe
  have hRlt := Blk_lt hR4
  clear hRe
  go_loopw [6, 7, 8, 9, 10, 42, 43, 44, 45, 46, 47, 48, 49, 50, 51, 52, 53, 54, 55, 56, 57, 58, 59, 60, 61, 62, 63, 64, 65, 66, 67, 68, 69, 70, 71, 72, 73, 74, 75, 76, 77, 78, 79, 80, 81, 82, 83, 84, 85, 86, 87, 88, 89, 90, 91, 92, 93, 94, 95, 96, 97, 98, 99, 100, 101, 102, 103, 104, 105, 106, 107, 108, 109, 110, 111, 112, 113, 114, 115, 116, 117, 118, 119, 120, 121, 122, 123, 124, 125, 126, 127, 128, 129, 130, 131, 132, 133, 134, 135, 136, 137, 138, 139, 140, 141, 142, 143, 144, 145, 146, 147, 148, 149, 150, 151, 152, 153, 154, 155, 156, 157, 158, 159, 160, 161, 162, 163, 164, 165, 166, 167, 168, 169, 170, 171, 172, 173, 174] (fun i _ _ _ _ _ _ _ _ _ _ _ _ _ _ _ _ _ _ _ _ _ _ _ _ _ _ _ _ _ _ _ _ _ _ _ _ _ _ _ _ _ _ _ _ _ _ _ _ _ _ _ _ _ _ _ _ _ _ _ _ _ _ _ _ _ _ _ _ _ _ _ _ _ _ _ _ _ _ _ _ _ _ _ _ _ _ _ _ _ _ _ _ _ _ _ _ _ _ _ _ _ _ _ _ _ _ _ _ _ _ _ _ _ _ _ _ _ _ _ _ _ _ _ _ _ _ _ _ _ _ _ _ _ _ _ _ _ wr => ∃ (q : Nat) (S : List Int), q ≤ nr ∧ i = .int .i64 q ∧ Row wr 3 R S ∧ Seen L n ((rootsL L n).take q) [] S ∧ Only [R] w4 wr) (fun i _ _ _ _ _ _ _ _ _ _ _ _ _ _ _ _ _ _ _ _ _ _ _ _ _ _ _ _ _ _ _ _ _ _ _ _ _ _ _ _ _ _ _ _ _ _ _ _ _ _ _ _ _ _ _ _ _ _ _ _ _ _ _ _ _ _ _ _ _ _ _ _ _ _ _ _ _ _ _ _ _ _ _ _ _ _ _ _ _ _ _ _ _ _ _ _ _ _ _ _ _ _ _ _ _ _ _ _ _ _ _ _ _ _ _ _ _ _ _ _ _ _ _ _ _ _ _ _ _ _ _ _ _ _ _ _ _ _ => nr - (intOf i).toNat)
  case atStart => exact ⟨0, _, by omega, rfl, hR4, hSe, Only.refl _ _⟩
  case round =>
    clear hR4 hSe
    obtain ⟨q, S, hq, rfl, hR, hS, ho⟩ := hrel
    have hK2 := hK.only ho
    have HS := Lib.hid hS
    have hos := ho.size
    clear hS
    by_cases hlt : q < nr
    · have hql : q < (rootsL L n).length := by rw [HNR.out]; exact hlt
      have yq := hK2.rt.get hlt
      rw [int_get] at yq
      have hrm := rootsL_mem.1 (getD_mem hql)
      have HFR := Lib.hid (sorted_fresh (rootsL_sorted L n) hql)
      have HTN := Lib.hid (take_next' hql)
      have HPS := Lib.hid (fun (h0 : 0 < q) => sorted_lt (rootsL_sorted L n) h0 hql)
      obtain ⟨r, hr⟩ : ∃ r, (rootsL L n).getD q 0 = r := ⟨_, rfl⟩
      rw [hr] at yq hrm HFR HTN HPS
      obtain ⟨hrn, hrr⟩ := hrm
      have HRR := Lib.hid hrr
      have tc := Blk_cell hK2.t 0
      have tc1 := Blk_cell hK2.t 1
      have tc2 := Blk_cell hK2.t 2
      have q0 := fun z : Up wr => up_cell z yq
      have q1 := fun z : Up wr => up_cell z tc
      have r0 : decide ((r : Int) < 0) = false := decide_eq_false (by omega)
      have r1 : decide ((n : Int) ≤ (r : Int)) = false := decide_eq_false (by omega)
      have HRQ := Lib.hid hr
      clear hr hrr
      go_wp2_with fail
      refine wp_region_up (by kernel_rfl) (by kernel_rfl) ?_
      repeat (go_big_quiet_step (fail))
      refine wpQuiet_nil ?_
      intro w' hup
      clear q0 q1 r0 r1
      have hKA := hK2.only (Only.of_below hup)
      have hRA := hR.below hup
      have hoA := ho.trans (Only.of_below hup)
      have yA := (hup.cell (cell_lt yq)).trans yq
      have tA := Blk_cell hKA.t 0
      have tA1 := Blk_cell hKA.t 1
      have tA2 := Blk_cell hKA.t 2
      have hlow : R < w'.heap.size := by have := hup.size; omega
      obtain ⟨wA, hwA⟩ : ∃ x, w' = x := ⟨_, rfl⟩
      rw [hwA] at hKA hRA hoA yA tA tA1 tA2 hlow ⊢
      clear hup hwA hK2 hR ho yq tc tc1 tc2 hos
      have hin : insideI L (r : Nat) = inL L r n := by unfold insideI; rw [if_neg (by rw [HRR.out]; simp), HLN.out]
      have hinl : ((inL L r n).map Int.ofNat).length ≤ maxLen := by
        rw [List.length_map]; unfold inL maxLen
        exact Nat.le_trans (List.length_filter_le _ _) (by rw [List.length_range']; omega)
      have hic := fun (w' : World) (hw : Below wA.heap.size wA w') => iinside_any (c := c) (d := d) (v := v) (r : Int) w' (hKA.now.mono hw) hf
      rw [hin] at hic
      obtain ⟨ni, hni⟩ : ∃ k, ((inL L r n).map Int.ofNat).length = k := ⟨_, rfl⟩
      have HNI := Lib.hid hni
      have HIC := Lib.hid hic
      have HSS := Lib.hid (fun (w' : World) (h : Below wA.heap.size wA w') => (⟨h, (h.cell (cell_lt yA)).trans yA, (h.cell (cell_lt tA)).trans tA, (h.cell (cell_lt tA1)).trans tA1, (h.cell (cell_lt tA2)).trans tA2⟩ : Below wA.heap.size wA w' ∧ w'.cell? ⟨yb, yo + q, none⟩ = some (.int .i64 (r : Nat)) ∧ w'.cell? ⟨w.heap.size, 0, none⟩ = some (.slice A n c) ∧ w'.cell? ⟨w.heap.size, 1, none⟩ = some (.slice D m d) ∧ w'.cell? ⟨w.heap.size, 2, none⟩ = some (.int .i64 v)))
      rw [hni] at hinl
      unfold maxLen at hinl
      have hil : (inL L r n).length = ni := by rw [← hni, List.length_map]
      have HIL := Lib.hid hil
      have hni3 : ni ≤ 300 := by
        rw [← hil]; unfold inL
        exact Nat.le_trans (List.length_filter_le _ _) (by rw [List.length_range']; omega)
      clear hin hic hni hil yA tA tA1 tA2
      go_wp2_with fail
      go_region_held3 (fun w' => Below wA.heap.size wA w' ∧ w'.cell? ⟨yb, yo + q, none⟩ = some (.int .i64 (r : Nat)) ∧ w'.cell? ⟨w.heap.size, 0, none⟩ = some (.slice A n c) ∧ w'.cell? ⟨w.heap.size, 1, none⟩ = some (.slice D m d) ∧ w'.cell? ⟨w.heap.size, 2, none⟩ = some (.int .i64 v))
        ((first
          | (with_reducible assumption)
          | exact (HSS).out _ (Below.refl _ _).drew
          | exact (HSS).out _ (Below_same hh hw)
          | exact (HSS).out _ ((‹Below _ _ _ ∧ _›).1.alloc (‹Below _ _ _ ∧ _›).1.size _)))
        ((go_at_call 15; have hh := (‹Below _ _ _ ∧ _›).1; (with_reducible refine (HIC.out _ hh).mono ?_); intro e w' hret; obtain ⟨X, xc, rfl, hxn, hxm, hXI, hxf, hw⟩ := hret.out HNI.out; have hXF : ∀ a, X = some a → a.block ≠ R := (fun a ha => by have := hxf a ha; have := hh.size; omega); clear hret hxf))
      have hbB := (‹Below wA.heap.size wA _ ∧ _›).1
      have hKB := hKA.only (Only.of_below hbB)
      have hRB := hRA.below hbB
      have hoB := hoA.trans (Only.of_below hbB)
      obtain ⟨wB, hwB⟩ : ∃ x, w' = x := ⟨_, rfl⟩
      rw [hwB] at hKB hRB hoB hXI ⊢
      clear hbB hwB hKA hRA hoA hw hh
      have hRBl := Blk_lt hRB
      go_wp2_with fail
      go_loopw [8, 9, 10, 69, 70, 71, 72, 73, 74, 75, 76, 77, 78, 79, 80, 81, 82, 83, 84, 85, 86, 87, 88, 89, 90, 91, 92, 93, 94, 95, 96, 97, 98, 99, 100, 101, 102, 103, 104, 105, 106, 107, 108, 109, 110, 111, 112, 113, 114, 115, 116, 117, 118, 119, 120, 121, 122, 123, 124, 125, 126, 127, 128, 129, 130, 131, 132, 133, 134, 135, 136] (fun k _ _ _ _ _ _ _ _ _ _ _ _ _ _ _ _ _ _ _ _ _ _ _ _ _ _ _ _ _ _ _ _ _ _ _ _ _ _ _ _ _ _ _ _ _ _ _ _ _ _ _ _ _ _ _ _ _ _ _ _ _ _ _ _ _ _ _ _ _ _ wr => ∃ (t : Nat) (S : List Int), t ≤ ni ∧ k = .int .i64 t ∧ Row wr 3 R S ∧ Seen L n ((rootsL L n).take q) ((inL L r n).take t) S ∧ Only [R] wB wr) (fun k _ _ _ _ _ _ _ _ _ _ _ _ _ _ _ _ _ _ _ _ _ _ _ _ _ _ _ _ _ _ _ _ _ _ _ _ _ _ _ _ _ _ _ _ _ _ _ _ _ _ _ _ _ _ _ _ _ _ _ _ _ _ _ _ _ _ _ _ _ _ _ => ni - (intOf k).toNat)
      case atStart => exact ⟨0, S, by omega, rfl, hRB, HS.out, Only.refl _ _⟩
      case round =>
        clear hRB HS
        obtain ⟨t, S, ht, rfl, hR, hS, ho⟩ := hrel
        have hKC := hKB.only ho
        have HS := Lib.hid hS
        clear hS
        by_cases htl : t < ni
        · have htl2 : t < (inL L r n).length := by rw [HIL.out]; exact htl
          have hXC := hXI.only ho (fun a ha => by simpa using hXF a ha)
          obtain ⟨xb, xo, rfl, hXB, hXn⟩ := hXC.at_ (by omega)
          clear hXn
          have xt := hXC.get htl
          rw [int_get] at xt
          have hjm := inL_mem.1 (getD_mem htl2)
          obtain ⟨hs0, hsn⟩ := HS.out.next HFR.out htl2
          have hprev := fun (s : Nat) (hs : s < t) => sorted_lt (inL_sorted L r n) hs htl2
          obtain ⟨j, hj⟩ : ∃ j, (inL L r n).getD t 0 = j := ⟨_, rfl⟩
          rw [hj] at xt hjm hs0 hsn hprev
          obtain ⟨hj1, hjn, hjk, hjh⟩ := hjm
          have hhl := (hf.home (by rw [HLN.out]; exact hjn) hj1).2
          rw [hjh] at hhl
          have hjp := hf.par (show j < L.length by rw [HLN.out]; exact hjn) hj1
          obtain ⟨p, hp⟩ : ∃ p : Nat, parOf L j = (p : Int) := ⟨(parOf L j).toNat, by omega⟩
          have hhp : island L p = r := by have := hjh; unfold home at this; rw [hp, Int.toNat_natCast] at this; exact this
          have hpj : p < j := by omega
          have HSN := Lib.hid hsn
          have yq := hKC.rt.get hlt
          rw [int_get, HRQ.out] at yq
          have tc := Blk_cell hKC.t 0
          have tc1 := Blk_cell hKC.t 1
          have tc2 := Blk_cell hKC.t 2
          have hSl := HS.out.len
          have cR := hR.cell (i := j) (by rw [hSl]; exact hjn)
          have fR := Blk_frozen hR j
          rw [hs0] at cR
          have hT := hKC.now
          obtain ⟨tb, to_, rfl, hTB, hTC⟩ := hT.at_ (by omega)
          have cp : wr.cell? ⟨tb, to_ + j * 44, none⟩ = some (.int .i64 (parOf L j)) := hTC j hjn 0 (by omega)
          rw [hp] at cp
          have hR2 := hR.set j 1
          have ho2 := ho.set (p := ⟨R, j, none⟩) (by simp) (.int .i64 1)
          have hKD := hKB.only ho2
          have g1 : decide ((j : Int) ≤ (r : Int)) = false := decide_eq_false (by omega)
          have g2 : decide ((n : Int) ≤ (j : Int)) = false := decide_eq_false (by omega)
          have hne1 := hKC.ne.1
          have hyR : yb ≠ R := hKC.ne.2.2 _ rfl
          have hxR : xb ≠ R := hXF _ rfl
          have htR : tb ≠ R := by
            intro e
            have h1 : w.heap.size ≤ tb := by rw [e]; exact hKC.lo
            obtain ⟨_, _, e2, h2, _⟩ := h.at_ (by omega)
            injection e2 with e2
            injection e2 with e2
            omega
          have hrj : r < j := hhl
          have HPREV := Lib.hid hprev
          have xget := fun (s : Nat) (hs : s < ni) => hXC.get hs
          have HXG := Lib.hid xget
          clear hj hs0 hsn hjp hjh hTC hSl hjk hhl hprev xget
          go_upto_region 18 with fail
          go_cut [104] (fun y wx => y = .bool false ∧ wr = wx)
          case first =>
            have n1 : decide (j ≤ r) = false := decide_eq_false (by omega)
            have n2 : decide (n ≤ j) = false := decide_eq_false (by omega)
            by_cases ht0 : t = 0
            · have g3 : decide (0 < (t : Int)) = false := decide_eq_false (by omega)
              have g4 : decide (0 < t) = false := decide_eq_false (by omega)
              clear ht0
              go_wp2_with fail
              go_meet
              exact ⟨rfl, rfl⟩
            · obtain ⟨s, hs⟩ : ∃ s, t = s + 1 := ⟨t - 1, by omega⟩
              have xs := HXG.out s (by omega)
              rw [int_get] at xs
              have hlts := HPREV.out s (by omega)
              generalize (inL L r n).getD s 0 = j0 at xs hlts
              have g3 : decide (0 < (t : Int)) = true := decide_eq_true (by omega)
              have g6 : decide (0 < t) = true := decide_eq_true (by omega)
              have g4 : decide (j ≤ j0) = false := decide_eq_false (by omega)
              have g5 : ((t : Int) - 1) = (s : Int) := by omega
              have s0 : 0 ≤ (s : Int) := by omega
              have s1 : (s : Int) < ni := by omega
              clear ht0 hs
              go_wp2_with fail
              go_meet
              exact ⟨rfl, rfl⟩
          case rest =>
          obtain ⟨rfl, rfl⟩ := hcut
          clear xt
          go_wp2_with fail
          have HSL := Lib.hid hR2
          have HKD := Lib.hid hKD
          have HO2 := Lib.hid ho2
          obtain ⟨wD, hwD⟩ : ∃ x, wr.setCell ⟨R, j, none⟩ (.int .i64 1) = x := ⟨_, rfl⟩
          rw [hwD] at HSL HKD HO2 ⊢
          clear hwD cR fR cp tc tc1 tc2 yq hKC hXC hR2 hKD ho2 hT g1 g2 hR ho
          go_loopw [10, 117, 118, 119, 120, 121, 122, 123, 124, 125, 126, 127, 128, 129, 130] (fun x _ _ _ _ _ _ _ _ _ _ _ _ _ _ wr => ∃ (p' : Nat), p' < n ∧ x = .int .i64 p' ∧ island L p' = r ∧ Below wD.heap.size wD wr) (fun x _ _ _ _ _ _ _ _ _ _ _ _ _ _ _ => (intOf x).toNat)
          case atStart => exact ⟨p, by omega, rfl, hhp, Below.refl _ _⟩
          case round =>
            obtain ⟨p', hpn', rfl, hpi, hbE⟩ := hrel
            have HPI := Lib.hid hpi
            clear hpi
            have hoE := HO2.out.trans (Only.of_below (gs := [R]) hbE)
            have hKE := hKB.only hoE
            have e0 := Blk_cell hKE.t 0
            have e1 := Blk_cell hKE.t 1
            have e2 := Blk_cell hKE.t 2
            have hrc := root_any (c := c) (d := d) (v := v) p' wr hKE.now hm
            have pp0 : (0 : Int) ≤ (p' : Int) := by omega
            have yE := hKE.rt.get hlt
            rw [int_get, HRQ.out] at yE
            cases hrt : rootB L p'
            · obtain ⟨h0, hup, hu0, hu1⟩ := hf.up (by rw [HLN.out]; exact hpn') hrt
              obtain ⟨p2, hp2⟩ : ∃ p2 : Nat, parOf L p' = (p2 : Int) := ⟨(parOf L p').toNat, by omega⟩
              have HI := Lib.hid (island_up hrt hup)
              rw [hp2, Int.toNat_natCast] at HI
              obtain ⟨tb', to', hte, _, hTC⟩ := hKE.now.at_ (by omega)
              simp only [Option.some.injEq, Addr.mk.injEq, and_true] at hte
              obtain ⟨rfl, rfl⟩ := hte
              have cp : wr.cell? ⟨tb, to_ + p' * 44, none⟩ = some (.int .i64 (parOf L p')) := hTC p' hpn' 0 (by omega)
              rw [hp2] at cp
              have hp2l : p2 < p' := by omega
              rw [hrt] at hrc
              clear hrt hTC hup hu0 hu1 hp2 yE
              go_wp2_with (go_at_call 17; refine hrc.mono ?_; rintro e wF ⟨rfl, hF⟩; have f0 := (hF.cell (cell_lt e0)).trans e0; have f1 := (hF.cell (cell_lt cp)).trans cp)
              have hbF := Below_same hbE hF
              go_roundw
              case rel => exact ⟨p2, by omega, rfl, by rw [← HI.out]; exact HPI.out, hbF⟩
              case measure => simp [intOf]; omega
            · have hpr : p' = r := by have := HPI.out; rw [island_root hrt] at this; exact this
              subst hpr
              rw [hrt] at hrc
              clear hrt HPI
              go_wp2_with (go_at_call 17; refine hrc.mono ?_; rintro e wF ⟨rfl, hF⟩; have f0 := (hF.cell (cell_lt e0)).trans e0; have f1 := (hF.cell (cell_lt yE)).trans yE)
              have hoF := hoE.trans (Only.of_below (gs := [R]) hF)
              have hRF := (HSL.out.below hbE).below hF
              go_roundw
              case rel => exact ⟨t + 1, _, by omega, by go_num, hRF, HSN.out, hoF⟩
              case measure => simp [intOf]; omega
        · have HSD := Lib.hid (HS.out.done (show (inL L r n).length ≤ t by rw [HIL.out]; omega))
          have hSd2 := HSD.out
          rw [← HTN.out] at hSd2
          have HSE := Lib.hid hSd2
          have tc := Blk_cell hKC.t 0
          have tc1 := Blk_cell hKC.t 1
          have tc2 := Blk_cell hKC.t 2
          have yq := hKC.rt.get hlt
          rw [int_get, HRQ.out] at yq
          have q0 := fun z : Up wr => up_cell z tc
          have q1 := fun z : Up wr => up_cell z tc1
          have q2 := fun z : Up wr => up_cell z tc2
          have q3 := fun z : Up wr => up_cell z yq
          clear hSd2 HS hXF
          by_cases hq0 : q = 0
          · have g3 : decide (0 < (q : Int)) = false := decide_eq_false (by omega)
            have g4 : decide (0 < q) = false := decide_eq_false (by omega)
            clear hq0
            go_wp2_with fail
            refine wp_region_up (by kernel_rfl) (by kernel_rfl) ?_
            repeat (go_big_quiet_step (fail))
            refine wpQuiet_nil ?_
            intro w' hup
            go_wp2_with fail
            have hoF := (hoB.trans ho).trans (Only.of_below (gs := [R]) hup)
            have hRF := hR.below hup
            go_roundw
            case rel => exact ⟨q + 1, S, by omega, by go_num, hRF, HSE.out, hoF⟩
            case measure => simp [intOf]; omega
          · have hr0 : 0 < r := by have := HPS.out (by omega); omega
            have hho := hf.home (show r < L.length by rw [HLN.out]; exact hrn) hr0
            have hov : overI L (r : Int) = (home L r : Nat) := by
              unfold overI
              rw [if_neg (by rw [HRR.out]; rintro (h | h); omega; cases h), Int.toNat_natCast]
              rfl
            have hoc := fun (w' : World) (hw : Below wr.heap.size wr w') => iover_any (c := c) (d := d) (v := v) (r : Int) w' (hKC.now.mono hw) hf
            rw [hov] at hoc
            have hog := hKC.of_
            obtain ⟨zb, zo, rfl, hZB, hzn⟩ := hog.at_ (by omega)
            clear hzn
            have zr := hog.get hrn
            rw [ofL_get hrn] at zr
            have hoa : ofAt L r = (r : Int) := by unfold ofAt; rw [if_neg (root_kind HRR.out).2, island_root HRR.out]
            rw [hoa] at zr
            have q4 := fun z : Up wr => up_cell z zr
            have HOC := Lib.hid hoc
            have hhr := hho.2
            obtain ⟨o, ho9⟩ : ∃ o, home L r = o := ⟨_, rfl⟩
            rw [ho9] at HOC hhr
            have g3 : decide (0 < (q : Int)) = true := decide_eq_true (by omega)
            have g4 : decide (0 < q) = true := decide_eq_true (by omega)
            have g5 : decide (r ≤ o) = false := decide_eq_false (by omega)
            have g7 : decide ((r : Int) ≤ (o : Int)) = false := decide_eq_false (by omega)
            have g6 : decide ((o : Int) < 0) = false := decide_eq_false (by omega)
            have g8 : ((r : Int) != (r : Int)) = false := by simp
            have rr0 : (0 : Int) ≤ (r : Int) := by omega
            have rr1 : (r : Int) < n := by omega
            clear hq0 hov hoc hho ho9 hoa hr0
            go_wp2_with fail
            refine wp_region_up (by kernel_rfl) (by kernel_rfl) ?_
            repeat (go_big_quiet_step ((go_at_call 13; (with_reducible refine up_call (HOC.out _ (Up.ok _))))))
            refine wpQuiet_nil ?_
            intro w' hup
            go_wp2_with fail
            have hoF := (hoB.trans ho).trans (Only.of_below (gs := [R]) hup)
            have hRF := hR.below hup
            go_roundw
            case rel => exact ⟨q + 1, S, by omega, by go_num, hRF, HSE.out, hoF⟩
            case measure => simp [intOf]; omega
    · have hqn : q = nr := by omega
      have hSA := HS.out
      rw [List.take_of_length_le (by rw [HNR.out]; omega)] at hSA
      have HSA := Lib.hid (fun (j : Nat) (hj : j < n) => Seen.all hf HLN.out hSA hj)
      have hSl := hSA.len
      have HSL := Lib.hid hSl
      have hge : ¬ (q : Int) < nr := by omega
      obtain ⟨tb, to_, rfl, hTB, hTC⟩ := hK2.now.at_ hn0
      have HTC := Lib.hid (fun (j : Nat) (hj : j < n) => (show wr.cell? ⟨tb, to_ + j * 44 + 1, none⟩ = some (Value.int .u8 (kindOf L j)) from by rw [Nat.add_assoc]; exact hTC j hj 1 (by omega)))
      obtain ⟨zb, zo, rfl, hZB, hzn⟩ := hK2.of_.at_ hn0
      have HZC := Lib.hid (fun (j : Nat) (hj : j < n) => (hK2.of_.get hj).trans (by rw [ofL_get hj]))
      have s0 := hR.cell (i := 0) (by rw [hSl]; exact hn0)
      rw [HSA.out 0 hn0, if_neg (by omega)] at s0
      have tc := Blk_cell hK2.t 0
      have hb9 := hK2.old
      clear hqn hSA hSl hTC hzn HS hyx hzx
      go_wp2_with fail
      go_loop [11, 12, 175, 176, 177, 178, 179, 180, 181, 182, 183, 184, 185, 186, 187, 188, 189, 190, 191, 192, 193, 194, 195, 196, 197, 198, 199, 200, 201, 202, 203, 204, 205, 206, 207, 208, 209, 210, 211, 212, 213] (fun x _ _ _ _ _ _ _ _ _ _ _ _ _ _ _ _ _ _ _ _ _ _ _ _ _ _ _ _ _ _ _ _ _ _ _ _ _ _ _ _ => ∃ (j : Nat), 1 ≤ j ∧ j ≤ n ∧ x = .int .i64 j) (fun x _ _ _ _ _ _ _ _ _ _ _ _ _ _ _ _ _ _ _ _ _ _ _ _ _ _ _ _ _ _ _ _ _ _ _ _ _ _ _ _ => n - (intOf x).toNat)
      case atStart => exact ⟨1, by omega, by omega, by go_num⟩
      case round =>
        obtain ⟨j, hj1, hj, rfl⟩ := hrel
        by_cases hlt : j < n
        · have cR := hR.cell (i := j) (by rw [HSL.out]; exact hlt)
          have ck := HTC.out j hlt
          have cz := HZC.out j hlt
          have hat := HSA.out j hlt
          by_cases hk : kindOf L j = 3
          · rw [hat, if_neg (by rw [hk]; simp)] at cR
            rw [hk] at ck
            rw [show ofAt L j = -1 by unfold ofAt; rw [if_pos hk]] at cz
            clear hk hat
            go_wp2_with fail
            go_round
            case rel => exact ⟨j + 1, by omega, by omega, by go_num⟩
            case measure => simp [intOf]; omega
          · rw [hat, if_pos ⟨hj1, hk⟩] at cR
            have hk3 : (kindOf L j != 3) = true := by simpa using hk
            generalize kindOf L j = kj at ck hk3
            clear hk hat cz
            go_wp2_with fail
            go_round
            case rel => exact ⟨j + 1, by omega, by omega, by go_num⟩
            case measure => simp [intOf]; omega
        · have hge2 : ¬ (j : Int) < n := by omega
          go_wp2_with (go_at_call 7; refine (works_any _).mono ?_; rintro e w9 ⟨rfl, h9⟩)
          go_ret
          exact ⟨rfl, Below_same hb9 h9⟩
end
end Go.Proofs.Ytlfjbkmdehpahaa
