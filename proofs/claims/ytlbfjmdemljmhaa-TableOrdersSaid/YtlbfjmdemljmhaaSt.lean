/-
  TableStays. No condition.
-/
import Derived.Test.YtlbfjmdemljmhaaP
import Derived.Test.YtlbfjmdemljmhaaCom9
set_option linter.unusedVariables false
namespace Go.Proofs.Ytlbfjmdemljmhaa
open Go.RowKit Go.BigFrame
open TP (V TB putR getR cnt vals)

structure Firsts (l : List O) (j : Nat) (fs : List Int) (L : List (Option V)) : Prop where
  len : fs.length = L.length
  at_ : ∀ k, k < fs.length → (fs.getD k 0 = -1 ∧ L.getD k none = none) ∨ ∃ i : Nat, i < j ∧ fs.getD k 0 = (i : Int) ∧ L.getD k none = some (l.getD i o0).2.2
theorem Firsts.start (l : List O) (n : Nat) : Firsts l 0 (List.replicate n (-1)) (List.replicate n none) :=
  ⟨by simp, fun k hk => .inl (by simp at hk; simp [hk])⟩
theorem Firsts.keep {l : List O} {j : Nat} {fs : List Int} {L : List (Option V)} (h : Firsts l j fs L) : Firsts l (j + 1) fs L :=
  ⟨h.len, fun k hk => (h.at_ k hk).imp id fun ⟨i, h1, h2⟩ => ⟨i, by omega, h2⟩⟩
theorem Firsts.put {l : List O} {j : Nat} {fs : List Int} {L : List (Option V)} (h : Firsts l j fs L) {k : Nat} (hk : k < fs.length) {v : V} (hv : (l.getD j o0).2.2 = v) : Firsts l (j + 1) (fs.set k (j : Int)) (L.set k (some v)) := by
  have hl := h.len
  refine ⟨by simp [hl], fun m hm => ?_⟩
  rw [List.length_set] at hm
  by_cases he : k = m
  · subst he
    exact .inr ⟨j, by omega, by simp [hm], by rw [hv]; simp [show k < L.length by omega]⟩
  · have h1 : (fs.set k (j : Int)).getD m 0 = fs.getD m 0 := by simp [List.getD, he]
    have h2 : (L.set k (some v)).getD m none = L.getD m none := by simp [List.getD, he]
    rw [h1, h2]
    exact (h.at_ m hm).imp id fun ⟨i, a, b⟩ => ⟨i, by omega, b⟩
theorem i3 : (Try.prog.info? 3).map (fun i => (i.zero, i.size, i.bytes)) = some (some (.int .i64 0), 1, 8) := by kernel_rfl

set_option maxRecDepth 100000 in
set_option maxHeartbeats 4000000 in
theorem stays_any (n : Nat) (hn : n ≤ 255) (l : List O) (A : Option Addr) (c : Nat) (w : World) (hO : Opl w A l.length l) (hl : l.length ≤ maxLen) :
    Calls Try.prog 4 #[.int .u8 n, .slice A l.length c] w fun e w' => e = .returned (.bool true) ∧ Below w.heap.size w w' := by
  unfold maxLen at hl
  by_cases hbig : 300 < l.length
  · go_enter Try.func4, Try.ntmps4
    go_wp2_with (go_at_call 8; refine (works_any _).mono ?_; rintro e w9 ⟨rfl, h9⟩)
    go_ret
    exact ⟨rfl, h9⟩
  obtain ⟨i0, hi0, hz0, hz1, hz2⟩ := info_parts i3
  have hmk := run_make_blk (P := Try.prog) Try.underlying47 hi0 hz0 (x := .int .i64 0) rfl hz1 .i64 .i64 n (by rw [hz2]; omega) (by simp only [maxLen]; omega)
  have hni : (n : Int) ≤ 255 := by omega
  go_enter Try.func4, Try.ntmps4
  go_wp2_with fail
  refine (TP.new_ok n w (by omega)).mono ?_
  rintro e w1 ⟨rfl, hb1, hT1⟩
  have hz := hb1.size
  obtain ⟨T, hT0⟩ : ∃ T, w.heap.size + 1 = T := ⟨_, rfl⟩
  obtain ⟨C, hC0⟩ : ∃ T, w.heap.size = T := ⟨_, rfl⟩
  obtain ⟨F, hF0⟩ : ∃ T, w1.heap.size = T := ⟨_, rfl⟩
  have hlo : w.heap.size ≤ T ∧ w.heap.size ≤ C ∧ w.heap.size ≤ F := by omega
  rw [hT0] at hT1 ⊢
  rw [show TB w1 T w.heap.size (List.replicate n none) = TB w1 T C (List.replicate n none) by rw [hC0]] at hT1
  have hT2 := hT1.below (Below.alloc (Below.refl _ _) (Nat.le_refl _) (.cells (List.replicate n (.int .i64 0)).toArray 3))
  have hb2 := hb1.alloc hb1.size (.cells (List.replicate n (.int .i64 0)).toArray 3)
  have hR2 := Blk_new w1 3 (List.replicate n (.int .i64 0)).toArray
  have HF := Lib.hid hF0
  clear hT0 hC0 hT1 hb1 hF0
  go_wp2_with fail
  rw [HF.out] at hR2 ⊢
  have hR2' : Row (w1.alloc (.cells (List.replicate n (.int .i64 0)).toArray 3)) 3 F (List.replicate 0 (-1) ++ List.replicate (n - 0) 0) := by
    unfold Row; simpa using hR2
  clear hmk hR2 HF
  go_loopw [8, 35, 36, 37, 38, 39, 40, 41, 42, 43] (fun i _ _ _ _ _ _ _ _ _ wr => ∃ j : Nat, j ≤ n ∧ i = .int .i64 j ∧ Below w.heap.size w wr ∧ TB wr T C (List.replicate n none) ∧ Row wr 3 F (List.replicate j (-1) ++ List.replicate (n - j) 0)) (fun i _ _ _ _ _ _ _ _ _ _ => n - (intOf i).toNat)
  case atStart => exact ⟨0, by omega, rfl, hb2, hT2, hR2'⟩
  case round =>
    clear hb2 hT2 hR2'
    obtain ⟨j, hj, rfl, hb, hT, hR⟩ := hrel
    by_cases hlt : j < n
    · have cf := hR.cell (i := j) (by simp; omega)
      have fz := Blk_frozen hR j
      have hs := hR.set j (-1)
      have hTs : ∀ u, TB (wr.setCell ⟨F, j, none⟩ u) T C (List.replicate n none) := fun u => hT.only (gs := [F]) (Only.set (Only.refl _ _) (by simp) u) (by simp; exact blk_neq hT.obj hR (by decide)) (by simp; exact blk_neq hT.grid.blk hR (by decide))
      rw [pads_set (-1) 0 hlt] at hs
      have hbs : ∀ u, Below w.heap.size w (wr.setCell ⟨F, j, none⟩ u) := fun u => hb.setCell hlo.2.2 u
      clear hR hT hb
      go_wp2_with fail
      go_roundw
      case rel => exact ⟨j + 1, by omega, by go_num, hbs _, hTs _, hs⟩
      case measure => simp [intOf]; omega
    · obtain rfl : j = n := by omega
      rw [Nat.sub_self, List.replicate_zero, List.append_nil] at hR
      have hfi := Firsts.start l j
      have hcn : cnt (List.replicate j none) = j := TP.cnt_rep j
      have hf0 : (List.replicate j (-1 : Int)).length = j := by simp
      generalize List.replicate j (none : Option V) = L0 at hT hfi hcn
      generalize List.replicate j (-1 : Int) = fs0 at hR hfi hf0
      clear hlt hj
      go_wp2_with fail
      go_loopw [9, 10, 11, 12, 46, 47, 48, 49, 50, 51, 52, 53, 54, 55, 56, 57, 58, 59, 60, 61, 62, 63, 64, 65, 66, 67, 68, 69, 70, 71, 72, 73, 74, 75, 76, 77, 78, 79, 80, 81, 82, 83, 84, 85, 86, 87, 88, 89, 90, 91, 92, 93, 94] (fun q i _ _ _ _ _ _ _ _ _ _ _ _ _ _ _ _ _ _ _ _ _ _ _ _ _ _ _ _ _ _ _ _ _ _ _ _ _ _ _ _ _ _ _ _ _ _ _ _ _ _ _ wr => ∃ (m : Nat) (fs : List Int) (L : List (Option V)), m ≤ l.length ∧ i = .int .i64 m ∧ q = .int .i64 (cnt L) ∧ Below w.heap.size w wr ∧ TB wr T C L ∧ Row wr 3 F fs ∧ Firsts l m fs L ∧ fs.length = j) (fun _ i _ _ _ _ _ _ _ _ _ _ _ _ _ _ _ _ _ _ _ _ _ _ _ _ _ _ _ _ _ _ _ _ _ _ _ _ _ _ _ _ _ _ _ _ _ _ _ _ _ _ _ _ => l.length - (intOf i).toNat)
      case atStart => exact ⟨0, fs0, L0, by omega, rfl, by rw [hcn], hb, hT, hR, hfi, hf0⟩
      case round =>
        clear hb hT hR hfi hcn hf0
        obtain ⟨m, fs, L, hm, rfl, rfl, hb, hT, hR, hF, hfl⟩ := hrel
        have hLL : L.length = j := hF.len.symm.trans hfl
        by_cases hlt : m < l.length
        · obtain ⟨b, off, rfl, hB, hc⟩ := hO.at_ (by omega)
          obtain ⟨⟨p, I, v1, v2⟩, ho⟩ : ∃ o, l.getD m o0 = o := ⟨_, rfl⟩
          have ci := hc m hlt 1 (by omega)
          have cv1 := hc m hlt 2 (by omega)
          have cv2 := hc m hlt 3 (by omega)
          rw [ho] at ci cv1 cv2
          have ci' : wr.cell? ⟨b, off + m * 4 + 1, none⟩ = some (.int .i64 I) := (hb.cell hB).trans ci
          have cv1' : wr.cell? ⟨b, off + m * 4 + 2, none⟩ = some (.int .i64 v1) := (hb.cell hB).trans cv1
          have cv2' : wr.cell? ⟨b, off + m * 4 + 3, none⟩ = some (.string v2) := (hb.cell hB).trans cv2
          have hov : (l.getD m o0).2.2 = (v1, v2) := by rw [ho]
          have HOV := Lib.hid hov
          clear hc ho ci cv1 cv2 hov
          by_cases hr : I < 0 ∨ (j : Int) ≤ I
          · have hp : putR L I (v1, v2) = (1, L) := by unfold putR; rw [if_pos (by omega)]
            have hk := hF.keep
            have hbd := TP.cnt_bd L
            obtain ⟨q, hq⟩ : ∃ q, cnt L = q := ⟨_, rfl⟩
            rw [hq] at hbd ⊢
            have HQ := Lib.hid hq
            have HP := Lib.hid hp
            have HFL := Lib.hid hfl
            clear hp hq hF
            rcases hr with hr | hr
            all_goals
              try have hr2 : ¬ I < 0 := by omega
              go_wp2_with fail
              refine (TP.put_all T C L L I 1 (v1, v2) _ hT (by omega) HP.out).mono ?_
              rintro e w5 ⟨rfl, ho5, hT5⟩
              have hb5 := Only.after hb (Nat.le_refl _) ho5 (by simp; omega)
              have hR5 := hR.only ho5 (by simp; exact ⟨blk_neq hR hT.obj (by decide), blk_neq hR hT.grid.blk (by decide)⟩)
              have hll := TP.left_ok T C L w5 hT5
              rw [HQ.out] at hll
              clear hb hT hR ho5 ci' cv1' cv2'
              go_wp2_with (go_at_call 15; refine hll.mono ?_; rintro e w' ⟨rfl, rfl⟩)
              go_roundw
              case rel => exact ⟨m + 1, fs, L, by omega, by go_num, by rw [HQ.out], hb5, hT5, hR5, hk, HFL.out⟩
              case measure => simp [intOf]; omega
          · obtain ⟨i, rfl⟩ : ∃ i : Nat, (i : Int) = I := ⟨I.toNat, by omega⟩
            have hi : i < j := by omega
            have hput := hF.put (k := i) (by omega) HOV.out
            have hbd := TP.cnt_bd L
            have hFk := hF.at_ i (by omega)
            have cF := hR.cell (i := i) (by omega)
            have i0' : (0 : Int) ≤ i := Int.natCast_nonneg _
            have hTF : F ≠ T ∧ F ≠ C := ⟨blk_neq hR hT.obj (by decide), blk_neq hR hT.grid.blk (by decide)⟩
            obtain ⟨q, hq⟩ : ∃ q, cnt L = q := ⟨_, rfl⟩
            rw [hq] at hbd
            have HQ := Lib.hid hq
            have HFL := Lib.hid hfl
            rcases hFk with ⟨f1, f2⟩ | ⟨x, hx, f1, f2⟩
            · have hp : putR L i (v1, v2) = (0, L.set i (some (v1, v2))) := by unfold putR; rw [if_neg (by omega), Int.toNat_natCast, f2]; rfl
              have hcs : cnt (L.set i (some (v1, v2))) = q - 1 := (TP.cnt_set L i (v1, v2) (by omega) f2).trans (by rw [hq])
              have hq1 : 1 ≤ q := by have := (TP.cnt_bd (L.set i (some (v1, v2)))).1; omega
              have hq2 : q ≤ 255 := by omega
              rw [f1] at cF
              rw [hq]
              have HCS := Lib.hid hcs
              have HP := Lib.hid hp
              generalize L.set i (some (v1, v2)) = L' at HP HCS hput
              clear hp hq hF f1 f2 hcs hbd
              go_wp2_with fail
              refine (TP.put_all T C L L' i 0 (v1, v2) _ hT (by omega) HP.out).mono ?_
              rintro e w5 ⟨rfl, ho5, hT5⟩
              have hb5 := Only.after hb (Nat.le_refl _) ho5 (by simp; omega)
              have hR5 := hR.only ho5 (by simpa using hTF)
              have cF5 := hR5.cell (i := i) (by omega)
              have cF6 : w5.cell? ⟨F, i, none⟩ = some (.int .i64 (-1)) := by
                rw [← cF, hR.cell (by omega)]; exact cF5
              have fz := Blk_frozen hR5 i
              have hR6 := hR5.set i m
              have hT6 := hT5.only (gs := [F]) (Only.set (Only.refl [F] w5) (p := ⟨F, i, none⟩) (by simp) (.int .i64 m)) (by simp; exact Ne.symm hTF.1) (by simp; exact Ne.symm hTF.2)
              have hb6 := hb5.setCell (p := ⟨F, i, none⟩) hlo.2.2 (.int .i64 m)
              have hll := TP.left_ok T C L' _ hT6
              rw [HCS.out] at hll
              clear hb hT hR ho5 ci' cv1' cv2' cF cF5 hTF hR5 hT5 hb5
              go_wp2_with (go_at_call 15; refine hll.mono ?_; rintro e w' ⟨rfl, rfl⟩)
              go_roundw
              case rel => exact ⟨m + 1, fs.set i m, L', by omega, by go_num, by rw [HCS.out], hb6, hT6, hR6, hput, by rw [List.length_set]; exact HFL.out⟩
              case measure => simp [intOf]; omega
            · have hp : putR L i (v1, v2) = (3, L) := by unfold putR; rw [if_neg (by omega), Int.toNat_natCast, f2]; rfl
              have hk := hF.keep
              have x0 : (0 : Int) ≤ x := Int.natCast_nonneg _
              rw [f1] at cF
              rw [hq]
              have HP := Lib.hid hp
              have hTFx := hTF
              clear hp hq hF f1 f2 hput
              go_wp2_with fail
              refine (TP.put_all T C L L i 3 (v1, v2) _ hT (by omega) HP.out).mono ?_
              rintro e w5 ⟨rfl, ho5, hT5⟩
              have hb5 := Only.after hb (Nat.le_refl _) ho5 (by simp; omega)
              have hR5 := hR.only ho5 (by simpa using hTF)
              have cF6 : w5.cell? ⟨F, i, none⟩ = some (.int .i64 x) := by
                rw [← cF, hR.cell (by omega)]; exact hR5.cell (by omega)
              have hll := TP.left_ok T C L w5 hT5
              rw [HQ.out] at hll
              clear hb hT hR ho5 ci' cv1' cv2' cF hTF hTFx
              go_wp2_with (go_at_call 15; refine hll.mono ?_; rintro e w' ⟨rfl, rfl⟩)
              go_roundw
              case rel => exact ⟨m + 1, fs, L, by omega, by go_num, by rw [HQ.out], hb5, hT5, hR5, hk, HFL.out⟩
              case measure => simp [intOf]; omega
        · obtain rfl : m = l.length := by omega
          obtain ⟨q, hq⟩ : ∃ q, cnt L = q := ⟨_, rfl⟩
          rw [hq]
          clear hq
          go_wp2_with fail
          go_loopw [13, 14, 15, 95, 96, 97, 98, 99, 100, 101, 102, 103, 104, 105, 106, 107, 108, 109, 110, 111, 112, 113, 114, 115, 116, 117, 118, 119, 120, 121, 122, 123, 124, 125, 126, 127, 128, 129, 130, 131, 132, 133, 134, 135, 136, 137, 138] (fun i _ _ _ _ _ _ _ _ _ _ _ _ _ _ _ _ _ _ _ _ _ _ _ _ _ _ _ _ _ _ _ _ _ _ _ _ _ _ _ _ _ _ _ _ _ _ wr => ∃ k : Nat, k ≤ j ∧ i = .int .i64 k ∧ Below w.heap.size w wr ∧ TB wr T C L ∧ Row wr 3 F fs) (fun i _ _ _ _ _ _ _ _ _ _ _ _ _ _ _ _ _ _ _ _ _ _ _ _ _ _ _ _ _ _ _ _ _ _ _ _ _ _ _ _ _ _ _ _ _ _ _ => j - (intOf i).toNat)
          case atStart => exact ⟨0, by omega, rfl, hb, hT, hR⟩
          case round =>
            clear hb hT hR
            obtain ⟨k, hk, rfl, hb, hT, hR⟩ := hrel
            by_cases hlt3 : k < j
            · have hFk := hF.at_ k (by omega)
              have cF := hR.cell (i := k) (by omega)
              rcases hFk with ⟨f1, f2⟩ | ⟨x, hx, f1, f2⟩
              · have hg : getR L k = ((0, ByteArray.empty), 4) := by unfold getR; rw [if_neg (by omega), Int.toNat_natCast, f2]
                rw [f1] at cF
                have HG := Lib.hid hg
                clear hg f1 f2
                go_wp2_with fail
                refine (TP.get_all T C L k 4 (0, ByteArray.empty) _ hT HG.out).mono ?_
                rintro e w6 ⟨rfl, h6⟩
                have hT6 := hT.below h6
                have hR6 := hR.below h6
                have hb6 := Below_same hb h6
                have hFlt : F < wr.heap.size := Blk_lt hR
                have cF6 := (h6.cell (p := ⟨F, k, none⟩) hFlt).trans cF
                clear hFlt
                clear hT hR hb h6 cF
                have hT7 := hT6.below (Below.alloc (Below.refl _ _) (Nat.le_refl _) (.cells #[.int .i64 0, .string ByteArray.empty] 30))
                have hR7 := hR6.below (Below.alloc (Below.refl _ _) (Nat.le_refl _) (.cells #[.int .i64 0, .string ByteArray.empty] 30))
                have hb7 := hb6.alloc hb6.size (.cells #[.int .i64 0, .string ByteArray.empty] 30)
                have hx7 := Blk_new w6 30 #[.int .i64 0, .string ByteArray.empty]
                have cF7 := (World.cell?_alloc_lt w6 (.cells #[.int .i64 0, .string ByteArray.empty] 30) ⟨F, k, none⟩ (show F < w6.heap.size from Blk_lt hR6)).trans cF6
                obtain ⟨w7, hw7⟩ : ∃ x, w6.alloc (.cells #[.int .i64 0, .string ByteArray.empty] 30) = x := ⟨_, rfl⟩
                rw [hw7] at hT7 hR7 hb7 hx7 cF7
                have HW7 := Lib.hid hw7
                have u1 := fun x : Up w7 => up_cell x (Blk_cell hx7 0)
                have u2 := fun x : Up w7 => up_cell x (Blk_cell hx7 1)
                have u3 := fun x : Up w7 => up_cell x cF7
                skip
                clear hw7 hT6 hR6 hb6 cF6
                go_wp2_with fail
                rw [HW7.out]
                refine wp_region_up (by kernel_rfl) (by kernel_rfl) ?_
                repeat (go_big_quiet_step (fail))
                refine wpQuiet_nil ?_
                intro w' hup
                have hb10 := Below_same hb7 hup
                have hT10 := hT7.below hup
                have hR10 := hR7.below hup
                clear hb7 hT7 hR7 hx7 u1 u2 u3 hup
                go_wp2_with fail
                go_roundw
                case rel => exact ⟨k + 1, by omega, by go_num, hb10, hT10, hR10⟩
                case measure => simp [intOf]; omega
              · obtain ⟨⟨v1, v2⟩, hv⟩ : ∃ v, (l.getD x o0).2.2 = v := ⟨_, rfl⟩
                rw [hv] at f2
                have hg : getR L k = ((v1, v2), 0) := by unfold getR; rw [if_neg (by omega), Int.toNat_natCast, f2]
                obtain ⟨b, off, rfl, hB, hc⟩ := hO.at_ (by omega)
                have cv1 := hc x hx 2 (by omega)
                have cv2 := hc x hx 3 (by omega)
                obtain ⟨⟨p, I, y1, y2⟩, ho⟩ : ∃ o, l.getD x o0 = o := ⟨_, rfl⟩
                rw [ho] at cv1 cv2 hv
                simp only [Prod.mk.injEq] at hv
                obtain ⟨rfl, rfl⟩ := hv
                have cv1' : w.cell? ⟨b, off + x * 4 + 2, none⟩ = some (.int .i64 y1) := cv1
                have cv2' : w.cell? ⟨b, off + x * 4 + 3, none⟩ = some (.string y2) := cv2
                rw [f1] at cF
                have HG := Lib.hid hg
                have g1 : decide ((x : Int) < 0) = false := decide_eq_false (by omega)
                have g2 : (0 : Int) ≤ (x : Int) := Int.natCast_nonneg _
                have g3 : (x : Int) < l.length := by omega
                clear hg f1 f2 cv1 cv2 ho hc
                go_wp2_with fail
                refine (TP.get_all T C L k 0 (y1, y2) _ hT HG.out).mono ?_
                rintro e w6 ⟨rfl, h6⟩
                have hT6 := hT.below h6
                have hR6 := hR.below h6
                have hb6 := Below_same hb h6
                have hFlt : F < wr.heap.size := Blk_lt hR
                have cF6 := (h6.cell (p := ⟨F, k, none⟩) hFlt).trans cF
                clear hFlt
                clear hT hR hb h6 cF
                have hT7 := hT6.below (Below.alloc (Below.refl _ _) (Nat.le_refl _) (.cells #[.int .i64 y1, .string y2] 30))
                have hR7 := hR6.below (Below.alloc (Below.refl _ _) (Nat.le_refl _) (.cells #[.int .i64 y1, .string y2] 30))
                have hb7 := hb6.alloc hb6.size (.cells #[.int .i64 y1, .string y2] 30)
                have hx7 := Blk_new w6 30 #[.int .i64 y1, .string y2]
                have cF7 := (World.cell?_alloc_lt w6 (.cells #[.int .i64 y1, .string y2] 30) ⟨F, k, none⟩ (show F < w6.heap.size from Blk_lt hR6)).trans cF6
                obtain ⟨w7, hw7⟩ : ∃ x, w6.alloc (.cells #[.int .i64 y1, .string y2] 30) = x := ⟨_, rfl⟩
                rw [hw7] at hT7 hR7 hb7 hx7 cF7
                have HW7 := Lib.hid hw7
                have u1 := fun x : Up w7 => up_cell x (Blk_cell hx7 0)
                have u2 := fun x : Up w7 => up_cell x (Blk_cell hx7 1)
                have u3 := fun x : Up w7 => up_cell x cF7
                have u4 := fun x : Up w7 => up_cell x ((hb7.cell hB).trans cv1'); have u5 := fun x : Up w7 => up_cell x ((hb7.cell hB).trans cv2'); clear cv1' cv2'
                clear hw7 hT6 hR6 hb6 cF6
                go_wp2_with fail
                rw [HW7.out]
                refine wp_region_up (by kernel_rfl) (by kernel_rfl) ?_
                repeat (go_big_quiet_step (fail))
                refine wpQuiet_nil ?_
                intro w' hup
                have hb10 := Below_same hb7 hup
                have hT10 := hT7.below hup
                have hR10 := hR7.below hup
                clear hb7 hT7 hR7 hx7 u1 u2 u3 hup
                go_wp2_with fail
                go_roundw
                case rel => exact ⟨k + 1, by omega, by go_num, hb10, hT10, hR10⟩
                case measure => simp [intOf]; omega
            · obtain rfl : k = j := by omega
              go_wp2_with fail
              refine (works_any _).mono ?_
              rintro e w9 ⟨rfl, h9⟩
              go_wp2_with fail
              go_ret
              exact ⟨rfl, Below_same hb h9⟩
end Go.Proofs.Ytlbfjmdemljmhaa
