/-
  TableOrders. No condition.
-/
import Derived.Test.YtlbfjmdemljmhaaSt
set_option linter.unusedVariables false
namespace Go.Proofs.Ytlbfjmdemljmhaa
open Go.RowKit Go.BigFrame
open TP (V TB putR getR cnt vals)

theorem int_getD (os : List Nat) (i : Nat) : (os.map Int.ofNat).getD i 0 = ((os.getD i 0 : Nat) : Int) := by
  simp only [List.getD, List.getElem?_map]
  cases os[i]? <;> rfl
theorem swap_perm {os : List Nat} {n : Nat} (hp : os.Perm (List.range n)) {i j : Nat} (hi : i < n) (hj : j < n) : ((os.set i (os.getD j 0)).set j (os.getD i 0)).Perm (List.range n) := by
  have hl : os.length = n := by rw [hp.length_eq]; simp
  have h1 := @List.set_set_perm _ os i j (by omega) (by omega)
  have e1 : os.getD j 0 = os[j]'(by omega) := by simp [List.getD, show j < os.length by omega]
  have e2 : os.getD i 0 = os[i]'(by omega) := by simp [List.getD, show i < os.length by omega]
  rw [e1, e2]
  exact h1.trans hp

theorem TP.cnt_some (l : List V) : cnt (l.map some) = 0 := by
  induction l with
  | nil => rfl
  | cons v l ih => exact ih
abbrev v0 : V := (0, ByteArray.empty)
/-- The table, when the first k of the order have been put. -/
structure Done (l : List V) (os : List Nat) (k : Nat) (L : List (Option V)) : Prop where
  len : L.length = l.length
  at_ : ∀ x, x < l.length → L.getD x none = if x ∈ os.take k then some (l.getD x v0) else none
theorem Done.start (l : List V) (os : List Nat) : Done l os 0 (List.replicate l.length none) :=
  ⟨by simp, fun x hx => by simp [hx]⟩
theorem take_snoc {os : List Nat} {k : Nat} (hk : k < os.length) : os.take (k + 1) = os.take k ++ [os.getD k 0] := by
  rw [List.take_succ_eq_append_getElem hk]; simp [hk]
theorem fresh {os : List Nat} (hn : os.Nodup) {k : Nat} (hk : k < os.length) : os.getD k 0 ∉ os.take k := by
  have h1 : (os.take (k + 1)).Nodup := hn.sublist (List.take_sublist _ _)
  rw [take_snoc hk, List.nodup_append] at h1
  intro h
  exact h1.2.2 _ h _ (by simp) rfl
theorem Done.next {l : List V} {os : List Nat} {k : Nat} {L : List (Option V)} (h : Done l os k L) (hn : os.Nodup) (hk : k < os.length) (hx : os.getD k 0 < l.length) :
    L.getD (os.getD k 0) none = none ∧ Done l os (k + 1) (L.set (os.getD k 0) (some (l.getD (os.getD k 0) v0))) := by
  refine ⟨by rw [h.at_ _ hx, if_neg (fresh hn hk)], by simp [h.len], fun x hxl => ?_⟩
  rw [take_snoc hk]
  by_cases he : os.getD k 0 = x
  · rw [he] at hx ⊢
    have hxL : x < L.length := by rw [h.len]; exact hxl
    simp [hxL]
  · have h1 : (L.set (os.getD k 0) (some (l.getD (os.getD k 0) v0))).getD x none = L.getD x none := by
      obtain ⟨y, hy⟩ : ∃ y, os.getD k 0 = y := ⟨_, rfl⟩
      rw [hy] at he ⊢
      simp [List.getD, he]
    rw [h1, h.at_ x hxl]
    have h2 : (x ∈ os.take k ++ [os.getD k 0]) ↔ x ∈ os.take k := by
      simp only [List.mem_append, List.mem_singleton]
      exact ⟨fun h => h.resolve_right (fun e => he e.symm), .inl⟩
    simp only [h2]
theorem Done.all {l : List V} {os : List Nat} {L : List (Option V)} (hp : os.Perm (List.range l.length)) (h : Done l os l.length L) : L = l.map some := by
  have hol : os.length = l.length := by rw [hp.length_eq]; simp
  apply List.ext_getElem (by simp [h.len])
  intro x h1 h2
  have hx : x < l.length := by rw [h.len] at h1; exact h1
  have h3 := h.at_ x hx
  rw [List.take_of_length_le (by omega), if_pos (hp.mem_iff.2 (by simpa using hx))] at h3
  simp only [List.getD, List.getElem?_eq_getElem h1, List.getElem?_eq_getElem hx, Option.getD_some] at h3
  rw [h3]; simp

set_option maxRecDepth 100000 in
set_option maxHeartbeats 4000000 in
theorem orders_any (l : List V) (ys : List Int) (A D : Option Addr) (n c m d : Nat) (w : World) (hI : Ps w A n l) (hJ : Ints .u16 w D m ys) (hy : ∀ y ∈ ys, (Lit.int .u16 y).wf = true) (hn : n ≤ maxLen) (hm : m ≤ maxLen) :
    Calls Try.prog 5 #[.slice A n c, .slice D m d] w fun e w' => e = .returned (.bool true) ∧ Below w.heap.size w w' := by
  unfold maxLen at hn hm
  have hln := hI.len_eq
  have hlm := hJ.len_eq
  by_cases hbig : 200 < n ∨ 400 < m
  · by_cases h1 : 200 < (n : Int)
    · go_enter Try.func5, Try.ntmps5
      go_wp2_with (go_at_call 8; refine (works_any _).mono ?_; rintro e w9 ⟨rfl, h9⟩)
      go_ret
      exact ⟨rfl, h9⟩
    · have h2 : 400 < (m : Int) := by omega
      go_enter Try.func5, Try.ntmps5
      go_wp2_with (go_at_call 8; refine (works_any _).mono ?_; rintro e w9 ⟨rfl, h9⟩)
      go_ret
      exact ⟨rfl, h9⟩
  have hn2 : ¬ 200 < (n : Int) := by omega
  have hm2 : ¬ 400 < (m : Int) := by omega
  obtain ⟨i0, hi0, hz0, hz1, hz2⟩ := info_parts i3
  have hmk := run_make_blk (P := Try.prog) Try.underlying47 hi0 hz0 (x := .int .i64 0) rfl hz1 .i64 .i64 n (by rw [hz2]; omega) (by simp only [maxLen]; omega)
  obtain ⟨F, hF⟩ : ∃ T, w.heap.size = T := ⟨_, rfl⟩
  have hR2 := Blk_new w 3 (List.replicate n (.int .i64 0)).toArray
  have hb2 := (Below.refl w.heap.size w).alloc (Nat.le_refl _) (.cells (List.replicate n (.int .i64 0)).toArray 3)
  have hlo : w.heap.size ≤ F := by omega
  rw [hF] at hR2
  have hR2' : Row (w.alloc (.cells (List.replicate n (.int .i64 0)).toArray 3)) 3 F (upto n 0) := by
    unfold Row upto; simpa using hR2
  have HF := Lib.hid hF
  clear hF hR2 hbig
  go_enter Try.func5, Try.ntmps5
  go_wp2_with fail
  rw [HF.out]
  clear hmk
  go_loopw [6, 28, 29, 30, 31, 32, 33, 34, 35, 36, 37] (fun i _ _ _ _ _ _ _ _ _ _ wr => ∃ j : Nat, j ≤ n ∧ i = .int .i64 j ∧ Below w.heap.size w wr ∧ Row wr 3 F (upto n j)) (fun i _ _ _ _ _ _ _ _ _ _ _ => n - (intOf i).toNat)
  case atStart => exact ⟨0, by omega, rfl, hb2, hR2'⟩
  case round =>
    clear hb2 hR2'
    obtain ⟨j, hj, rfl, hb, hR⟩ := hrel
    by_cases hlt : j < n
    · have cf := hR.cell (i := j) (by rw [upto_len hj]; exact hlt)
      have fz := Blk_frozen hR j
      have hs := hR.set j j
      rw [upto_set hlt] at hs
      have hbs : ∀ u, Below w.heap.size w (wr.setCell ⟨F, j, none⟩ u) := fun u => hb.setCell hlo u
      clear hR hb
      go_wp2_with fail
      go_roundw
      case rel => exact ⟨j + 1, by omega, by go_num, hbs _, hs⟩
      case measure => simp [intOf]; omega
    · obtain rfl : j = n := by omega
      have hR' : Row wr 3 F ((List.range j).map Int.ofNat) := by
        have h := hR
        unfold upto at h
        rw [Nat.sub_self, List.replicate_zero, List.append_nil] at h
        exact h
      clear hR hlt hj
      obtain ⟨n, hn0⟩ : ∃ n : Nat, n = j := ⟨j, rfl⟩
      rw [← hn0] at hR'
      go_wp2_with fail
      go_loopw [7, 8, 9, 38, 39, 40, 41, 42, 43, 44, 45, 46, 47, 48, 49, 50, 51, 52, 53, 54, 55, 56, 57, 58, 59, 60, 61, 62, 63, 64, 65, 66, 67, 68, 69, 70, 71, 72, 73, 74, 75, 76, 77, 78, 79, 80] (fun i _ _ _ _ _ _ _ _ _ _ _ _ _ _ _ _ _ _ _ _ _ _ _ _ _ _ _ _ _ _ _ _ _ _ _ _ _ _ _ _ _ _ _ _ _ wr => ∃ (k : Nat) (os : List Nat), k ≤ m + 1 ∧ i = .int .i64 k ∧ Below w.heap.size w wr ∧ Row wr 3 F (os.map Int.ofNat) ∧ os.Perm (List.range j)) (fun i _ _ _ _ _ _ _ _ _ _ _ _ _ _ _ _ _ _ _ _ _ _ _ _ _ _ _ _ _ _ _ _ _ _ _ _ _ _ _ _ _ _ _ _ _ _ => m + 2 - (intOf i).toNat)
      case atStart => exact ⟨0, List.range j, by omega, rfl, hb, by rw [← hn0]; exact hR', List.Perm.refl _⟩
      case round =>
        clear hb hR'
        obtain ⟨k, os, hk, rfl, hb, hR, hp⟩ := hrel
        have hol : os.length = j := by rw [hp.length_eq]; simp
        by_cases hlt : k + 1 < m ∧ 0 < j
        · obtain ⟨hlt1, hlt2⟩ := hlt
          obtain ⟨b2, off2, rfl, hB2, hc2⟩ := hJ.at_ (by omega)
          have ca : wr.cell? ⟨b2, off2 + k, none⟩ = some (.int .u16 (ys.getD k 0)) := (hb.cell hB2).trans (hc2 k (by omega))
          have cb : wr.cell? ⟨b2, off2 + (k + 1), none⟩ = some (.int .u16 (ys.getD (k + 1) 0)) := (hb.cell hB2).trans (hc2 (k + 1) (by omega))
          have hbd := bounds_u16 (wf_at hy (k := k) (by omega))
          have hbd2 := bounds_u16 (wf_at hy (k := k + 1) (by omega))
          obtain ⟨y, hy1⟩ : ∃ y, ys.getD k 0 = y := ⟨_, rfl⟩
          obtain ⟨z, hz1⟩ : ∃ y, ys.getD (k + 1) 0 = y := ⟨_, rfl⟩
          rw [hy1] at ca hbd
          rw [hz1] at cb hbd2
          obtain ⟨y1, y2⟩ := hbd
          obtain ⟨z1, z2⟩ := hbd2
          have h3 := Int.emod_nonneg y (show (j : Int) ≠ 0 by omega)
          have h4 := Int.emod_lt_of_pos y (show (0 : Int) < j by omega)
          have h5 := Int.emod_nonneg z (show (j : Int) ≠ 0 by omega)
          have h6 := Int.emod_lt_of_pos z (show (0 : Int) < j by omega)
          obtain ⟨p, hp1⟩ : ∃ p : Nat, y % (j : Int) = (p : Int) := ⟨(y % (j : Int)).toNat, by omega⟩
          obtain ⟨q, hq1⟩ : ∃ p : Nat, z % (j : Int) = (p : Int) := ⟨(z % (j : Int)).toNat, by omega⟩
          have hpn : p < j := by omega
          have hqn : q < j := by omega
          have hpe := swap_perm hp hpn hqn
          have cp := hR.cell (i := p) (by simpa [hol] using hpn)
          have cq := hR.cell (i := q) (by simpa [hol] using hqn)
          rw [int_getD] at cp cq
          have hs := (hR.set p (os.getD q 0 : Nat)).set q (os.getD p 0 : Nat)
          have hs' : Row ((wr.setCell ⟨F, p, none⟩ (.int .i64 (os.getD q 0 : Nat))).setCell ⟨F, q, none⟩ (.int .i64 (os.getD p 0 : Nat))) 3 F (((os.set p (os.getD q 0)).set q (os.getD p 0)).map Int.ofNat) := by
            simpa [List.map_set] using hs
          have f1 := Blk_frozen hR p
          have f2 := Blk_frozen hR q
          have HPE := Lib.hid hpe
          have HS := Lib.hid hs'
          have hb' := fun u v => (hb.setCell (p := ⟨F, p, none⟩) hlo u).setCell (p := ⟨F, q, none⟩) hlo v
          have HEQ := Lib.hid (show p = q → os.getD p 0 = os.getD q 0 from fun h => by rw [h])
          generalize os.getD p 0 = op at cp HS HPE HEQ
          generalize os.getD q 0 = oq at cq HS HPE HEQ
          generalize (os.set p oq).set q op = os' at HS HPE
          clear hs hs' hpe hR hp hol hy hy1 hz1 h3 h4 h5 h6 hc2 hI hJ hb
          go_wp2_with fail
          try rw [hp1]
          clear hp1
          go_wp2_with fail
          rw [hq1]
          clear hq1
          by_cases hpq : p = q
          · have heq := HEQ.out hpq
            subst hpq
            subst heq
            clear HEQ
            have p0 : (0 : Int) ≤ p := Int.natCast_nonneg _
            have p1 : (p : Int) < j := by omega
            go_region
            go_wp2_with fail
            go_roundw
            case rel =>
              refine ⟨k + 2, os', by omega, by go_num, ?_, ?_, HPE.out⟩
              · exact (hb' _ _).drew
              · exact HS.out
            case measure => simp [intOf]; omega
          · have hpq' : ¬ q = p := fun h => hpq h.symm
            have p0 : (0 : Int) ≤ p := Int.natCast_nonneg _
            have p1 : (p : Int) < j := by omega
            have q0 : (0 : Int) ≤ q := Int.natCast_nonneg _
            have q1 : (q : Int) < j := by omega
            go_region
            go_wp2_with fail
            go_roundw
            case rel =>
              refine ⟨k + 2, os', by omega, by go_num, ?_, ?_, HPE.out⟩
              · exact (hb' _ _).drew
              · exact HS.out
            case measure => simp [intOf]; omega
        · by_cases hx : k + 1 < m
          · have hx1 : (k : Int) + 1 < m := by omega
            have hx2 : ¬ 0 < j := by omega
            have hk2 : (k : Int) ≤ 401 := by omega
            have HP := Lib.hid hp
            clear hlt hp
            go_wp2_with fail
            refine (TP.new_ok j wr (by omega)).mono ?_
            rintro e w3 ⟨rfl, hb3, hT3⟩
            have hR3 := hR.below hb3
            have hbb3 := Below_same hb hb3
            have hz := hb.size
            obtain ⟨T, hT0⟩ : ∃ T, wr.heap.size + 1 = T := ⟨_, rfl⟩
            obtain ⟨C, hC0⟩ : ∃ T, wr.heap.size = T := ⟨_, rfl⟩
            have hlo2 : w.heap.size ≤ T ∧ w.heap.size ≤ C := by omega
            rw [hT0] at hT3 ⊢
            rw [show TB w3 T wr.heap.size (List.replicate j none) = TB w3 T C (List.replicate j none) by rw [hC0]] at hT3
            rw [← hln] at hT3
            have hD := Done.start l os
            generalize List.replicate l.length (none : Option V) = L0 at hT3 hD
            clear hT0 hC0 hb hR hb3 hz
            go_wp2_with fail
            go_loopw [12, 13, 14, 93, 94, 95, 96, 97, 98, 99, 100, 101, 102, 103, 104, 105, 106, 107, 108, 109, 110, 111, 112, 113, 114, 115, 116, 117, 118, 119, 120, 121] (fun i _ _ _ _ _ _ _ _ _ _ _ _ _ _ _ _ _ _ _ _ _ _ _ _ _ _ _ _ _ _ _ wr => ∃ (q : Nat) (L : List (Option V)), q ≤ j ∧ i = .int .i64 q ∧ Below w.heap.size w wr ∧ TB wr T C L ∧ Row wr 3 F (os.map Int.ofNat) ∧ Done l os q L) (fun i _ _ _ _ _ _ _ _ _ _ _ _ _ _ _ _ _ _ _ _ _ _ _ _ _ _ _ _ _ _ _ _ => j - (intOf i).toNat)
            case atStart => exact ⟨0, L0, by omega, rfl, hbb3, hT3, hR3, hD⟩
            case round =>
              clear hbb3 hT3 hR3 hD
              obtain ⟨q, L, hq, rfl, hb, hT, hR, hD⟩ := hrel
              have hLn : L.length = j := hD.len.trans hln
              by_cases hlt : q < j
              · have hx := (HP.out.mem_iff (a := os.getD q 0)).1 (by simp [List.getD, hol, hlt])
                rw [List.mem_range] at hx
                obtain ⟨g1, g2⟩ := hD.next (HP.out.symm.nodup List.nodup_range) (by omega) (by omega)
                have hvn := TP.vals_none (by omega) g1
                have cR := hR.cell (i := q) (by simp [hol, hlt])
                rw [int_getD] at cR
                obtain ⟨x, hxe⟩ : ∃ x, os.getD q 0 = x := ⟨_, rfl⟩
                rw [hxe] at hx g1 g2 cR
                obtain ⟨⟨v1, v2⟩, hv⟩ : ∃ v, l.getD x v0 = v := ⟨_, rfl⟩
                have hpt : putR L x (v1, v2) = (0, L.set x (some (v1, v2))) := by unfold putR; rw [if_neg (by omega), Int.toNat_natCast, g1]; rfl
                rw [hv] at g2
                obtain ⟨b, off, rfl, hB, hc⟩ := hI.at_ (by omega)
                have cv1 := hc x hx 0 (by omega)
                have cv2 := hc x hx 1 (by omega)
                rw [show l.getD x (0, ByteArray.empty) = (v1, v2) from hv] at cv1 cv2
                have cv1' : w.cell? ⟨b, off + x * 2, none⟩ = some (.int .i64 v1) := cv1
                have cv2' : w.cell? ⟨b, off + x * 2 + 1, none⟩ = some (.string v2) := cv2
                have HPT := Lib.hid hpt
                have HVN := Lib.hid hvn
                have HLN := Lib.hid hLn
                have hB2 : F < wr.heap.size := Blk_lt hR
                have x1 : (x : Int) < j := by omega
                have x0 : (0 : Int) ≤ x := Int.natCast_nonneg _
                clear hpt hvn hxe g1 hv hc cv1 cv2 hLn
                go_wp2_with fail
                refine (TP.all_ok T C L wr hT (by rw [HLN.out]; omega)).mono ?_
                intro e w5 h50
                unfold TP.AllPost at h50
                rw [HVN.out] at h50
                obtain ⟨h5, rfl⟩ := h50
                have hTd : TB w5.drew T C L := (hT.below h5).below (Below.refl _ _).drew
                have hRd : Row w5.drew 3 F (os.map Int.ofNat) := (hR.below h5).below (Below.refl _ _).drew
                have hbd := (Below_same hb h5).drew
                have d1 := (h5.cell (p := ⟨F, q, none⟩) hB2).trans cR
                have d2 := (hbd.cell (p := ⟨b, off + x * 2, none⟩) hB).trans cv1'
                have d3 := (hbd.cell (p := ⟨b, off + x * 2 + 1, none⟩) hB).trans cv2'
                clear hT hR hb h5 cR hB2
                have hTF : F ≠ T ∧ F ≠ C := ⟨blk_neq hRd hTd.obj (by decide), blk_neq hRd hTd.grid.blk (by decide)⟩
                have hs : L.length ≤ 65536 := by rw [HLN.out]; omega
                have cc := fun (w6 : World) (hb6 : Below w.heap.size w w6) => And.intro ((hb6.cell (p := ⟨b, off + x * 2, none⟩) hB).trans cv1') ((hb6.cell (p := ⟨b, off + x * 2 + 1, none⟩) hB).trans cv2')
                have HCC := Lib.hid cc
                have hqo : q < (os.map Int.ofNat).length := by simp [hol, hlt]
                clear cc cv1' cv2'
                go_wp2_with fail
                go_region_held3 (fun w' => w'.cell? ⟨F, q, none⟩ = some (.int .i64 (x : Nat)) ∧ w'.cell? ⟨b, off + x * 2, none⟩ = some (.int .i64 v1) ∧ w'.cell? ⟨b, off + x * 2 + 1, none⟩ = some (.string v2))
                  (first
                    | (with_reducible assumption)
                    | exact ⟨d4, HCC.out _ hb6⟩
                    | exact ⟨d1, d2, d3⟩)
                  (first
                    | (go_at_call 11; refine (TP.put_all T C L _ x 0 (v1, v2) _ hTd hs HPT.out).mono ?_; rintro e' w6 ⟨rfl, ho6, hT6⟩; have hb6 := Only.after hbd (Nat.le_refl _) ho6 (by simp; omega); have hR6 := hRd.only ho6 (by simpa using hTF); have d4 := (hR6.cell hqo).trans ((hRd.cell hqo).symm.trans d1)))
                clear hTd hRd hbd ho6 d1 d2 d3 d4 hTF hs hqo
                go_wp2_with fail
                go_roundw
                case rel => exact ⟨q + 1, _, by omega, by go_num, hb6, hT6, hR6, g2⟩
                case measure => simp [intOf]; omega
              · obtain rfl : q = j := by omega
                have hLa := Done.all (l := l) (os := os) (by rw [hln]; exact HP.out) (by rw [hln]; exact hD)
                have hvs : vals L = some l := by rw [hLa]; exact TP.vals_map l
                have hc0 : cnt L = 0 := by rw [hLa]; exact TP.cnt_some l
                have HVS := Lib.hid hvs
                have HLN := Lib.hid hLn
                have HC0 := Lib.hid hc0
                clear hLa hvs hc0 hLn hlt hR
                go_wp2_with fail
                refine (TP.all_ok T C L wr hT (by rw [HLN.out]; omega)).mono ?_
                intro e w5 h50
                unfold TP.AllPost at h50
                rw [HVS.out] at h50
                obtain ⟨h5, sv, rfl, hown⟩ := h50
                rw [HLN.out] at hown
                have hT5 := hT.below h5
                have hb5 := Below_same hb h5
                obtain ⟨Z, c3, rfl, _, hc3, hZ⟩ := Els_of_own (f := pv) (d := (0, ByteArray.empty)) (l := l) hown (fun _ => rfl) (by omega)
                have hI5 := hI.mono hb5
                have hll := TP.left_ok T C L
                rw [HC0.out] at hll
                clear h5 hT hb hown
                go_wp2_with (first
                  | (go_at_call 20; refine (same_any l l Z A _ _ _ _ _ hZ hI5 (by omega) (by unfold maxLen; omega)).mono ?_; rintro e w10 ⟨he7, h10⟩; rw [decide_eq_true rfl] at he7; subst he7)
                  | (go_at_call 15; refine (hll _ (hT5.below h10)).mono ?_; rintro e w' ⟨rfl, rfl⟩)
                  | (go_at_call 8; refine (works_any _).mono ?_; rintro e w11 ⟨rfl, h11⟩))
                go_ret
                exact ⟨rfl, Below_same (Below_same hb5 h10) h11⟩
          · have hx1 : ¬ (k : Int) + 1 < m := by omega
            have hk2 : (k : Int) ≤ 401 := by omega
            have HP := Lib.hid hp
            clear hlt hp
            go_wp2_with fail
            refine (TP.new_ok j wr (by omega)).mono ?_
            rintro e w3 ⟨rfl, hb3, hT3⟩
            have hR3 := hR.below hb3
            have hbb3 := Below_same hb hb3
            have hz := hb.size
            obtain ⟨T, hT0⟩ : ∃ T, wr.heap.size + 1 = T := ⟨_, rfl⟩
            obtain ⟨C, hC0⟩ : ∃ T, wr.heap.size = T := ⟨_, rfl⟩
            have hlo2 : w.heap.size ≤ T ∧ w.heap.size ≤ C := by omega
            rw [hT0] at hT3 ⊢
            rw [show TB w3 T wr.heap.size (List.replicate j none) = TB w3 T C (List.replicate j none) by rw [hC0]] at hT3
            rw [← hln] at hT3
            have hD := Done.start l os
            generalize List.replicate l.length (none : Option V) = L0 at hT3 hD
            clear hT0 hC0 hb hR hb3 hz
            go_wp2_with fail
            go_loopw [12, 13, 14, 93, 94, 95, 96, 97, 98, 99, 100, 101, 102, 103, 104, 105, 106, 107, 108, 109, 110, 111, 112, 113, 114, 115, 116, 117, 118, 119, 120, 121] (fun i _ _ _ _ _ _ _ _ _ _ _ _ _ _ _ _ _ _ _ _ _ _ _ _ _ _ _ _ _ _ _ wr => ∃ (q : Nat) (L : List (Option V)), q ≤ j ∧ i = .int .i64 q ∧ Below w.heap.size w wr ∧ TB wr T C L ∧ Row wr 3 F (os.map Int.ofNat) ∧ Done l os q L) (fun i _ _ _ _ _ _ _ _ _ _ _ _ _ _ _ _ _ _ _ _ _ _ _ _ _ _ _ _ _ _ _ _ => j - (intOf i).toNat)
            case atStart => exact ⟨0, L0, by omega, rfl, hbb3, hT3, hR3, hD⟩
            case round =>
              clear hbb3 hT3 hR3 hD
              obtain ⟨q, L, hq, rfl, hb, hT, hR, hD⟩ := hrel
              have hLn : L.length = j := hD.len.trans hln
              by_cases hlt : q < j
              · have hx := (HP.out.mem_iff (a := os.getD q 0)).1 (by simp [List.getD, hol, hlt])
                rw [List.mem_range] at hx
                obtain ⟨g1, g2⟩ := hD.next (HP.out.symm.nodup List.nodup_range) (by omega) (by omega)
                have hvn := TP.vals_none (by omega) g1
                have cR := hR.cell (i := q) (by simp [hol, hlt])
                rw [int_getD] at cR
                obtain ⟨x, hxe⟩ : ∃ x, os.getD q 0 = x := ⟨_, rfl⟩
                rw [hxe] at hx g1 g2 cR
                obtain ⟨⟨v1, v2⟩, hv⟩ : ∃ v, l.getD x v0 = v := ⟨_, rfl⟩
                have hpt : putR L x (v1, v2) = (0, L.set x (some (v1, v2))) := by unfold putR; rw [if_neg (by omega), Int.toNat_natCast, g1]; rfl
                rw [hv] at g2
                obtain ⟨b, off, rfl, hB, hc⟩ := hI.at_ (by omega)
                have cv1 := hc x hx 0 (by omega)
                have cv2 := hc x hx 1 (by omega)
                rw [show l.getD x (0, ByteArray.empty) = (v1, v2) from hv] at cv1 cv2
                have cv1' : w.cell? ⟨b, off + x * 2, none⟩ = some (.int .i64 v1) := cv1
                have cv2' : w.cell? ⟨b, off + x * 2 + 1, none⟩ = some (.string v2) := cv2
                have HPT := Lib.hid hpt
                have HVN := Lib.hid hvn
                have HLN := Lib.hid hLn
                have hB2 : F < wr.heap.size := Blk_lt hR
                have x1 : (x : Int) < j := by omega
                have x0 : (0 : Int) ≤ x := Int.natCast_nonneg _
                clear hpt hvn hxe g1 hv hc cv1 cv2 hLn
                go_wp2_with fail
                refine (TP.all_ok T C L wr hT (by rw [HLN.out]; omega)).mono ?_
                intro e w5 h50
                unfold TP.AllPost at h50
                rw [HVN.out] at h50
                obtain ⟨h5, rfl⟩ := h50
                have hTd : TB w5.drew T C L := (hT.below h5).below (Below.refl _ _).drew
                have hRd : Row w5.drew 3 F (os.map Int.ofNat) := (hR.below h5).below (Below.refl _ _).drew
                have hbd := (Below_same hb h5).drew
                have d1 := (h5.cell (p := ⟨F, q, none⟩) hB2).trans cR
                have d2 := (hbd.cell (p := ⟨b, off + x * 2, none⟩) hB).trans cv1'
                have d3 := (hbd.cell (p := ⟨b, off + x * 2 + 1, none⟩) hB).trans cv2'
                clear hT hR hb h5 cR hB2
                have hTF : F ≠ T ∧ F ≠ C := ⟨blk_neq hRd hTd.obj (by decide), blk_neq hRd hTd.grid.blk (by decide)⟩
                have hs : L.length ≤ 65536 := by rw [HLN.out]; omega
                have cc := fun (w6 : World) (hb6 : Below w.heap.size w w6) => And.intro ((hb6.cell (p := ⟨b, off + x * 2, none⟩) hB).trans cv1') ((hb6.cell (p := ⟨b, off + x * 2 + 1, none⟩) hB).trans cv2')
                have HCC := Lib.hid cc
                have hqo : q < (os.map Int.ofNat).length := by simp [hol, hlt]
                clear cc cv1' cv2'
                go_wp2_with fail
                go_region_held3 (fun w' => w'.cell? ⟨F, q, none⟩ = some (.int .i64 (x : Nat)) ∧ w'.cell? ⟨b, off + x * 2, none⟩ = some (.int .i64 v1) ∧ w'.cell? ⟨b, off + x * 2 + 1, none⟩ = some (.string v2))
                  (first
                    | (with_reducible assumption)
                    | exact ⟨d4, HCC.out _ hb6⟩
                    | exact ⟨d1, d2, d3⟩)
                  (first
                    | (go_at_call 11; refine (TP.put_all T C L _ x 0 (v1, v2) _ hTd hs HPT.out).mono ?_; rintro e' w6 ⟨rfl, ho6, hT6⟩; have hb6 := Only.after hbd (Nat.le_refl _) ho6 (by simp; omega); have hR6 := hRd.only ho6 (by simpa using hTF); have d4 := (hR6.cell hqo).trans ((hRd.cell hqo).symm.trans d1)))
                clear hTd hRd hbd ho6 d1 d2 d3 d4 hTF hs hqo
                go_wp2_with fail
                go_roundw
                case rel => exact ⟨q + 1, _, by omega, by go_num, hb6, hT6, hR6, g2⟩
                case measure => simp [intOf]; omega
              · obtain rfl : q = j := by omega
                have hLa := Done.all (l := l) (os := os) (by rw [hln]; exact HP.out) (by rw [hln]; exact hD)
                have hvs : vals L = some l := by rw [hLa]; exact TP.vals_map l
                have hc0 : cnt L = 0 := by rw [hLa]; exact TP.cnt_some l
                have HVS := Lib.hid hvs
                have HLN := Lib.hid hLn
                have HC0 := Lib.hid hc0
                clear hLa hvs hc0 hLn hlt hR
                go_wp2_with fail
                refine (TP.all_ok T C L wr hT (by rw [HLN.out]; omega)).mono ?_
                intro e w5 h50
                unfold TP.AllPost at h50
                rw [HVS.out] at h50
                obtain ⟨h5, sv, rfl, hown⟩ := h50
                rw [HLN.out] at hown
                have hT5 := hT.below h5
                have hb5 := Below_same hb h5
                obtain ⟨Z, c3, rfl, _, hc3, hZ⟩ := Els_of_own (f := pv) (d := (0, ByteArray.empty)) (l := l) hown (fun _ => rfl) (by omega)
                have hI5 := hI.mono hb5
                have hll := TP.left_ok T C L
                rw [HC0.out] at hll
                clear h5 hT hb hown
                go_wp2_with (first
                  | (go_at_call 20; refine (same_any l l Z A _ _ _ _ _ hZ hI5 (by omega) (by unfold maxLen; omega)).mono ?_; rintro e w10 ⟨he7, h10⟩; rw [decide_eq_true rfl] at he7; subst he7)
                  | (go_at_call 15; refine (hll _ (hT5.below h10)).mono ?_; rintro e w' ⟨rfl, rfl⟩)
                  | (go_at_call 8; refine (works_any _).mono ?_; rintro e w11 ⟨rfl, h11⟩))
                go_ret
                exact ⟨rfl, Below_same (Below_same hb5 h10) h11⟩
end Go.Proofs.Ytlbfjmdemljmhaa
