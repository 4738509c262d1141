import Derived.Test.YtginfglonakfpaaLp
namespace Go.Proofs.Ytginfglonakfpaa
open Go.RowKit Go.BigFrame

/-- A block of integers. -/
def Row (w : World) (g : Nat) (l : List Int) : Prop := Blk w g 3 (l.map (Value.int .i64)).toArray
theorem Row.cell {w : World} {g : Nat} {l : List Int} (h : Row w g l) {i : Nat} (hi : i < l.length) : w.cell? ⟨g, i, none⟩ = some (.int .i64 (l.getD i 0)) := by
  rw [Blk_cell h]; simp [hi]
theorem Row.set {w : World} {g : Nat} {l : List Int} (h : Row w g l) (i : Nat) (x : Int) : Row (w.setCell ⟨g, i, none⟩ (.int .i64 x)) g (l.set i x) := Blk_upd h i _ (by simp [List.map_set])

/-- What the loop keeps: what is left of each counter; how often it came to 0. -/
structure Once (ws cur zs : List Int) : Prop where
  len1 : cur.length = ws.length
  len2 : zs.length = ws.length
  le : ∀ i, i < ws.length → 0 ≤ cur.getD i 0 ∧ cur.getD i 0 ≤ ws.getD i 0
  zero : ∀ i, i < ws.length → zs.getD i 0 = if cur.getD i 0 = 0 ∧ 0 < ws.getD i 0 then 1 else 0
theorem getD_set (l : List Int) (i j : Nat) (x : Int) (hi : i < l.length) : (l.set i x).getD j 0 = if i = j then x else l.getD j 0 := by
  by_cases h : i = j
  · subst h; simp [hi]
  · simp [h]
theorem Once.start {ws : List Int} (h : ∀ x ∈ ws, 0 ≤ x) : Once ws ws (List.replicate ws.length 0) := by
  refine ⟨rfl, by simp, fun i hi => ⟨?_, Int.le_refl _⟩, fun i hi => ?_⟩
  · have : ws.getD i 0 = ws[i] := by simp [List.getD, hi]
    rw [this]; exact h _ (List.getElem_mem _)
  · rw [if_neg (by omega)]; simp [hi]
theorem Once.step {ws cur zs : List Int} (h : Once ws cur zs) {j : Nat} (hj : j < ws.length) {x : Int} (hx : cur.getD j 0 = x) (hp : 0 < x) :
    zs.getD j 0 = 0 ∧ Once ws (cur.set j (x - 1)) (if x - 1 = 0 then zs.set j 1 else zs) := by
  have h1 := h.len1
  have h2 := h.len2
  have h3 := h.le j hj
  have h4 := h.zero j hj
  rw [if_neg (by omega)] at h4
  refine ⟨h4, ⟨by simpa using h1, by split <;> simpa using h2, fun i hi => ?_, fun i hi => ?_⟩⟩
  · rw [getD_set _ _ _ _ (by omega)]
    by_cases hij : j = i
    · subst hij; rw [if_pos rfl]; omega
    · rw [if_neg hij]; exact h.le i hi
  · rw [getD_set _ _ _ _ (by omega)]
    by_cases hij : j = i
    · subst hij
      rw [if_pos rfl]
      by_cases hz : x - 1 = 0
      · rw [if_pos hz, getD_set _ _ _ _ (by omega), if_pos rfl, if_pos ⟨hz, by omega⟩]
      · rw [if_neg hz, h4, if_neg (fun q => hz q.1)]
    · rw [if_neg hij]
      by_cases hz : x - 1 = 0
      · rw [if_pos hz, getD_set _ _ _ _ (by omega), if_neg hij]; exact h.zero i hi
      · rw [if_neg hz]; exact h.zero i hi
theorem Once.good {ws cur zs : List Int} (h : Once ws cur zs) (hw : ∀ x ∈ ws, x ≤ 255) : Good cur := by
  intro x hx
  obtain ⟨i, hi, rfl⟩ := List.mem_iff_getElem.1 hx
  have h1 := h.len1
  have hi' : i < ws.length := by omega
  have h2 := h.le i hi'
  have e1 : cur.getD i 0 = cur[i] := by simp [List.getD, hi]
  have e2 : ws.getD i 0 = ws[i] := by simp [List.getD, hi']
  have := hw _ (List.getElem_mem hi')
  omega

set_option maxRecDepth 100000 in
set_option maxHeartbeats 4000000 in
theorem conce_any (ws ys : List Int) (A D : Option Addr) (n c m d : Nat) (w : World) (hI : Ints .u8 w A n ws) (hJ : Ints .u8 w D m ys) (hx : ∀ x ∈ ws, (Lit.int .u8 x).wf = true) (hy : ∀ x ∈ ys, (Lit.int .u8 x).wf = true) (hn : n ≤ maxLen) (hmd : m ≤ maxLen) :
    Calls Try.prog 6 #[.slice A n c, .slice D m d] w fun e w' => e = .returned (.bool true) ∧ Below w.heap.size w w' := by
  unfold maxLen at hmd hn
  obtain ⟨i0, hi0, hz0, hz1, hz2⟩ := info_parts i3
  have hlen := hI.len_eq
  have hlen2 := hJ.len_eq
  subst hlen
  by_cases hb1 : ws.length < 1
  · go_enter Try.func6, Try.ntmps6
    go_wp2_with (go_at_call 9; refine (works_any _).mono ?_; rintro e w9 ⟨rfl, h9⟩)
    go_ret
    exact ⟨rfl, h9⟩
  by_cases hb2 : 40 < ws.length
  · go_enter Try.func6, Try.ntmps6
    go_wp2_with (go_at_call 9; refine (works_any _).mono ?_; rintro e w9 ⟨rfl, h9⟩)
    go_ret
    exact ⟨rfl, h9⟩
  by_cases hb3 : 2000 < m
  · go_enter Try.func6, Try.ntmps6
    go_wp2_with (go_at_call 9; refine (works_any _).mono ?_; rintro e w9 ⟨rfl, h9⟩)
    go_ret
    exact ⟨rfl, h9⟩
  have hmk := run_make_blk (P := Try.prog) Try.underlying43 hi0 hz0 (x := .int .i64 0) rfl hz1 .i64 .i64 ws.length (by rw [hz2]; omega) (by simp only [maxLen]; omega)
  have hws : ∀ x ∈ ws, 0 ≤ x ∧ x ≤ 255 := fun x h => bounds_u8 (hx x h)
  have HWS := Lib.hid hws
  clear hws
  go_enter Try.func6, Try.ntmps6
  go_wp2_with fail
  go_loopw [5, 7, 35, 36, 37, 38, 39, 40, 41, 42, 43, 44, 45, 46, 47, 48, 49, 50, 51, 52, 53, 54, 55, 56] (fun v i _ _ _ _ _ _ _ _ _ _ _ _ _ _ _ _ _ _ _ _ _ _ wr => ∃ k : Nat, k ≤ ws.length ∧ i = .int .i64 k ∧ Below w.heap.size w wr ∧ wr.ownsRow (w.heap.size + 1) 3 1 v k ((ws.take k).map (Value.int .i64)) ∧ Row wr w.heap.size (ws.take k ++ List.replicate (ws.length - k) 0) ∧ w.heap.size < wr.heap.size) (fun _ i _ _ _ _ _ _ _ _ _ _ _ _ _ _ _ _ _ _ _ _ _ _ _ => ws.length - (intOf i).toNat)
  case atStart =>
    refine ⟨0, by omega, rfl, by (repeat' (first | (with_reducible exact Below.refl _ _) | (with_reducible assumption) | (with_reducible refine Below.alloc ?_ ?_ _) | (with_reducible refine Below.drew ?_) | (with_reducible refine Below_drewN ?_ _) | (with_reducible refine Below.setCell ?_ ?_ _) | go_size)), World.ownsRow_nil _ _ _ _, ?_, by simp⟩
    unfold Row
    simpa using Blk_new w 3 (List.replicate ws.length (.int .i64 0)).toArray
  case round =>
    obtain ⟨k, hk, rfl, hb, hown, hrow, hsz⟩ := hrel
    by_cases hlt : k < ws.length
    · obtain ⟨b, off, rfl, hB, hc⟩ := hI.at_ (by omega)
      have HCX : Hid (∀ w', Below w.heap.size w w' → w'.cell? ⟨b, off + k, none⟩ = some (.int .u8 (ws.getD k 0))) := fun w' h => (h.cell hB).trans (hc k hlt)
      have hbx := HWS.out _ (show ws.getD k 0 ∈ ws by simp [List.getD, hlt])
      have hfs := fill_step hlt
      have htk : (ws.take (k + 1)).map (Value.int .i64) = (ws.take k).map (Value.int .i64) ++ [.int .i64 (ws.getD k 0)] := by
        rw [List.take_succ_eq_append_getElem hlt, List.map_append]; congr 1; simp [hlt]
      obtain ⟨x, hxk⟩ : ∃ x, ws.getD k 0 = x := ⟨_, rfl⟩
      rw [hxk] at HCX hbx hfs htk
      obtain ⟨x0, x1⟩ := hbx
      have HFS := Lib.hid hfs
      have HTK := Lib.hid htk
      have cx := HCX.out _ hb
      clear hxk hfs htk hc hI hJ hx hy hlen2 hmk
      go_wp2_with (at_builtin; go_must (refine wpList_append_src _ rfl (.tmp 41) (.tmp 47) 43 rfl (w.heap.size + 1) 3 i0 _ 1 8 Try.underlying43 hi0 hz0 hz1 hz2 rfl (by omega) u5 k _ rfl (hown.alloc _) _ 1 1 [.int .i64 x] rfl (Src_new wr 3 #[.int .i64 x] 1 rfl) (by simp [Value.oneCell']) (by simp only [maxLen]; omega) (by omega) (by simp; omega) ?_); intro v' w1 hown1 hg1 hat1; have hb1 : Below w.heap.size w w1 := (hb.alloc hb.size _).grown hg1 (by have := hb.size; simp; omega) (fun q hq => by have := (hown.lt q hq).1; omega); have hrow1 : Row w1 w.heap.size _ := Blk_grown (Blk_alloc hrow _) hg1 (own_ne hown (by omega)); have cx1 := HCX.out _ hb1; have r0 := hrow1.cell (i := k) (by simp; omega); have f0 := Blk_frozen hrow1 k)
      go_roundw
      case rel =>
        refine ⟨k + 1, by omega, by go_num, hb1.setCell (by simp) _, ?_, ?_, by have := Blk_lt hrow1; simpa using this⟩
        · rw [HTK.out]; exact own_far hown1 (own_ne hown1 (by simp)) _
        · rw [← HFS.out]; exact hrow1.set k x
      case measure => simp [intOf]; omega
    · obtain rfl : k = ws.length := by omega
      have e1 : ws.take ws.length ++ List.replicate (ws.length - ws.length) 0 = ws := by simp
      rw [e1] at hrow
      rw [List.take_length] at hown
      clear e1 hlt hk
      obtain ⟨D0, d0, rfl, _, _⟩ := own_slice hown
      go_wp2_with fail
      refine (new_any ws D0 d0 _ (Ints_of_own hown) (by omega)).mono ?_
      rintro e w2 ⟨hn1, ⟨_, C, L, rfl, hC, hC0, hL0⟩ | ⟨⟨x, hx1, hx2⟩, _⟩⟩
      rotate_left
      · have := HWS.out x hx1; omega
      have bl2 := Below_same hb hn1
      have hrow2 : Row w2 w.heap.size ws := Blk_below hrow hn1 hsz
      have hL : w.heap.size < L := by omega
      have hon := Once.start (ws := ws) (fun x h => (HWS.out x h).1)
      clear hown hrow hn1 hx
      have hz2' := bl2.size
      have hmk2 := hmk w2
      go_wp2_with fail
      have hrz : Row (w2.alloc (.cells (List.replicate ws.length (.int .i64 0)).toArray 3)) w2.heap.size (List.replicate ws.length 0) := by
        unfold Row; simpa using Blk_new w2 3 (List.replicate ws.length (.int .i64 0)).toArray
      have hC3 := hC.below (Below.alloc (Below.refl _ w2) (Nat.le_refl _) (.cells (List.replicate ws.length (.int .i64 0)).toArray 3))
      have hr3 : Row (w2.alloc (.cells (List.replicate ws.length (.int .i64 0)).toArray 3)) w.heap.size ws := Blk_alloc hrow2 _
      have hlz := Blk_lt hrow2
      have hLz : L < w2.heap.size := Blk_lt hC.row
      have bl3 : Below w.heap.size w (w2.alloc (.cells (List.replicate ws.length (.int .i64 0)).toArray 3)) := bl2.alloc bl2.size _
      clear hrow2 hC hmk hmk2 hi0 hz0 hz1 hz2
      go_loopw [11, 12, 13, 14, 71, 72, 73, 74, 75, 76, 77, 78, 79, 80, 81, 82, 83, 84, 85, 86, 87, 88, 89, 90, 91, 92, 93, 94, 95, 96, 97, 98, 99, 100, 101, 102, 103, 104, 105, 106, 107, 108, 109, 110, 111, 112, 113, 114, 115, 116, 117, 118, 119, 120, 121, 122, 123, 124, 125] (fun i _ _ _ _ _ _ _ _ _ _ _ _ _ _ _ _ _ _ _ _ _ _ _ _ _ _ _ _ _ _ _ _ _ _ _ _ _ _ _ _ _ _ _ _ _ _ _ _ _ _ _ _ _ _ _ _ _ _ wr => ∃ (k : Nat) (cur zs : List Int), k ≤ m ∧ i = .int .i64 k ∧ Below w.heap.size w wr ∧ Once ws cur zs ∧ Cs wr C L cur ∧ Row wr w.heap.size cur ∧ Row wr w2.heap.size zs) (fun i _ _ _ _ _ _ _ _ _ _ _ _ _ _ _ _ _ _ _ _ _ _ _ _ _ _ _ _ _ _ _ _ _ _ _ _ _ _ _ _ _ _ _ _ _ _ _ _ _ _ _ _ _ _ _ _ _ _ _ => m - (intOf i).toNat)
      case atStart => exact ⟨0, ws, _, by omega, rfl, bl3, hon, hC3, hr3, hrz⟩
      case round =>
        clear hon hC3 hr3 hrz bl3 hsz hb bl2
        obtain ⟨k, cur, zs, hk, rfl, hb, hon, hC, hr, hzr⟩ := hrel
        by_cases hlt : k < m
        · obtain ⟨b, off, rfl, hB, hc⟩ := hJ.at_ (by omega)
          have cy : wr.cell? ⟨b, off + k, none⟩ = some (.int .u8 (ys.getD k 0)) := (hb.cell hB).trans (hc k hlt)
          have hby := bounds_u8 (wf_at hy (k := k) (by omega))
          obtain ⟨y, hyk⟩ : ∃ y, ys.getD k 0 = y := ⟨_, rfl⟩
          rw [hyk] at cy hby
          obtain ⟨y0, y1⟩ := hby
          have hq1 := Int.emod_nonneg y (show (ws.length : Int) ≠ 0 by omega)
          have hq2 := Int.emod_lt_of_pos y (show (0 : Int) < ws.length by omega)
          obtain ⟨j, hj⟩ : ∃ j : Nat, y % (ws.length : Int) = (j : Int) := ⟨(y % (ws.length : Int)).toNat, by omega⟩
          have hjn : j < ws.length := by omega
          have j0 : (0 : Int) ≤ (j : Int) := Int.natCast_nonneg _
          have j1 : (j : Int) < (ws.length : Int) := by omega
          clear hyk hc hJ hI hy hq1 hq2
          have hl1 := hon.len1
          have hl2 := hon.len2
          have hle := hon.le j hjn
          have hgood := hon.good (fun x h => (HWS.out x h).2)
          have hstep := fun x hx hp => hon.step hjn (x := x) hx hp
          have cl := hr.cell (i := j) (by omega)
          have cz := hzr.cell (i := j) (by omega)
          have fl := Blk_frozen hr j
          have fz := Blk_frozen hzr j
          obtain ⟨x, hxj⟩ : ∃ x, cur.getD j 0 = x := ⟨_, rfl⟩
          obtain ⟨z, hzj⟩ : ∃ z, zs.getD j 0 = z := ⟨_, rfl⟩
          have hgu := (hgood.get (i := j) (by omega)).2
          rw [hxj] at cl hle hgu
          rw [hzj] at cz
          have HZJ := Lib.hid hzj
          have hdn : downR cur (j : Int) = if x = 0 then (0, 3, cur) else (x - 1, 0, cur.set j (x - 1)) := by
            unfold downR
            rw [if_neg (by omega), Int.toNat_natCast, hxj]
          have HST := Lib.hid hstep
          have HXJ := Lib.hid hxj
          have HL1 := Lib.hid hl1
          have HL2 := Lib.hid hl2
          clear hzj hstep hxj hl1 hl2
          by_cases hx0 : x = 0
          · rw [if_pos hx0] at hdn
            subst hx0
            have HD := Lib.hid hdn
            clear hdn
            go_wp2_with fail
            rw [hj]
            refine (down_all C L cur cur (j : Int) 0 3 _ hC hgood HD.out).mono ?_
            rintro e w5 ⟨rfl, hg5, hC5⟩
            have hr5 : Row w5 w.heap.size cur := Blk_grown hr hg5 (by simp; omega)
            have hz5 : Row w5 w2.heap.size zs := Blk_grown hzr hg5 (by simp; omega)
            have hb5 : Below w.heap.size w w5 := hb.grown hg5 hb.size (fun q hq => by cases hq; omega)
            have cl5 := hr5.cell (i := j) (by rw [HL1.out]; omega)
            rw [HXJ.out] at cl5
            clear hC hr hzr hg5 cl cz fl fz cy hb hj
            go_wp2_with fail
            go_roundw
            case rel => exact ⟨k + 1, cur, zs, by omega, by go_num, hb5, hon, hC5, hr5, hz5⟩
            case measure => simp [intOf]; omega
          · rw [if_neg hx0] at hdn
            have hxp : 0 < x := by omega
            have hx0' : (x == 0) = false := by simp [hx0]
            obtain ⟨hz0', hon'⟩ := HST.out x HXJ.out hxp
            rw [HZJ.out] at hz0'
            subst hz0'
            have HD := Lib.hid hdn
            have HO := Lib.hid hon'
            clear hdn hon' hon HST hx0
            go_wp2_with fail
            rw [hj]
            refine (down_all C L cur (cur.set j (x - 1)) (j : Int) (x - 1) 0 _ hC hgood HD.out).mono ?_
            rintro e w5 ⟨rfl, hg5, hC5⟩
            have hr5 : Row w5 w.heap.size cur := Blk_grown hr hg5 (by simp; omega)
            have hz5 : Row w5 w2.heap.size zs := Blk_grown hzr hg5 (by simp; omega)
            have hb5 : Below w.heap.size w w5 := hb.grown hg5 hb.size (fun q hq => by cases hq; omega)
            have cl5 := hr5.cell (i := j) (by rw [HL1.out]; omega)
            have cz5 := hz5.cell (i := j) (by rw [HL2.out]; omega)
            have fl5 := Blk_frozen hr5 j
            have fz5 := Blk_frozen hz5 j
            rw [HXJ.out] at cl5
            rw [HZJ.out] at cz5
            have hb6 : Below w.heap.size w (w5.setCell ⟨w.heap.size, j, none⟩ (.int .i64 (x - 1))) := hb5.setCell (by simp) _
            have hC6 : Cs (w5.setCell ⟨w.heap.size, j, none⟩ (.int .i64 (x - 1))) C L (cur.set j (x - 1)) := hC5.kept (grown_set _ _ _ _) (by simpa using Blk_ne hC5.obj hr5 (by decide)) (by simpa using Blk_ne hC5.row hr5 (by decide))
            have hr6 := hr5.set j (x - 1)
            have hz6 : Row (w5.setCell ⟨w.heap.size, j, none⟩ (.int .i64 (x - 1))) w2.heap.size zs := Blk_far hz5 (by simp; omega) _
            have hgt : w.heap.size < w2.heap.size := by omega
            clear hC hr hzr hg5 cl cz fl fz cy hb hj hr5 hz5 hC5
            by_cases hx1 : x - 1 = 0
            · obtain rfl : x = 1 := by omega
              rw [if_pos hx1] at HO
              have hb7 : Below w.heap.size w ((w5.setCell ⟨w.heap.size, j, none⟩ (.int .i64 0)).setCell ⟨w2.heap.size, j, none⟩ (.int .i64 1)) := hb6.setCell (by simp; omega) _
              have hC7 : Cs ((w5.setCell ⟨w.heap.size, j, none⟩ (.int .i64 0)).setCell ⟨w2.heap.size, j, none⟩ (.int .i64 1)) C L (cur.set j (1 - 1)) := hC6.kept (grown_set _ _ _ _) (by simpa using Blk_ne hC6.obj hz6 (by decide)) (by simpa using Blk_ne hC6.row hz6 (by decide))
              have hr7 : Row ((w5.setCell ⟨w.heap.size, j, none⟩ (.int .i64 0)).setCell ⟨w2.heap.size, j, none⟩ (.int .i64 1)) w.heap.size (cur.set j (1 - 1)) := Blk_far hr6 (by simp; omega) _
              have hz7 := hz6.set j 1
              have hx1' : (1 : Int) - 1 = 0 := by omega
              have HC7 := Lib.hid hC7
              have HR7 := Lib.hid hr7
              have HZ7 := Lib.hid hz7
              clear hC6 hr6 hz6 hC7 hr7 hz7 hb6 hx1 hxp hx0' hle
              go_wp2_with fail
              go_roundw
              case rel => exact ⟨k + 1, _, _, by omega, by go_num, hb7, HO.out, HC7.out, HR7.out, HZ7.out⟩
              case measure => simp [intOf]; omega
            · have hx1' : (x - 1 == 0) = false := by simp [hx1]
              have hx2 : ¬ x = 1 := by omega
              rw [if_neg hx1] at HO
              have HC6 := Lib.hid hC6
              have HR6 := Lib.hid hr6
              have HZ6 := Lib.hid hz6
              clear hC6 hr6 hz6 hx1
              go_wp2_with fail
              go_roundw
              case rel => exact ⟨k + 1, _, _, by omega, by go_num, hb6, HO.out, HC6.out, HR6.out, HZ6.out⟩
              case measure => simp [intOf]; omega
        · clear hJ hk hy
          obtain ⟨w3, hw3⟩ : ∃ w3, wr = w3 := ⟨_, rfl⟩
          subst hw3
          go_wp2_with fail
          go_loopw [15, 16, 17, 126, 127, 128, 129, 130, 131, 132, 133, 134, 135, 136, 137, 138, 139, 140, 141, 142, 143, 144, 145, 146, 147, 148, 149, 150, 151, 152, 153, 154, 155, 156, 157, 158, 159, 160, 161, 162, 163, 164, 165, 166, 167, 168, 169, 170, 171, 172, 173, 174] (fun i _ _ _ _ _ _ _ _ _ _ _ _ _ _ _ _ _ _ _ _ _ _ _ _ _ _ _ _ _ _ _ _ _ _ _ _ _ _ _ _ _ _ _ _ _ _ _ _ _ _ _ wr => ∃ k : Nat, k ≤ ws.length ∧ i = .int .i64 k ∧ Below w.heap.size w wr ∧ Cs wr C L cur ∧ Row wr w.heap.size cur ∧ Row wr w2.heap.size zs) (fun i _ _ _ _ _ _ _ _ _ _ _ _ _ _ _ _ _ _ _ _ _ _ _ _ _ _ _ _ _ _ _ _ _ _ _ _ _ _ _ _ _ _ _ _ _ _ _ _ _ _ _ _ => ws.length - (intOf i).toNat)
          case atStart => exact ⟨0, by omega, rfl, hb, hC, hr, hzr⟩
          case round =>
            clear hb hC hr hzr hlt
            obtain ⟨q, hq, rfl, hb, hC, hr, hzr⟩ := hrel
            by_cases hlt : q < ws.length
            · obtain ⟨b, off, rfl, hB, hc⟩ := hI.at_ (by omega)
              have cx : wr.cell? ⟨b, off + q, none⟩ = some (.int .u8 (ws.getD q 0)) := (hb.cell hB).trans (hc q hlt)
              have hl1 := hon.len1
              have hl2 := hon.len2
              have hle := hon.le q hlt
              have hze := hon.zero q hlt
              have cl := hr.cell (i := q) (by omega)
              have cz := hzr.cell (i := q) (by omega)
              obtain ⟨x, hxq⟩ : ∃ x, cur.getD q 0 = x := ⟨_, rfl⟩
              obtain ⟨z, hzq⟩ : ∃ z, zs.getD q 0 = z := ⟨_, rfl⟩
              obtain ⟨s, hsq⟩ : ∃ s, ws.getD q 0 = s := ⟨_, rfl⟩
              have hlf : leftR cur (q : Int) = (x, 0) := by
                unfold leftR
                rw [if_neg (by omega), Int.toNat_natCast, hxq]
              rw [hxq] at cl hle hze
              rw [hzq] at cz hze
              rw [hsq] at cx hle hze
              obtain ⟨hle1, hle2⟩ := hle
              have HLF := Lib.hid hlf
              have q0 : (0 : Int) ≤ (q : Int) := Int.natCast_nonneg _
              have q1 : (q : Int) < (ws.length : Int) := by omega
              clear hl1 hl2 hlf hxq hzq hsq hc hI hon
              go_wp2_with fail
              refine (left_all C L cur (q : Int) x 0 _ hC HLF.out).mono ?_
              rintro e w' ⟨rfl, rfl⟩
              have p0 := fun x : Up wr => up_cell x cx
              have p1 := fun x : Up wr => up_cell x cl
              have p2 := fun x : Up wr => up_cell x cz
              by_cases hx0 : x = 0
              · subst hx0
                by_cases hs0 : 0 < s
                · rw [if_pos ⟨rfl, hs0⟩] at hze
                  subst hze
                  go_wp2_with fail
                  refine wp_region_up (by kernel_rfl) (by kernel_rfl) ?_
                  repeat (go_big_quiet_step (fail))
                  refine wpQuiet_nil ?_
                  intro w' hup
                  have hb1 := Below_same hb hup
                  have hC1 := hC.below hup
                  have hr1 : Row w' w.heap.size cur := Blk_below hr hup (Blk_lt hr)
                  have hz1 : Row w' w2.heap.size zs := Blk_below hzr hup (Blk_lt hzr)
                  clear p0 p1 p2 cx cl cz hC hr hzr hb hup
                  go_wp2_with fail
                  go_roundw
                  case rel => exact ⟨q + 1, by omega, by go_num, hb1, hC1, hr1, hz1⟩
                  case measure => simp [intOf]; omega
                · have hs0' : decide (0 < s) = false := by simp [hs0]
                  rw [if_neg (fun h => hs0 h.2)] at hze
                  subst hze
                  go_wp2_with fail
                  refine wp_region_up (by kernel_rfl) (by kernel_rfl) ?_
                  repeat (go_big_quiet_step (fail))
                  refine wpQuiet_nil ?_
                  intro w' hup
                  have hb1 := Below_same hb hup
                  have hC1 := hC.below hup
                  have hr1 : Row w' w.heap.size cur := Blk_below hr hup (Blk_lt hr)
                  have hz1 : Row w' w2.heap.size zs := Blk_below hzr hup (Blk_lt hzr)
                  clear p0 p1 p2 cx cl cz hC hr hzr hb hup
                  go_wp2_with fail
                  go_roundw
                  case rel => exact ⟨q + 1, by omega, by go_num, hb1, hC1, hr1, hz1⟩
                  case measure => simp [intOf]; omega
              · have hx0' : (x == 0) = false := by simp [hx0]
                rw [if_neg (fun h => hx0 h.1)] at hze
                subst hze
                clear hx0
                go_wp2_with fail
                refine wp_region_up (by kernel_rfl) (by kernel_rfl) ?_
                repeat (go_big_quiet_step (fail))
                refine wpQuiet_nil ?_
                intro w' hup
                have hb1 := Below_same hb hup
                have hC1 := hC.below hup
                have hr1 : Row w' w.heap.size cur := Blk_below hr hup (Blk_lt hr)
                have hz1 : Row w' w2.heap.size zs := Blk_below hzr hup (Blk_lt hzr)
                clear p0 p1 p2 cx cl cz hC hr hzr hb hup
                go_wp2_with fail
                go_roundw
                case rel => exact ⟨q + 1, by omega, by go_num, hb1, hC1, hr1, hz1⟩
                case measure => simp [intOf]; omega
            · go_wp2_with (go_at_call 9; refine (works_any _).mono ?_; rintro e w9 ⟨rfl, h9⟩)
              go_ret
              exact ⟨rfl, Below_same hb h9⟩
end Go.Proofs.Ytginfglonakfpaa
