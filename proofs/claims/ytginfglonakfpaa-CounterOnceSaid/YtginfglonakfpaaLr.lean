import Derived.Test.YtginfglonakfpaaLq
namespace Go.Proofs.Ytginfglonakfpaa
open Go.RowKit Go.BigFrame

theorem sum_take {l : List Int} {k : Nat} (h : k < l.length) : (l.take (k + 1)).sum = (l.take k).sum + l.getD k 0 := by
  rw [List.take_succ_eq_append_getElem h, List.sum_append]; simp [h]
theorem sum_set (l : List Int) : ∀ (i : Nat) (x : Int), i < l.length → (l.set i x).sum = l.sum - l.getD i 0 + x := by
  induction l with
  | nil => intro i x h; simp at h
  | cons a l ih =>
    intro i x h
    cases i with
    | zero => simp; omega
    | succ i =>
      have := ih i x (by simpa using h)
      simp only [List.set_cons_succ, List.sum_cons, List.getD_cons_succ]
      omega
theorem sum_bd {l : List Int} (h : ∀ x ∈ l, 0 ≤ x ∧ x ≤ 8) : 0 ≤ l.sum ∧ l.sum ≤ 8 * l.length := by
  induction l with
  | nil => simp
  | cons a l ih =>
    have h1 := h a (by simp)
    have h2 := ih (fun x hx => h x (by simp [hx]))
    simp only [List.sum_cons, List.length_cons]
    omega
theorem own_cell {w : World} {B : Nat} {e : TypeId} {g c : Nat} {l : List Int} {n i : Nat} (h : w.ownsRow B e 1 (.slice (some ⟨g, 0, none⟩) n c) n (l.map (Value.int .i64))) (hi : i < n) :
    w.cell? ⟨g, i, none⟩ = some (.int .i64 (l.getD i 0)) := by
  have hl : l.length = n := by have := h.1; simpa using this
  rw [h.cellAt i (by omega)]; simp [show i < l.length by omega]
def nine (ws : List Int) : List Int := ws.map (· % 9)
theorem nine_get {ws : List Int} {k : Nat} (h : k < ws.length) : (nine ws).getD k 0 = ws.getD k 0 % 9 := by simp [nine, h]
theorem nine_bd (ws : List Int) : ∀ x ∈ nine ws, 0 ≤ x ∧ x ≤ 8 := by
  intro x hx
  obtain ⟨y, _, rfl⟩ := List.mem_map.1 hx
  omega
/-- What the loop keeps. -/
structure Sums (ls cur fs : List Int) : Prop where
  len1 : cur.length = ls.length
  len2 : fs.length = ls.length
  eq : ∀ i, i < ls.length → 0 ≤ cur.getD i 0 ∧ cur.getD i 0 = ls.getD i 0 - fs.getD i 0 ∧ 0 ≤ fs.getD i 0
theorem Sums.start {ls : List Int} (h : ∀ x ∈ ls, 0 ≤ x) : Sums ls ls (List.replicate ls.length 0) := by
  refine ⟨rfl, by simp, fun i hi => ?_⟩
  have : ls.getD i 0 = ls[i] := by simp [List.getD, hi]
  have h1 := h _ (List.getElem_mem hi)
  have h2 : (List.replicate ls.length (0 : Int)).getD i 0 = 0 := by simp [hi]
  omega
theorem Sums.step {ls cur fs : List Int} (h : Sums ls cur fs) {j : Nat} (hj : j < ls.length) {x : Int} (hx : cur.getD j 0 = x) (hp : 0 < x) :
    Sums ls (cur.set j (x - 1)) (fs.set j (fs.getD j 0 + 1)) ∧ (cur.set j (x - 1)).sum = cur.sum - 1 := by
  have h1 := h.len1
  have h2 := h.len2
  have h3 := h.eq j hj
  refine ⟨⟨by simpa using h1, by simpa using h2, fun i hi => ?_⟩, ?_⟩
  · rw [getD_set _ _ _ _ (by omega), getD_set _ _ _ _ (by omega)]
    by_cases hij : j = i
    · subst hij; rw [if_pos rfl, if_pos rfl]; omega
    · rw [if_neg hij, if_neg hij]; exact h.eq i hi
  · rw [sum_set _ _ _ (by omega), hx]; omega
theorem Sums.small {ls cur fs : List Int} (h : Sums ls cur fs) (hl : ∀ x ∈ ls, 0 ≤ x ∧ x ≤ 8) : ∀ x ∈ cur, 0 ≤ x ∧ x ≤ 8 := by
  intro x hx
  obtain ⟨i, hi, rfl⟩ := List.mem_iff_getElem.1 hx
  have h1 := h.len1
  have hi' : i < ls.length := by omega
  have h2 := h.eq i hi'
  have e1 : cur.getD i 0 = cur[i] := by simp [List.getD, hi]
  have e2 : ls.getD i 0 = ls[i] := by simp [List.getD, hi']
  have := hl _ (List.getElem_mem hi')
  omega
theorem Sums.good {ls cur fs : List Int} (h : Sums ls cur fs) (hl : ∀ x ∈ ls, 0 ≤ x ∧ x ≤ 8) : Good cur := fun x hx => by have := h.small hl x hx; omega
theorem small_take {l : List Int} (h : ∀ x ∈ l, 0 ≤ x ∧ x ≤ 8) (k : Nat) (hl : l.length ≤ 60) : 0 ≤ (l.take k).sum ∧ (l.take k).sum ≤ 480 := by
  have := sum_bd (l := l.take k) (fun x hx => h x (List.mem_of_mem_take hx))
  have h2 := List.length_take_le k l
  rw [List.length_take] at this
  omega

set_option maxRecDepth 100000 in
set_option maxHeartbeats 4000000 in
theorem csums_any (ws ys : List Int) (A D : Option Addr) (n c m d : Nat) (w : World) (hI : Ints .u8 w A n ws) (hJ : Ints .u8 w D m ys) (hx : ∀ x ∈ ws, (Lit.int .u8 x).wf = true) (hy : ∀ x ∈ ys, (Lit.int .u8 x).wf = true) (hn : n ≤ maxLen) (hmd : m ≤ maxLen) :
    Calls Try.prog 8 #[.slice A n c, .slice D m d] w fun e w' => e = .returned (.bool true) ∧ Below w.heap.size w w' := by
  unfold maxLen at hmd hn
  obtain ⟨i0, hi0, hz0, hz1, hz2⟩ := info_parts i3
  have hlen := hI.len_eq
  have hlen2 := hJ.len_eq
  subst hlen
  by_cases hb2 : 60 < ws.length
  · go_enter Try.func8, Try.ntmps8
    go_wp2_with (go_at_call 9; refine (works_any _).mono ?_; rintro e w9 ⟨rfl, h9⟩)
    go_ret
    exact ⟨rfl, h9⟩
  by_cases hb3 : 400 < m
  · go_enter Try.func8, Try.ntmps8
    go_wp2_with (go_at_call 9; refine (works_any _).mono ?_; rintro e w9 ⟨rfl, h9⟩)
    go_ret
    exact ⟨rfl, h9⟩
  by_cases hb1 : ws.length = 0
  · have hb1' : ((ws.length : Int) == 0) = true := by simp [hb1]
    clear hb1
    go_enter Try.func8, Try.ntmps8
    go_wp2_with (go_at_call 9; refine (works_any _).mono ?_; rintro e w9 ⟨rfl, h9⟩)
    go_ret
    exact ⟨rfl, h9⟩
  have hb1' : ((ws.length : Int) == 0) = false := by simp; exact fun h => hb1 (by simp [h])
  have hb4 : 0 < ws.length := by omega
  clear hb1
  have hmk := run_make_blk (P := Try.prog) Try.underlying43 hi0 hz0 (x := .int .i64 0) rfl hz1 .i64 .i64 ws.length (by rw [hz2]; omega) (by simp only [maxLen]; omega)
  have hll : (nine ws).length = ws.length := by simp [nine]
  have HLL := Lib.hid hll
  have HSM := Lib.hid (nine_bd ws)
  clear hll
  go_enter Try.func8, Try.ntmps8
  go_wp2_with fail
  go_loopw [5, 6, 7, 33, 34, 35, 36, 37, 38, 39, 40, 41, 42, 43, 44, 45, 46, 47, 48, 49, 50, 51, 52, 53, 54, 55] (fun v s i _ _ _ _ _ _ _ _ _ _ _ _ _ _ _ _ _ _ _ _ _ _ _ wr => ∃ k : Nat, k ≤ ws.length ∧ i = .int .i64 k ∧ s = .int .i64 ((nine ws).take k).sum ∧ Below w.heap.size w wr ∧ wr.ownsRow w.heap.size 3 1 v k (((nine ws).take k).map (Value.int .i64))) (fun _ _ i _ _ _ _ _ _ _ _ _ _ _ _ _ _ _ _ _ _ _ _ _ _ _ _ => ws.length - (intOf i).toNat)
  case atStart => exact ⟨0, by omega, rfl, by simp, Below.refl _ _, World.ownsRow_nil _ _ _ _⟩
  case round =>
    obtain ⟨k, hk, rfl, rfl, hb, hown⟩ := hrel
    by_cases hlt : k < ws.length
    · obtain ⟨b, off, rfl, hB, hc⟩ := hI.at_ (by omega)
      have HCX : Hid (∀ w', Below w.heap.size w w' → w'.cell? ⟨b, off + k, none⟩ = some (.int .u8 (ws.getD k 0))) := fun w' h => (h.cell hB).trans (hc k hlt)
      have hbx := bounds_u8 (wf_at hx hlt)
      have hng := nine_get hlt
      have hst := sum_take (l := nine ws) (k := k) (by rw [HLL.out]; exact hlt)
      have htk : ((nine ws).take (k + 1)).map (Value.int .i64) = ((nine ws).take k).map (Value.int .i64) ++ [.int .i64 (ws.getD k 0 % 9)] := by
        rw [List.take_succ_eq_append_getElem (by rw [HLL.out]; exact hlt), List.map_append, ← hng]; congr 1; simp [HLL.out, hlt]
      rw [hng] at hst
      have hsb := small_take HSM.out k (by rw [HLL.out]; omega)
      obtain ⟨x, hxk⟩ : ∃ x, ws.getD k 0 = x := ⟨_, rfl⟩
      obtain ⟨S, hS⟩ : ∃ S, ((nine ws).take k).sum = S := ⟨_, rfl⟩
      rw [hxk] at HCX hbx hst htk
      rw [hS] at hst hsb ⊢
      obtain ⟨x0, x1⟩ := hbx
      obtain ⟨s0, s1⟩ := hsb
      have y0 : 0 ≤ x % 9 := by omega
      have y1 : x % 9 ≤ 8 := by omega
      have HST := Lib.hid hst
      have HTK := Lib.hid htk
      have cx := HCX.out _ hb
      clear hxk hst htk hc hI hJ hx hy hlen2 hmk hng hS
      go_wp2_with (at_builtin; go_must (refine wpList_append_src _ rfl (.tmp 39) (.tmp 46) 43 rfl w.heap.size 3 i0 _ 1 8 Try.underlying43 hi0 hz0 hz1 hz2 rfl (by omega) u5 k _ rfl (hown.alloc _) _ 1 1 [.int .i64 (x % 9)] rfl (Src_new wr 3 #[.int .i64 (x % 9)] 1 rfl) (by simp [Value.oneCell']) (by simp only [maxLen]; omega) (by omega) (by have := hb.size; simp; omega) ?_); intro v' w1 hown1 hg1 hat1; have hb1 : Below w.heap.size w w1 := (hb.alloc hb.size _).grown hg1 (by have := hb.size; simp; omega) (fun q hq => (hown.lt q hq).1); have cx1 := HCX.out _ hb1)
      go_roundw
      case rel =>
        refine ⟨k + 1, by omega, by go_num, by rw [HST.out], hb1, ?_⟩
        rw [HTK.out]; exact hown1
      case measure => simp [intOf]; omega
    · obtain rfl : k = ws.length := by omega
      rw [List.take_of_length_le (by rw [HLL.out]; exact Nat.le_refl _)] at hown ⊢
      clear hlt hk
      obtain ⟨D0, d0, rfl, _, _⟩ := own_slice hown
      have hsrc := ((Ints_of_own hown).mono (Below.alloc (Below.refl _ wr) (Nat.le_refl _) (.cells #[] 3))).src
      go_wp2_with (at_builtin; go_must (refine wpList_append_src _ rfl (.tmp 57) (.tmp 58) 43 rfl wr.heap.size 3 i0 _ 1 8 Try.underlying43 hi0 hz0 hz1 hz2 rfl (by omega) (.slice (some ⟨wr.heap.size, 0, none⟩) 0 0) 0 [] rfl (World.ownsRow_lit wr #[] 0 (Nat.le_refl _) (by simp) rfl) D0 ws.length d0 ((nine ws).map (Value.int .i64)) rfl (by rw [Nat.mul_one]; exact hsrc) (one_ints _ _) (by simp only [maxLen]; omega) (by omega) (by simp) ?_); intro v' w1 hown1 hg1 hat1; simp only [Nat.zero_add, List.nil_append] at hown1; obtain ⟨D1, d1, rfl, _, _⟩ := own_slice hown1; have hbl : Below wr.heap.size wr w1 := Below.grown (w := wr.alloc (.cells #[] 3)) (by (repeat' (first | (with_reducible exact Below.refl _ _) | (with_reducible assumption) | (with_reducible refine Below.alloc ?_ ?_ _) | (with_reducible refine Below.drew ?_) | (with_reducible refine Below_drewN ?_ _) | (with_reducible refine Below.setCell ?_ ?_ _) | go_size))) hg1 (by simp) (fun k hk => by simp [Value.ownBlock] at hk; omega))
      have hown2 := own_below hown hbl
      have bl1 := Below_same hb hbl
      have hnew := new_any (nine ws) D1 d1 w1 (by rw [HLL.out]; exact Ints_of_own hown1) (by rw [HLL.out]; omega)
      rw [HLL.out] at hnew
      refine hnew.mono ?_
      clear hnew
      rintro e w2 ⟨hn1, ⟨_, C, L, rfl, hC, hC0, hL0⟩ | ⟨⟨x, hx1, hx2⟩, _⟩⟩
      rotate_left
      · have := HSM.out x hx1; omega
      have bl2 := Below_same bl1 hn1
      have hown3 := own_below hown2 hn1
      have hL : w.heap.size ≤ L := by have := bl1.size; omega
      have hon := Sums.start (ls := nine ws) (fun x h => (HSM.out x h).1)
      rw [HLL.out] at hon
      clear hown hown1 hown2 hn1 hx bl1 hb hbl hg1 hat1 hsrc hI
      have hz2' := bl2.size
      have hmk2 := hmk w2
      go_wp2_with fail
      have hrz : Row (w2.alloc (.cells (List.replicate ws.length (.int .i64 0)).toArray 3)) w2.heap.size (List.replicate ws.length 0) := by
        unfold Row; simpa using Blk_new w2 3 (List.replicate ws.length (.int .i64 0)).toArray
      have hC3 := hC.below (Below.alloc (Below.refl _ w2) (Nat.le_refl _) (.cells (List.replicate ws.length (.int .i64 0)).toArray 3))
      have hown4 := hown3.alloc (.cells (List.replicate ws.length (.int .i64 0)).toArray 3)
      have hLz : L < w2.heap.size := Blk_lt hC.row
      have bl3 : Below w.heap.size w (w2.alloc (.cells (List.replicate ws.length (.int .i64 0)).toArray 3)) := bl2.alloc bl2.size _
      have hgl : ∀ g, (Value.slice D0 ws.length d0).ownBlock = some g → g < w2.heap.size := fun g hg => (hown3.lt g hg).2
      clear hC hmk hmk2 hi0 hz0 hz1 hz2 hown3 bl2
      go_loopw [6, 11, 12, 13, 14, 15, 16, 17, 18, 72, 73, 74, 75, 76, 77, 78, 79, 80, 81, 82, 83, 84, 85, 86, 87, 88, 89, 90, 91, 92, 93, 94, 95, 96, 97, 98, 99, 100, 101, 102, 103, 104, 105, 106, 107, 108, 109, 110, 111, 112, 113, 114, 115, 116, 117, 118, 119, 120, 121, 122, 123, 124, 125, 126, 127, 128, 129, 130, 131, 132, 133, 134, 135, 136, 137, 138, 139, 140, 141, 142, 143, 144, 145, 146, 147, 148, 149, 150, 151, 152, 153, 154, 155] (fun s i _ _ _ _ _ _ _ _ _ _ _ _ _ _ _ _ _ _ _ _ _ _ _ _ _ _ _ _ _ _ _ _ _ _ _ _ _ _ _ _ _ _ _ _ _ _ _ _ _ _ _ _ _ _ _ _ _ _ _ _ _ _ _ _ _ _ _ _ _ _ _ _ _ _ _ _ _ _ _ _ _ _ _ _ _ _ _ _ _ _ _ wr => ∃ (k : Nat) (cur fs : List Int), k ≤ m ∧ i = .int .i64 k ∧ s = .int .i64 cur.sum ∧ Below w.heap.size w wr ∧ Sums (nine ws) cur fs ∧ Cs wr C L cur ∧ Row wr w2.heap.size fs ∧ wr.ownsRow w.heap.size 3 1 (.slice D0 ws.length d0) ws.length ((nine ws).map (Value.int .i64))) (fun _ i _ _ _ _ _ _ _ _ _ _ _ _ _ _ _ _ _ _ _ _ _ _ _ _ _ _ _ _ _ _ _ _ _ _ _ _ _ _ _ _ _ _ _ _ _ _ _ _ _ _ _ _ _ _ _ _ _ _ _ _ _ _ _ _ _ _ _ _ _ _ _ _ _ _ _ _ _ _ _ _ _ _ _ _ _ _ _ _ _ _ _ _ => m - (intOf i).toNat)
      case atStart => exact ⟨0, nine ws, _, by omega, rfl, rfl, bl3, hon, hC3, hrz, hown4⟩
      case round =>
        clear hon hC3 hrz bl3 hown4
        obtain ⟨k, cur, fs, hk, rfl, rfl, hb, hon, hC, hr, hown⟩ := hrel
        by_cases hlt : k < m
        · obtain ⟨b, off, rfl, hB, hc⟩ := hJ.at_ (by omega)
          have cy : wr.cell? ⟨b, off + k, none⟩ = some (.int .u8 (ys.getD k 0)) := (hb.cell hB).trans (hc k hlt)
          have hby := bounds_u8 (wf_at hy (k := k) (by omega))
          obtain ⟨y, hyk⟩ : ∃ y, ys.getD k 0 = y := ⟨_, rfl⟩
          rw [hyk] at cy hby
          obtain ⟨y0, y1⟩ := hby
          have hq1 := Int.emod_nonneg y (show (ws.length : Int) ≠ 0 by omega)
          have hq2 := Int.emod_lt_of_pos y (show (0 : Int) < ws.length by omega)
          obtain ⟨j, hj⟩ : ∃ j : Nat, y % (ws.length : Int) = (j : Int) := ⟨(y % (ws.length : Int)).toNat, by omega⟩
          have hjn : j < ws.length := by omega
          have j0 : (0 : Int) ≤ (j : Int) := Int.natCast_nonneg _
          have j1 : (j : Int) < (ws.length : Int) := by omega
          clear hyk hc hJ hy hq1 hq2
          have hl1 := hon.len1
          have hl2 := hon.len2
          rw [HLL.out] at hl1 hl2
          have hle := hon.eq j (by rw [HLL.out]; exact hjn)
          have hsm := hon.small HSM.out
          have hgood := hon.good HSM.out
          have hsum := sum_bd hsm
          have hjb := hsm (cur.getD j 0) (by simp [List.getD, hl1, hjn])
          have hlb := HSM.out ((nine ws).getD j 0) (by simp [List.getD, HLL.out, hjn])
          have hstep := fun x hx hp => hon.step (j := j) (by rw [HLL.out]; exact hjn) (x := x) hx hp
          obtain ⟨gl, gc, hD, hgl0, ol, _, _⟩ := own_at hown hjn
          injection hD with hD1 _ hD2
          subst hD1; subst hD2
          have hglz := hgl gl rfl
          have cf := hr.cell (i := j) (by omega)
          obtain ⟨x, hxj⟩ : ∃ x, cur.getD j 0 = x := ⟨_, rfl⟩
          obtain ⟨z, hzj⟩ : ∃ z, fs.getD j 0 = z := ⟨_, rfl⟩
          obtain ⟨t, htj⟩ : ∃ t, (nine ws).getD j 0 = t := ⟨_, rfl⟩
          rw [hl1] at hsum
          have hdn : downR cur (j : Int) = if x = 0 then (0, 3, cur) else (x - 1, 0, cur.set j (x - 1)) := by
            unfold downR
            rw [if_neg (by omega), Int.toNat_natCast, hxj]
          rw [hxj, hzj, htj] at hle
          rw [hxj] at hjb
          rw [htj] at hlb ol
          rw [hzj] at cf
          obtain ⟨S, hS⟩ : ∃ S, cur.sum = S := ⟨_, rfl⟩
          rw [hS] at hsum ⊢
          obtain ⟨le1, le2, le3⟩ := hle
          obtain ⟨jb1, jb2⟩ := hjb
          obtain ⟨lb1, lb2⟩ := hlb
          obtain ⟨sb1, sb2⟩ := hsum
          have hle2a : x ≤ t - z := by omega
          have hle2b : t - z ≤ x := by omega
          have HST := Lib.hid hstep
          have HXJ := Lib.hid hxj
          have HZJ := Lib.hid hzj
          have HS := Lib.hid hS
          have HL1 := Lib.hid hl1
          have HL2 := Lib.hid hl2
          have HG := Lib.hid hgl
          clear hzj hstep hxj hl1 hl2 htj hS le2 hsm hgl
          by_cases hx0 : x = 0
          · rw [if_pos hx0] at hdn
            subst hx0
            have HD := Lib.hid hdn
            clear hdn HST
            go_wp2_with fail
            try rw [hj]
            refine (down_all C L cur cur (j : Int) 0 3 _ hC hgood HD.out).mono ?_
            rintro e w5 ⟨rfl, hg5, hC5⟩
            have hr5 : Row w5 w2.heap.size fs := Blk_grown hr hg5 (by simp; omega)
            have hb5 : Below w.heap.size w w5 := hb.grown hg5 hb.size (fun q hq => by cases hq; omega)
            have hown5 := hown.kept hg5 (.inr (Ne.symm (own_blk_ne hown hC.row (by decide))))
            have ol5 := hg5.cell ol (own_blk_ne hown hC.row (by decide) |> fun h => by simpa [Value.ownBlock] using Ne.symm h)
            have cf5 := hg5.cell cf (by simp; omega)
            clear hC hr hown hg5 ol cf cy hb hj hgood
            have W1 : IntKind.i64.wrap (t - z) = 0 := by rw [IntWalk.i64_in _ (by omega)]; omega
            have p0 := fun x : Up w5 => up_cell x ol5
            have p1 := fun x : Up w5 => up_cell x cf5
            go_wp2_with fail
            refine wp_region_up (by kernel_rfl) (by kernel_rfl) ?_
            repeat (go_big_quiet_step (fail))
            refine wpQuiet_nil ?_
            intro w' hup
            clear W1 p0 p1 ol5 cf5
            have hb6 := Below_same hb5 hup
            have hC6 := hC5.below hup
            have hr6 : Row w' w2.heap.size fs := Blk_below hr5 hup (Blk_lt hr5)
            have hown6 := own_below hown5 hup
            obtain ⟨cu, hcu⟩ : ∃ cq, cur = cq := ⟨_, rfl⟩
            obtain ⟨fu, hfu⟩ : ∃ fq, fs = fq := ⟨_, rfl⟩
            have hsf := HS.out
            rw [hcu] at hC6 hon hsf
            rw [hfu] at hr6 hon
            have HSF := Lib.hid hsf
            clear hcu hfu hsf hb5 hC5 hr5 hown5 hup
            go_wp2_with fail
            go_loopw [15, 16, 17, 18, 119, 120, 121, 122, 123, 124, 125, 126, 127, 128, 129, 130, 131, 132, 133, 134, 135, 136, 137, 138, 139, 140, 141, 142, 143, 144, 145, 146, 147, 148, 149, 150, 151, 152] (fun s i _ _ _ _ _ _ _ _ _ _ _ _ _ _ _ _ _ _ _ _ _ _ _ _ _ _ _ _ _ _ _ _ _ _ _ _ wr => ∃ q : Nat, q ≤ ws.length ∧ i = .int .i64 q ∧ s = .int .i64 (cu.take q).sum ∧ Below w.heap.size w wr ∧ Cs wr C L cu ∧ Row wr w2.heap.size fu ∧ wr.ownsRow w.heap.size 3 1 (.slice (some ⟨gl, 0, none⟩) ws.length d0) ws.length ((nine ws).map (Value.int .i64))) (fun _ i _ _ _ _ _ _ _ _ _ _ _ _ _ _ _ _ _ _ _ _ _ _ _ _ _ _ _ _ _ _ _ _ _ _ _ _ _ => ws.length - (intOf i).toNat)
            case atStart => exact ⟨0, by omega, rfl, by simp, hb6, hC6, hr6, hown6⟩
            case round =>
              clear hb6 hC6 hr6 hown6
              obtain ⟨q, hq, rfl, rfl, hb, hC, hr, hown⟩ := hrel
              have kl1 := hon.len1
              have kl2 := hon.len2
              rw [HLL.out] at kl1 kl2
              have hsm := hon.small HSM.out
              by_cases hlt : q < ws.length
              · have hle := hon.eq q (by rw [HLL.out]; exact hlt)
                have hst := sum_take (l := cu) (k := q) (by omega)
                have hsb := small_take hsm q (by omega)
                have hxb := hsm (cu.getD q 0) (by simp [List.getD, kl1, hlt])
                have hlb := HSM.out ((nine ws).getD q 0) (by simp [List.getD, HLL.out, hlt])
                have ol := own_cell hown hlt
                have cf := hr.cell (i := q) (by omega)
                obtain ⟨x1, hxq⟩ : ∃ x, cu.getD q 0 = x := ⟨_, rfl⟩
                obtain ⟨z1, hzq⟩ : ∃ z, fu.getD q 0 = z := ⟨_, rfl⟩
                obtain ⟨t1, htq⟩ : ∃ z, (nine ws).getD q 0 = z := ⟨_, rfl⟩
                obtain ⟨T, hT⟩ : ∃ z, (cu.take q).sum = z := ⟨_, rfl⟩
                have hlf : leftR cu (q : Int) = (x1, 0) := by
                  unfold leftR
                  rw [if_neg (by omega), Int.toNat_natCast, hxq]
                rw [hxq, hzq, htq] at hle
                rw [hxq] at hxb hst
                rw [hT] at hst hsb ⊢
                rw [htq] at ol hlb
                rw [hzq] at cf
                obtain ⟨a1, a2, a3⟩ := hle
                obtain ⟨b1, b2⟩ := hlb
                obtain ⟨s1, s2⟩ := hsb
                obtain ⟨x2, x3⟩ := hxb
                have W2 : IntKind.i64.wrap (t1 - z1) = x1 := by rw [IntWalk.i64_in _ (by omega)]; omega
                have HLF := Lib.hid hlf
                have HST := Lib.hid hst
                have q0 : (0 : Int) ≤ (q : Int) := Int.natCast_nonneg _
                have q1 : (q : Int) < (ws.length : Int) := by omega
                clear hlf hst hxq hzq htq hT a2 hsm kl1 kl2
                go_wp2_with fail
                refine (left_all C L cu (q : Int) x1 0 _ hC HLF.out).mono ?_
                rintro e w' ⟨rfl, rfl⟩
                have p0 := fun x : Up wr => up_cell x ol
                have p1 := fun x : Up wr => up_cell x cf
                have x2' : decide (x1 < 0) = false := by simp; omega
                go_wp2_with fail
                refine wp_region_up (by kernel_rfl) (by kernel_rfl) ?_
                repeat (go_big_quiet_step (fail))
                refine wpQuiet_nil ?_
                intro w' hup
                have hb7 := Below_same hb hup
                have hC7 := hC.below hup
                have hr7 : Row w' w2.heap.size fu := Blk_below hr hup (Blk_lt hr)
                have hown7 := own_below hown hup
                clear p0 p1 W2 x2' ol cf hb hC hr hown hup
                go_wp2_with fail
                first
                  | (refine ⟨⟨q + 1, by omega, by go_num, by rw [HST.out], hb7, hC7, hr7, hown7⟩, ?_⟩; simp [intOf]; omega)
                  | (refine ⟨?_, by simp [intOf]; omega⟩; (repeat apply Exists.intro); exact ⟨⟨q + 1, by omega, by go_num, by rw [HST.out], hb7, hC7, hr7, hown7⟩, rfl⟩)
              · have hall : (cu.take q).sum = S := by rw [List.take_of_length_le (by omega)]; exact HSF.out
                rw [hall]
                have HON2 := Lib.hid hon
                clear hall hsm kl1 kl2 hon
                go_wp2_with fail
                go_roundw
                case rel => exact ⟨k + 1, cu, fu, by omega, by go_num, by rw [HSF.out], hb, HON2.out, hC, hr, hown⟩
                case measure => simp [intOf]; omega
          · rw [if_neg hx0] at hdn
            have hxp : 0 < x := by omega
            have hx0' : (x == 0) = false := by simp [hx0]
            obtain ⟨hon', hsu⟩ := HST.out x HXJ.out hxp
            rw [HZJ.out] at hon'
            rw [HS.out] at hsu
            have HSU := Lib.hid hsu
            have HD := Lib.hid hdn
            clear hdn hon HST hx0 hsu
            go_wp2_with fail
            try rw [hj]
            refine (down_all C L cur (cur.set j (x - 1)) (j : Int) (x - 1) 0 _ hC hgood HD.out).mono ?_
            rintro e w5a ⟨rfl, hg5, hC5a⟩
            have hr5a : Row w5a w2.heap.size fs := Blk_grown hr hg5 (by simp; omega)
            have hb5a : Below w.heap.size w w5a := hb.grown hg5 hb.size (fun q hq => by cases hq; omega)
            have hown5a := hown.kept hg5 (.inr (Ne.symm (own_blk_ne hown hC.row (by decide))))
            have ol5a := hg5.cell ol (own_blk_ne hown hC.row (by decide) |> fun h => by simpa [Value.ownBlock] using Ne.symm h)
            have cf5a := hg5.cell cf (by simp; omega)
            have ff5a := Blk_frozen hr5a j
            have hC5 : Cs (w5a.setCell ⟨w2.heap.size, j, none⟩ (.int .i64 (z + 1))) C L (cur.set j (x - 1)) := hC5a.kept (grown_set _ _ _ _) (by simpa using Blk_ne hC5a.obj hr5a (by decide)) (by simpa using Blk_ne hC5a.row hr5a (by decide))
            have hr5 := hr5a.set j (z + 1)
            have hb5 : Below w.heap.size w (w5a.setCell ⟨w2.heap.size, j, none⟩ (.int .i64 (z + 1))) := hb5a.setCell (by simp; omega) _
            have hown5 := own_far hown5a (p := ⟨w2.heap.size, j, none⟩) (by simp [Value.ownBlock]; omega) (.int .i64 (z + 1))
            have ol5 : (w5a.setCell ⟨w2.heap.size, j, none⟩ (.int .i64 (z + 1))).cell? ⟨gl, j, none⟩ = some (.int .i64 t) := by
              rw [World.cell?_setCell_other _ _ _ _ (by simp; try omega)]; exact ol5a
            have cf5 := hr5.cell (i := j) (by rw [List.length_set, HL2.out]; omega)
            rw [getD_set _ _ _ _ (by rw [HL2.out]; omega), if_pos rfl] at cf5
            have W1 : IntKind.i64.wrap (t - (z + 1)) = x - 1 := by rw [IntWalk.i64_in _ (by omega)]; omega
            have HC5 := Lib.hid hC5
            have HR5 := Lib.hid hr5
            have HB5 := Lib.hid hb5
            have HO5 := Lib.hid hown5
            have OL5 := Lib.hid ol5
            have CF5 := Lib.hid cf5
            have HON := Lib.hid hon'
            clear hC hr hown hg5 ol cf cy hb hj hgood hC5a hr5a hb5a hown5a hC5 hr5 hb5 hown5 ol5 cf5 hon'
            go_wp2_with fail
            clear ol5a cf5a ff5a
            have hC5 := HC5.out
            have hr5 := HR5.out
            have hb5 := HB5.out
            have hown5 := HO5.out
            have ol5 := OL5.out
            have cf5 := CF5.out
            have hon := HON.out
            clear HC5 HR5 HB5 HO5 OL5 CF5 HON
            generalize w5a.setCell ⟨w2.heap.size, j, none⟩ (.int .i64 (z + 1)) = w5 at *
            have p0 := fun x : Up w5 => up_cell x ol5
            have p1 := fun x : Up w5 => up_cell x cf5
            refine wp_region_up (by kernel_rfl) (by kernel_rfl) ?_
            repeat (go_big_quiet_step (fail))
            refine wpQuiet_nil ?_
            intro w' hup
            clear W1 p0 p1 ol5 cf5
            have hb6 := Below_same hb5 hup
            have hC6 := hC5.below hup
            have hr6 : Row w' w2.heap.size (fs.set j (z + 1)) := Blk_below hr5 hup (Blk_lt hr5)
            have hown6 := own_below hown5 hup
            obtain ⟨cu, hcu⟩ : ∃ cq, (cur.set j (x - 1)) = cq := ⟨_, rfl⟩
            obtain ⟨fu, hfu⟩ : ∃ fq, (fs.set j (z + 1)) = fq := ⟨_, rfl⟩
            have hsf := HSU.out
            rw [hcu] at hC6 hon hsf
            rw [hfu] at hr6 hon
            have HSF := Lib.hid hsf
            clear hcu hfu hsf hb5 hC5 hr5 hown5 hup
            go_wp2_with fail
            go_loopw [15, 16, 17, 18, 119, 120, 121, 122, 123, 124, 125, 126, 127, 128, 129, 130, 131, 132, 133, 134, 135, 136, 137, 138, 139, 140, 141, 142, 143, 144, 145, 146, 147, 148, 149, 150, 151, 152] (fun s i _ _ _ _ _ _ _ _ _ _ _ _ _ _ _ _ _ _ _ _ _ _ _ _ _ _ _ _ _ _ _ _ _ _ _ _ wr => ∃ q : Nat, q ≤ ws.length ∧ i = .int .i64 q ∧ s = .int .i64 (cu.take q).sum ∧ Below w.heap.size w wr ∧ Cs wr C L cu ∧ Row wr w2.heap.size fu ∧ wr.ownsRow w.heap.size 3 1 (.slice (some ⟨gl, 0, none⟩) ws.length d0) ws.length ((nine ws).map (Value.int .i64))) (fun _ i _ _ _ _ _ _ _ _ _ _ _ _ _ _ _ _ _ _ _ _ _ _ _ _ _ _ _ _ _ _ _ _ _ _ _ _ _ => ws.length - (intOf i).toNat)
            case atStart => exact ⟨0, by omega, rfl, by simp, hb6, hC6, hr6, hown6⟩
            case round =>
              clear hb6 hC6 hr6 hown6
              obtain ⟨q, hq, rfl, rfl, hb, hC, hr, hown⟩ := hrel
              have kl1 := hon.len1
              have kl2 := hon.len2
              rw [HLL.out] at kl1 kl2
              have hsm := hon.small HSM.out
              by_cases hlt : q < ws.length
              · have hle := hon.eq q (by rw [HLL.out]; exact hlt)
                have hst := sum_take (l := cu) (k := q) (by omega)
                have hsb := small_take hsm q (by omega)
                have hxb := hsm (cu.getD q 0) (by simp [List.getD, kl1, hlt])
                have hlb := HSM.out ((nine ws).getD q 0) (by simp [List.getD, HLL.out, hlt])
                have ol := own_cell hown hlt
                have cf := hr.cell (i := q) (by omega)
                obtain ⟨x1, hxq⟩ : ∃ x, cu.getD q 0 = x := ⟨_, rfl⟩
                obtain ⟨z1, hzq⟩ : ∃ z, fu.getD q 0 = z := ⟨_, rfl⟩
                obtain ⟨t1, htq⟩ : ∃ z, (nine ws).getD q 0 = z := ⟨_, rfl⟩
                obtain ⟨T, hT⟩ : ∃ z, (cu.take q).sum = z := ⟨_, rfl⟩
                have hlf : leftR cu (q : Int) = (x1, 0) := by
                  unfold leftR
                  rw [if_neg (by omega), Int.toNat_natCast, hxq]
                rw [hxq, hzq, htq] at hle
                rw [hxq] at hxb hst
                rw [hT] at hst hsb ⊢
                rw [htq] at ol hlb
                rw [hzq] at cf
                obtain ⟨a1, a2, a3⟩ := hle
                obtain ⟨b1, b2⟩ := hlb
                obtain ⟨s1, s2⟩ := hsb
                obtain ⟨x2, x3⟩ := hxb
                have W2 : IntKind.i64.wrap (t1 - z1) = x1 := by rw [IntWalk.i64_in _ (by omega)]; omega
                have HLF := Lib.hid hlf
                have HST := Lib.hid hst
                have q0 : (0 : Int) ≤ (q : Int) := Int.natCast_nonneg _
                have q1 : (q : Int) < (ws.length : Int) := by omega
                clear hlf hst hxq hzq htq hT a2 hsm kl1 kl2
                go_wp2_with fail
                refine (left_all C L cu (q : Int) x1 0 _ hC HLF.out).mono ?_
                rintro e w' ⟨rfl, rfl⟩
                have p0 := fun x : Up wr => up_cell x ol
                have p1 := fun x : Up wr => up_cell x cf
                have x2' : decide (x1 < 0) = false := by simp; omega
                go_wp2_with fail
                refine wp_region_up (by kernel_rfl) (by kernel_rfl) ?_
                repeat (go_big_quiet_step (fail))
                refine wpQuiet_nil ?_
                intro w' hup
                have hb7 := Below_same hb hup
                have hC7 := hC.below hup
                have hr7 : Row w' w2.heap.size fu := Blk_below hr hup (Blk_lt hr)
                have hown7 := own_below hown hup
                clear p0 p1 W2 x2' ol cf hb hC hr hown hup
                go_wp2_with fail
                first
                  | (refine ⟨⟨q + 1, by omega, by go_num, by rw [HST.out], hb7, hC7, hr7, hown7⟩, ?_⟩; simp [intOf]; omega)
                  | (refine ⟨?_, by simp [intOf]; omega⟩; (repeat apply Exists.intro); exact ⟨⟨q + 1, by omega, by go_num, by rw [HST.out], hb7, hC7, hr7, hown7⟩, rfl⟩)
              · have hall : (cu.take q).sum = (S - 1) := by rw [List.take_of_length_le (by omega)]; exact HSF.out
                rw [hall]
                have HON2 := Lib.hid hon
                clear hall hsm kl1 kl2 hon
                go_wp2_with fail
                go_roundw
                case rel => exact ⟨k + 1, cu, fu, by omega, by go_num, by rw [HSF.out], hb, HON2.out, hC, hr, hown⟩
                case measure => simp [intOf]; omega
        · go_wp2_with (go_at_call 9; refine (works_any _).mono ?_; rintro e w9 ⟨rfl, h9⟩)
          go_ret
          exact ⟨rfl, Below_same hb h9⟩
end Go.Proofs.Ytginfglonakfpaa
