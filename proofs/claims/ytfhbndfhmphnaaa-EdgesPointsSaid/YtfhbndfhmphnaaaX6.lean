/-
  The least rectangle around others (edges.Cover), first part: those that have points. No condition.
-/
import Derived.Test.YtfhbndfhmphnaaaX5
import Derived.Deep.CutBlock
set_option linter.unusedVariables false
set_option linter.unusedSimpArgs false
namespace Go.Proofs.Ytfhbndfhmphnaaa
open Go.RowKit Go.BigFrame

theorem iR : (Try.prog.info? 33).map (fun i => (i.zero, i.size, i.bytes)) = some (some (.agg #[.int .i64 0, .int .i64 0, .int .i64 0, .int .i64 0]), 4, 32) := by kernel_rfl
theorem qc_len (q : Q4) : (qc q).length = 4 := rfl
theorem filter_step (l : List Q4) (j : Nat) (h : j < l.length) : (l.take (j + 1)).filter someB = (l.take j).filter someB ++ (if someB (l.getD j q0) then [l.getD j q0] else []) := by
  rw [List.take_succ_eq_append_getElem h, List.filter_append]
  simp only [List.getD, List.getElem?_eq_getElem h, Option.getD_some]
  congr 1
  by_cases hs : someB l[j] = true
  · simp [hs]
  · simp [hs]
def mnK (f : Q4 → Int) (l : List Q4) (k : Nat) : Int := (l.take k).foldl (fun m r => min m (f r)) (f (l.getD 0 q0))
def mxK (g : Q4 → Int) (l : List Q4) (k : Nat) : Int := (l.take k).foldl (fun m r => max m (cutV (g r))) 0
def anyK (g : Q4 → Int) (l : List Q4) (k : Nat) : Bool := (l.take k).any fun r => cutB (g r)
theorem mn_step (f : Q4 → Int) (l : List Q4) (j : Nat) (h : j < l.length) : mnK f l (j + 1) = min (mnK f l j) (f (l.getD j q0)) := by
  unfold mnK
  rw [List.take_succ_eq_append_getElem h, List.foldl_append]
  simp [List.getD, h]
theorem mx_step (g : Q4 → Int) (l : List Q4) (j : Nat) (h : j < l.length) : mxK g l (j + 1) = max (mxK g l j) (cutV (g (l.getD j q0))) := by
  unfold mxK
  rw [List.take_succ_eq_append_getElem h, List.foldl_append]
  simp [List.getD, h]
theorem any_step (g : Q4 → Int) (l : List Q4) (j : Nat) (h : j < l.length) : anyK g l (j + 1) = (anyK g l j || cutB (g (l.getD j q0))) := by
  unfold anyK
  rw [List.take_succ_eq_append_getElem h, List.any_append]
  simp [List.getD, h]
def cX (l : List Q4) : Int := mnK Q4.a l l.length
def cY (l : List Q4) : Int := mnK Q4.b l l.length
def gX (l : List Q4) (r : Q4) : Int := r.a - cX l + r.c
def gY (l : List Q4) (r : Q4) : Int := r.b - cY l + r.d
/-- Of those that have points, of which there is one. -/
def coverV (l : List Q4) : Q4 := ⟨cutV (cX l), cutV (cY l), mxK (gX l) l l.length, mxK (gY l) l l.length⟩
def coverB (l : List Q4) : Bool := anyK (gX l) l l.length || (anyK (gY l) l l.length || (cutB (cX l) || cutB (cY l)))
def CoverV (l : List Q4) : Q4 := if (l.filter someB).length = 0 then ⟨0, 0, 0, 0⟩ else coverV (l.filter someB)
def CoverB (l : List Q4) : Bool := if (l.filter someB).length = 0 then false else coverB (l.filter someB)
theorem foldl_min_le (f : Q4 → Int) : ∀ (l : List Q4) (z : Int), l.foldl (fun m r => min m (f r)) z ≤ z ∧ (∀ q ∈ l, l.foldl (fun m r => min m (f r)) z ≤ f q)
  | [], z => ⟨Int.le_refl _, by simp⟩
  | r :: l, z => by
    obtain ⟨h1, h2⟩ := foldl_min_le f l (min z (f r))
    simp only [List.foldl_cons]
    refine ⟨by omega, fun q hq => ?_⟩
    rcases List.mem_cons.1 hq with rfl | hq
    · omega
    · exact h2 q hq
theorem foldl_min_ge (f : Q4 → Int) (b : Int) : ∀ (l : List Q4) (z : Int), b ≤ z → (∀ q ∈ l, b ≤ f q) → b ≤ l.foldl (fun m r => min m (f r)) z
  | [], z, h, _ => h
  | r :: l, z, h, hl => by
    simp only [List.foldl_cons]
    exact foldl_min_ge f b l _ (by have := hl r (by simp); omega) (fun q hq => hl q (by simp [hq]))
theorem mnK_le (f : Q4 → Int) (l : List Q4) (q : Q4) (h : q ∈ l) : mnK f l l.length ≤ f q := by
  unfold mnK
  rw [List.take_length]
  exact (foldl_min_le f l _).2 q h
theorem mnK_ge (f : Q4 → Int) (l : List Q4) (b : Int) (h : ∀ q ∈ l, b ≤ f q) (h0 : b ≤ f (l.getD 0 q0)) : b ≤ mnK f l l.length := by
  unfold mnK
  rw [List.take_length]
  exact foldl_min_ge f b l _ h0 h
theorem cov_bounds (l : List Q4) (h : ∀ q ∈ l, q.ok ∧ someB q = true) : (-9223372036854775808 ≤ cX l ∧ -9223372036854775808 ≤ cY l) ∧ ∀ q ∈ l, cX l ≤ q.a ∧ cY l ≤ q.b := by
  have h0 : ∀ f : Q4 → Int, (∀ q ∈ l, -9223372036854775808 ≤ f q) → f q0 = 0 → -9223372036854775808 ≤ f (l.getD 0 q0) := fun f hf h00 => by
    cases l with
    | nil => simp [h00]
    | cons q l => simpa using hf q (by simp)
  exact ⟨⟨mnK_ge _ _ _ (fun q hq => (h q hq).1.a.1) (h0 _ (fun q hq => (h q hq).1.a.1) rfl), mnK_ge _ _ _ (fun q hq => (h q hq).1.b.1) (h0 _ (fun q hq => (h q hq).1.b.1) rfl)⟩, fun q hq => ⟨mnK_le _ _ q hq, mnK_le _ _ q hq⟩⟩
set_option maxRecDepth 20000 in
set_option maxHeartbeats 8000000 in
theorem cover_any (w : World) {A : Option Addr} {n c : Nat} {l : List Q4} (h : Els qc q0 4 w A n l) (hok : ∀ q ∈ l, q.ok) (hn : n ≤ 65536) :
    Calls Try.prog 21 #[.slice A n c] w fun e w' => e = .returned (.tuple #[qv (CoverV l), .bool (CoverB l)]) ∧ Below w.heap.size w w' := by
  obtain ⟨i0, hi0, hz0, hz1, hz2⟩ := info_parts iR
  have hl := h.len_eq
  have HOK := Lib.hid hok
  clear hok
  go_enter Try.func21, Try.ntmps21
  go_upto_block 0 with fail
  go_cut [4] from 17 to 29 (fun v wx => ∃ m, wx.ownsRow (w.heap.size + 1) 33 4 v m ((l.filter someB).map qc).flatten ∧ Below w.heap.size w wx ∧ Blk wx w.heap.size 33 #[.int .i64 0, .int .i64 0, .int .i64 0, .int .i64 0])
  case first =>
    go_wp2_with fail
    go_loopw [4, 6, 19, 20, 21, 22, 23, 24, 25, 26, 27, 28, 29] (fun v _ i _ _ _ _ _ _ _ _ _ _ wr => ∃ k m : Nat, k ≤ n ∧ i = .int .i64 k ∧ Below w.heap.size w wr ∧ w.heap.size + 1 ≤ wr.heap.size ∧ Blk wr w.heap.size 33 #[.int .i64 0, .int .i64 0, .int .i64 0, .int .i64 0] ∧ m ≤ k ∧ wr.ownsRow (w.heap.size + 1) 33 4 v m (((l.take k).filter someB).map qc).flatten) (fun _ _ i _ _ _ _ _ _ _ _ _ _ _ => n - (intOf i).toNat)
    case atStart => exact ⟨0, 0, Nat.zero_le _, rfl, by (repeat' (first | (with_reducible exact Below.refl _ _) | (with_reducible assumption) | (with_reducible refine Below.alloc ?_ ?_ _) | (with_reducible refine Below.drew ?_) | (with_reducible refine Below_drewN ?_ _) | (with_reducible refine Below.setCell ?_ ?_ _) | go_size)), by simp, Blk_new _ _ _, Nat.le_refl _, World.ownsRow_nil _ _ _ _⟩
    case round =>
      obtain ⟨k, m, hk, rfl, hb, hsz, hR, hmk, hown⟩ := hrel
      by_cases hlt : k < n
      · obtain ⟨b, off, rfl, hB, hc⟩ := h.at_ (by omega)
        have c0 : wr.cell? ⟨b, off + k * 4, none⟩ = _ := (hb.cell hB).trans (hc k hlt 0 (by omega))
        have c1 : wr.cell? ⟨b, off + k * 4 + 1, none⟩ = _ := (hb.cell hB).trans (hc k hlt 1 (by omega))
        have c2 : wr.cell? ⟨b, off + k * 4 + 2, none⟩ = _ := (hb.cell hB).trans (hc k hlt 2 (by omega))
        have c3 : wr.cell? ⟨b, off + k * 4 + 3, none⟩ = _ := (hb.cell hB).trans (hc k hlt 3 (by omega))
        have hst := filter_step l k (by omega)
        generalize l.getD k q0 = q at *
        have hsm := some_any q (wr.alloc (.cells #[.int .i64 q.a, .int .i64 q.b, .int .i64 q.c, .int .i64 q.d] 33))
        have hS := Blk_new wr 33 #[.int .i64 q.a, .int .i64 q.b, .int .i64 q.c, .int .i64 q.d]
        simp only [qc, List.getElem?_cons_zero, List.getElem?_cons_succ] at c0 c1 c2 c3
        have HST := Lib.hid hst
        generalize hsb : someB q = sb at *
        have hownS := hown.alloc (.cells #[.int .i64 q.a, .int .i64 q.b, .int .i64 q.c, .int .i64 q.d] 33)
        have hRS := Blk_alloc hR (.cells #[.int .i64 q.a, .int .i64 q.b, .int .i64 q.c, .int .i64 q.d] 33)
        have hbS : Below w.heap.size w (wr.alloc (.cells #[.int .i64 q.a, .int .i64 q.b, .int .i64 q.c, .int .i64 q.d] 33)) := hb.alloc hb.size _
        clear hc hst hsb
        cases sb
        · have HS2 := Lib.hid (show (l.take (k + 1)).filter someB = (l.take k).filter someB by rw [HST.out]; simp)
          go_wp2_with ((go_at_call 33; (with_reducible refine (hsm).mono ?_)); rintro e w1 ⟨rfl, g1⟩)
          go_roundw
          case rel => exact ⟨k + 1, m, by omega, by go_num, Below_then hbS g1 (Nat.le_refl _), by have := g1.size; simp at this; omega, Blk_below hRS g1 (Blk_lt hRS), by omega, by rw [HS2.out]; exact own_below hownS g1⟩
          case measure => simp [intOf]; omega
        · have HS2 := Lib.hid (show (l.take (k + 1)).filter someB = (l.take k).filter someB ++ [q] by rw [HST.out]; simp)
          go_wp2_with (first | ((go_at_call 33; (with_reducible refine (hsm).mono ?_)); rintro e w1 ⟨rfl, g1⟩; have hS1 := Blk_below hS g1 (Blk_lt hS); have s0 := Blk_cell hS1 0; have s1 := Blk_cell hS1 1; have s2 := Blk_cell hS1 2; have s3 := Blk_cell hS1 3; have hown1 := own_below hownS g1; have hR1 := Blk_below hRS g1 (Blk_lt hRS); have hbw1 := Below_then hbS g1 (Nat.le_refl _); have hsz1 := g1.size; rw [World.size_alloc] at hsz1) | ((with_reducible refine at_op ⟨some 28, _, _, _, _, _⟩ ?_); (refine wpList_append_src _ rfl (.tmp 25) (.tmp 27) 59 rfl (w.heap.size + 1) 33 i0 _ 4 32 Try.underlying59 hi0 hz0 hz1 hz2 rfl (by omega) u4 m _ rfl (hown1.alloc _) (some ⟨w1.heap.size, 0, none⟩) 1 1 [.int .i64 q.a, .int .i64 q.b, .int .i64 q.c, .int .i64 q.d] rfl (Src_new w1 33 #[.int .i64 q.a, .int .i64 q.b, .int .i64 q.c, .int .i64 q.d] 4 rfl) (by simp [Value.oneCell']) (by simp only [maxLen]; omega) (by omega) (by simp; omega) ?_); intro v3 w3 hown3 hg3 hat3))
          have hR3 := Blk_grown (Blk_alloc hR1 (.cells #[.int .i64 q.a, .int .i64 q.b, .int .i64 q.c, .int .i64 q.d] 33)) hg3 (fun he => by have := (hown1.lt _ he.symm).1; omega)
          have hb3 : Below w.heap.size w w3 := (hbw1.alloc hbw1.size _).grown hg3 (by have := hbw1.size; simp; omega) (fun b hb => by have := (hown1.lt b hb).1; omega)
          have hs3 := hg3.size
          rw [World.size_alloc] at hs3
          have hown4 : w3.ownsRow (w.heap.size + 1) 33 4 v3 (m + 1) (((l.take (k + 1)).filter someB).map qc).flatten := by
            rw [HS2.out, List.map_append, List.flatten_append]
            exact hown3
          have HO := Lib.hid hown4
          clear hown3 hown4 hown1 hat3 hg3
          go_roundw
          case rel => exact ⟨k + 1, m + 1, by omega, by go_num, hb3, by omega, hR3, by omega, HO.out⟩
          case measure => simp [intOf]; omega
      · obtain rfl : k = n := by omega
        rw [List.take_of_length_le (by omega)] at hown
        go_wp2_with fail
        go_meet
        exact ⟨m, hown, hb, hR⟩
  case rest =>
    obtain ⟨m, hown, hb, hR⟩ := hcut
    obtain ⟨w2, hw2⟩ : ∃ w2, w2 = wc := ⟨_, rfl⟩
    subst hw2
    have hLok : ∀ q ∈ l.filter someB, q.ok ∧ someB q = true := fun q hq => ⟨HOK.out q (List.mem_filter.1 hq).1, (List.mem_filter.1 hq).2⟩
    have hLlen : (l.filter someB).length ≤ n := by rw [← hl]; exact List.length_filter_le _ _
    obtain ⟨A2, c2, rfl, hmc, hcm, hE⟩ := Els_of_own (d := q0) hown qc_len (by omega)
    have hLm := hE.len_eq
    have HC := Lib.hid (And.intro (show CoverV l = if (l.filter someB).length = 0 then ⟨0, 0, 0, 0⟩ else coverV (l.filter someB) from rfl) (show CoverB l = if (l.filter someB).length = 0 then false else coverB (l.filter someB) from rfl))
    clear hown
    generalize l.filter someB = L at *
    have HLok := Lib.hid hLok
    have hms : m ≤ 65536 := by omega
    rw [hLm] at HC
    clear hLok HOK hl h hLlen
    by_cases hm0 : m = 0
    · rw [if_pos hm0, if_pos hm0] at HC
      subst hm0
      have r0 := Blk_cell hR 0
      have r1 := Blk_cell hR 1
      have r2 := Blk_cell hR 2
      have r3 := Blk_cell hR 3
      have f0 := Blk_frozen hR 0
      have f1 := Blk_frozen hR 1
      have f2 := Blk_frozen hR 2
      have f3 := Blk_frozen hR 3
      go_wp2_with fail
      have hBf := Blk_set (Blk_set (Blk_set (Blk_set hR 0 (.int .i64 0)) 1 (.int .i64 0)) 2 (.int .i64 0)) 3 (.int .i64 0)
      have e0 := Blk_cell hBf 0
      have e1 := Blk_cell hBf 1
      have e2 := Blk_cell hBf 2
      have e3 := Blk_cell hBf 3
      refine bodyPost_ret (v := .tuple #[.agg #[.int .i64 0, .int .i64 0, .int .i64 0, .int .i64 0], .bool false]) (by simp at e0 e1 e2 e3; simp [results, Try.results21, go_sem, e0, e1, e2, e3]) rfl ⟨?_, ?_⟩
      · rw [HC.out.1, HC.out.2]
      · exact (((hb.setCell (by simp) _).setCell (by simp) _).setCell (by simp) _).setCell (by simp) _
    · rw [if_neg hm0, if_neg hm0] at HC
      have hm0i : ¬ (m : Int) = 0 := by omega
      obtain ⟨b, off, rfl, hB, hc⟩ := hE.at_ (by omega)
      have HCC := Lib.hid hc
      have hrsz := Blk_lt hR
      have c0 : w2.cell? ⟨b, off, none⟩ = (qc (L.getD 0 q0))[0]? := by have := hc 0 (by omega) 0 (by omega); simpa only [Nat.zero_mul, Nat.add_zero, Nat.zero_add] using this
      have c1 : w2.cell? ⟨b, off + 1, none⟩ = (qc (L.getD 0 q0))[1]? := by have := hc 0 (by omega) 1 (by omega); simpa only [Nat.zero_mul, Nat.add_zero, Nat.zero_add] using this
      have c2 : w2.cell? ⟨b, off + 2, none⟩ = (qc (L.getD 0 q0))[2]? := by have := hc 0 (by omega) 2 (by omega); simpa only [Nat.zero_mul, Nat.add_zero, Nat.zero_add] using this
      have c3 : w2.cell? ⟨b, off + 3, none⟩ = (qc (L.getD 0 q0))[3]? := by have := hc 0 (by omega) 3 (by omega); simpa only [Nat.zero_mul, Nat.add_zero, Nat.zero_add] using this
      have hq00 := And.intro (show mnK Q4.a L 0 = (L.getD 0 q0).a from rfl) (show mnK Q4.b L 0 = (L.getD 0 q0).b from rfl)
      obtain ⟨qz, hqz⟩ : ∃ q, L.getD 0 q0 = q := ⟨_, rfl⟩
      rw [hqz] at c0 c1 c2 c3 hq00
      simp only [qc, List.getElem?_cons_zero, List.getElem?_cons_succ] at c0 c1 c2 c3
      have HQ0 := Lib.hid hq00
      clear hc hq00 hqz
      go_upto_region 10 with fail
      simp only [show ((m : Int) == 0) = false by simpa using hm0i]
      go_upto_block 2 with fail
      go_cut [9] from 39 to 55 (fun _ wx => Below w2.heap.size w2 wx ∧ Blk wx w2.heap.size 33 #[.int .i64 (mnK Q4.a L m), .int .i64 (mnK Q4.b L m), .int .i64 qz.c, .int .i64 qz.d])
      case first =>
        go_wp2_with fail
        go_loopw [9, 39, 40, 41, 42, 43, 44, 45, 46, 47, 48, 49, 50, 51, 52, 53, 54, 55] (fun _ i _ _ _ _ _ _ _ _ _ _ _ _ _ _ _ _ wr => ∃ k : Nat, k ≤ m ∧ i = .int .i64 k ∧ Below w2.heap.size w2 wr ∧ w2.heap.size < wr.heap.size ∧ Blk wr w2.heap.size 33 #[.int .i64 (mnK Q4.a L k), .int .i64 (mnK Q4.b L k), .int .i64 qz.c, .int .i64 qz.d]) (fun _ i _ _ _ _ _ _ _ _ _ _ _ _ _ _ _ _ _ => m - (intOf i).toNat)
        case atStart => exact ⟨0, Nat.zero_le _, rfl, (Below.refl _ _).alloc (Nat.le_refl _) _, by simp, by rw [HQ0.out.1, HQ0.out.2]; exact Blk_new _ _ _⟩
        case round =>
          obtain ⟨k, hk, rfl, hbr, hrs, hT⟩ := hrel
          by_cases hlt : k < m
          · have hc := HCC.out
            have d0 : wr.cell? ⟨b, off + k * 4, none⟩ = (qc (L.getD k q0))[0]? := (hbr.cell hB).trans (hc k hlt 0 (by omega))
            have d1 : wr.cell? ⟨b, off + k * 4 + 1, none⟩ = (qc (L.getD k q0))[1]? := (hbr.cell hB).trans (hc k hlt 1 (by omega))
            have d2 : wr.cell? ⟨b, off + k * 4 + 2, none⟩ = (qc (L.getD k q0))[2]? := (hbr.cell hB).trans (hc k hlt 2 (by omega))
            have d3 : wr.cell? ⟨b, off + k * 4 + 3, none⟩ = (qc (L.getD k q0))[3]? := (hbr.cell hB).trans (hc k hlt 3 (by omega))
            have hst := And.intro (mn_step Q4.a L k (by omega)) (mn_step Q4.b L k (by omega))
            generalize L.getD k q0 = q at *
            simp only [qc, List.getElem?_cons_zero, List.getElem?_cons_succ] at d0 d1 d2 d3
            have HST := Lib.hid hst
            generalize mnK Q4.a L k = X at *
            generalize mnK Q4.b L k = Y at *
            have hT1 := Blk_alloc hT (.cells #[.int .i64 q.a, .int .i64 q.b, .int .i64 q.c, .int .i64 q.d] 33)
            have hS := Blk_new wr 33 #[.int .i64 q.a, .int .i64 q.b, .int .i64 q.c, .int .i64 q.d]
            clear hc hst c0 c1 c2 c3
            have HWS := Lib.hid (show Below w2.heap.size w2 (wr.alloc (.cells #[.int .i64 q.a, .int .i64 q.b, .int .i64 q.c, .int .i64 q.d] 33)) from hbr.alloc hbr.size _)
            go_wp2_with fail
            generalize wr.alloc (.cells #[.int .i64 q.a, .int .i64 q.b, .int .i64 q.c, .int .i64 q.d] 33) = ws at *
            have t0 := Blk_cell hT1 0
            have t1 := Blk_cell hT1 1
            have s0 := Blk_cell hS 0
            have s1 := Blk_cell hS 1
            have f0 := Blk_frozen hT1 0
            have f1 := Blk_frozen hT1 1
            clear d0 d1 d2 d3
            have hbws : Below w2.heap.size w2 ws := HWS.out
            go_region
            rw [show (if q.a < X then q.a else X) = min X q.a by omega, show (if q.b < Y then q.b else Y) = min Y q.b by omega]
            have hTn := Blk_drew (Blk_set (Blk_set hT1 0 (.int .i64 (min X q.a))) 1 (.int .i64 (min Y q.b)))
            rw [← HST.out.1, ← HST.out.2] at hTn
            rw [← HST.out.1, ← HST.out.2]
            have HTN := Lib.hid hTn
            have hbn : Below w2.heap.size w2 ((ws.setCell ⟨w2.heap.size, 0, none⟩ (.int .i64 (mnK Q4.a L (k + 1)))).setCell ⟨w2.heap.size, 1, none⟩ (.int .i64 (mnK Q4.b L (k + 1)))).drew := ((hbws.setCell (by simp) _).setCell (by simp) _).drew
            have hsn : w2.heap.size < ((ws.setCell ⟨w2.heap.size, 0, none⟩ (.int .i64 (mnK Q4.a L (k + 1)))).setCell ⟨w2.heap.size, 1, none⟩ (.int .i64 (mnK Q4.b L (k + 1)))).drew.heap.size := by have := Blk_lt hT1; simp; omega
            clear hTn t0 t1 s0 s1 f0 f1
            go_wp2_with fail
            go_roundw
            case rel => exact ⟨k + 1, by omega, by go_num, hbn, hsn, HTN.out⟩
            case measure => simp [intOf]; omega
          · obtain rfl : k = m := by omega
            go_wp2_with fail
            go_meet
            exact ⟨hbr, hT⟩
      case rest =>
        obtain ⟨hbr, hT⟩ := hcut
        obtain ⟨w4, hw4⟩ : ∃ w4, w4 = wc := ⟨_, rfl⟩
        subst hw4
        have hXY := cov_bounds L HLok.out
        rw [show cX L = mnK Q4.a L m from by unfold cX; rw [hLm], show cY L = mnK Q4.b L m from by unfold cY; rw [hLm]] at hXY
        have HG := Lib.hid (And.intro (show ∀ r, gX L r = r.a - mnK Q4.a L m + r.c from fun r => by unfold gX cX; rw [hLm]) (show ∀ r, gY L r = r.b - mnK Q4.b L m + r.d from fun r => by unfold gY cY; rw [hLm]))
        have HE4 := Lib.hid (And.intro (show coverV L = ⟨cutV (mnK Q4.a L m), cutV (mnK Q4.b L m), mxK (gX L) L m, mxK (gY L) L m⟩ from by unfold coverV cX cY; rw [hLm]) (show coverB L = (anyK (gX L) L m || (anyK (gY L) L m || (cutB (mnK Q4.a L m) || cutB (mnK Q4.b L m)))) from by unfold coverB cX cY; rw [hLm]))
        generalize hX0 : mnK Q4.a L m = X0 at *
        generalize hY0 : mnK Q4.b L m = Y0 at *
        have HXY := Lib.hid hXY
        clear hX0 hY0 hXY c0 c1 c2 c3
        have hTl := Blk_lt hT
        have f2 := Blk_frozen hT 2
        have f3 := Blk_frozen hT 3
        have t2 := Blk_cell hT 2
        have t3 := Blk_cell hT 3
        have hT5 := Blk_alloc (Blk_set (Blk_set hT 2 (.int .i64 0)) 3 (.int .i64 0)) (.cells #[.bool false, .bool false, .bool false, .bool false] 50)
        have hF5 := Blk_new ((w4.setCell ⟨w2.heap.size, 2, none⟩ (.int .i64 0)).setCell ⟨w2.heap.size, 3, none⟩ (.int .i64 0)) 50 #[.bool false, .bool false, .bool false, .bool false]
        have hb5 : Below w2.heap.size w2 (((w4.setCell ⟨w2.heap.size, 2, none⟩ (.int .i64 0)).setCell ⟨w2.heap.size, 3, none⟩ (.int .i64 0)).alloc (.cells #[.bool false, .bool false, .bool false, .bool false] 50)) := ((hbr.setCell (by simp) _).setCell (by simp) _).alloc (by have := hbr.size; simp; omega) _
        simp only [World.size_setCell, List.setIfInBounds_toArray, List.set_cons_zero, List.set_cons_succ] at hT5 hF5
        go_upto_block 4 with fail
        generalize ((w4.setCell ⟨w2.heap.size, 2, none⟩ (.int .i64 0)).setCell ⟨w2.heap.size, 3, none⟩ (.int .i64 0)).alloc (.cells #[.bool false, .bool false, .bool false, .bool false] 50) = w5 at *
        clear hT f2 f3 t2 t3
        go_cut [12] from 60 to 106 (fun _ wx => Below w2.heap.size w2 wx ∧ Blk wx w2.heap.size 33 #[.int .i64 X0, .int .i64 Y0, .int .i64 (mxK (gX L) L m), .int .i64 (mxK (gY L) L m)] ∧ Blk wx w4.heap.size 50 #[.bool (anyK (gX L) L m), .bool (anyK (gY L) L m), .bool false, .bool false])
        case first =>
          go_wp2_with fail
          go_loopw [12, 13, 14, 15, 16, 60, 61, 62, 63, 64, 65, 66, 67, 68, 69, 70, 71, 72, 73, 74, 75, 76, 77, 78, 79, 80, 81, 82, 83, 84, 85, 86, 87, 88, 89, 90, 91, 92, 93, 94, 95, 96, 97, 98, 99, 100, 101, 102, 103, 104, 105, 106] (fun _ _ _ _ _ i _ _ _ _ _ _ _ _ _ _ _ _ _ _ _ _ _ _ _ _ _ _ _ _ _ _ _ _ _ _ _ _ _ _ _ _ _ _ _ _ _ _ _ _ _ _ wr => ∃ k : Nat, k ≤ m ∧ i = .int .i64 k ∧ Below w2.heap.size w2 wr ∧ Blk wr w2.heap.size 33 #[.int .i64 X0, .int .i64 Y0, .int .i64 (mxK (gX L) L k), .int .i64 (mxK (gY L) L k)] ∧ Blk wr w4.heap.size 50 #[.bool (anyK (gX L) L k), .bool (anyK (gY L) L k), .bool false, .bool false]) (fun _ _ _ _ _ i _ _ _ _ _ _ _ _ _ _ _ _ _ _ _ _ _ _ _ _ _ _ _ _ _ _ _ _ _ _ _ _ _ _ _ _ _ _ _ _ _ _ _ _ _ _ _ => m - (intOf i).toNat)
          case atStart => exact ⟨0, Nat.zero_le _, rfl, hb5, hT5, hF5⟩
          case round =>
            obtain ⟨k, hk, rfl, hbr, hT, hF⟩ := hrel
            by_cases hlt : k < m
            · have hc := HCC.out
              have d0 : wr.cell? ⟨b, off + k * 4, none⟩ = (qc (L.getD k q0))[0]? := (hbr.cell hB).trans (hc k hlt 0 (by omega))
              have d1 : wr.cell? ⟨b, off + k * 4 + 1, none⟩ = (qc (L.getD k q0))[1]? := (hbr.cell hB).trans (hc k hlt 1 (by omega))
              have d2 : wr.cell? ⟨b, off + k * 4 + 2, none⟩ = (qc (L.getD k q0))[2]? := (hbr.cell hB).trans (hc k hlt 2 (by omega))
              have d3 : wr.cell? ⟨b, off + k * 4 + 3, none⟩ = (qc (L.getD k q0))[3]? := (hbr.cell hB).trans (hc k hlt 3 (by omega))
              have hmem : L.getD k q0 ∈ L := by rw [List.getD_eq_getElem?_getD, List.getElem?_eq_getElem (show k < L.length by omega)]; exact List.getElem_mem _
              have hst := And.intro (And.intro (mx_step (gX L) L k (by omega)) (mx_step (gY L) L k (by omega))) (And.intro (any_step (gX L) L k (by omega)) (any_step (gY L) L k (by omega)))
              rw [HG.out.1, HG.out.2] at hst
              have hq1 := HLok.out _ hmem
              have hq2 := HXY.out.2 _ hmem
              generalize L.getD k q0 = q at *
              simp only [qc, List.getElem?_cons_zero, List.getElem?_cons_succ] at d0 d1 d2 d3
              obtain ⟨p1, p2⟩ := someB_pos hq1.2
              have r1 := fun w => reach_any X0 q.a q.c w HXY.out.1.1 hq2.1 hq1.1.a.2 ⟨p1, hq1.1.c.2⟩
              have r2 := fun w => reach_any Y0 q.b q.d w HXY.out.1.2 hq2.2 hq1.1.b.2 ⟨p2, hq1.1.d.2⟩
              have HST := Lib.hid hst
              generalize mxK (gX L) L k = U at *
              generalize mxK (gY L) L k = V at *
              generalize anyK (gX L) L k = B1 at *
              generalize anyK (gY L) L k = B2 at *
              obtain ⟨v1, e1⟩ : ∃ x, cutV (q.a - X0 + q.c) = x := ⟨_, rfl⟩
              obtain ⟨v2, e2⟩ : ∃ x, cutV (q.b - Y0 + q.d) = x := ⟨_, rfl⟩
              obtain ⟨g1, e3⟩ : ∃ x, cutB (q.a - X0 + q.c) = x := ⟨_, rfl⟩
              obtain ⟨g2, e4⟩ : ∃ x, cutB (q.b - Y0 + q.d) = x := ⟨_, rfl⟩
              rw [e1, e2, e3, e4] at HST
              rw [e1, e3] at r1
              rw [e2, e4] at r2
              have hT1 := Blk_alloc hT (.cells #[.int .i64 q.a, .int .i64 q.b, .int .i64 q.c, .int .i64 q.d] 33)
              have hF1 := Blk_alloc hF (.cells #[.int .i64 q.a, .int .i64 q.b, .int .i64 q.c, .int .i64 q.d] 33)
              have hS1 := Blk_new wr 33 #[.int .i64 q.a, .int .i64 q.b, .int .i64 q.c, .int .i64 q.d]
              have hbs := hbr.alloc hbr.size (.cells #[.int .i64 q.a, .int .i64 q.b, .int .i64 q.c, .int .i64 q.d] 33)
              have hneTF : w2.heap.size ≠ w4.heap.size := by omega
              clear hst hc hmem hq1 hq2 e1 e2 e3 e4 p1 p2
              go_upto_region 21 with fail
              clear d0 d1 d2 d3
              have HNE := Lib.hid (show w2.heap.size < wr.heap.size ∧ w4.heap.size < wr.heap.size from ⟨Blk_lt hT, Blk_lt hF⟩)
              clear hT hF hbr
              generalize wr.alloc (.cells #[.int .i64 q.a, .int .i64 q.b, .int .i64 q.c, .int .i64 q.d] 33) = ws at *
              have t0 := Blk_cell hT1 0
              have s0 := Blk_cell hS1 0
              have s2 := Blk_cell hS1 2
              go_upto_region 24 with (first | ((go_at_call 39; (with_reducible refine ((r1 _)).mono ?_)); rintro e w6 ⟨rfl, h6⟩; have hT6 := Blk_below hT1 h6 (Blk_lt hT1); have hS6 := Blk_below hS1 h6 (Blk_lt hS1); have hF6 := Blk_below hF1 h6 (Blk_lt hF1); have t1 := Blk_cell hT6 1; have s1 := Blk_cell hS6 1; have s3 := Blk_cell hS6 3) | ((go_at_call 39; (with_reducible refine ((r2 _)).mono ?_)); rintro e w7 ⟨rfl, h7⟩; have hT7 := Blk_below hT6 h7 (Blk_lt hT6); have hF7 := Blk_below hF6 h7 (Blk_lt hF6); have t2 := Blk_cell hT7 2; have t3 := Blk_cell hT7 3; have f2 := Blk_frozen hT7 2; have f3 := Blk_frozen hT7 3))
              rw [show (if U < v1 then v1 else U) = max U v1 by omega, show (if V < v2 then v2 else V) = max V v2 by omega]
              have hT8 := Blk_set (Blk_set hT7 2 (.int .i64 (max U v1))) 3 (.int .i64 (max V v2))
              have hF8 := Blk_far (Blk_far hF7 (p := ⟨w2.heap.size, 2, none⟩) (fun e => hneTF e.symm) (.int .i64 (max U v1))) (p := ⟨w2.heap.size, 3, none⟩) (fun e => hneTF e.symm) (.int .i64 (max V v2))
              have hb8 : Below w2.heap.size w2 ((w7.setCell ⟨w2.heap.size, 2, none⟩ (.int .i64 (max U v1))).setCell ⟨w2.heap.size, 3, none⟩ (.int .i64 (max V v2))) := ((Below_then hbs (Below_same h6 h7) (Nat.le_refl _)).setCell (by simp) _).setCell (by simp) _
              simp only [List.setIfInBounds_toArray, List.set_cons_zero, List.set_cons_succ] at hT8
              rw [← HST.out.1.1, ← HST.out.1.2] at hT8
              rw [← HST.out.1.1, ← HST.out.1.2] at hF8 hb8 ⊢
              clear hT7 hF7 hT6 hF6 hS6 hT1 hF1 hS1 t0 t1 t2 t3 s0 s1 s2 s3 f2 f3 r1 r2 hbs
              generalize (w7.setCell ⟨w2.heap.size, 2, none⟩ (.int .i64 (mxK (gX L) L (k + 1)))).setCell ⟨w2.heap.size, 3, none⟩ (.int .i64 (mxK (gY L) L (k + 1))) = w8 at *
              have o0 := Blk_cell hF8 0
              have o1 := Blk_cell hF8 1
              have ff0 := Blk_frozen hF8 0
              have ff1 := Blk_frozen hF8 1
              have hwle : w2.heap.size ≤ w4.heap.size := by omega
              cases B1 <;> cases B2
              · have hF9 := Blk_set (Blk_set hF8 0 (.bool g1)) 1 (.bool g2)
                have hT9 := Blk_far (Blk_far hT8 (p := ⟨w4.heap.size, 0, none⟩) hneTF (.bool g1)) (p := ⟨w4.heap.size, 1, none⟩) hneTF (.bool g2)
                have hb9 : Below w2.heap.size w2 ((w8.setCell ⟨w4.heap.size, 0, none⟩ (.bool g1)).setCell ⟨w4.heap.size, 1, none⟩ (.bool g2)) := (hb8.setCell hwle _).setCell hwle _
                have he := And.intro HST.out.2.1 HST.out.2.2
                simp only [Bool.false_or, Bool.true_or] at he
                have HQ := Lib.hid (And.intro he (And.intro hF9 (And.intro hT9 hb9)))
                clear he hF9 hT9 hb9
                go_wp2_with fail
                go_roundw
                case rel =>
                  obtain ⟨he, hF9, hT9, hb9⟩ := HQ.out
                  refine ⟨k + 1, by omega, by go_num, hb9, hT9, ?_⟩
                  rw [he.1, he.2]
                  exact hF9
                case measure => simp [intOf]; omega
              · have hF9 := Blk_set (Blk_set hF8 0 (.bool g1)) 1 (.bool true)
                have hT9 := Blk_far (Blk_far hT8 (p := ⟨w4.heap.size, 0, none⟩) hneTF (.bool g1)) (p := ⟨w4.heap.size, 1, none⟩) hneTF (.bool true)
                have hb9 : Below w2.heap.size w2 ((w8.setCell ⟨w4.heap.size, 0, none⟩ (.bool g1)).setCell ⟨w4.heap.size, 1, none⟩ (.bool true)) := (hb8.setCell hwle _).setCell hwle _
                have he := And.intro HST.out.2.1 HST.out.2.2
                simp only [Bool.false_or, Bool.true_or] at he
                have HQ := Lib.hid (And.intro he (And.intro hF9 (And.intro hT9 hb9)))
                clear he hF9 hT9 hb9
                go_wp2_with fail
                go_roundw
                case rel =>
                  obtain ⟨he, hF9, hT9, hb9⟩ := HQ.out
                  refine ⟨k + 1, by omega, by go_num, hb9, hT9, ?_⟩
                  rw [he.1, he.2]
                  exact hF9
                case measure => simp [intOf]; omega
              · have hF9 := Blk_set (Blk_set hF8 0 (.bool true)) 1 (.bool g2)
                have hT9 := Blk_far (Blk_far hT8 (p := ⟨w4.heap.size, 0, none⟩) hneTF (.bool true)) (p := ⟨w4.heap.size, 1, none⟩) hneTF (.bool g2)
                have hb9 : Below w2.heap.size w2 ((w8.setCell ⟨w4.heap.size, 0, none⟩ (.bool true)).setCell ⟨w4.heap.size, 1, none⟩ (.bool g2)) := (hb8.setCell hwle _).setCell hwle _
                have he := And.intro HST.out.2.1 HST.out.2.2
                simp only [Bool.false_or, Bool.true_or] at he
                have HQ := Lib.hid (And.intro he (And.intro hF9 (And.intro hT9 hb9)))
                clear he hF9 hT9 hb9
                go_wp2_with fail
                go_roundw
                case rel =>
                  obtain ⟨he, hF9, hT9, hb9⟩ := HQ.out
                  refine ⟨k + 1, by omega, by go_num, hb9, hT9, ?_⟩
                  rw [he.1, he.2]
                  exact hF9
                case measure => simp [intOf]; omega
              · have hF9 := Blk_set (Blk_set hF8 0 (.bool true)) 1 (.bool true)
                have hT9 := Blk_far (Blk_far hT8 (p := ⟨w4.heap.size, 0, none⟩) hneTF (.bool true)) (p := ⟨w4.heap.size, 1, none⟩) hneTF (.bool true)
                have hb9 : Below w2.heap.size w2 ((w8.setCell ⟨w4.heap.size, 0, none⟩ (.bool true)).setCell ⟨w4.heap.size, 1, none⟩ (.bool true)) := (hb8.setCell hwle _).setCell hwle _
                have he := And.intro HST.out.2.1 HST.out.2.2
                simp only [Bool.false_or, Bool.true_or] at he
                have HQ := Lib.hid (And.intro he (And.intro hF9 (And.intro hT9 hb9)))
                clear he hF9 hT9 hb9
                go_wp2_with fail
                go_roundw
                case rel =>
                  obtain ⟨he, hF9, hT9, hb9⟩ := HQ.out
                  refine ⟨k + 1, by omega, by go_num, hb9, hT9, ?_⟩
                  rw [he.1, he.2]
                  exact hF9
                case measure => simp [intOf]; omega
            · obtain rfl : k = m := by omega
              go_wp2_with fail
              go_meet
              exact ⟨hbr, hT, hF⟩
        case rest =>
          obtain ⟨hb6, hT6, hF6⟩ := hcut
          obtain ⟨w6, hw6⟩ : ∃ w6, w6 = wc := ⟨_, rfl⟩
          subst hw6
          have hR6 := Blk_below hR hb6 hrsz
          have hbw6 := hb.trans (hb6.mono (Nat.le_of_lt hrsz))
          generalize mxK (gX L) L m = U at *
          generalize mxK (gY L) L m = V at *
          generalize anyK (gX L) L m = B1 at *
          generalize anyK (gY L) L m = B2 at *
          have k1 := fun w => cut_any X0 w
          have k2 := fun w => cut_any Y0 w
          generalize cutV X0 = cx at *
          generalize cutV Y0 = cy at *
          generalize cutB X0 = b1 at *
          generalize cutB Y0 = b2 at *
          have t0 := Blk_cell hT6 0
          have t1 := Blk_cell hT6 1
          have ft0 := Blk_frozen hT6 0
          have ft1 := Blk_frozen hT6 1
          have ff2 := Blk_frozen hF6 2
          have ff3 := Blk_frozen hF6 3
          have o2 := Blk_cell hF6 2
          have o3 := Blk_cell hF6 3
          have hneTF : w2.heap.size ≠ w4.heap.size := by omega
          have hneRT : w.heap.size ≠ w2.heap.size := by omega
          have hneRF : w.heap.size ≠ w4.heap.size := by have := hbr.size; omega
          clear hT5 hF5 hb5
          go_upto_region 28 with (first | ((go_at_call 40; (with_reducible refine ((k1 _)).mono ?_)); rintro e w8 ⟨rfl, hq⟩; subst hq) | ((go_at_call 40; (with_reducible refine ((k2 _)).mono ?_)); rintro e w9 ⟨rfl, hq⟩; subst hq))
          have hT8 := Blk_far (Blk_set (Blk_far (Blk_set hT6 0 (.int .i64 cx)) (p := ⟨w4.heap.size, 2, none⟩) hneTF (.bool b1)) 1 (.int .i64 cy)) (p := ⟨w4.heap.size, 3, none⟩) hneTF (.bool b2)
          have hF8 := Blk_set (Blk_far (Blk_set (Blk_far hF6 (p := ⟨w2.heap.size, 0, none⟩) (fun e => hneTF e.symm) (.int .i64 cx)) 2 (.bool b1)) (p := ⟨w2.heap.size, 1, none⟩) (fun e => hneTF e.symm) (.int .i64 cy)) 3 (.bool b2)
          have hR8 := Blk_far (Blk_far (Blk_far (Blk_far hR6 (p := ⟨w2.heap.size, 0, none⟩) hneRT (.int .i64 cx)) (p := ⟨w4.heap.size, 2, none⟩) hneRF (.bool b1)) (p := ⟨w2.heap.size, 1, none⟩) hneRT (.int .i64 cy)) (p := ⟨w4.heap.size, 3, none⟩) hneRF (.bool b2)
          have hb8 : Below w.heap.size w ((((w6.setCell ⟨w2.heap.size, 0, none⟩ (.int .i64 cx)).setCell ⟨w4.heap.size, 2, none⟩ (.bool b1)).setCell ⟨w2.heap.size, 1, none⟩ (.int .i64 cy)).setCell ⟨w4.heap.size, 3, none⟩ (.bool b2)) := (((hbw6.setCell (by simp; omega) _).setCell (by simp; omega) _).setCell (by simp; omega) _).setCell (by simp; omega) _
          simp only [List.setIfInBounds_toArray, List.set_cons_zero, List.set_cons_succ] at hT8 hF8
          generalize (((w6.setCell ⟨w2.heap.size, 0, none⟩ (.int .i64 cx)).setCell ⟨w4.heap.size, 2, none⟩ (.bool b1)).setCell ⟨w2.heap.size, 1, none⟩ (.int .i64 cy)).setCell ⟨w4.heap.size, 3, none⟩ (.bool b2) = w8 at *
          clear hT6 hF6 hR6 t0 t1 ft0 ft1 ff2 ff3 o2 o3 k1 k2
          have t0 := Blk_cell hT8 0
          have t1 := Blk_cell hT8 1
          have t2 := Blk_cell hT8 2
          have t3 := Blk_cell hT8 3
          have o0 := Blk_cell hF8 0
          have o1 := Blk_cell hF8 1
          have o2 := Blk_cell hF8 2
          have o3 := Blk_cell hF8 3
          have r0 := Blk_cell hR8 0
          have r1 := Blk_cell hR8 1
          have r2 := Blk_cell hR8 2
          have r3 := Blk_cell hR8 3
          have f0 := Blk_frozen hR8 0
          have f1 := Blk_frozen hR8 1
          have f2 := Blk_frozen hR8 2
          have f3 := Blk_frozen hR8 3
          have heq := eq4_bool
          have HR8 := Lib.hid (And.intro hR8 hb8)
          clear hT8 hF8 hR8 hb8
          go_region
          clear heq
          go_wp2_with fail
          obtain ⟨hR8, hb8⟩ := HR8.out
          have hBf := Blk_drew (Blk_set (Blk_set (Blk_set (Blk_set hR8 0 (.int .i64 cx)) 1 (.int .i64 cy)) 2 (.int .i64 U)) 3 (.int .i64 V))
          have e0 := Blk_cell hBf 0
          have e1 := Blk_cell hBf 1
          have e2 := Blk_cell hBf 2
          have e3 := Blk_cell hBf 3
          refine bodyPost_ret (v := .tuple #[.agg #[.int .i64 cx, .int .i64 cy, .int .i64 U, .int .i64 V], .bool (B1 || (B2 || (b1 || b2)))]) (by simp at e0 e1 e2 e3; simp [results, Try.results21, go_sem, e0, e1, e2, e3]) rfl ⟨?_, ?_⟩
          · rw [HC.out.1, HC.out.2, HE4.out.1, HE4.out.2]
          · exact ((((hb8.setCell (by simp) _).setCell (by simp) _).setCell (by simp) _).setCell (by simp) _).drew
end Go.Proofs.Ytfhbndfhmphnaaa
