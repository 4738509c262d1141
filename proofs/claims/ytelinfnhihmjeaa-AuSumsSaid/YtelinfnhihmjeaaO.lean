/-
  The statement AuOrders. No condition.
-/
import Derived.Test.YtelinfnhihmjeaaH
import Derived.Test.YtelinfnhihmjeaaCom11
set_option linter.unusedVariables false
set_option linter.unusedSimpArgs false
namespace Go.Proofs.Ytelinfnhihmjeaa
open Go.RowKit Go.BigFrame

theorem iL : (Try.prog.info? 2).map (fun i => (i.zero, i.size, i.bytes)) = some (some (.int .i64 0), 1, 8) := by kernel_rfl
theorem Ints2 (w : World) (t : TypeId) (a b : Int) : Ints .i64 (w.alloc (.cells #[.int .i64 a, .int .i64 b] t)) (some ⟨w.heap.size, 0, none⟩) 2 [a, b] := by
  have h := Blk_new w t #[.int .i64 a, .int .i64 b]
  exact Ints.of_blk (t := t) (l := [a, b]) (by simpa using h)
theorem cutB_no {s : Int} (h : cutB s = false) : cutV s = s := by
  unfold cutB at h
  simpa using (bne_eq_false_iff_eq.1 h).symm
theorem cutV_wf (s : Int) : (Lit.int .i64 (cutV s)).wf = true := i64_wf2 (by unfold cutV; omega)
theorem at_op {P : Program} {ops : Array Oper} {Q : Exit → Act → World → Prop} {rest : List Oper} (o : Oper) {a : Act} {w : World} (h : wpList P ops Q (o :: rest) a w) : wpList P ops Q (o :: rest) a w := h
set_option maxRecDepth 100000 in
set_option maxHeartbeats 4000000 in
theorem orders_any (xs ys : List Int) (A D : Option Addr) (n c m d : Nat) (w : World) (hI : Ints .i64 w A n xs) (hJ : Ints .i64 w D m ys) (hx : ∀ x ∈ xs, (Lit.int .i64 x).wf = true) (hy : ∀ x ∈ ys, (Lit.int .i64 x).wf = true)
    (hn : n ≤ c) (hr : c * 8 ≤ 140737488351232) (hm : m ≤ d) (hr2 : d * 8 ≤ 140737488351232) :
    Calls Try.prog 7 #[.slice A n c, .slice D m d] w fun e w' => e = .returned (.bool true) ∧ Below w.heap.size w w' := by
  obtain ⟨i0, hi0, hz0, hz1, hz2⟩ := info_parts iL
  have hk := works_any
  have hl1 := hI.len_eq
  have hl2 := hJ.len_eq
  by_cases hb : 300 < n + m
  · go_enter Try.func7, Try.ntmps7
    go_wp2_with ((go_at_call 15; (with_reducible refine ((hk _)).mono ?_)); rintro e w1 ⟨rfl, g1⟩)
    go_ret
    exact ⟨rfl, g1⟩
  · have hbi : ¬ (300 : Int) < (n : Int) + (m : Int) := by omega
    go_enter Try.func7, Try.ntmps7
    go_upto_region 5 with (first
      | (((with_reducible refine at_op ⟨some 27, _, _, _, _, _⟩ ?_); (refine wpList_append_src _ rfl (.tmp 25) (.tmp 26) 32 rfl w.heap.size 2 i0 _ 1 8 Try.underlying32 hi0 hz0 hz1 hz2 rfl (by omega) (.slice (some ⟨w.heap.size, 0, none⟩) 0 0) 0 [] rfl (World.ownsRow_lit w #[] 0 (Nat.le_refl _) (by simp) rfl) A n c (xs.map (Value.int .i64)) rfl (by rw [Nat.mul_one]; exact (hI.mono (by (repeat' (first | (with_reducible exact Below.refl _ _) | (with_reducible assumption) | (with_reducible refine Below.alloc ?_ ?_ _) | (with_reducible refine Below.drew ?_) | (with_reducible refine Below_drewN ?_ _) | (with_reducible refine Below.setCell ?_ ?_ _) | go_size)))).src) (one_ints _ _) (by simp only [maxLen]; omega) (by omega) (by simp) ?_)); intro v1 w1 hown1 hg1 hat1; simp only [Nat.zero_add, List.nil_append] at hown1; have hb1 : Below w.heap.size w w1 := Below.grown (w := w.alloc (.cells #[] 2)) (by (repeat' (first | (with_reducible exact Below.refl _ _) | (with_reducible assumption) | (with_reducible refine Below.alloc ?_ ?_ _) | (with_reducible refine Below.drew ?_) | (with_reducible refine Below_drewN ?_ _) | (with_reducible refine Below.setCell ?_ ?_ _) | go_size))) hg1 (by simp) (fun k hk => by simp [Value.ownBlock] at hk; omega))
      | ((with_reducible refine at_op ⟨some 29, _, _, _, _, _⟩ ?_); (refine wpList_append_src _ rfl (.tmp 27) (.tmp 28) 32 rfl w.heap.size 2 i0 _ 1 8 Try.underlying32 hi0 hz0 hz1 hz2 rfl (by omega) v1 n (xs.map (Value.int .i64)) rfl hown1 D m d (ys.map (Value.int .i64)) rfl (by rw [Nat.mul_one]; exact (hJ.mono hb1).src) (one_ints _ _) (by simp only [maxLen]; omega) (by omega) (by have := hb1.size; omega) ?_); intro v2 w2 hown2 hg2 hat2))
    have hb2 : Below w.heap.size w w2 := hb1.grown hg2 (by have := hb1.size; omega) (fun k hk => (hown1.lt k hk).1)
    rw [← List.map_append] at hown2
    obtain ⟨E0, e0, rfl, he1, he2⟩ := own_slice hown2
    have hall := Ints_of_own hown2
    have hL : ∀ x ∈ xs ++ ys, (Lit.int .i64 x).wf = true := fun x h => (List.mem_append.1 h).elim (hx x) (hy x)
    have hsum : (xs ++ ys).sum = [xs.sum, ys.sum].sum := by simp [List.sum_append]
    have hlen : (xs ++ ys).length = n + m := by simp [hl1, hl2]
    have HN := Lib.hid (And.intro hl1 hl2)
    obtain ⟨L, hLe⟩ : ∃ L, xs ++ ys = L := ⟨_, rfl⟩
    rw [hLe] at hall hL hsum hlen
    obtain ⟨N, hNe⟩ : ∃ N, n + m = N := ⟨_, rfl⟩
    have hNi : (n : Int) + (m : Int) = (N : Int) := by omega
    rw [hNe] at hall hlen
    have hN3 : N ≤ 300 := by omega
    rw [hNe]
    have HS := Lib.hid hsum
    have HLN := Lib.hid hlen
    clear hown1 hown2 hat1 hat2 hg1 hg2 hb1 hsum hlen hl1 hl2 hb hbi he2 hLe hNe hNi
    go_wp2_with fail
    go_loopw [5, 7, 33, 34, 35, 36, 37, 38, 39, 40, 41, 42, 43] (fun v i _ _ _ _ _ _ _ _ _ _ _ wr => ∃ (k : Nat) (z : Int), k ≤ N ∧ i = .int .i64 z ∧ z = (N : Int) - 1 - k ∧ Below w2.heap.size w2 wr ∧ wr.ownsRow w2.heap.size 2 1 v k ((L.reverse.take k).map (Value.int .i64))) (fun _ i _ _ _ _ _ _ _ _ _ _ _ _ => (intOf i + 1).toNat)
    case atStart => exact ⟨0, _, Nat.zero_le _, rfl, by omega, Below.refl _ _, World.ownsRow_nil _ _ _ _⟩
    case round =>
      obtain ⟨k, z, hk2, rfl, hz, hbr, hown⟩ := hrel
      have hbs := hbr.size
      by_cases hlt : k < N
      · obtain ⟨j, hj⟩ : ∃ j : Nat, z = (j : Int) := ⟨N - 1 - k, by omega⟩
        subst hj
        obtain ⟨b, off, rfl, hB, hc⟩ := hall.at_ (by omega)
        have cx : wr.cell? ⟨b, off + j, none⟩ = some (.int .i64 (L.getD j 0)) := (hbr.cell hB).trans (hc j (by omega))
        have hst : L.reverse.take (k + 1) = L.reverse.take k ++ [L.getD j 0] := by
          have hq := HLN.out
          rw [List.take_succ_eq_append_getElem (by simp; omega), List.getElem_reverse]
          simp only [List.getD, List.getElem?_eq_getElem (show j < L.length by omega), Option.getD_some]
          congr 3
          omega
        generalize L.getD j 0 = x at cx hst
        have HST := Lib.hid hst
        have hjN : j < N := by omega
        have HZ := Lib.hid hz
        clear hst hc hz
        go_wp2_with ((with_reducible refine at_op ⟨some 43, _, _, _, _, _⟩ ?_); (refine wpList_append_src _ rfl (.tmp 37) (.tmp 42) 32 rfl w2.heap.size 2 i0 _ 1 8 Try.underlying32 hi0 hz0 hz1 hz2 rfl (by omega) u5 k _ rfl (hown.alloc _) _ 1 1 [.int .i64 x] rfl (Src_new wr 2 #[.int .i64 x] 1 rfl) (by simp [Value.oneCell']) (by simp only [maxLen]; omega) (by omega) (by simp; omega) ?_); intro v3 w3 hown3 hg3 hat3)
        have hb3 : Below w2.heap.size w2 w3 := (hbr.alloc hbr.size _).grown hg3 (by simp; omega) (fun q hq => (hown.lt q hq).1)
        go_roundw
        case rel => have := HZ.out; exact ⟨k + 1, _, by omega, rfl, by omega, hb3, by rw [HST.out, List.map_append]; exact hown3⟩
        case measure => simp [intOf] <;> omega
      · obtain rfl : k = N := by omega
        have hz1 : z = -1 := by omega
        subst hz1
        rw [List.take_of_length_le (by rw [List.length_reverse, HLN.out]; exact Nat.le_refl _)] at hown
        obtain ⟨G0, g0, rfl, _, _⟩ := own_slice hown
        have hbk := Ints_of_own hown
        have hbw := Below_then hb2 hbr (Nat.le_refl _)
        have s1 := sum_any (c := e0) wr (hall.mono hbr) hL (by omega)
        have s2 := fun (w' : World) (h : Below wr.heap.size wr w') => sum_any (c := g0) w' (hbk.mono h) (fun x h => hL x (List.mem_reverse.1 h)) (by omega)
        have s3 := fun (w' : World) (h : Below w.heap.size w w') => sum_any (c := c) w' (hI.mono h) hx (by omega)
        have s4 := fun (w' : World) (h : Below w.heap.size w w') => sum_any (c := d) w' (hJ.mono h) hy (by omega)
        have s5 := fun w' => sum_any (c := 2) (w'.alloc (.cells #[.int .i64 (cutV xs.sum), .int .i64 (cutV ys.sum)] 2)) (Ints2 w' 2 (cutV xs.sum) (cutV ys.sum)) (by intro x h; simp at h; rcases h with h | h <;> (rw [h]; exact cutV_wf _)) (by omega)
        rw [show L.reverse.sum = L.sum from List.sum_reverse L] at s2
        have HS2 := Lib.hid (cutB_no (s := xs.sum))
        have HS3 := Lib.hid (cutB_no (s := ys.sum))
        have hz : cutB xs.sum = false → cutB ys.sum = false → L.sum = [cutV xs.sum, cutV ys.sum].sum := fun h1 h2 => by rw [HS.out, HS2.out h1, HS3.out h2]
        have hkk := hk
        generalize [cutV xs.sum, cutV ys.sum].sum = T at s5 hz
        generalize cutV xs.sum = p at *
        generalize cutV ys.sum = q at *
        generalize cutB xs.sum = e at *
        generalize cutB ys.sum = f at *
        generalize L.sum = S at *
        have HZ := Lib.hid hz
        clear hz
        generalize hBS : cutB S = B at *
        generalize hVS : cutV S = V at *
        have HBV := Lib.hid (And.intro hBS hVS)
        clear hBS hVS
        go_upto_region 11 with (first | ((go_at_call 16; (with_reducible refine (s1).mono ?_)); rintro ex w4 ⟨rfl, g4⟩) | ((go_at_call 16; (with_reducible refine ((s2 _ g4)).mono ?_)); rintro ex w5 ⟨rfl, g5⟩))
        have hw5 := Below_same (Below_same hbw g4) g5
        cases B
        all_goals
          go_upto_region 15 with (first | ((go_at_call 16; (with_reducible refine ((s3 _ hw5)).mono ?_)); rintro ex w6 ⟨rfl, g6⟩) | ((go_at_call 16; (with_reducible refine ((s4 _ (Below_same hw5 g6))).mono ?_)); rintro ex w7 ⟨rfl, g7⟩))
          have hw7 := Below_same (Below_same hw5 g6) g7
          cases e
          · cases f
            · have h1 := HZ.out rfl rfl
              obtain ⟨h2, h3⟩ := HBV.out
              rw [← h1, h2, h3] at s5
              go_wp2_with (first | ((go_at_call 16; (with_reducible refine ((s5 _)).mono ?_)); rintro ex w8 ⟨rfl, g8⟩) | ((go_at_call 15; (with_reducible refine ((hk _)).mono ?_)); rintro ex w9 ⟨rfl, g9⟩))
              go_ret
              exact ⟨rfl, Below_same (Below_same hw7 (Below_al g8)) g9⟩
            · go_wp2_with ((go_at_call 15; (with_reducible refine ((hk _)).mono ?_)); rintro ex w9 ⟨rfl, g9⟩)
              go_ret
              exact ⟨rfl, Below_same hw7 g9⟩
          · go_wp2_with ((go_at_call 15; (with_reducible refine ((hk _)).mono ?_)); rintro ex w9 ⟨rfl, g9⟩)
            go_ret
            exact ⟨rfl, Below_same hw7 g9⟩
end Go.Proofs.Ytelinfnhihmjeaa
