/-
  The statements AuCuts and AuSums. No condition.
-/
import Derived.Test.YtelinfnhihmjeaaR
import Derived.Test.YtelinfnhihmjeaaO
set_option linter.unusedVariables false
set_option linter.unusedSimpArgs false
namespace Go.Proofs.Ytelinfnhihmjeaa
open Go.RowKit Go.BigFrame

set_option maxHeartbeats 1000000 in
theorem cuts_any (x a b : Int) (w : World) (hx : (Lit.int .i64 x).wf = true) : Calls Try.prog 3 #[.int .i64 x, .int .i64 a, .int .i64 b] w fun e w' => e = .returned (.bool true) ∧ Below w.heap.size w w' := by
  have c1 := cut_any x w
  have o1 := of_any w x hx
  have c2 := fun (w' : World) v (h : BV w' v x 64) => rcut_any w' h (by omega)
  have c3 := fun w => cut_any (cutV x) w
  have hi : cutV (cutV x) = cutV x ∧ cutB (cutV x) = false := by
    have : -1099511627776 ≤ cutV x ∧ cutV x ≤ 1099511627776 := by unfold cutV; omega
    exact ⟨cutV_mid this.1 this.2, cutB_mid' this.1 this.2⟩
  have t1 := fun w => within_any x a b w
  have t2 := fun w => rwithin_any x a b w
  have hmm : max a (min x b) = max (min x b) a := Int.max_comm _ _
  rw [hmm] at t2
  rw [hi.1, hi.2] at c3
  have hk := works_any
  generalize cutV x = V at *
  generalize cutB x = B at *
  generalize max (min x b) a = M at *
  clear hi hmm
  go_enter Try.func3, Try.ntmps3
  go_upto_region 4 with (first | ((go_at_call 10; (with_reducible refine (c1).mono ?_)); rintro e w1 ⟨rfl, rfl⟩) | ((go_at_call 12; (with_reducible refine (o1).mono ?_)); rintro e w2 ⟨v, rfl, hv, g2⟩) | ((go_at_call 11; (with_reducible refine ((c2 _ _ hv)).mono ?_)); rintro e w3 ⟨rfl, g3⟩) | ((go_at_call 10; (with_reducible refine ((c3 _)).mono ?_)); rintro e w4 ⟨rfl, rfl⟩))
  cases B
  all_goals
    go_wp2_with (first | ((go_at_call 13; (with_reducible refine ((t1 _)).mono ?_)); rintro e w5 ⟨rfl, rfl⟩) | ((go_at_call 14; (with_reducible refine ((t2 _)).mono ?_)); rintro e w6 ⟨rfl, rfl⟩) | ((go_at_call 15; (with_reducible refine ((hk _)).mono ?_)); rintro e w7 ⟨rfl, g7⟩))
    go_ret
    exact ⟨rfl, Below_same (Below_same g2 g3) g7⟩
set_option maxRecDepth 100000 in
set_option maxHeartbeats 4000000 in
theorem sums_any (xs : List Int) (A : Option Addr) (n c : Nat) (w : World) (hI : Ints .i64 w A n xs) (hx : ∀ x ∈ xs, (Lit.int .i64 x).wf = true) (hn : n ≤ c) (hr : c * 8 ≤ 140737488351232) :
    Calls Try.prog 4 #[.slice A n c] w fun e w' => e = .returned (.bool true) ∧ Below w.heap.size w w' := by
  obtain ⟨i0, hi0, hz0, hz1, hz2⟩ := info_parts iL
  have hk := works_any
  have hl1 := hI.len_eq
  by_cases hb : 300 < n
  · go_enter Try.func4, Try.ntmps4
    go_wp2_with ((go_at_call 15; (with_reducible refine ((hk _)).mono ?_)); rintro e w1 ⟨rfl, g1⟩)
    go_ret
    exact ⟨rfl, g1⟩
  · go_enter Try.func4, Try.ntmps4
    go_upto_region 4 with (first | ((with_reducible refine at_op ⟨some 15, _, _, _, _, _⟩ ?_); (refine wpList_append_src _ rfl (.tmp 13) (.tmp 14) 32 rfl w.heap.size 2 i0 _ 1 8 Try.underlying32 hi0 hz0 hz1 hz2 rfl (by omega) (.slice (some ⟨w.heap.size, 0, none⟩) 0 0) 0 [] rfl (World.ownsRow_lit w #[] 0 (Nat.le_refl _) (by simp) rfl) A n c (xs.map (Value.int .i64)) rfl (by rw [Nat.mul_one]; exact (hI.mono (by (repeat' (first | (with_reducible exact Below.refl _ _) | (with_reducible assumption) | (with_reducible refine Below.alloc ?_ ?_ _) | (with_reducible refine Below.drew ?_) | (with_reducible refine Below_drewN ?_ _) | (with_reducible refine Below.setCell ?_ ?_ _) | go_size)))).src) (one_ints _ _) (by simp only [maxLen]; omega) (by omega) (by simp) ?_); intro v1 w1 hown1 hg1 hat1; simp only [Nat.zero_add, List.nil_append] at hown1; have hb1 : Below w.heap.size w w1 := Below.grown (w := w.alloc (.cells #[] 2)) (by (repeat' (first | (with_reducible exact Below.refl _ _) | (with_reducible assumption) | (with_reducible refine Below.alloc ?_ ?_ _) | (with_reducible refine Below.drew ?_) | (with_reducible refine Below_drewN ?_ _) | (with_reducible refine Below.setCell ?_ ?_ _) | go_size))) hg1 (by simp) (fun k hk => by simp [Value.ownBlock] at hk; omega)))
    obtain ⟨E0, e0, rfl, he1, he2⟩ := own_slice hown1
    have hall := Ints_of_own hown1
    have s1 := fun (w' : World) (h : Below w1.heap.size w1 w') => sum_any (c := e0) w' (hall.mono h) hx (by omega)
    have s2 := fun (w' : World) (h : Below w.heap.size w w') => rsum_any (c := c) w' (hI.mono h) hx (by omega)
    generalize cutV xs.sum = V at *
    generalize cutB xs.sum = B at *
    have HL := Lib.hid hl1
    clear hown1 hat1 hg1 hl1 he2
    go_upto_region 6 with (first | ((go_at_call 16; (with_reducible refine ((s1 _ (Below.refl _ _))).mono ?_)); rintro e w2 ⟨rfl, g2⟩) | ((go_at_call 17; (with_reducible refine ((s2 _ (Below_same hb1 g2))).mono ?_)); rintro e w3 ⟨rfl, g3⟩))
    have hb3 := Below_same (Below_same hb1 g2) g3
    have h13 := Below_same g2 g3
    clear s1 s2
    go_wp2_with fail
    go_loopw [8, 26, 27, 28, 29, 30, 31, 32, 33, 34, 35, 36, 37, 38, 39, 40] (fun i _ _ _ _ _ _ _ _ _ _ _ _ _ _ _ wr => ∃ k : Nat, k ≤ n ∧ i = .int .i64 k ∧ Below w3.heap.size w3 wr) (fun i _ _ _ _ _ _ _ _ _ _ _ _ _ _ _ _ => n - (intOf i).toNat)
    case atStart => exact ⟨0, Nat.zero_le _, rfl, Below.refl _ _⟩
    case round =>
      obtain ⟨k, hk2, rfl, hbr⟩ := hrel
      by_cases hlt : k < n
      · obtain ⟨b, off, rfl, hB, hc⟩ := hI.at_ (by omega)
        obtain ⟨b2, off2, rfl, hB2, hc2⟩ := hall.at_ (by omega)
        have cx : wr.cell? ⟨b, off + k, none⟩ = some (.int .i64 (xs.getD k 0)) := ((Below_then hb3 hbr (Nat.le_refl _)).cell hB).trans (hc k hlt)
        have cy : wr.cell? ⟨b2, off2 + k, none⟩ = some (.int .i64 (xs.getD k 0)) := ((Below_then h13 hbr (Nat.le_refl _)).cell hB2).trans (hc2 k hlt)
        generalize xs.getD k 0 = x at *
        clear hc hc2
        have y0 := fun z : Up wr => up_cell z cx
        have y1 := fun z : Up wr => up_cell z cy
        go_wp2_with fail
        refine wp_region_up (by kernel_rfl) (by kernel_rfl) ?_
        repeat (go_big_quiet_step (fail))
        refine wpQuiet_nil ?_
        intro w' hup
        clear y0 y1
        go_wp2_with fail
        go_roundw
        case rel => exact ⟨k + 1, by omega, by go_num, Below_then hbr hup (Nat.le_refl _)⟩
        case measure => simp [intOf]; omega
      · cases B
        all_goals
          go_wp2_with ((go_at_call 15; (with_reducible refine ((hk _)).mono ?_)); rintro e w7 ⟨rfl, g7⟩)
          go_ret
          exact ⟨rfl, Below_same (Below_then hb3 hbr (Nat.le_refl _)) g7⟩
end Go.Proofs.Ytelinfnhihmjeaa
