/-
  The reference's sums of sides, one by one (jambref02.Sides). No condition.
-/
import Derived.Test.YtfhbndfhmphnaaaR
import Derived.Test.YtfhbndfhmphnaaaX3
set_option linter.unusedVariables false
set_option linter.unusedSimpArgs false
namespace Go.Proofs.Ytfhbndfhmphnaaa
open Go.RowKit Go.BigFrame

theorem sd_get (l : List Q4) (k : Nat) (hk : k < 4) : (sdCells l k)[k]? = some (.int .i64 (sd l k k)) := by
  obtain rfl | rfl | rfl | rfl : k = 0 ∨ k = 1 ∨ k = 2 ∨ k = 3 := by omega
  all_goals rfl
theorem qc_get (q : Q4) (k : Nat) (hk : k < 4) : (qc q)[k]? = some (.int .i64 (q.at k)) := by
  obtain rfl | rfl | rfl | rfl : k = 0 ∨ k = 1 ∨ k = 2 ∨ k = 3 := by omega
  all_goals rfl
set_option maxRecDepth 20000 in
set_option maxHeartbeats 4000000 in
theorem rsides_any (w : World) {A : Option Addr} {n c : Nat} {l : List Q4} (h : Els qc q0 4 w A n l) (hok : ∀ q ∈ l, q.ok) (hn : n ≤ 20000) :
    Calls Try.prog 11 #[.slice A n c] w fun e w' => e = .returned (.tuple #[.agg (sdCells l 4), .bool (sdB l 4)]) ∧ Below w.heap.size w w' := by
  obtain ⟨i0, hi0, hz0, hz1, hz2⟩ := info_parts iL
  have hl := h.len_eq
  have HOK := Lib.hid hok
  clear hok
  go_enter Try.func11, Try.ntmps11
  go_wp2_with fail
  go_loopw [5, 6, 7, 8, 9, 10, 11, 12, 13, 14, 15, 16, 17, 18, 19, 20, 21, 22, 23, 24, 25, 26, 27, 28, 29, 30, 31, 32, 33, 34, 35, 36, 37, 38, 39, 40, 41] (fun u i _ _ _ _ _ _ _ _ _ _ _ _ _ _ _ _ _ _ _ _ _ _ _ _ _ _ _ _ _ _ _ _ _ _ _ wr => ∃ k : Nat, k ≤ 4 ∧ i = .int .i64 k ∧ u = .bool (sdB l k) ∧ Below w.heap.size w wr ∧ Blk wr w.heap.size 24 #[.int .i64 0, .int .i64 0, .int .i64 0, .int .i64 0] ∧ Blk wr (w.heap.size + 1) 24 (sdCells l k)) (fun _ i _ _ _ _ _ _ _ _ _ _ _ _ _ _ _ _ _ _ _ _ _ _ _ _ _ _ _ _ _ _ _ _ _ _ _ _ => 4 - (intOf i).toNat)
  case atStart => exact ⟨0, by omega, rfl, rfl, by (repeat' (first | (with_reducible exact Below.refl _ _) | (with_reducible assumption) | (with_reducible refine Below.alloc ?_ ?_ _) | (with_reducible refine Below.drew ?_) | (with_reducible refine Below_drewN ?_ _) | (with_reducible refine Below.setCell ?_ ?_ _) | go_size)), Blk_alloc (Blk_new w _ _) _, by simpa [sdCells, sd] using Blk_new2 (w := w.alloc (.cells #[.int .i64 0, .int .i64 0, .int .i64 0, .int .i64 0] 24)) (g := w.heap.size + 1) (t := 24) (cs := #[.int .i64 0, .int .i64 0, .int .i64 0, .int .i64 0]) (by simp)⟩
  case round =>
    obtain ⟨k, hk, rfl, rfl, hb, hZ, hO⟩ := hrel
    have hsz := Blk_lt hO
    have hszZ := Blk_lt hZ
    by_cases hlt : k < 4
    · obtain ⟨wo, hwo⟩ : ∃ wo, wo = wr := ⟨_, rfl⟩
      subst hwo
      have HST := Lib.hid (And.intro (sd_set l k hlt) (sdB_step l k))
      have hd3 := sd_get l k hlt
      go_wp2_with fail
      rw [show decide ((k : Int) < 4) = true from decide_eq_true (by omega)]
      go_loopw [7, 8, 15, 16, 17, 18, 19, 20, 21, 22, 23, 24, 25, 26, 27, 28, 29] (fun v i _ _ _ _ _ _ _ _ _ _ _ _ _ _ _ wr => ∃ j : Nat, j ≤ n ∧ i = .int .i64 j ∧ Below wo.heap.size wo wr ∧ wr.ownsRow wo.heap.size 2 1 v j (((col l k).take j).map (Value.int .i64))) (fun _ i _ _ _ _ _ _ _ _ _ _ _ _ _ _ _ _ => n - (intOf i).toNat)
      case atStart => exact ⟨0, Nat.zero_le _, rfl, Below.refl _ _, World.ownsRow_nil _ _ _ _⟩
      case round =>
        obtain ⟨j, hj, rfl, hbi, hown⟩ := hrel
        have hbs := hbi.size
        by_cases hjn : j < n
        · obtain ⟨b, off, rfl, hB, hc⟩ := h.at_ (by omega)
          have hbw := Below_then hb hbi (Nat.le_refl _)
          have c0 : wr.cell? ⟨b, off + j * 4 + k, none⟩ = _ := (hbw.cell hB).trans ((by rw [Nat.add_assoc]; exact hc j hjn k hlt : w.cell? ⟨b, off + j * 4 + k, none⟩ = _).trans (qc_get _ k hlt))
          have hst := col_take l k j (by omega)
          generalize l.getD j q0 = q at *
          have HCT := Lib.hid hst
          generalize q.at k = x at *
          clear hc hst
          go_wp2_with ((with_reducible refine at_op ⟨some 29, _, _, _, _, _⟩ ?_); (refine wpList_append_src _ rfl (.tmp 21) (.tmp 28) 46 rfl wo.heap.size 2 i0 _ 1 8 Try.underlying46 hi0 hz0 hz1 hz2 rfl (by omega) u7 j _ rfl (hown.alloc _) _ 1 1 [.int .i64 x] rfl (by simpa using Src_new wr 2 #[.int .i64 x] 1 rfl) (by simp [Value.oneCell']) (by simp only [maxLen]; omega) (by omega) (by simp; omega) ?_); intro v3 w3 hown3 hg3 hat3)
          have hb3 : Below wo.heap.size wo w3 := (hbi.alloc hbi.size _).grown hg3 (by simp; omega) (fun q hq => (hown.lt q hq).1)
          go_roundw
          case rel => exact ⟨j + 1, by omega, by go_num, hb3, by rw [HCT.out, List.map_append]; exact hown3⟩
          case measure => simp [intOf]; omega
        · obtain rfl : j = n := by omega
          rw [List.take_of_length_le (by rw [col_len]; omega)] at hown
          obtain ⟨G0, g0, rfl, _, _⟩ := own_slice hown
          have hs := rsum_any (c := g0) wr (Ints_of_own hown) (col_wf HOK.out k) (by omega)
          have hO2 := Blk_below hO hbi hsz
          have hZ2 := Blk_below hZ hbi hszZ
          have hbw := Below_then hb hbi (Nat.le_refl _)
          obtain ⟨hs1, hs2⟩ := HST.out
          generalize cutV (col l k).sum = V at *
          generalize cutB (col l k).sum = B at *
          generalize sdB l k = D at *
          have HS1 := Lib.hid (And.intro hs1 hs2)
          clear hs1 hs2 hown
          go_upto_region 12 with ((go_at_call 26; (with_reducible refine (hs).mono ?_)); rintro e w4 ⟨rfl, g4⟩)
          have hO3 := Blk_below hO2 g4 (Blk_lt hO2)
          have hZ3 := Blk_below hZ2 g4 (Blk_lt hZ2)
          have f3 := Blk_frozen hO3 k
          have d3 := Blk_cell hO3 k
          rw [hd3] at d3
          have hb4 := Below_then hbw g4 (Nat.le_refl _)
          cases D
          · go_wp2_with fail
            go_roundw
            case rel => exact ⟨k + 1, by omega, by go_num, by rw [HS1.out.2]; simp, hb4.setCell (by simp) _, Blk_far hZ3 (by simp) _, by have := Blk_set hO3 k (.int .i64 V); rw [HS1.out.1] at this; exact this⟩
            case measure => simp [intOf]; omega
          · go_wp2_with fail
            go_roundw
            case rel => exact ⟨k + 1, by omega, by go_num, by rw [HS1.out.2]; simp, hb4.setCell (by simp) _, Blk_far hZ3 (by simp) _, by have := Blk_set hO3 k (.int .i64 V); rw [HS1.out.1] at this; exact this⟩
            case measure => simp [intOf]; omega
    · obtain rfl : k = 4 := by omega
      unfold sdCells at hO ⊢
      have d0 := Blk_cell hO 0
      have d1 := Blk_cell hO 1
      have d2 := Blk_cell hO 2
      have d3 := Blk_cell hO 3
      have z0 := Blk_cell hZ 0
      have z1 := Blk_cell hZ 1
      have z2 := Blk_cell hZ 2
      have z3 := Blk_cell hZ 3
      have f0 := Blk_frozen hZ 0
      have f1 := Blk_frozen hZ 1
      have f2 := Blk_frozen hZ 2
      have f3 := Blk_frozen hZ 3
      go_wp2_with fail
      have hBf := Blk_set (Blk_set (Blk_set (Blk_set hZ 0 (.int .i64 (sd l 4 0))) 1 (.int .i64 (sd l 4 1))) 2 (.int .i64 (sd l 4 2))) 3 (.int .i64 (sd l 4 3))
      have e0 := Blk_cell hBf 0
      have e1 := Blk_cell hBf 1
      have e2 := Blk_cell hBf 2
      have e3 := Blk_cell hBf 3
      refine bodyPost_ret (v := .tuple #[.agg #[.int .i64 (sd l 4 0), .int .i64 (sd l 4 1), .int .i64 (sd l 4 2), .int .i64 (sd l 4 3)], .bool (sdB l 4)]) (by simp at e0 e1 e2 e3; simp [results, Try.results11, go_sem, e0, e1, e2, e3]) rfl ⟨rfl, (((hb.setCell (by simp) _).setCell (by simp) _).setCell (by simp) _).setCell (by simp) _⟩
end Go.Proofs.Ytfhbndfhmphnaaa
