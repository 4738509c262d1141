/-
  The reference's sums of sides, across and down (jambref02.Across). No condition.
-/
import Derived.Test.YtfhbndfhmphnaaaXI
set_option linter.unusedVariables false
set_option linter.unusedSimpArgs false
namespace Go.Proofs.Ytfhbndfhmphnaaa
open Go.RowKit Go.BigFrame

set_option maxRecDepth 20000 in
set_option maxHeartbeats 8000000 in
theorem racross_any (w : World) {A : Option Addr} {n c : Nat} {l : List Q4} (h : Els qc q0 4 w A n l) (hok : ∀ q ∈ l, q.ok) (hn : n ≤ 20000) :
    Calls Try.prog 13 #[.slice A n c] w fun e w' => e = .returned (.tuple #[.int .i64 (cutV (wideL l).sum), .int .i64 (cutV (highL l).sum), .bool (cutB (wideL l).sum || cutB (highL l).sum)]) ∧ Below w.heap.size w w' := by
  obtain ⟨i0, hi0, hz0, hz1, hz2⟩ := info_parts iL
  have hl := h.len_eq
  have HOK := Lib.hid hok
  clear hok
  go_enter Try.func13, Try.ntmps13
  go_wp2_with fail
  go_loopw [5, 6, 7, 12, 13, 14, 15, 16, 17, 18, 19, 20, 21, 22, 23, 24, 25, 26, 27, 28, 29, 30, 31, 32, 33, 34, 35, 36, 37, 38, 39, 40, 41, 42, 43] (fun v u i _ _ _ _ _ _ _ _ _ _ _ _ _ _ _ _ _ _ _ _ _ _ _ _ _ _ _ _ _ _ _ _ wr => ∃ j : Nat, j ≤ n ∧ i = .int .i64 j ∧ Below w.heap.size w wr ∧ wr.ownsRow w.heap.size 2 1 v (2 * j) ((wideL (l.take j)).map (Value.int .i64)) ∧ wr.ownsRow w.heap.size 2 1 u (2 * j) ((highL (l.take j)).map (Value.int .i64)) ∧ (∀ b, v.ownBlock = some b → u.ownBlock ≠ some b)) (fun _ _ i _ _ _ _ _ _ _ _ _ _ _ _ _ _ _ _ _ _ _ _ _ _ _ _ _ _ _ _ _ _ _ _ _ => n - (intOf i).toNat)
  case atStart => exact ⟨0, Nat.zero_le _, rfl, Below.refl _ _, World.ownsRow_nil _ _ _ _, World.ownsRow_nil _ _ _ _, fun b hb => by cases hb⟩
  case round =>
    obtain ⟨j, hj, rfl, hbw, hW, hH, hne⟩ := hrel
    have hbs := hbw.size
    by_cases hjn : j < n
    · obtain ⟨b, off, rfl, hB, hc⟩ := h.at_ (by omega)
      have c0 : wr.cell? ⟨b, off + j * 4, none⟩ = _ := (hbw.cell hB).trans (hc j hjn 0 (by omega))
      have c1 : wr.cell? ⟨b, off + j * 4 + 1, none⟩ = _ := (hbw.cell hB).trans (hc j hjn 1 (by omega))
      have c2 : wr.cell? ⟨b, off + j * 4 + 2, none⟩ = _ := (hbw.cell hB).trans (hc j hjn 2 (by omega))
      have c3 : wr.cell? ⟨b, off + j * 4 + 3, none⟩ = _ := (hbw.cell hB).trans (hc j hjn 3 (by omega))
      have hst := And.intro (pairs_step Q4.d Q4.b l j (by omega)) (pairs_step Q4.a Q4.c l j (by omega))
      generalize l.getD j q0 = q at *
      obtain ⟨x, y, z, t⟩ := q
      simp only [qc, List.getElem?_cons_zero, List.getElem?_cons_succ] at c0 c1 c2 c3
      have HST := Lib.hid hst
      have HWL := Lib.hid (fun b h => hW.lt b h)
      have HHL := Lib.hid (fun b h => hH.lt b h)
      have HNE := Lib.hid hne
      have hb8 : 0 < 1 := by omega
      have hm2 : 2 * j + 2 ≤ maxLen := by unfold maxLen; omega
      have hb2 : (2 * j + 2) * 8 ≤ 140737488355328 := by omega
      have hBr : b < wr.heap.size := by omega
      have hW1 := own_drew (hW.alloc (.cells #[.int .i64 t, .int .i64 y] 2))
      have hR1 : Src (wr.alloc (.cells #[.int .i64 t, .int .i64 y] 2)).drew (some ⟨wr.heap.size, 0, none⟩) (2 * 1) [.int .i64 t, .int .i64 y] := Src_blk (Blk_drew (Blk_new wr 2 #[.int .i64 t, .int .i64 y])) 2 rfl
      have hbw1 : Below w.heap.size w (wr.alloc (.cells #[.int .i64 t, .int .i64 y] 2)).drew := (hbw.alloc hbw.size _).drew
      have hS : ∀ w', Below w.heap.size w w' → w'.cell? ⟨b, off + j * 4, none⟩ = some (.int .i64 x) ∧ w'.cell? ⟨b, off + j * 4 + 1, none⟩ = some (.int .i64 y) ∧ w'.cell? ⟨b, off + j * 4 + 2, none⟩ = some (.int .i64 z) ∧ w'.cell? ⟨b, off + j * 4 + 3, none⟩ = some (.int .i64 t) := fun w' h' =>
        ⟨((h'.cell hB).trans (hbw.cell hB).symm).trans c0, ((h'.cell hB).trans (hbw.cell hB).symm).trans c1, ((h'.cell hB).trans (hbw.cell hB).symm).trans c2, ((h'.cell hB).trans (hbw.cell hB).symm).trans c3⟩
      have HS := Lib.hid hS
      clear hne c0 c1 c2 c3 hc hst hS
      go_upto_region 5 with fail
      go_region_held3 (fun w' => w'.cell? ⟨b, off + j * 4, none⟩ = some (.int .i64 x) ∧ w'.cell? ⟨b, off + j * 4 + 1, none⟩ = some (.int .i64 y) ∧ w'.cell? ⟨b, off + j * 4 + 2, none⟩ = some (.int .i64 z) ∧ w'.cell? ⟨b, off + j * 4 + 3, none⟩ = some (.int .i64 t))
        (first
          | (with_reducible assumption)
          | exact HS.out _ hbw.drew
          | exact HS.out _ hbw1
          | exact HS.out _ hbw23)
        (first
          | ((refine step_append_src2 _ rfl (.tmp 18) (.tmp 29) 46 rfl w.heap.size 2 i0 _ 1 8 Try.underlying46 hi0 hz0 hz1 hz2 rfl hb8 u5 (2 * j) ((wideL (l.take j)).map (Value.int .i64)) rfl hW1 (some ⟨wr.heap.size, 0, none⟩) 2 2 [.int .i64 t, .int .i64 y] rfl hR1 one2 hm2 hb2 (by simp; omega) rfl ?_); intro v23 w23 hown23 hg23 hat23; have hbw23 : Below w.heap.size w w23 := Below.grown hbw1 hg23 (by simp; omega) (fun k hk => (HWL.out k hk).1)))
      have hH23 := own_grown (own_drew (hH.alloc (.cells #[.int .i64 t, .int .i64 y] 2))) hg23 (fun b hb he => HNE.out b he hb)
      have hb23 := hg23.size
      simp only [World.size_alloc, World.size_drew] at hb23 hat23
      have ne6 : ∀ b, v23.ownBlock = some b → u6.ownBlock ≠ some b := fun b hb he => by
        rcases hat23 with e | e
        · rw [e] at hb; exact HNE.out b hb he
        · rw [e] at hb; injection hb with hb; have := (HHL.out b he).2; omega
      have HNE6 := Lib.hid ne6
      have HW23 := Lib.hid hown23
      have hH2 := own_drew (hH23.alloc (.cells #[.int .i64 x, .int .i64 z] 2))
      have hR2 : Src (w23.alloc (.cells #[.int .i64 x, .int .i64 z] 2)).drew (some ⟨w23.heap.size, 0, none⟩) (2 * 1) [.int .i64 x, .int .i64 z] := Src_blk (Blk_drew (Blk_new w23 2 #[.int .i64 x, .int .i64 z])) 2 rfl
      have hbw2 : Below w.heap.size w (w23.alloc (.cells #[.int .i64 x, .int .i64 z] 2)).drew := (hbw23.alloc hbw23.size _).drew
      clear ne6 hat23 hown23 hg23 hW hH hW1 hR1
      go_upto_region 6 with fail
      go_region_held3 (fun w' => w'.cell? ⟨b, off + j * 4, none⟩ = some (.int .i64 x) ∧ w'.cell? ⟨b, off + j * 4 + 1, none⟩ = some (.int .i64 y) ∧ w'.cell? ⟨b, off + j * 4 + 2, none⟩ = some (.int .i64 z) ∧ w'.cell? ⟨b, off + j * 4 + 3, none⟩ = some (.int .i64 t))
        (first
          | (with_reducible assumption)
          | exact HS.out _ hbw23.drew
          | exact HS.out _ hbw2
          | exact HS.out _ hbw30)
        (first
          | ((refine step_append_src2 _ rfl (.tmp 31) (.tmp 42) 46 rfl w.heap.size 2 i0 _ 1 8 Try.underlying46 hi0 hz0 hz1 hz2 rfl hb8 u6 (2 * j) ((highL (l.take j)).map (Value.int .i64)) rfl hH2 (some ⟨w23.heap.size, 0, none⟩) 2 2 [.int .i64 x, .int .i64 z] rfl hR2 one2 hm2 hb2 (by simp; omega) rfl ?_); intro v30 w30 hown30 hg30 hat30; have hbw30 : Below w.heap.size w w30 := Below.grown hbw2 hg30 (by simp; omega) (fun k hk => (HHL.out k hk).1)))
      simp only [World.size_alloc, World.size_drew] at hat30
      have ne30 : ∀ b, v23.ownBlock = some b → v30.ownBlock ≠ some b := fun b hb => by
        rcases hat30 with e | e
        · rw [e]; exact HNE6.out b hb
        · rw [e]; intro he; injection he with he; have := (HW23.out.lt b hb).2; omega
      have hW30 := own_grown (own_drew (HW23.out.alloc (.cells #[.int .i64 x, .int .i64 z] 2))) hg30 (fun b hb => fun he => HNE6.out b hb he)
      have e1 : (wideL (l.take (j + 1))).map (Value.int .i64) = (wideL (l.take j)).map (Value.int .i64) ++ [.int .i64 t, .int .i64 y] := by unfold wideL; rw [HST.out.1, List.map_append]; rfl
      have e2 : (highL (l.take (j + 1))).map (Value.int .i64) = (highL (l.take j)).map (Value.int .i64) ++ [.int .i64 x, .int .i64 z] := by unfold highL; rw [HST.out.2, List.map_append]; rfl
      rw [← e1] at hW30
      rw [← e2] at hown30
      have HQ := Lib.hid (And.intro hW30 (And.intro hown30 (And.intro ne30 hbw30)))
      clear ne30 hW30 e1 e2 hat30 hown30 hg30
      go_wp2_with fail
      go_roundw
      case rel => exact ⟨j + 1, by omega, by go_num, HQ.out.2.2.2, HQ.out.1, HQ.out.2.1, HQ.out.2.2.1⟩
      case measure => simp [intOf]; omega
    · obtain rfl : j = n := by omega
      rw [List.take_of_length_le (by omega)] at hW hH
      obtain ⟨G0, g0, rfl, _, _⟩ := own_slice hW
      obtain ⟨G1, g1, rfl, _, _⟩ := own_slice hH
      have s1 := rsum_any (c := g0) wr (Ints_of_own hW) (wide_wf HOK.out) (by omega)
      have s2 := fun (w' : World) (h : Below wr.heap.size wr w') => rsum_any (c := g1) w' ((Ints_of_own hH).mono h) (high_wf HOK.out) (by omega)
      obtain ⟨V1, e1⟩ : ∃ x, cutV (wideL l).sum = x := ⟨_, rfl⟩
      obtain ⟨B1, e2⟩ : ∃ x, cutB (wideL l).sum = x := ⟨_, rfl⟩
      obtain ⟨V2, e3⟩ : ∃ x, cutV (highL l).sum = x := ⟨_, rfl⟩
      obtain ⟨B2, e4⟩ : ∃ x, cutB (highL l).sum = x := ⟨_, rfl⟩
      rw [e1, e2] at s1
      rw [e3, e4] at s2
      have HV := Lib.hid (And.intro (And.intro e1 e2) (And.intro e3 e4))
      clear hne hW hH e1 e2 e3 e4
      cases B1
      all_goals
        go_wp2_with (first | ((go_at_call 26; (with_reducible refine (s1).mono ?_)); rintro e w4 ⟨rfl, g4⟩) | ((go_at_call 26; (with_reducible refine ((s2 _ g4)).mono ?_)); rintro e w5 ⟨rfl, g5⟩))
        go_ret3
        exact ⟨by rw [HV.out.1.1, HV.out.1.2, HV.out.2.1, HV.out.2.2]; rfl, Below_then hbw (Below_same g4 g5) (Nat.le_refl _)⟩
end Go.Proofs.Ytfhbndfhmphnaaa
