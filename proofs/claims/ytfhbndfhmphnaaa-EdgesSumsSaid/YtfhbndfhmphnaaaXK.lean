/-
  EdgesSums: the sums of any sides, one by one, and across and down, as by definition. No condition.
-/
import Derived.Test.YtfhbndfhmphnaaaXJ
import Derived.Test.YtfhbndfhmphnaaaX9
set_option linter.unusedVariables false
set_option linter.unusedSimpArgs false
namespace Go.Proofs.Ytfhbndfhmphnaaa
open Go.RowKit Go.BigFrame

theorem iS4 : (Try.prog.info? 24).map (fun i => (i.zero, i.size, i.bytes)) = some (some (.agg #[.int .i64 0, .int .i64 0, .int .i64 0, .int .i64 0]), 4, 32) := by kernel_rfl
theorem qcs_len (l : List Q4) : ((l.map qc).flatten).length = l.length * 4 := by
  have := flat_length (l.map qc) (k := 4) (fun r hr => by obtain ⟨a, _, rfl⟩ := List.mem_map.1 hr; rfl)
  rw [this, List.length_map]
theorem Els.src4 {w : World} {A : Option Addr} {n : Nat} {l : List Q4} (h : Els qc q0 4 w A n l) : Src w A (n * 4) ((l.map qc).flatten) := by
  have hl := h.len_eq
  refine ⟨by rw [qcs_len, hl], fun h0 => ?_⟩
  obtain ⟨b, off, rfl, hB, hc⟩ := h.at_ (by omega)
  refine ⟨_, rfl, fun j u hu => ?_⟩
  have hj : j < l.length * 4 := by
    rcases Nat.lt_or_ge j (l.length * 4) with h | h
    · exact h
    · rw [List.getElem?_eq_none (by rw [qcs_len]; exact h)] at hu; cases hu
  have hd : j = j / 4 * 4 + j % 4 := by omega
  have hq : j / 4 < l.length := by omega
  rw [hd, flat_get (l.map qc) (j / 4) (j % 4) (fun r hr => by obtain ⟨a, _, rfl⟩ := List.mem_map.1 hr; rfl) (by simpa using hq) (by omega)] at hu
  rw [add_off]
  have := hc (j / 4) (by omega) (j % 4) (by omega)
  rw [← hd] at this
  rw [this, ← hu]
  simp [List.getD, hq]
theorem one_qcs (l : List Q4) : ∀ u ∈ (l.map qc).flatten, u.oneCell' = true := by
  intro u hu
  simp only [List.mem_flatten, List.mem_map] at hu
  obtain ⟨r, ⟨q, _, rfl⟩, hr⟩ := hu
  simp [qc] at hr
  rcases hr with rfl | rfl | rfl | rfl <;> rfl
set_option maxRecDepth 100000 in
set_option maxHeartbeats 4000000 in
theorem esums_any (l : List Q4) (A : Option Addr) (n c : Nat) (w : World) (h : Els qc q0 4 w A n l) (hok : ∀ q ∈ l, q.ok) :
    Calls Try.prog 3 #[.slice A n c] w fun e w' => e = .returned (.bool true) ∧ Below w.heap.size w w' := by
  obtain ⟨i0, hi0, hz0, hz1, hz2⟩ := info_parts iS4
  have hkw := works_any
  have hl := h.len_eq
  by_cases hb : 100 < n
  · go_enter Try.func3, Try.ntmps3
    go_wp2_with ((go_at_call 9; (with_reducible refine ((hkw _)).mono ?_)); rintro e w1 ⟨rfl, g1⟩)
    go_ret
    exact ⟨rfl, g1⟩
  · have s1 := fun (w' : World) (A' : Option Addr) (c' : Nat) (h' : Els qc q0 4 w' A' n l) => sides_any (c := c') w' h' hok (by omega)
    have s2 := fun (w' : World) (h' : Below w.heap.size w w') => rsides_any (c := c) w' (h.mono h') hok (by omega)
    have s3 := fun (w' : World) (A' : Option Addr) (c' : Nat) (h' : Els qc q0 4 w' A' n l) => across_any (c := c') w' h' hok (by omega)
    have s4 := fun (w' : World) (h' : Below w.heap.size w w') => racross_any (c := c) w' (h.mono h') hok (by omega)
    have hq := fun (w' : World) (h' : Below w.heap.size w w') => (h.mono h').src4
    have hone := one_qcs l
    have hown := fun (w' : World) (b : Nat) (v : Value) (h' : w'.ownsRow b 24 4 v n ((l.map qc).flatten)) => Els_of_own (d := q0) h' qc_len (by omega)
    simp only [sdCells] at s1 s2
    generalize sd l 4 0 = V0 at *
    generalize sd l 4 1 = V1 at *
    generalize sd l 4 2 = V2 at *
    generalize sd l 4 3 = V3 at *
    generalize sdB l 4 = B at *
    generalize cutV (wideL l).sum = W1 at *
    generalize cutV (highL l).sum = H1 at *
    generalize (cutB (wideL l).sum || cutB (highL l).sum) = D at *
    generalize (l.map qc).flatten = fl at *
    have heq := eq4_int
    go_enter Try.func3, Try.ntmps3
    go_upto_region 4 with (first
      | ((with_reducible refine at_op ⟨some 20, _, _, _, _, _⟩ ?_); (refine wpList_append_src _ rfl (.tmp 18) (.tmp 19) 22 rfl w.heap.size 24 i0 _ 4 32 Try.underlying22 hi0 hz0 hz1 hz2 rfl (by omega) (.slice (some ⟨w.heap.size, 0, none⟩) 0 0) 0 [] rfl (World.ownsRow_lit w #[] 0 (Nat.le_refl _) (by simp) rfl) A n c fl rfl (hq _ (by (repeat' (first | (with_reducible exact Below.refl _ _) | (with_reducible assumption) | (with_reducible refine Below.alloc ?_ ?_ _) | (with_reducible refine Below.drew ?_) | (with_reducible refine Below_drewN ?_ _) | (with_reducible refine Below.setCell ?_ ?_ _) | go_size)))) hone (by simp only [maxLen]; omega) (by omega) (by simp) ?_); intro v1 w1 hown1 hg1 hat1; simp only [Nat.zero_add, List.nil_append] at hown1; have hb1 : Below w.heap.size w w1 := Below.grown (w := w.alloc (.cells #[] 24)) (by (repeat' (first | (with_reducible exact Below.refl _ _) | (with_reducible assumption) | (with_reducible refine Below.alloc ?_ ?_ _) | (with_reducible refine Below.drew ?_) | (with_reducible refine Below_drewN ?_ _) | (with_reducible refine Below.setCell ?_ ?_ _) | go_size))) hg1 (by simp) (fun k hk => by simp [Value.ownBlock] at hk; omega); obtain ⟨E0, e0, rfl, he1, he2, hE0⟩ := hown _ _ _ hown1)
      | ((go_at_call 10; (with_reducible refine ((s1 _ _ _ hE0)).mono ?_)); rintro e w2 ⟨rfl, g2⟩))
    have hX := Blk_new w2 24 #[.int .i64 V0, .int .i64 V1, .int .i64 V2, .int .i64 V3]
    have hbx := (Below_then hb1 g2 (Nat.le_refl _)).alloc (Below_then hb1 g2 (Nat.le_refl _)).size (.cells #[.int .i64 V0, .int .i64 V1, .int .i64 V2, .int .i64 V3] 24)
    generalize hwx : w2.alloc (.cells #[.int .i64 V0, .int .i64 V1, .int .i64 V2, .int .i64 V3] 24) = wx at *
    clear hwx hown1 hg1 hat1 hE0 he1 he2 g2
    go_upto_region 5 with ((go_at_call 11; (with_reducible refine ((s2 _ hbx)).mono ?_)); rintro e w3 ⟨rfl, g3⟩)
    have hX := Blk_alloc (Blk_below hX g3 (Blk_lt hX)) (.cells #[.int .i64 V0, .int .i64 V1, .int .i64 V2, .int .i64 V3] 24)
    have hY := Blk_new w3 24 #[.int .i64 V0, .int .i64 V1, .int .i64 V2, .int .i64 V3]
    have hby := (Below_then hbx g3 (Nat.le_refl _)).alloc (Below_then hbx g3 (Nat.le_refl _)).size (.cells #[.int .i64 V0, .int .i64 V1, .int .i64 V2, .int .i64 V3] 24)
    generalize hwy : w3.alloc (.cells #[.int .i64 V0, .int .i64 V1, .int .i64 V2, .int .i64 V3] 24) = wy at *
    clear hwy g3
    have hys := hby.size
    go_upto_region 6 with (first
      | ((with_reducible refine at_op ⟨some 32, _, _, _, _, _⟩ ?_); (refine wpList_append_src _ rfl (.tmp 30) (.tmp 31) 22 rfl wy.heap.size 24 i0 _ 4 32 Try.underlying22 hi0 hz0 hz1 hz2 rfl (by omega) (.slice (some ⟨wy.heap.size, 0, none⟩) 0 0) 0 [] rfl (World.ownsRow_lit wy #[] 0 (Nat.le_refl _) (by simp) rfl) A n c fl rfl (hq _ (by (repeat' (first | (with_reducible exact Below.refl _ _) | (with_reducible assumption) | (with_reducible refine Below.alloc ?_ ?_ _) | (with_reducible refine Below.drew ?_) | (with_reducible refine Below_drewN ?_ _) | (with_reducible refine Below.setCell ?_ ?_ _) | go_size)))) hone (by simp only [maxLen]; omega) (by omega) (by simp) ?_); intro v4 w4 hown4 hg4 hat4; simp only [Nat.zero_add, List.nil_append] at hown4; have hb4 : Below wy.heap.size wy w4 := Below.grown (w := wy.alloc (.cells #[] 24)) (by (repeat' (first | (with_reducible exact Below.refl _ _) | (with_reducible assumption) | (with_reducible refine Below.alloc ?_ ?_ _) | (with_reducible refine Below.drew ?_) | (with_reducible refine Below_drewN ?_ _) | (with_reducible refine Below.setCell ?_ ?_ _) | go_size))) hg4 (by simp) (fun k hk => by simp [Value.ownBlock] at hk; omega); obtain ⟨E4, e4, rfl, he3, he4, hE4⟩ := hown _ _ _ hown4)
      | ((go_at_call 12; (with_reducible refine ((s3 _ _ _ hE4)).mono ?_)); rintro e w5 ⟨rfl, g5⟩))
    have hb5 := Below_then hb4 g5 (Nat.le_refl _)
    have hX := Blk_below hX hb5 (Blk_lt hX)
    have hY := Blk_below hY hb5 (Blk_lt hY)
    have hbw := Below_then hby hb5 (Nat.le_refl _)
    clear hown4 hg4 hat4 hE4 he3 he4 hb5 hb4 g5
    go_upto_region 7 with ((go_at_call 13; (with_reducible refine ((s4 _ hbw)).mono ?_)); rintro e w6 ⟨rfl, g6⟩)
    have hX := Blk_below hX g6 (Blk_lt hX)
    have hY := Blk_below hY g6 (Blk_lt hY)
    have x0 := Blk_cell hX 0
    have x1 := Blk_cell hX 1
    have x2 := Blk_cell hX 2
    have x3 := Blk_cell hX 3
    have y0 := Blk_cell hY 0
    have y1 := Blk_cell hY 1
    have y2 := Blk_cell hY 2
    have y3 := Blk_cell hY 3
    go_wp2_with ((go_at_call 9; (with_reducible refine ((hkw _)).mono ?_)); rintro e w7 ⟨rfl, g7⟩)
    go_ret
    exact ⟨rfl, Below_then (Below_then hbw g6 (Nat.le_refl _)) g7 (Nat.le_refl _)⟩
theorem esums_walk (w : World) {A : Option Addr} {n c : Nat} {xs : List (Int × Int × Int × Int)} (h0 : SliceRd 4 E24 w A n c xs) :
    Calls Try.prog 3 #[.slice A n c] w fun e w' => e = .returned (.bool true) ∧ Below w.heap.size w w' := by
  have hl := h0.len_eq
  refine esums_any (xs.map fun x => ⟨x.1, x.2.1, x.2.2.1, x.2.2.2⟩) A n c w ⟨by rw [List.length_map]; exact hl, fun hn => ?_⟩ (fun q hq => ?_)
  · obtain ⟨b, off, hA, hB, hc⟩ := h0.at_ (by omega)
    refine ⟨b, off, hA, hB, fun k hk j hj => ?_⟩
    obtain ⟨cs, _, hE, hx⟩ := hc k (by omega)
    rw [hx j hj, (F24 hE).1]
    simp [List.getD, qc, show k < xs.length by omega]
  · obtain ⟨x, hx, rfl⟩ := List.mem_map.1 hq
    obtain ⟨k, hk, rfl⟩ := List.mem_iff_getElem.1 hx
    obtain ⟨cs, hE⟩ := h0.all k hk
    have f := F24 hE
    exact ⟨bounds_i64 f.2.1, bounds_i64 f.2.2.1, bounds_i64 f.2.2.2.1, bounds_i64 f.2.2.2.2⟩
end Go.Proofs.Ytfhbndfhmphnaaa
