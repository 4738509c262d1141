/-
  The anchor of chapter 2. No condition.
-/
import Derived.Test.YtfhbndfhmphnaaaX6
set_option linter.unusedVariables false
set_option linter.unusedSimpArgs false
namespace Go.Proofs.Ytfhbndfhmphnaaa
open Go.RowKit Go.BigFrame

theorem Els_lit (w : World) (t : TypeId) (l : List Q4) (hm : l.length ≤ maxLen) : Els qc q0 4 (w.alloc (.cells ((l.map qc).flatten).toArray t)) (some ⟨w.heap.size, 0, none⟩) l.length l := by
  have hlen : ((l.map qc).flatten).length = l.length * 4 := by
    have := flat_length (l.map qc) (k := 4) (fun r hr => by obtain ⟨a, _, rfl⟩ := List.mem_map.1 hr; rfl)
    rw [this, List.length_map]
  have h := World.ownsRow_lit (base := w.heap.size) (e := t) (size := 4) w ((l.map qc).flatten).toArray l.length (Nat.le_refl _) hm (by simpa using hlen)
  obtain ⟨A, c, he, _, _, hE⟩ := Els_of_own (d := q0) h qc_len (by omega)
  injection he with e1 e2 e3
  rw [← e1] at hE
  exact hE
theorem ok_small {a b c d : Int} (h : (-9223372036854775808 ≤ a ∧ a ≤ 9223372036854775807) ∧ (-9223372036854775808 ≤ b ∧ b ≤ 9223372036854775807) ∧ (-9223372036854775808 ≤ c ∧ c ≤ 9223372036854775807) ∧ (-9223372036854775808 ≤ d ∧ d ≤ 9223372036854775807)) : (⟨a, b, c, d⟩ : Q4).ok := ⟨h.1, h.2.1, h.2.2.1, h.2.2.2⟩
def wl : List Q4 := [⟨1, 2, 3, 4⟩, ⟨10, 20, 30, 40⟩]
def wc3 : List Q4 := [⟨0, 0, 1, 1⟩, ⟨5, 5, 1, 1⟩, ⟨99, 99, 0, 9⟩]
theorem wl_ok : ∀ q ∈ wl, q.ok := by
  intro q hq
  simp [wl] at hq
  rcases hq with rfl | rfl <;> exact ok_small (by omega)
theorem wc3_ok : ∀ q ∈ wc3, q.ok := by
  intro q hq
  simp [wc3] at hq
  rcases hq with rfl | rfl | rfl <;> exact ok_small (by omega)
theorem w_sides : sdCells wl 4 = #[.int .i64 11, .int .i64 22, .int .i64 33, .int .i64 44] := by
  have h : ∀ i, i < 4 → sd wl 4 i = [11, 22, 33, 44].getD i 0 := by decide
  unfold sdCells
  rw [h 0 (by omega), h 1 (by omega), h 2 (by omega), h 3 (by omega)]
  rfl
theorem w_cover : CoverV wc3 = ⟨0, 0, 6, 6⟩ := by
  have e : wc3.filter someB = [⟨0, 0, 1, 1⟩, ⟨5, 5, 1, 1⟩] := by rfl
  unfold CoverV
  rw [e, if_neg (by decide)]
  have h : ∀ f : Q4 → Int, mnK f [⟨0, 0, 1, 1⟩, ⟨5, 5, 1, 1⟩] 2 = min (min (f ⟨0, 0, 1, 1⟩) (f ⟨0, 0, 1, 1⟩)) (f ⟨5, 5, 1, 1⟩) := fun f => rfl
  have hx : cX [⟨0, 0, 1, 1⟩, ⟨5, 5, 1, 1⟩] = 0 := by decide
  have hy : cY [⟨0, 0, 1, 1⟩, ⟨5, 5, 1, 1⟩] = 0 := by decide
  unfold coverV gX gY
  rw [hx, hy]
  rfl
theorem w_coverB : CoverB wc3 = false := by
  have e : wc3.filter someB = [⟨0, 0, 1, 1⟩, ⟨5, 5, 1, 1⟩] := by rfl
  unfold CoverB
  rw [e, if_neg (by decide)]
  have hx : cX [⟨0, 0, 1, 1⟩, ⟨5, 5, 1, 1⟩] = 0 := by decide
  have hy : cY [⟨0, 0, 1, 1⟩, ⟨5, 5, 1, 1⟩] = 0 := by decide
  unfold coverB gX gY
  rw [hx, hy]
  decide
set_option maxRecDepth 100000 in
set_option maxHeartbeats 8000000 in
theorem works_any (w : World) : Calls Try.prog 9 #[] w fun e w' => e = .returned (.bool true) ∧ Below w.heap.size w w' := by
  have s1 : ∀ w : World, Calls Try.prog 10 #[.slice (some ⟨w.heap.size, 0, none⟩) 2 2] (w.alloc (.cells #[.int .i64 1, .int .i64 2, .int .i64 3, .int .i64 4, .int .i64 10, .int .i64 20, .int .i64 30, .int .i64 40] 24)) fun e w' => e = .returned (.tuple #[.agg #[.int .i64 11, .int .i64 22, .int .i64 33, .int .i64 44], .bool false]) ∧ Below w.heap.size w w' := fun w => by
    have h := sides_any (c := 2) _ (Els_lit w 24 wl (by decide)) wl_ok (by decide)
    rw [w_sides, show sdB wl 4 = false by decide] at h
    exact h.mono fun e w' ⟨h1, h2⟩ => ⟨h1, Below_al h2⟩
  have a1 : ∀ w : World, Calls Try.prog 12 #[.slice (some ⟨w.heap.size, 0, none⟩) 2 2] (w.alloc (.cells #[.int .i64 1, .int .i64 2, .int .i64 3, .int .i64 4, .int .i64 10, .int .i64 20, .int .i64 30, .int .i64 40] 24)) fun e w' => e = .returned (.tuple #[.int .i64 66, .int .i64 44, .bool false]) ∧ Below w.heap.size w w' := fun w => by
    have h := across_any (c := 2) _ (Els_lit w 24 wl (by decide)) wl_ok (by decide)
    rw [show cutV (wideL wl).sum = 66 by decide, show cutV (highL wl).sum = 44 by decide, show (cutB (wideL wl).sum || cutB (highL wl).sum) = false by decide] at h
    exact h.mono fun e w' ⟨h1, h2⟩ => ⟨h1, Below_al h2⟩
  have c1 : ∀ w : World, Calls Try.prog 21 #[.slice (some ⟨w.heap.size, 0, none⟩) 3 3] (w.alloc (.cells #[.int .i64 0, .int .i64 0, .int .i64 1, .int .i64 1, .int .i64 5, .int .i64 5, .int .i64 1, .int .i64 1, .int .i64 99, .int .i64 99, .int .i64 0, .int .i64 9] 33)) fun e w' => e = .returned (.tuple #[.agg #[.int .i64 0, .int .i64 0, .int .i64 6, .int .i64 6], .bool false]) ∧ Below w.heap.size w w' := fun w => by
    have h := cover_any (c := 3) _ (Els_lit w 33 wc3 (by decide)) wc3_ok (by decide)
    rw [w_cover, w_coverB] at h
    exact h.mono fun e w' ⟨h1, h2⟩ => ⟨h1, Below_al h2⟩
  have g1 := fun w => grow_any ⟨5, 5, 10, 10⟩ ⟨1, 2, 3, 4⟩ (ok_small (by omega)) (ok_small (by omega)) w
  rw [show growV ⟨5, 5, 10, 10⟩ ⟨1, 2, 3, 4⟩ = ⟨1, 4, 16, 14⟩ by rfl, show growB ⟨5, 5, 10, 10⟩ ⟨1, 2, 3, 4⟩ = false by decide] at g1
  have m1 := fun w => Meet_any ⟨0, 0, 2, 2⟩ ⟨1, 1, 2, 2⟩ (ok_small (by omega)) (ok_small (by omega)) w
  rw [show MeetB ⟨0, 0, 2, 2⟩ ⟨1, 1, 2, 2⟩ = true by decide] at m1
  have n1 := fun w => Inside_any ⟨1, 1, 2, 2⟩ ⟨0, 0, 2, 2⟩ (ok_small (by omega)) (ok_small (by omega)) w
  rw [show InB ⟨1, 1, 2, 2⟩ ⟨0, 0, 2, 2⟩ = false by decide] at n1
  have heq := eq4_int
  unfold qv at *
  go_enter Try.func9, Try.ntmps9
  go_upto_region 2 with ((go_at_call 10; (with_reducible refine ((s1 _)).mono ?_)); rintro e w1 ⟨rfl, h1⟩)
  have hA := Blk_new w1 24 #[.int .i64 11, .int .i64 22, .int .i64 33, .int .i64 44]
  have hbA := h1.alloc h1.size (.cells #[.int .i64 11, .int .i64 22, .int .i64 33, .int .i64 44] 24)
  generalize w1.alloc (.cells #[.int .i64 11, .int .i64 22, .int .i64 33, .int .i64 44] 24) = w2 at *
  go_upto_region 4 with (first | ((go_at_call 12; (with_reducible refine ((a1 _)).mono ?_)); rintro e w3 ⟨rfl, h3⟩) | ((go_at_call 14; (with_reducible refine ((g1 _)).mono ?_)); rintro e w4 ⟨rfl, h4⟩))
  have hB := Blk_new w4 33 #[.int .i64 1, .int .i64 4, .int .i64 16, .int .i64 14]
  have h34 := Below_same h3 h4
  have hA4 := Blk_alloc (Blk_below hA h34 (Blk_lt hA)) (.cells #[.int .i64 1, .int .i64 4, .int .i64 16, .int .i64 14] 33)
  have hbB := (Below_then hbA h34 (Nat.le_refl _)).alloc (by have := h34.size; have := hbA.size; omega) (.cells #[.int .i64 1, .int .i64 4, .int .i64 16, .int .i64 14] 33)
  generalize w4.alloc (.cells #[.int .i64 1, .int .i64 4, .int .i64 16, .int .i64 14] 33) = w5 at *
  go_upto_region 5 with ((go_at_call 21; (with_reducible refine ((c1 _)).mono ?_)); rintro e w6 ⟨rfl, h6⟩)
  have hC := Blk_new w6 33 #[.int .i64 0, .int .i64 0, .int .i64 6, .int .i64 6]
  have hA6 := Blk_alloc (Blk_below hA4 h6 (Blk_lt hA4)) (.cells #[.int .i64 0, .int .i64 0, .int .i64 6, .int .i64 6] 33)
  have hB6 := Blk_alloc (Blk_below hB h6 (Blk_lt hB)) (.cells #[.int .i64 0, .int .i64 0, .int .i64 6, .int .i64 6] 33)
  have hbC := (Below_then hbB h6 (Nat.le_refl _)).alloc (by have := h6.size; have := hbB.size; omega) (.cells #[.int .i64 0, .int .i64 0, .int .i64 6, .int .i64 6] 33)
  generalize w6.alloc (.cells #[.int .i64 0, .int .i64 0, .int .i64 6, .int .i64 6] 33) = w7 at *
  have p0 := Blk_cell hA6 0
  have p1 := Blk_cell hA6 1
  have p2 := Blk_cell hA6 2
  have p3 := Blk_cell hA6 3
  have q0 := Blk_cell hB6 0
  have q1 := Blk_cell hB6 1
  have q2 := Blk_cell hB6 2
  have q3 := Blk_cell hB6 3
  have r0 := Blk_cell hC 0
  have r1 := Blk_cell hC 1
  have r2 := Blk_cell hC 2
  have r3 := Blk_cell hC 3
  clear hA hB hA4 hA6 hB6 hC h1 h3 h4 h34 h6 hbA hbB
  go_wp2_with (first | ((go_at_call 16; (with_reducible refine ((m1 _)).mono ?_)); rintro e w8 ⟨rfl, h8⟩) | ((go_at_call 18; (with_reducible refine ((n1 _)).mono ?_)); rintro e w9 ⟨rfl, h9⟩))
  go_ret
  exact ⟨rfl, Below_then hbC (Below_same h8 h9) (Nat.le_refl _)⟩
end Go.Proofs.Ytfhbndfhmphnaaa
