/-
  The reference's 'meet', 'inside', 'Some', 'Meet', 'Inside' (jambref02). No condition.
-/
import Derived.Test.YtfhbndfhmphnaaaXE
import Derived.Test.YtfhbndfhmphnaaaX1
set_option linter.unusedVariables false
set_option linter.unusedSimpArgs false
namespace Go.Proofs.Ytfhbndfhmphnaaa
open Go.RowKit Go.BigFrame

def rmeetB (a m b n : Int) : Bool := decide (a < b + n) && decide (b < a + m)
def rinsB (a m b n : Int) : Bool := decide (b ≤ a) && !decide (b + n < a + m)
set_option maxRecDepth 20000 in
set_option maxHeartbeats 4000000 in
theorem rmeet_any (w : World) (a m b n : Int) (ha : (Lit.int .i64 a).wf = true) (hm : (Lit.int .i64 m).wf = true) (hb : (Lit.int .i64 b).wf = true) (hn : (Lit.int .i64 n).wf = true) :
    Calls Try.prog 36 #[.int .i64 a, .int .i64 m, .int .i64 b, .int .i64 n] w fun e w' => e = .returned (.bool (rmeetB a m b n)) ∧ Below w.heap.size w w' := by
  have ho1 := fun w => of_any w a ha
  have ho2 := fun w => of_any w b hb
  have hd1 := fun w => radd_any w b n hb hn
  have hd2 := fun w => radd_any w a m ha hm
  unfold rmeetB
  obtain ⟨d1, e1⟩ : ∃ d, decide (a < b + n) = d := ⟨_, rfl⟩
  obtain ⟨d2, e2⟩ : ∃ d, decide (b < a + m) = d := ⟨_, rfl⟩
  rw [e1, e2]
  have E1 := Lib.hid e1
  have E2 := Lib.hid e2
  clear e1 e2
  cases d1
  · go_enter Try.func36, Try.ntmps36
    go_wp2_with (first | (go_at_call 30; (with_reducible refine (ho1 _).mono ?_); rintro e w1 ⟨v1, rfl, hB1, h1⟩) | (go_at_call 32; (with_reducible refine (hd1 _).mono ?_); rintro e w2 ⟨v2, rfl, hB2, h2⟩) | (go_at_call 51; (with_reducible refine (bless_d _ E1.out (hB1.mono h2) hB2 (by omega) (by omega)).mono ?_); rintro e w3 ⟨rfl, h3⟩))
    go_ret
    exact ⟨rfl, Below_then (Below_then h1 h2 (Nat.le_refl _)) h3 (Nat.le_refl _)⟩
  · go_enter Try.func36, Try.ntmps36
    go_wp2_with (first | (go_at_call 30; (with_reducible refine (ho1 _).mono ?_); rintro e w1 ⟨v1, rfl, hB1, h1⟩) | (go_at_call 32; (with_reducible refine (hd1 _).mono ?_); rintro e w2 ⟨v2, rfl, hB2, h2⟩) | (go_at_call 51; (with_reducible refine (bless_d _ E1.out (hB1.mono h2) hB2 (by omega) (by omega)).mono ?_); rintro e w3 ⟨rfl, h3⟩) | (go_at_call 30; (with_reducible refine (ho2 _).mono ?_); rintro e w4 ⟨v4, rfl, hB4, h4⟩) | (go_at_call 32; (with_reducible refine (hd2 _).mono ?_); rintro e w5 ⟨v5, rfl, hB5, h5⟩) | (go_at_call 51; (with_reducible refine (bless_d _ E2.out (hB4.mono h5) hB5 (by omega) (by omega)).mono ?_); rintro e w6 ⟨rfl, h6⟩))
    go_ret
    exact ⟨rfl, Below_then (Below_then (Below_then (Below_then (Below_then h1 h2 (Nat.le_refl _)) h3 (Nat.le_refl _)) h4 (Nat.le_refl _)) h5 (Nat.le_refl _)) h6 (Nat.le_refl _)⟩
set_option maxRecDepth 20000 in
set_option maxHeartbeats 4000000 in
theorem rinside_any (w : World) (a m b n : Int) (ha : (Lit.int .i64 a).wf = true) (hm : (Lit.int .i64 m).wf = true) (hb : (Lit.int .i64 b).wf = true) (hn : (Lit.int .i64 n).wf = true) :
    Calls Try.prog 38 #[.int .i64 a, .int .i64 m, .int .i64 b, .int .i64 n] w fun e w' => e = .returned (.bool (rinsB a m b n)) ∧ Below w.heap.size w w' := by
  have hd1 := fun w => radd_any w b n hb hn
  have hd2 := fun w => radd_any w a m ha hm
  unfold rinsB
  obtain ⟨d2, e2⟩ : ∃ d, decide (b + n < a + m) = d := ⟨_, rfl⟩
  rw [e2]
  have E2 := Lib.hid e2
  clear e2
  by_cases hge : b ≤ a
  · rw [decide_eq_true hge]
    go_enter Try.func38, Try.ntmps38
    go_wp2_with (first | (go_at_call 32; (with_reducible refine (hd1 _).mono ?_); rintro e w1 ⟨v1, rfl, hB1, h1⟩) | (go_at_call 32; (with_reducible refine (hd2 _).mono ?_); rintro e w2 ⟨v2, rfl, hB2, h2⟩) | (go_at_call 51; (with_reducible refine (bless_d _ E2.out (hB1.mono h2) hB2 (by omega) (by omega)).mono ?_); rintro e w3 ⟨rfl, h3⟩))
    go_ret
    exact ⟨rfl, Below_then (Below_then h1 h2 (Nat.le_refl _)) h3 (Nat.le_refl _)⟩
  · rw [decide_eq_false hge]
    go_enter Try.func38, Try.ntmps38
    go_wp2_with fail
    go_ret
    exact ⟨rfl, Below.refl _ _⟩
theorem rsome_any (r : Q4) (w : World) : Calls Try.prog 35 #[qv r] w fun e w' => e = .returned (.bool (someB r)) ∧ Below w.heap.size w w' := by
  unfold someB
  by_cases h1 : 0 < r.c
  · by_cases h2 : 0 < r.d
    · rw [decide_eq_true h1, decide_eq_true h2]
      go_enter Try.func35, Try.ntmps35
      go_wp2_with fail
      go_ret
      exact ⟨rfl, by (repeat' (first | (with_reducible exact Below.refl _ _) | (with_reducible assumption) | (with_reducible refine Below.alloc ?_ ?_ _) | (with_reducible refine Below.drew ?_) | (with_reducible refine Below_drewN ?_ _) | (with_reducible refine Below.setCell ?_ ?_ _) | go_size))⟩
    · rw [decide_eq_true h1, decide_eq_false h2]
      go_enter Try.func35, Try.ntmps35
      go_wp2_with fail
      go_ret
      exact ⟨rfl, by (repeat' (first | (with_reducible exact Below.refl _ _) | (with_reducible assumption) | (with_reducible refine Below.alloc ?_ ?_ _) | (with_reducible refine Below.drew ?_) | (with_reducible refine Below_drewN ?_ _) | (with_reducible refine Below.setCell ?_ ?_ _) | go_size))⟩
  · rw [decide_eq_false h1]
    go_enter Try.func35, Try.ntmps35
    go_wp2_with fail
    go_ret
    exact ⟨rfl, by (repeat' (first | (with_reducible exact Below.refl _ _) | (with_reducible assumption) | (with_reducible refine Below.alloc ?_ ?_ _) | (with_reducible refine Below.drew ?_) | (with_reducible refine Below_drewN ?_ _) | (with_reducible refine Below.setCell ?_ ?_ _) | go_size))⟩

theorem rmeetB_eq {a m b n : Int} (hm : 0 < m) (hn : 0 < n) : rmeetB a m b n = meetB a m b n := by
  unfold rmeetB meetB
  rw [← Bool.decide_and]
  split <;> (apply decide_eq_decide.2; omega)
theorem rinsB_eq {a m b n : Int} (hm : 0 < m) (hn : 0 < n) : rinsB a m b n = insB a m b n := by
  unfold rinsB insB
  rw [← decide_not, ← Bool.decide_and]
  apply decide_eq_decide.2; omega
set_option maxHeartbeats 1000000 in
theorem rMeet_any (p q : Q4) (hp : p.ok) (hq : q.ok) (w : World) : Calls Try.prog 17 #[qv p, qv q] w fun e w' => e = .returned (.bool (MeetB p q)) ∧ Below w.heap.size w w' := by
  unfold MeetB
  have s1 := fun w => rsome_any p w
  have s2 := fun w => rsome_any q w
  have H1 := Lib.hid (fun h => someB_pos (p := p) h)
  have H2 := Lib.hid (fun h => someB_pos (p := q) h)
  generalize someB p = b1 at *
  generalize someB q = b2 at *
  obtain ⟨⟨a1, a2⟩, ⟨a3, a4⟩, ⟨a5, a6⟩, a7, a8⟩ := hp
  obtain ⟨⟨c1, c2⟩, ⟨c3, c4⟩, ⟨c5, c6⟩, c7, c8⟩ := hq
  obtain ⟨x, y, z, t⟩ := p
  obtain ⟨x', y', z', t'⟩ := q
  simp only [] at *
  unfold qv at *
  have HC := Lib.hid (fun (w' : World) (h : Below ((w.alloc (.cells #[.int .i64 x, .int .i64 y, .int .i64 z, .int .i64 t] 33)).alloc (.cells #[.int .i64 x', .int .i64 y', .int .i64 z', .int .i64 t'] 33)).heap.size ((w.alloc (.cells #[.int .i64 x, .int .i64 y, .int .i64 z, .int .i64 t] 33)).alloc (.cells #[.int .i64 x', .int .i64 y', .int .i64 z', .int .i64 t'] 33)) w') => And.intro (Blk_below (Blk_alloc (Blk_new w 33 #[.int .i64 x, .int .i64 y, .int .i64 z, .int .i64 t]) (.cells #[.int .i64 x', .int .i64 y', .int .i64 z', .int .i64 t'] 33)) h (by simp; omega)) (show Blk w' (w.heap.size + 1) 33 #[.int .i64 x', .int .i64 y', .int .i64 z', .int .i64 t'] from by simpa using Blk_made h))
  cases b1
  · go_enter Try.func17, Try.ntmps17
    go_wp2_with ((go_at_call 35; (with_reducible refine ((s1 _)).mono ?_)); rintro e w1 ⟨rfl, g1⟩)
    go_ret
    exact ⟨rfl, Below_al2 g1⟩
  · have ⟨z1, t1⟩ := H1.out rfl
    cases b2
    · go_enter Try.func17, Try.ntmps17
      go_wp2_with (first | ((go_at_call 35; (with_reducible refine ((s1 _)).mono ?_)); rintro e w1 ⟨rfl, g1⟩; (obtain ⟨hx_, hy_⟩ := HC.out _ g1; have x0_ := Blk_cell hx_ 0; have x1_ := Blk_cell hx_ 1; have x2_ := Blk_cell hx_ 2; have x3_ := Blk_cell hx_ 3; have y0_ := Blk_cell hy_ 0; have y1_ := Blk_cell hy_ 1; have y2_ := Blk_cell hy_ 2; have y3_ := Blk_cell hy_ 3; clear hx_ hy_)) | ((go_at_call 35; (with_reducible refine ((s2 _)).mono ?_)); rintro e w2 ⟨rfl, g2⟩))
      go_ret
      exact ⟨rfl, Below_al2 (Below_same g1 g2)⟩
    · have ⟨z2, t2⟩ := H2.out rfl
      have m1 := fun w => rmeet_any w x z x' z' (i64_wf2 ⟨a1, a2⟩) (i64_wf2 ⟨a5, a6⟩) (i64_wf2 ⟨c1, c2⟩) (i64_wf2 ⟨c5, c6⟩)
      have m2 := fun w => rmeet_any w y t y' t' (i64_wf2 ⟨a3, a4⟩) (i64_wf2 ⟨a7, a8⟩) (i64_wf2 ⟨c3, c4⟩) (i64_wf2 ⟨c7, c8⟩)
      rw [rmeetB_eq z1 z2] at m1
      rw [rmeetB_eq t1 t2] at m2
      generalize meetB x z x' z' = k1 at *
      generalize meetB y t y' t' = k2 at *
      cases k1
      · go_enter Try.func17, Try.ntmps17
        go_wp2_with (first | ((go_at_call 35; (with_reducible refine ((s1 _)).mono ?_)); rintro e w1 ⟨rfl, g1⟩; (obtain ⟨hx_, hy_⟩ := HC.out _ g1; have x0_ := Blk_cell hx_ 0; have x1_ := Blk_cell hx_ 1; have x2_ := Blk_cell hx_ 2; have x3_ := Blk_cell hx_ 3; have y0_ := Blk_cell hy_ 0; have y1_ := Blk_cell hy_ 1; have y2_ := Blk_cell hy_ 2; have y3_ := Blk_cell hy_ 3; clear hx_ hy_)) | ((go_at_call 35; (with_reducible refine ((s2 _)).mono ?_)); rintro e w2 ⟨rfl, g2⟩; (obtain ⟨hx_, hy_⟩ := HC.out _ (Below_same g1 g2); have x0_ := Blk_cell hx_ 0; have x1_ := Blk_cell hx_ 1; have x2_ := Blk_cell hx_ 2; have x3_ := Blk_cell hx_ 3; have y0_ := Blk_cell hy_ 0; have y1_ := Blk_cell hy_ 1; have y2_ := Blk_cell hy_ 2; have y3_ := Blk_cell hy_ 3; clear hx_ hy_)) | ((go_at_call 36; (with_reducible refine (m1 _).mono ?_)); rintro e w3 ⟨rfl, g3⟩; (obtain ⟨hx_, hy_⟩ := HC.out _ (Below_same (Below_same g1 g2) g3); have x0_ := Blk_cell hx_ 0; have x1_ := Blk_cell hx_ 1; have x2_ := Blk_cell hx_ 2; have x3_ := Blk_cell hx_ 3; have y0_ := Blk_cell hy_ 0; have y1_ := Blk_cell hy_ 1; have y2_ := Blk_cell hy_ 2; have y3_ := Blk_cell hy_ 3; clear hx_ hy_)) | ((go_at_call 36; (with_reducible refine (m2 _).mono ?_)); rintro e w4 ⟨rfl, g4⟩))
        go_ret
        exact ⟨rfl, Below_al2 (Below_same (Below_same g1 g2) g3)⟩
      · go_enter Try.func17, Try.ntmps17
        go_wp2_with (first | ((go_at_call 35; (with_reducible refine ((s1 _)).mono ?_)); rintro e w1 ⟨rfl, g1⟩; (obtain ⟨hx_, hy_⟩ := HC.out _ g1; have x0_ := Blk_cell hx_ 0; have x1_ := Blk_cell hx_ 1; have x2_ := Blk_cell hx_ 2; have x3_ := Blk_cell hx_ 3; have y0_ := Blk_cell hy_ 0; have y1_ := Blk_cell hy_ 1; have y2_ := Blk_cell hy_ 2; have y3_ := Blk_cell hy_ 3; clear hx_ hy_)) | ((go_at_call 35; (with_reducible refine ((s2 _)).mono ?_)); rintro e w2 ⟨rfl, g2⟩; (obtain ⟨hx_, hy_⟩ := HC.out _ (Below_same g1 g2); have x0_ := Blk_cell hx_ 0; have x1_ := Blk_cell hx_ 1; have x2_ := Blk_cell hx_ 2; have x3_ := Blk_cell hx_ 3; have y0_ := Blk_cell hy_ 0; have y1_ := Blk_cell hy_ 1; have y2_ := Blk_cell hy_ 2; have y3_ := Blk_cell hy_ 3; clear hx_ hy_)) | ((go_at_call 36; (with_reducible refine (m1 _).mono ?_)); rintro e w3 ⟨rfl, g3⟩; (obtain ⟨hx_, hy_⟩ := HC.out _ (Below_same (Below_same g1 g2) g3); have x0_ := Blk_cell hx_ 0; have x1_ := Blk_cell hx_ 1; have x2_ := Blk_cell hx_ 2; have x3_ := Blk_cell hx_ 3; have y0_ := Blk_cell hy_ 0; have y1_ := Blk_cell hy_ 1; have y2_ := Blk_cell hy_ 2; have y3_ := Blk_cell hy_ 3; clear hx_ hy_)) | ((go_at_call 36; (with_reducible refine (m2 _).mono ?_)); rintro e w4 ⟨rfl, g4⟩))
        go_ret
        exact ⟨rfl, Below_al2 (Below_same (Below_same (Below_same g1 g2) g3) g4)⟩
set_option maxHeartbeats 1000000 in
theorem rInside_any (p q : Q4) (hp : p.ok) (hq : q.ok) (w : World) : Calls Try.prog 19 #[qv p, qv q] w fun e w' => e = .returned (.bool (InB p q)) ∧ Below w.heap.size w w' := by
  unfold InB
  have s1 := fun w => rsome_any p w
  have s2 := fun w => rsome_any q w
  have H1 := Lib.hid (fun h => someB_pos (p := p) h)
  have H2 := Lib.hid (fun h => someB_pos (p := q) h)
  generalize someB p = b1 at *
  generalize someB q = b2 at *
  obtain ⟨⟨a1, a2⟩, ⟨a3, a4⟩, ⟨a5, a6⟩, a7, a8⟩ := hp
  obtain ⟨⟨c1, c2⟩, ⟨c3, c4⟩, ⟨c5, c6⟩, c7, c8⟩ := hq
  obtain ⟨x, y, z, t⟩ := p
  obtain ⟨x', y', z', t'⟩ := q
  simp only [] at *
  unfold qv at *
  have HC := Lib.hid (fun (w' : World) (h : Below ((w.alloc (.cells #[.int .i64 x, .int .i64 y, .int .i64 z, .int .i64 t] 33)).alloc (.cells #[.int .i64 x', .int .i64 y', .int .i64 z', .int .i64 t'] 33)).heap.size ((w.alloc (.cells #[.int .i64 x, .int .i64 y, .int .i64 z, .int .i64 t] 33)).alloc (.cells #[.int .i64 x', .int .i64 y', .int .i64 z', .int .i64 t'] 33)) w') => And.intro (Blk_below (Blk_alloc (Blk_new w 33 #[.int .i64 x, .int .i64 y, .int .i64 z, .int .i64 t]) (.cells #[.int .i64 x', .int .i64 y', .int .i64 z', .int .i64 t'] 33)) h (by simp; omega)) (show Blk w' (w.heap.size + 1) 33 #[.int .i64 x', .int .i64 y', .int .i64 z', .int .i64 t'] from by simpa using Blk_made h))
  cases b1
  · go_enter Try.func19, Try.ntmps19
    go_wp2_with ((go_at_call 35; (with_reducible refine ((s1 _)).mono ?_)); rintro e w1 ⟨rfl, g1⟩)
    go_ret
    exact ⟨rfl, Below_al2 g1⟩
  · have ⟨z1, t1⟩ := H1.out rfl
    cases b2
    · go_enter Try.func19, Try.ntmps19
      go_wp2_with (first | ((go_at_call 35; (with_reducible refine ((s1 _)).mono ?_)); rintro e w1 ⟨rfl, g1⟩; (obtain ⟨hx_, hy_⟩ := HC.out _ g1; have x0_ := Blk_cell hx_ 0; have x1_ := Blk_cell hx_ 1; have x2_ := Blk_cell hx_ 2; have x3_ := Blk_cell hx_ 3; have y0_ := Blk_cell hy_ 0; have y1_ := Blk_cell hy_ 1; have y2_ := Blk_cell hy_ 2; have y3_ := Blk_cell hy_ 3; clear hx_ hy_)) | ((go_at_call 35; (with_reducible refine ((s2 _)).mono ?_)); rintro e w2 ⟨rfl, g2⟩))
      go_ret
      exact ⟨rfl, Below_al2 (Below_same g1 g2)⟩
    · have ⟨z2, t2⟩ := H2.out rfl
      have m1 := fun w => rinside_any w x z x' z' (i64_wf2 ⟨a1, a2⟩) (i64_wf2 ⟨a5, a6⟩) (i64_wf2 ⟨c1, c2⟩) (i64_wf2 ⟨c5, c6⟩)
      have m2 := fun w => rinside_any w y t y' t' (i64_wf2 ⟨a3, a4⟩) (i64_wf2 ⟨a7, a8⟩) (i64_wf2 ⟨c3, c4⟩) (i64_wf2 ⟨c7, c8⟩)
      rw [rinsB_eq z1 z2] at m1
      rw [rinsB_eq t1 t2] at m2
      generalize insB x z x' z' = k1 at *
      generalize insB y t y' t' = k2 at *
      cases k1
      · go_enter Try.func19, Try.ntmps19
        go_wp2_with (first | ((go_at_call 35; (with_reducible refine ((s1 _)).mono ?_)); rintro e w1 ⟨rfl, g1⟩; (obtain ⟨hx_, hy_⟩ := HC.out _ g1; have x0_ := Blk_cell hx_ 0; have x1_ := Blk_cell hx_ 1; have x2_ := Blk_cell hx_ 2; have x3_ := Blk_cell hx_ 3; have y0_ := Blk_cell hy_ 0; have y1_ := Blk_cell hy_ 1; have y2_ := Blk_cell hy_ 2; have y3_ := Blk_cell hy_ 3; clear hx_ hy_)) | ((go_at_call 35; (with_reducible refine ((s2 _)).mono ?_)); rintro e w2 ⟨rfl, g2⟩; (obtain ⟨hx_, hy_⟩ := HC.out _ (Below_same g1 g2); have x0_ := Blk_cell hx_ 0; have x1_ := Blk_cell hx_ 1; have x2_ := Blk_cell hx_ 2; have x3_ := Blk_cell hx_ 3; have y0_ := Blk_cell hy_ 0; have y1_ := Blk_cell hy_ 1; have y2_ := Blk_cell hy_ 2; have y3_ := Blk_cell hy_ 3; clear hx_ hy_)) | ((go_at_call 38; (with_reducible refine (m1 _).mono ?_)); rintro e w3 ⟨rfl, g3⟩; (obtain ⟨hx_, hy_⟩ := HC.out _ (Below_same (Below_same g1 g2) g3); have x0_ := Blk_cell hx_ 0; have x1_ := Blk_cell hx_ 1; have x2_ := Blk_cell hx_ 2; have x3_ := Blk_cell hx_ 3; have y0_ := Blk_cell hy_ 0; have y1_ := Blk_cell hy_ 1; have y2_ := Blk_cell hy_ 2; have y3_ := Blk_cell hy_ 3; clear hx_ hy_)) | ((go_at_call 38; (with_reducible refine (m2 _).mono ?_)); rintro e w4 ⟨rfl, g4⟩))
        go_ret
        exact ⟨rfl, Below_al2 (Below_same (Below_same g1 g2) g3)⟩
      · go_enter Try.func19, Try.ntmps19
        go_wp2_with (first | ((go_at_call 35; (with_reducible refine ((s1 _)).mono ?_)); rintro e w1 ⟨rfl, g1⟩; (obtain ⟨hx_, hy_⟩ := HC.out _ g1; have x0_ := Blk_cell hx_ 0; have x1_ := Blk_cell hx_ 1; have x2_ := Blk_cell hx_ 2; have x3_ := Blk_cell hx_ 3; have y0_ := Blk_cell hy_ 0; have y1_ := Blk_cell hy_ 1; have y2_ := Blk_cell hy_ 2; have y3_ := Blk_cell hy_ 3; clear hx_ hy_)) | ((go_at_call 35; (with_reducible refine ((s2 _)).mono ?_)); rintro e w2 ⟨rfl, g2⟩; (obtain ⟨hx_, hy_⟩ := HC.out _ (Below_same g1 g2); have x0_ := Blk_cell hx_ 0; have x1_ := Blk_cell hx_ 1; have x2_ := Blk_cell hx_ 2; have x3_ := Blk_cell hx_ 3; have y0_ := Blk_cell hy_ 0; have y1_ := Blk_cell hy_ 1; have y2_ := Blk_cell hy_ 2; have y3_ := Blk_cell hy_ 3; clear hx_ hy_)) | ((go_at_call 38; (with_reducible refine (m1 _).mono ?_)); rintro e w3 ⟨rfl, g3⟩; (obtain ⟨hx_, hy_⟩ := HC.out _ (Below_same (Below_same g1 g2) g3); have x0_ := Blk_cell hx_ 0; have x1_ := Blk_cell hx_ 1; have x2_ := Blk_cell hx_ 2; have x3_ := Blk_cell hx_ 3; have y0_ := Blk_cell hy_ 0; have y1_ := Blk_cell hy_ 1; have y2_ := Blk_cell hy_ 2; have y3_ := Blk_cell hy_ 3; clear hx_ hy_)) | ((go_at_call 38; (with_reducible refine (m2 _).mono ?_)); rintro e w4 ⟨rfl, g4⟩))
        go_ret
        exact ⟨rfl, Below_al2 (Below_same (Below_same (Below_same g1 g2) g3) g4)⟩

end Go.Proofs.Ytfhbndfhmphnaaa
