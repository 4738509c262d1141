/-
  Rectangles: some, gap, meet, within, Meet, Inside, less, reach. No condition.
-/
import Derived.Test.YtfhbndfhmphnaaaB
import Derived.Test.YtfhbndfhmphnaaaCom11
import Derived.Test.YtfhbndfhmphnaaaCom4
import Derived.Deep.DeepCutAuto
import Derived.Laws.StructEq
set_option linter.unusedVariables false
set_option linter.unusedSimpArgs false
namespace Go.Proofs.Ytfhbndfhmphnaaa
open Go.RowKit Go.BigFrame

/-- Four numbers: a rectangle (X, Y, W, H), or sides (top, right, bottom, left). -/
structure Q4 where
  a : Int
  b : Int
  c : Int
  d : Int
def Q4.cells (q : Q4) : Array Value := #[.int .i64 q.a, .int .i64 q.b, .int .i64 q.c, .int .i64 q.d]
abbrev qv (q : Q4) : Value := .agg #[.int .i64 q.a, .int .i64 q.b, .int .i64 q.c, .int .i64 q.d]
structure Q4.ok (q : Q4) : Prop where
  a : -9223372036854775808 ≤ q.a ∧ q.a ≤ 9223372036854775807
  b : -9223372036854775808 ≤ q.b ∧ q.b ≤ 9223372036854775807
  c : -9223372036854775808 ≤ q.c ∧ q.c ≤ 9223372036854775807
  d : -9223372036854775808 ≤ q.d ∧ q.d ≤ 9223372036854775807
theorem i64_wf2 {n : Int} (h : -9223372036854775808 ≤ n ∧ n ≤ 9223372036854775807) : (Lit.int .i64 n).wf = true := by
  simp [Lit.wf, IntKind.min, IntKind.max, IntKind.signed, IntKind.bits]
  omega

theorem gap_any (f t : Int) (w : World) : Calls Try.prog 50 #[.int .i64 f, .int .i64 t] w fun e w' => e = .returned (.int .u64 (loW (t - f))) ∧ w = w' := by
  have h : loW (loW t - loW f) = loW (t - f) := by unfold loW; omega
  go_enter Try.func50, Try.ntmps50
  go_wp2_with (simp only [wrap_u])
  go_ret
  exact ⟨by rw [← h]; rfl, rfl⟩
theorem loW_id {x : Int} (h : 0 ≤ x) (h' : x < 18446744073709551616) : loW x = x := by unfold loW; omega

def someB (r : Q4) : Bool := decide (0 < r.c) && decide (0 < r.d)
theorem some_any (r : Q4) (w : World) : Calls Try.prog 33 #[qv r] w fun e w' => e = .returned (.bool (someB r)) ∧ Below w.heap.size w w' := by
  unfold someB
  by_cases h1 : 0 < r.c
  · by_cases h2 : 0 < r.d
    · rw [decide_eq_true h1, decide_eq_true h2]
      go_enter Try.func33, Try.ntmps33
      go_wp2
      go_ret
      exact ⟨rfl, by (repeat' (first | (with_reducible exact Below.refl _ _) | (with_reducible assumption) | (with_reducible refine Below.alloc ?_ ?_ _) | (with_reducible refine Below.drew ?_) | (with_reducible refine Below_drewN ?_ _) | (with_reducible refine Below.setCell ?_ ?_ _) | go_size))⟩
    · rw [decide_eq_true h1, decide_eq_false h2]
      go_enter Try.func33, Try.ntmps33
      go_wp2
      go_ret
      exact ⟨rfl, by (repeat' (first | (with_reducible exact Below.refl _ _) | (with_reducible assumption) | (with_reducible refine Below.alloc ?_ ?_ _) | (with_reducible refine Below.drew ?_) | (with_reducible refine Below_drewN ?_ _) | (with_reducible refine Below.setCell ?_ ?_ _) | go_size))⟩
  · rw [decide_eq_false h1]
    go_enter Try.func33, Try.ntmps33
    go_wp2
    go_ret
    exact ⟨rfl, by (repeat' (first | (with_reducible exact Below.refl _ _) | (with_reducible assumption) | (with_reducible refine Below.alloc ?_ ?_ _) | (with_reducible refine Below.drew ?_) | (with_reducible refine Below_drewN ?_ _) | (with_reducible refine Below.setCell ?_ ?_ _) | go_size))⟩

def meetB (a m b n : Int) : Bool := if a ≤ b then decide (b - a < m) else decide (a - b < n)
def insB (a m b n : Int) : Bool := decide (b ≤ a ∧ m ≤ n ∧ a - b ≤ n - m)
set_option maxHeartbeats 400000 in
theorem smeet_any (a m b n : Int) (w : World) (ha : -9223372036854775808 ≤ a ∧ a ≤ 9223372036854775807) (hb : -9223372036854775808 ≤ b ∧ b ≤ 9223372036854775807) (hm : 0 < m ∧ m ≤ 9223372036854775807) (hn : 0 < n ∧ n ≤ 9223372036854775807) :
    Calls Try.prog 34 #[.int .i64 a, .int .i64 m, .int .i64 b, .int .i64 n] w fun e w' => e = .returned (.bool (meetB a m b n)) ∧ w = w' := by
  unfold meetB
  by_cases h : a ≤ b
  · rw [if_pos h]
    have hg := gap_any a b w
    rw [loW_id (by omega) (by omega)] at hg
    go_enter Try.func34, Try.ntmps34
    go_wp2_with ((go_at_call 50; (with_reducible refine (hg).mono ?_)); rintro e w1 ⟨rfl, rfl⟩)
    go_ret
    exact ⟨rfl, rfl⟩
  · rw [if_neg h]
    have hg := gap_any b a w
    rw [loW_id (by omega) (by omega)] at hg
    go_enter Try.func34, Try.ntmps34
    go_wp2_with ((go_at_call 50; (with_reducible refine (hg).mono ?_)); rintro e w1 ⟨rfl, rfl⟩)
    go_ret
    exact ⟨rfl, rfl⟩
set_option maxHeartbeats 400000 in
theorem within_any (a m b n : Int) (w : World) (ha : -9223372036854775808 ≤ a ∧ a ≤ 9223372036854775807) (hb : -9223372036854775808 ≤ b ∧ b ≤ 9223372036854775807) (hm : 0 < m ∧ m ≤ 9223372036854775807) (hn : 0 < n ∧ n ≤ 9223372036854775807) :
    Calls Try.prog 37 #[.int .i64 a, .int .i64 m, .int .i64 b, .int .i64 n] w fun e w' => e = .returned (.bool (insB a m b n)) ∧ w = w' := by
  unfold insB
  by_cases h1 : b ≤ a
  · by_cases h2 : m ≤ n
    · have hg := gap_any b a w
      rw [loW_id (by omega) (by omega)] at hg
      have e : decide (b ≤ a ∧ m ≤ n ∧ a - b ≤ n - m) = decide (a - b ≤ n - m) := by simp [h1, h2]
      rw [e]
      go_enter Try.func37, Try.ntmps37
      go_wp2_with ((go_at_call 50; (with_reducible refine (hg).mono ?_)); rintro e w1 ⟨rfl, rfl⟩)
      go_ret
      exact ⟨rfl, rfl⟩
    · rw [decide_eq_false (by omega)]
      go_enter Try.func37, Try.ntmps37
      go_wp2_with fail
      go_ret
      exact ⟨rfl, rfl⟩
  · rw [decide_eq_false (by omega)]
    go_enter Try.func37, Try.ntmps37
    go_wp2_with fail
    go_ret
    exact ⟨rfl, rfl⟩

def MeetB (p q : Q4) : Bool := someB p && someB q && meetB p.a p.c q.a q.c && meetB p.b p.d q.b q.d
def InB (p q : Q4) : Bool := !someB p || (someB q && insB p.a p.c q.a q.c && insB p.b p.d q.b q.d)
theorem someB_pos {p : Q4} (h : someB p = true) : 0 < p.c ∧ 0 < p.d := by simpa [someB] using h
set_option maxHeartbeats 1000000 in
theorem Meet_any (p q : Q4) (hp : p.ok) (hq : q.ok) (w : World) : Calls Try.prog 16 #[qv p, qv q] w fun e w' => e = .returned (.bool (MeetB p q)) ∧ Below w.heap.size w w' := by
  unfold MeetB
  have s1 := fun w => some_any p w
  have s2 := fun w => some_any q w
  have H1 := Lib.hid (fun h => someB_pos (p := p) h)
  have H2 := Lib.hid (fun h => someB_pos (p := q) h)
  generalize someB p = b1 at *
  generalize someB q = b2 at *
  obtain ⟨⟨a1, a2⟩, ⟨a3, a4⟩, ⟨a5, a6⟩, a7, a8⟩ := hp
  obtain ⟨⟨c1, c2⟩, ⟨c3, c4⟩, ⟨c5, c6⟩, c7, c8⟩ := hq
  obtain ⟨x, y, z, t⟩ := p
  obtain ⟨x', y', z', t'⟩ := q
  simp only [] at *
  unfold qv at *
  have HC := Lib.hid (fun (w' : World) (h : Below ((w.alloc (.cells #[.int .i64 x, .int .i64 y, .int .i64 z, .int .i64 t] 33)).alloc (.cells #[.int .i64 x', .int .i64 y', .int .i64 z', .int .i64 t'] 33)).heap.size ((w.alloc (.cells #[.int .i64 x, .int .i64 y, .int .i64 z, .int .i64 t] 33)).alloc (.cells #[.int .i64 x', .int .i64 y', .int .i64 z', .int .i64 t'] 33)) w') => And.intro (Blk_below (Blk_alloc (Blk_new w 33 #[.int .i64 x, .int .i64 y, .int .i64 z, .int .i64 t]) (.cells #[.int .i64 x', .int .i64 y', .int .i64 z', .int .i64 t'] 33)) h (by simp; omega)) (show Blk w' (w.heap.size + 1) 33 #[.int .i64 x', .int .i64 y', .int .i64 z', .int .i64 t'] from by simpa using Blk_made h))
  cases b1
  · go_enter Try.func16, Try.ntmps16
    go_wp2_with ((go_at_call 33; (with_reducible refine ((s1 _)).mono ?_)); rintro e w1 ⟨rfl, g1⟩)
    go_ret
    exact ⟨rfl, Below_al2 g1⟩
  · have ⟨z1, t1⟩ := H1.out rfl
    cases b2
    · go_enter Try.func16, Try.ntmps16
      go_wp2_with (first | ((go_at_call 33; (with_reducible refine ((s1 _)).mono ?_)); rintro e w1 ⟨rfl, g1⟩; (obtain ⟨hx_, hy_⟩ := HC.out _ g1; have x0_ := Blk_cell hx_ 0; have x1_ := Blk_cell hx_ 1; have x2_ := Blk_cell hx_ 2; have x3_ := Blk_cell hx_ 3; have y0_ := Blk_cell hy_ 0; have y1_ := Blk_cell hy_ 1; have y2_ := Blk_cell hy_ 2; have y3_ := Blk_cell hy_ 3; clear hx_ hy_)) | ((go_at_call 33; (with_reducible refine ((s2 _)).mono ?_)); rintro e w2 ⟨rfl, g2⟩))
      go_ret
      exact ⟨rfl, Below_al2 (Below_same g1 g2)⟩
    · have ⟨z2, t2⟩ := H2.out rfl
      have m1 := fun w => smeet_any x z x' z' w ⟨a1, a2⟩ ⟨c1, c2⟩ ⟨z1, a6⟩ ⟨z2, c6⟩
      have m2 := fun w => smeet_any y t y' t' w ⟨a3, a4⟩ ⟨c3, c4⟩ ⟨t1, a8⟩ ⟨t2, c8⟩
      generalize meetB x z x' z' = k1 at *
      generalize meetB y t y' t' = k2 at *
      cases k1
      all_goals
        go_enter Try.func16, Try.ntmps16
        go_wp2_with (first | ((go_at_call 33; (with_reducible refine ((s1 _)).mono ?_)); rintro e w1 ⟨rfl, g1⟩; (obtain ⟨hx_, hy_⟩ := HC.out _ g1; have x0_ := Blk_cell hx_ 0; have x1_ := Blk_cell hx_ 1; have x2_ := Blk_cell hx_ 2; have x3_ := Blk_cell hx_ 3; have y0_ := Blk_cell hy_ 0; have y1_ := Blk_cell hy_ 1; have y2_ := Blk_cell hy_ 2; have y3_ := Blk_cell hy_ 3; clear hx_ hy_)) | ((go_at_call 33; (with_reducible refine ((s2 _)).mono ?_)); rintro e w2 ⟨rfl, g2⟩; (obtain ⟨hx_, hy_⟩ := HC.out _ (Below_same g1 g2); have x0_ := Blk_cell hx_ 0; have x1_ := Blk_cell hx_ 1; have x2_ := Blk_cell hx_ 2; have x3_ := Blk_cell hx_ 3; have y0_ := Blk_cell hy_ 0; have y1_ := Blk_cell hy_ 1; have y2_ := Blk_cell hy_ 2; have y3_ := Blk_cell hy_ 3; clear hx_ hy_)) | ((go_at_call 34; (with_reducible refine (m1 _).mono ?_)); rintro e w3 ⟨rfl, hq⟩; subst hq) | ((go_at_call 34; (with_reducible refine (m2 _).mono ?_)); rintro e w4 ⟨rfl, hq⟩; subst hq))
        go_ret
        exact ⟨rfl, Below_al2 (Below_same g1 g2)⟩
set_option maxHeartbeats 1000000 in
theorem Inside_any (p q : Q4) (hp : p.ok) (hq : q.ok) (w : World) : Calls Try.prog 18 #[qv p, qv q] w fun e w' => e = .returned (.bool (InB p q)) ∧ Below w.heap.size w w' := by
  unfold InB
  have s1 := fun w => some_any p w
  have s2 := fun w => some_any q w
  have H1 := Lib.hid (fun h => someB_pos (p := p) h)
  have H2 := Lib.hid (fun h => someB_pos (p := q) h)
  generalize someB p = b1 at *
  generalize someB q = b2 at *
  obtain ⟨⟨a1, a2⟩, ⟨a3, a4⟩, ⟨a5, a6⟩, a7, a8⟩ := hp
  obtain ⟨⟨c1, c2⟩, ⟨c3, c4⟩, ⟨c5, c6⟩, c7, c8⟩ := hq
  obtain ⟨x, y, z, t⟩ := p
  obtain ⟨x', y', z', t'⟩ := q
  simp only [] at *
  unfold qv at *
  have HC := Lib.hid (fun (w' : World) (h : Below ((w.alloc (.cells #[.int .i64 x, .int .i64 y, .int .i64 z, .int .i64 t] 33)).alloc (.cells #[.int .i64 x', .int .i64 y', .int .i64 z', .int .i64 t'] 33)).heap.size ((w.alloc (.cells #[.int .i64 x, .int .i64 y, .int .i64 z, .int .i64 t] 33)).alloc (.cells #[.int .i64 x', .int .i64 y', .int .i64 z', .int .i64 t'] 33)) w') => And.intro (Blk_below (Blk_alloc (Blk_new w 33 #[.int .i64 x, .int .i64 y, .int .i64 z, .int .i64 t]) (.cells #[.int .i64 x', .int .i64 y', .int .i64 z', .int .i64 t'] 33)) h (by simp; omega)) (show Blk w' (w.heap.size + 1) 33 #[.int .i64 x', .int .i64 y', .int .i64 z', .int .i64 t'] from by simpa using Blk_made h))
  cases b1
  · go_enter Try.func18, Try.ntmps18
    go_wp2_with ((go_at_call 33; (with_reducible refine ((s1 _)).mono ?_)); rintro e w1 ⟨rfl, g1⟩)
    go_ret
    exact ⟨rfl, Below_al2 g1⟩
  · have ⟨z1, t1⟩ := H1.out rfl
    cases b2
    · go_enter Try.func18, Try.ntmps18
      go_wp2_with (first | ((go_at_call 33; (with_reducible refine ((s1 _)).mono ?_)); rintro e w1 ⟨rfl, g1⟩; (obtain ⟨hx_, hy_⟩ := HC.out _ g1; have x0_ := Blk_cell hx_ 0; have x1_ := Blk_cell hx_ 1; have x2_ := Blk_cell hx_ 2; have x3_ := Blk_cell hx_ 3; have y0_ := Blk_cell hy_ 0; have y1_ := Blk_cell hy_ 1; have y2_ := Blk_cell hy_ 2; have y3_ := Blk_cell hy_ 3; clear hx_ hy_)) | ((go_at_call 33; (with_reducible refine ((s2 _)).mono ?_)); rintro e w2 ⟨rfl, g2⟩))
      go_ret
      exact ⟨rfl, Below_al2 (Below_same g1 g2)⟩
    · have ⟨z2, t2⟩ := H2.out rfl
      have m1 := fun w => within_any x z x' z' w ⟨a1, a2⟩ ⟨c1, c2⟩ ⟨z1, a6⟩ ⟨z2, c6⟩
      have m2 := fun w => within_any y t y' t' w ⟨a3, a4⟩ ⟨c3, c4⟩ ⟨t1, a8⟩ ⟨t2, c8⟩
      generalize insB x z x' z' = k1 at *
      generalize insB y t y' t' = k2 at *
      cases k1
      all_goals
        go_enter Try.func18, Try.ntmps18
        go_wp2_with (first | ((go_at_call 33; (with_reducible refine ((s1 _)).mono ?_)); rintro e w1 ⟨rfl, g1⟩; (obtain ⟨hx_, hy_⟩ := HC.out _ g1; have x0_ := Blk_cell hx_ 0; have x1_ := Blk_cell hx_ 1; have x2_ := Blk_cell hx_ 2; have x3_ := Blk_cell hx_ 3; have y0_ := Blk_cell hy_ 0; have y1_ := Blk_cell hy_ 1; have y2_ := Blk_cell hy_ 2; have y3_ := Blk_cell hy_ 3; clear hx_ hy_)) | ((go_at_call 33; (with_reducible refine ((s2 _)).mono ?_)); rintro e w2 ⟨rfl, g2⟩; (obtain ⟨hx_, hy_⟩ := HC.out _ (Below_same g1 g2); have x0_ := Blk_cell hx_ 0; have x1_ := Blk_cell hx_ 1; have x2_ := Blk_cell hx_ 2; have x3_ := Blk_cell hx_ 3; have y0_ := Blk_cell hy_ 0; have y1_ := Blk_cell hy_ 1; have y2_ := Blk_cell hy_ 2; have y3_ := Blk_cell hy_ 3; clear hx_ hy_)) | ((go_at_call 37; (with_reducible refine (m1 _).mono ?_)); rintro e w3 ⟨rfl, hq⟩; subst hq) | ((go_at_call 37; (with_reducible refine (m2 _).mono ?_)); rintro e w4 ⟨rfl, hq⟩; subst hq))
        go_ret
        exact ⟨rfl, Below_al2 (Below_same g1 g2)⟩

/-! ### A number less another one; how far a stretch goes -/
theorem Ints3 (w : World) (t : TypeId) (a b c : Int) : Ints .i64 (w.alloc (.cells #[.int .i64 a, .int .i64 b, .int .i64 c] t)) (some ⟨w.heap.size, 0, none⟩) 3 [a, b, c] := by
  have h := Blk_new w t #[.int .i64 a, .int .i64 b, .int .i64 c]
  exact Ints.of_blk (t := t) (l := [a, b, c]) (by simpa using h)
theorem Ints2 (w : World) (t : TypeId) (a b : Int) : Ints .i64 (w.alloc (.cells #[.int .i64 a, .int .i64 b] t)) (some ⟨w.heap.size, 0, none⟩) 2 [a, b] := by
  have h := Blk_new w t #[.int .i64 a, .int .i64 b]
  exact Ints.of_blk (t := t) (l := [a, b]) (by simpa using h)
theorem sum3_any (w : World) (a b c : Int) (ha : (Lit.int .i64 a).wf = true) (hb : (Lit.int .i64 b).wf = true) (hc : (Lit.int .i64 c).wf = true) :
    Calls Try.prog 25 #[.slice (some ⟨w.heap.size, 0, none⟩) 3 3] (w.alloc (.cells #[.int .i64 a, .int .i64 b, .int .i64 c] 2)) fun e w' => e = .returned (.tuple #[.int .i64 (cutV (a + b + c)), .bool (cutB (a + b + c))]) ∧ Below w.heap.size w w' := by
  have h := sum_any (c := 3) _ (Ints3 w 2 a b c) (by intro x hx; simp at hx; rcases hx with rfl | rfl | rfl <;> assumption) (by omega)
  rw [show [a, b, c].sum = a + b + c by simp [Int.add_assoc]] at h
  exact h.mono fun e w' ⟨h1, h2⟩ => ⟨h1, Below_al h2⟩
theorem sum2_any (w : World) (a b : Int) (ha : (Lit.int .i64 a).wf = true) (hb : (Lit.int .i64 b).wf = true) :
    Calls Try.prog 25 #[.slice (some ⟨w.heap.size, 0, none⟩) 2 2] (w.alloc (.cells #[.int .i64 a, .int .i64 b] 2)) fun e w' => e = .returned (.tuple #[.int .i64 (cutV (a + b)), .bool (cutB (a + b))]) ∧ Below w.heap.size w w' := by
  have h := sum_any (c := 2) _ (Ints2 w 2 a b) (by intro x hx; simp at hx; rcases hx with rfl | rfl <;> assumption) (by omega)
  rw [show [a, b].sum = a + b by simp] at h
  exact h.mono fun e w' ⟨h1, h2⟩ => ⟨h1, Below_al h2⟩
set_option maxHeartbeats 400000 in
theorem less_from_any (x by_ : Int) (w : World) (hx : -9223372036854775808 ≤ x ∧ x ≤ 9223372036854775807) (hb : -9223372036854775808 ≤ by_ ∧ by_ ≤ 9223372036854775807) :
    Calls Try.prog 27 #[.int .i64 x, .int .i64 by_] w fun e w' => e = .returned (.tuple #[.int .i64 (cutV (x - by_)), .bool (cutB (x - by_))]) ∧ Below w.heap.size w w' := by
  by_cases h : by_ = -9223372036854775808
  · subst h
    have hs := sum3_any w x 9223372036854775807 1 (i64_wf2 hx) (by decide) (by decide)
    rw [show x + 9223372036854775807 + 1 = x - -9223372036854775808 by omega] at hs
    go_enter Try.func27, Try.ntmps27
    go_wp2_with ((go_at_call 25; (with_reducible refine (hs).mono ?_)); rintro e w1 ⟨rfl, g1⟩)
    go_ret2
    exact ⟨rfl, g1⟩
  · have hs := sum2_any w x (-by_) (i64_wf2 hx) (i64_wf2 (by omega))
    rw [show x + -by_ = x - by_ by omega] at hs
    go_enter Try.func27, Try.ntmps27
    go_wp2_with ((go_at_call 25; (with_reducible refine (hs).mono ?_)); rintro e w1 ⟨rfl, g1⟩)
    go_ret2
    exact ⟨rfl, g1⟩
set_option maxHeartbeats 400000 in
theorem reach_any (f a s : Int) (w : World) (hf : -9223372036854775808 ≤ f) (hfa : f ≤ a) (ha : a ≤ 9223372036854775807) (hs : 0 < s ∧ s ≤ 9223372036854775807) :
    Calls Try.prog 39 #[.int .i64 f, .int .i64 a, .int .i64 s] w fun e w' => e = .returned (.tuple #[.int .i64 (cutV (a - f + s)), .bool (cutB (a - f + s))]) ∧ Below w.heap.size w w' := by
  have hg := gap_any f a w
  rw [loW_id (by omega) (by omega)] at hg
  obtain ⟨n, hn⟩ : ∃ n, a - f = n := ⟨_, rfl⟩
  rw [hn] at hg ⊢
  have hn0 : 0 ≤ n := by omega
  have hn1 : n < 18446744073709551616 := by omega
  clear hn
  by_cases h : 1099511627776 < n
  · have hr := And.intro (cutV_hi (x := n + s) (by omega)) (cutB_hi (s := n + s) (by omega))
    have HR := Lib.hid hr
    clear hr
    go_enter Try.func39, Try.ntmps39
    go_wp2_with ((go_at_call 50; (with_reducible refine (hg).mono ?_)); rintro e w1 ⟨rfl, rfl⟩)
    go_ret2
    exact ⟨by rw [HR.out.1, HR.out.2]; rfl, Below.refl _ _⟩
  · have hs := sum2_any w n s (i64_wf2 (by omega)) (i64_wf2 (by omega))
    go_enter Try.func39, Try.ntmps39
    go_wp2_with (first | ((go_at_call 50; (with_reducible refine (hg).mono ?_)); rintro e w1 ⟨rfl, rfl⟩) | ((go_at_call 25; (with_reducible refine (hs).mono ?_)); rintro e w2 ⟨rfl, g2⟩))
    go_ret2
    exact ⟨rfl, g2⟩
end Go.Proofs.Ytfhbndfhmphnaaa
