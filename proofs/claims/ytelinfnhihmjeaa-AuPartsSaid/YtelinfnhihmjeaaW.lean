/-
  The anchor of chapter 1. No condition.
-/
import Derived.Test.YtelinfnhihmjeaaF
set_option linter.unusedVariables false
set_option linter.unusedSimpArgs false
namespace Go.Proofs.Ytelinfnhihmjeaa
open Go.RowKit Go.BigFrame

theorem Ints3 (w : World) (t : TypeId) (a b c : Int) : Ints .i64 (w.alloc (.cells #[.int .i64 a, .int .i64 b, .int .i64 c] t)) (some ⟨w.heap.size, 0, none⟩) 3 [a, b, c] := by
  have h := Blk_new w t #[.int .i64 a, .int .i64 b, .int .i64 c]
  exact Ints.of_blk (t := t) (l := [a, b, c]) (by simpa using h)
set_option maxRecDepth 100000 in
set_option maxHeartbeats 1000000 in
theorem works_any (w : World) : Calls Try.prog 15 #[] w fun e w' => e = .returned (.bool true) ∧ Below w.heap.size w w' := by
  have c1 := cut_any 1099511627777 w
  rw [show cutV 1099511627777 = 1099511627776 by decide, show cutB 1099511627777 = true by decide] at c1
  have s1 := sum_any (w.alloc (.cells #[.int .i64 1, .int .i64 2, .int .i64 (-4)] 2)) (c := 3) (Ints3 w 2 1 2 (-4)) (by decide) (by decide)
  rw [show cutV ([1, 2, -4] : List Int).sum = -1 by decide, show cutB ([1, 2, -4] : List Int).sum = false by decide] at s1
  have m1 := fun w => muldiv_any (-7) 3 2 w (by decide) (by decide) (by decide) (by decide)
  rw [show cutV (fl (-7 * 3) 2) = -11 by decide, show cutB (fl (-7 * 3) 2) = false by decide] at m1
  have p1 := fun w => part_any 600 3333 w (by decide) (by decide)
  rw [show cutV (fl (600 * 3333) 10000) = 199 by decide, show cutB (fl (600 * 3333) 10000) = false by decide] at p1
  have w1 := fun w => within_any 5 4 3 w
  rw [show max (min 5 3) 4 = (4 : Int) by decide] at w1
  go_enter Try.func15, Try.ntmps15
  go_wp2_with fail
  refine c1.mono ?_
  rintro e wa ⟨rfl, rfl⟩
  go_wp2_with fail
  refine s1.mono ?_
  rintro e w2 ⟨rfl, h2⟩
  go_wp2_with fail
  refine (m1 _).mono ?_
  rintro e w3 ⟨rfl, h3⟩
  go_wp2_with fail
  refine (p1 _).mono ?_
  rintro e w4 ⟨rfl, h4⟩
  have hb := Below_same (Below_same (Below_al h2) h3) h4
  go_wp2_with fail
  refine (w1 _).mono ?_
  rintro e w5 ⟨rfl, rfl⟩
  go_wp2_with fail
  go_ret
  exact ⟨rfl, hb⟩
end Go.Proofs.Ytelinfnhihmjeaa
