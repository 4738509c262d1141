import Derived.Test.YtappccoomljiaaaC
namespace Go.Proofs.Ytappccoomljiaaa
open Go.RowKit

set_option maxHeartbeats 400000 in
theorem works_any (w : World) : Calls Try.prog 9 #[] w fun e w' => e = .returned (.bool true) ∧ Below w.heap.size w w' := by
  have j1 : fo [0, 0, 10] = (10, 0) := by decide
  have j2 : fo [10, 0, -8] = (10, -8) := by decide
  have j3 : fo [10, -8, 25] = (25, -8) := by decide
  have J1 := Lib.hid j1
  have J2 := Lib.hid j2
  have J3 := Lib.hid j3
  clear j1 j2 j3
  go_enter Try.func9, Try.ntmps9
  go_wp2_with fail
  refine (join_any (0, 0) 10 w).mono ?_
  rw [show fo [((0, 0) : Int × Int).1, ((0, 0) : Int × Int).2, 10] = (10, 0) from J1.out]
  rintro e w1 ⟨rfl, h1⟩
  go_wp2_with fail
  refine (join_any (10, 0) (-8) w1).mono ?_
  rw [show fo [((10, 0) : Int × Int).1, ((10, 0) : Int × Int).2, -8] = (10, -8) from J2.out]
  rintro e w2 ⟨rfl, h2⟩
  go_wp2_with fail
  refine (join_any (10, -8) 25 w2).mono ?_
  rw [show fo [((10, -8) : Int × Int).1, ((10, -8) : Int × Int).2, 25] = (25, -8) from J3.out]
  rintro e w3 ⟨rfl, h3⟩
  have hb : Below w.heap.size w w3 := (h1.trans (h2.mono h1.size)).trans (h3.mono (Nat.le_trans h1.size h2.size))
  clear h1 h2 h3
  go_wp2_with fail
  refine (sum_any (25, -8) 17 (by simp [wrap64]) _).mono ?_
  rintro e w4 ⟨rfl, h4⟩
  go_wp2_with fail
  refine (sum_any (0, 0) 0 (by simp [wrap64]) _).mono ?_
  rintro e w5 ⟨rfl, h5⟩
  go_wp2_with fail
  go_ret
  exact ⟨rfl, (hb.trans ((Below.refl _ _).alloc (Nat.le_refl _) _ |>.trans (h4.mono (by simp)) |>.trans (h5.mono (by have := h4.size; simp at this; omega)) |>.mono hb.size))⟩

end Go.Proofs.Ytappccoomljiaaa
