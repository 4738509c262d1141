import Derived.Test.YtappccoomljiaaaC
namespace Go.Proofs.Ytappccoomljiaaa
open Go.RowKit

set_option maxHeartbeats 400000 in
theorem works_any (w : World) : Calls Try.prog 9 #[] w fun e w' => e = .returned (.bool true) ∧ Below w.heap.size w w' := by
  have j1 : fo [0, 0, 10] = (10, 0) := by decide
  have j2 : fo [10, 0, -8] = (10, -8) := by decide
  have j3 : fo [10, -8, 25] = (25, -8) := by decide
  have J1 := Lib.hid j1
  have J2 := Lib.hid j2
  have J3 := Lib.hid j3
  clear j1 j2 j3
  go_enter Try.func9, Try.ntmps9
  go_wp2_with fail
  refine (join_any (0, 0) 10 w).mono ?_
  rw [show fo [((0, 0) : Int × Int).1, ((0, 0) : Int × Int).2, 10] = (10, 0) from J1.out]
  rintro e w1 ⟨rfl, h1⟩
  go_wp2_with fail
  refine (join_any (10, 0) (-8) w1).mono ?_
  rw [show fo [((10, 0) : Int × Int).1, ((10, 0) : Int × Int).2, -8] = (10, -8) from J2.out]
  rintro e w2 ⟨rfl, h2⟩
  go_wp2_with fail
  refine (join_any (10, -8) 25 w2).mono ?_
  rw [show fo [((10, -8) : Int × Int).1, ((10, -8) : Int × Int).2, 25] = (25, -8) from J3.out]
  rintro e w3 ⟨rfl, h3⟩
  have hb : Below w.heap.size w w3 := (h1.trans (h2.mono h1.size)).trans (h3.mono (Nat.le_trans h1.size h2.size))
  clear h1 h2 h3
  go_wp2_with fail
  refine (sum_any (25, -8) 17 (by simp [wrap64]) _).mono ?_
  rintro e w4 ⟨rfl, h4⟩
  go_wp2_with fail
  refine (sum_any (0, 0) 0 (by simp [wrap64]) _).mono ?_
  rintro e w5 ⟨rfl, h5⟩
  go_wp2_with fail
  go_ret
  exact ⟨rfl, (hb.trans ((Below.refl _ _).alloc (Nat.le_refl _) _ |>.trans (h4.mono (by simp)) |>.trans (h5.mono (by have := h4.size; simp at this; omega)) |>.mono hb.size))⟩

theorem fo2 (m n : Int) : fo [m, n] = (max (max 0 m) n, min (min 0 m) n) := rfl
theorem fo4 (m n : Int) : fo [m, 0, n, 0] = fo [m, n] := by
  rw [fo2]
  show (max (max (max (max 0 m) 0) n) 0, min (min (min (min 0 m) 0) n) 0) = _
  ext <;> simp <;> omega

theorem cells2 {w : World} {b : Nat} {x y : Int} (h : Blk w b 2 #[.int .i64 x, .int .i64 y]) : ∀ k, k < 2 → w.cell? ⟨b, 0 + k, none⟩ = some (.int .i64 ([x, y].getD k 0)) := by
  intro k hk
  rw [Nat.zero_add, Blk_cell h k]
  match k, hk with
  | 0, _ => rfl
  | 1, _ => rfl

def SignCase (m n s : Int) : Prop :=
  (0 ≤ m ∧ 0 ≤ n ∧ m < n ∧ n = s) ∨ (0 ≤ m ∧ 0 ≤ n ∧ n ≤ m ∧ m = s) ∨ (m < 0 ∧ n ≤ 0 ∧ m < n ∧ m = s) ∨ (m < 0 ∧ n ≤ 0 ∧ n ≤ m ∧ n = s) ∨
  (0 ≤ m ∧ m ≤ 0 ∧ n < 0 ∧ n = s) ∨ (m < 0 ∧ 0 < n ∧ m + n = s) ∨ (0 < m ∧ n < 0 ∧ m + n = s)
theorem sign_case (m n : Int) : SignCase m n ((fo [m, n]).1 + (fo [m, n]).2) := by
  rw [fo2]; unfold SignCase; simp only []
  omega

set_option maxHeartbeats 1000000 in
theorem signs_any (m n s : Int) (w : World) (hm1 : -9223372036854775808 ≤ m) (hm2 : m ≤ 9223372036854775807) (hn1 : -9223372036854775808 ≤ n) (hn2 : n ≤ 9223372036854775807)
   (hs : wrap64 ((fo [m, n]).1 + (fo [m, n]).2) = s) (hc : SignCase m n s) :
    Calls Try.prog 3 #[.int .i64 m, .int .i64 n] w fun e w' => e = .returned (.bool true) ∧ Below w.heap.size w w' := by
  have HS := Lib.hid hs
  have h4 := fo4 m n
  have HF := Lib.hid h4
  clear hs h4
  unfold SignCase at hc
  rcases hc with ⟨g1, g2, g3, rfl⟩ | ⟨g1, g2, g3, rfl⟩ | ⟨g1, g2, g3, rfl⟩ | ⟨g1, g2, g3, rfl⟩ | ⟨g1, g2, g3, rfl⟩ | ⟨g1, g2, rfl⟩ | ⟨g1, g2, rfl⟩
  all_goals
    go_enter Try.func3, Try.ntmps3
    go_wp2_with fail
    have c3 := Blk_new w 2 #[.int .i64 m, .int .i64 n]
    refine (joined_any [m, n] w.heap.size 0 2 _ (cells2 c3) (by simp) (by simp)).mono ?_
    clear c3
    rintro e w1 ⟨rfl, h1⟩
    have b1 : Below w.heap.size w w1 := ((Below.refl _ _).alloc (Nat.le_refl _) _).trans (h1.mono (by simp))
    clear h1
    go_wp2_with fail
    refine (sum_any (fo [m, n]) _ HS.out _).mono ?_
    rintro e w2 ⟨rfl, h2⟩
    have b2 := b1.trans (h2.mono b1.size)
    clear h2 b1
    go_wp2_with fail
    have c4 := Blk_new w2 2 #[.int .i64 m, .int .i64 0, .int .i64 n, .int .i64 0]
    refine (joined_any [m, 0, n, 0] w2.heap.size 0 4 _ (cells4 c4) (by simp) (by simp)).mono ?_
    rw [HF.out]
    clear c4
    rintro e w3 ⟨rfl, h3⟩
    have b3 : Below w.heap.size w w3 := (b2.alloc b2.size _).trans (h3.mono (by have := b2.size; simp; omega))
    clear h3 b2
    go_wp2_with fail
    refine (sum_any (fo [m, n]) _ HS.out _).mono ?_
    rintro e w4 ⟨rfl, h4⟩
    have b4 := b3.trans (h4.mono b3.size)
    clear h4 b3
    go_wp2_with (go_at_call 9; refine (works_any _).mono ?_; rintro e w5 ⟨rfl, h5⟩)
    all_goals
      go_ret
      exact ⟨rfl, b4.trans (h5.mono b4.size)⟩

end Go.Proofs.Ytappccoomljiaaa
