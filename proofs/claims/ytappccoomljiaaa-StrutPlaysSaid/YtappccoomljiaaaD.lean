import Derived.Test.YtappccoomljiaaaW
namespace Go.Proofs.Ytappccoomljiaaa
open Go.RowKit

theorem fo2 (m n : Int) : fo [m, n] = (max (max 0 m) n, min (min 0 m) n) := rfl
theorem fo4 (m n : Int) : fo [m, 0, n, 0] = fo [m, n] := by
  rw [fo2]
  show (max (max (max (max 0 m) 0) n) 0, min (min (min (min 0 m) 0) n) 0) = _
  ext <;> simp <;> omega

def SignCase (m n s : Int) : Prop :=
  (0 ≤ m ∧ 0 ≤ n ∧ m < n ∧ n = s) ∨ (0 ≤ m ∧ 0 ≤ n ∧ n ≤ m ∧ m = s) ∨ (m < 0 ∧ n ≤ 0 ∧ m < n ∧ m = s) ∨ (m < 0 ∧ n ≤ 0 ∧ n ≤ m ∧ n = s) ∨
  (0 ≤ m ∧ m ≤ 0 ∧ n < 0 ∧ n = s) ∨ (m < 0 ∧ 0 < n ∧ m + n = s) ∨ (0 < m ∧ n < 0 ∧ m + n = s)
theorem sign_case (m n : Int) : SignCase m n ((fo [m, n]).1 + (fo [m, n]).2) := by
  rw [fo2]; unfold SignCase; simp only []
  omega

set_option maxHeartbeats 1000000 in
theorem signs_any (m n s : Int) (w : World) (hm1 : -9223372036854775808 ≤ m) (hm2 : m ≤ 9223372036854775807) (hn1 : -9223372036854775808 ≤ n) (hn2 : n ≤ 9223372036854775807)
   (hs : wrap64 ((fo [m, n]).1 + (fo [m, n]).2) = s) (hc : SignCase m n s) :
    Calls Try.prog 3 #[.int .i64 m, .int .i64 n] w fun e w' => e = .returned (.bool true) ∧ Below w.heap.size w w' := by
  have HS := Lib.hid hs
  have h4 := fo4 m n
  have HF := Lib.hid h4
  clear hs h4
  unfold SignCase at hc
  rcases hc with ⟨g1, g2, g3, rfl⟩ | ⟨g1, g2, g3, rfl⟩ | ⟨g1, g2, g3, rfl⟩ | ⟨g1, g2, g3, rfl⟩ | ⟨g1, g2, g3, rfl⟩ | ⟨g1, g2, rfl⟩ | ⟨g1, g2, rfl⟩
  all_goals
    go_enter Try.func3, Try.ntmps3
    go_wp2_with fail
    have c3 := Blk_new w 2 #[.int .i64 m, .int .i64 n]
    refine (joined_any [m, n] _ 2 _ (Ints.of_blk c3) (by simp)).mono ?_
    clear c3
    rintro e w1 ⟨rfl, h1⟩
    have b1 : Below w.heap.size w w1 := ((Below.refl _ _).alloc (Nat.le_refl _) _).trans (h1.mono (by simp))
    clear h1
    go_wp2_with fail
    refine (sum_any (fo [m, n]) _ HS.out _).mono ?_
    rintro e w2 ⟨rfl, h2⟩
    have b2 := b1.trans (h2.mono b1.size)
    clear h2 b1
    go_wp2_with fail
    have c4 := Blk_new w2 2 #[.int .i64 m, .int .i64 0, .int .i64 n, .int .i64 0]
    refine (joined_any [m, 0, n, 0] _ 4 _ (Ints.of_blk c4) (by simp)).mono ?_
    rw [HF.out]
    clear c4
    rintro e w3 ⟨rfl, h3⟩
    have b3 : Below w.heap.size w w3 := (b2.alloc b2.size _).trans (h3.mono (by have := b2.size; simp; omega))
    clear h3 b2
    go_wp2_with fail
    refine (sum_any (fo [m, n]) _ HS.out _).mono ?_
    rintro e w4 ⟨rfl, h4⟩
    have b4 := b3.trans (h4.mono b3.size)
    clear h4 b3
    go_wp2_with (go_at_call 9; refine (works_any _).mono ?_; rintro e w5 ⟨rfl, h5⟩)
    all_goals
      go_ret
      exact ⟨rfl, b4.trans (h5.mono b4.size)⟩

end Go.Proofs.Ytappccoomljiaaa
