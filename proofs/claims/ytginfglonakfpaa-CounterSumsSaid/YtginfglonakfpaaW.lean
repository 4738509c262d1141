import Derived.Test.YtginfglonakfpaaD
namespace Go.Proofs.Ytginfglonakfpaa
open Go.RowKit

theorem down_ok' (C L : Nat) (l l' : List Int) (j : Int) (i : Nat) (hj : (i : Int) = j) (w : World) (h : Cs w C L l) (hi : i < l.length) (x y : Int) (h0 : l.getD i 0 = x) (h1 : 0 < x) (h2 : x ≤ 9223372036854775807) (hy : x - 1 = y) (hl : l.set i y = l') :
    Calls Try.prog 16 #[.pointer (some ⟨C, 0, none⟩), .int .i64 j] w fun e w' => e = .returned (.tuple #[.int .i64 y, .int .i64 0]) ∧ w.grownBy w' (some L) ∧ Cs w' C L l' := by
  subst hj; subst hy; subst hl
  exact (down_ok C L l i w h hi x h0 h1 h2).mono fun e w' ⟨he, hw⟩ => ⟨he, hw ▸ grown_set _ _ _ _, hw ▸ h.set _ _⟩
theorem down_zero' (C L : Nat) (l : List Int) (j : Int) (i : Nat) (hj : (i : Int) = j) (w : World) (h : Cs w C L l) (hi : i < l.length) (h0 : l.getD i 0 = 0) :
    Calls Try.prog 16 #[.pointer (some ⟨C, 0, none⟩), .int .i64 j] w fun e w' => e = .returned (.tuple #[.int .i64 0, .int .i64 3]) ∧ w = w' := by
  subst hj
  exact down_zero C L l i w h hi h0
theorem offer_ok' (g : Nat) (a b was n : Int) (w : World) (h : okF (a, b)) (hB : Blk w g 30 #[.int .i64 was]) (hn : held was (code (a, b)) = n) :
    Calls Try.prog 10 #[.pointer (some ⟨g, 0, none⟩), .int .i64 a, .int .i64 b] w fun e w' => e = .returned (.int .i64 0) ∧ w.grownBy w' (some g) ∧ Blk w' g 30 #[.int .i64 n] := by
  subst hn
  exact offer_ok g a b was w h hB
theorem told_ok' (g : Nat) (n a b : Int) (w : World) (h1 : 0 ≤ n) (h2 : n ≤ 9223372036854775807) (ht : told n = (a, b)) (hB : Blk w g 30 #[.int .i64 n]) :
    Calls Try.prog 12 #[.pointer (some ⟨g, 0, none⟩)] w fun e w' => e = .returned (.tuple #[.int .i64 a, .int .i64 b]) ∧ w = w' := by
  have := told_ok g n w h1 h2 hB
  rw [ht] at this
  exact this

set_option maxHeartbeats 1000000 in
theorem works_any (w : World) : Calls Try.prog 9 #[] w fun e w' => e = .returned (.bool true) ∧ Below w.heap.size w w' := by
  go_enter Try.func9, Try.ntmps9
  go_wp2_with fail
  refine (new_any [2, 0] _ 2 _ (Ints.of_blk (t := 3) (Blk_new w 3 #[.int .i64 2, .int .i64 0])) (by simp)).mono ?_
  rintro e w1 ⟨hb1, h | ⟨⟨x, hx, hneg⟩, _⟩⟩
  rotate_left
  · simp at hx; omega
  obtain ⟨_, C, L, rfl, hC, hC0, hL0⟩ := h
  have b1 : Below w.heap.size w w1 := Below_al hb1
  have hC1 : w.heap.size ≤ C := by simp at hC0; omega
  have hL1 : w.heap.size ≤ L := by simp at hL0; omega
  clear hb1 hC0 hL0
  go_wp2_with fail
  refine (down_ok' C L [2, 0] [1, 0] 0 0 rfl _ hC (by simp) 2 1 rfl (by omega) (by omega) rfl rfl).mono ?_
  rintro e w2 ⟨rfl, g2, hC2⟩
  have b2 : Below w.heap.size w w2 := b1.grown g2 b1.size (fun k hk => by cases hk; exact hL1)
  clear hC b1 g2
  go_wp2_with fail
  refine (down_ok' C L [1, 0] [0, 0] 0 0 rfl _ hC2 (by simp) 1 0 rfl (by omega) (by omega) rfl rfl).mono ?_
  rintro e w3 ⟨rfl, g3, hC3⟩
  have b3 : Below w.heap.size w w3 := b2.grown g3 b2.size (fun k hk => by cases hk; exact hL1)
  clear hC2 b2 g3
  go_wp2_with fail
  refine (down_zero' C L [0, 0] 0 0 rfl _ hC3 (by simp) rfl).mono ?_
  rintro e w' ⟨rfl, rfl⟩
  go_wp2_with fail
  refine (down_arg C L [0, 0] 2 _ hC3 (.inr (by simp))).mono ?_
  rintro e w' ⟨rfl, rfl⟩
  have B0 := Blk_new w3 30 #[.int .i64 0]
  have b4 : Below w.heap.size w (w3.alloc (.cells #[.int .i64 0] 30)) := b3.alloc b3.size _
  have hz := b3.size
  clear hC3
  go_wp2_with fail
  refine (offer_ok' w3.heap.size 7 9 0 2057 _ (by unfold okF; simp) B0 (by decide)).mono ?_
  rintro e w4 ⟨rfl, g4, B1⟩
  have b5 := b4.grown g4 b4.size (fun k hk => by cases hk; exact hz)
  clear B0 b4 g4 b3
  go_wp2_with fail
  refine (offer_ok' w3.heap.size 3 6 2057 1030 _ (by unfold okF; simp) B1 (by decide)).mono ?_
  rintro e w5 ⟨rfl, g5, B2⟩
  have b6 := b5.grown g5 b5.size (fun k hk => by cases hk; exact hz)
  clear B1 b5 g5
  go_wp2_with fail
  refine (offer_ok' w3.heap.size 5 6 1030 1030 _ (by unfold okF; simp) B2 (by decide)).mono ?_
  rintro e w6 ⟨rfl, g6, B3⟩
  have b7 := b6.grown g6 b6.size (fun k hk => by cases hk; exact hz)
  clear B2 b6 g6
  go_wp2_with fail
  refine (told_ok' w3.heap.size 1030 3 6 _ (by omega) (by omega) (by decide) B3).mono ?_
  rintro e w' ⟨rfl, rfl⟩
  go_wp2_with fail
  go_ret
  exact ⟨rfl, b7⟩

set_option maxHeartbeats 1000000 in
theorem nil_any (i node e : Int) (w : World) : Calls Try.prog 7 #[.int .i64 i, .int .i64 node, .int .i64 e] w fun e w' => e = .returned (.bool true) ∧ Below w.heap.size w w' := by
  go_enter Try.func7, Try.ntmps7
  go_wp2_with (first
    | (go_at_call 16; refine (down_nil _ _).mono ?_; rintro e w' ⟨rfl, rfl⟩)
    | (go_at_call 18; refine (left_nil _ _).mono ?_; rintro e w' ⟨rfl, rfl⟩)
    | (go_at_call 12; refine (told_nil _).mono ?_; rintro e w' ⟨rfl, rfl⟩)
    | (go_at_call 10; refine (offer_nil _ _ _).mono ?_; rintro e w' ⟨rfl, rfl⟩)
    | (go_at_call 9; refine (works_any _).mono ?_; rintro e w' ⟨rfl, hw⟩))
  go_ret
  exact ⟨rfl, hw⟩
end Go.Proofs.Ytginfglonakfpaa
