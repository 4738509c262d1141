import Derived.Test.YtginfglonakfpaaA
namespace Go.Proofs.Ytginfglonakfpaa
open Go.RowKit

set_option maxHeartbeats 400000 in
theorem down_nil (i : Int) (w : World) :
    Calls Try.prog 16 #[.pointer none, .int .i64 i] w fun e w' => e = .returned (.tuple #[.int .i64 0, .int .i64 2]) ∧ w = w' := by
  go_enter Try.func16, Try.ntmps16
  go_wp2_with fail
  go_step3
  go_wp2_with (go_at_call 23; refine (at_nil _ _).mono ?_; rintro e w' ⟨rfl, rfl⟩)
  rw [Exit.noGoto_ret]
  go_ret2
  exact ⟨rfl, rfl⟩
set_option maxHeartbeats 400000 in
theorem down_arg (C L : Nat) (l : List Int) (i : Int) (w : World) (h : Cs w C L l) (hi : i < 0 ∨ (l.length : Int) ≤ i) :
    Calls Try.prog 16 #[.pointer (some ⟨C, 0, none⟩), .int .i64 i] w fun e w' => e = .returned (.tuple #[.int .i64 0, .int .i64 1]) ∧ w = w' := by
  go_enter Try.func16, Try.ntmps16
  go_wp2_with fail
  go_step3
  go_wp2_with (go_at_call 23; refine (at_arg C L l i _ h hi).mono ?_; rintro e w' ⟨rfl, rfl⟩)
  rw [Exit.noGoto_ret]
  go_ret2
  exact ⟨rfl, rfl⟩
set_option maxHeartbeats 400000 in
theorem down_zero (C L : Nat) (l : List Int) (i : Nat) (w : World) (h : Cs w C L l) (hi : i < l.length) (h0 : l.getD i 0 = 0) :
    Calls Try.prog 16 #[.pointer (some ⟨C, 0, none⟩), .int .i64 i] w fun e w' => e = .returned (.tuple #[.int .i64 0, .int .i64 3]) ∧ w = w' := by
  have c0 := h.cell hi
  rw [h0] at c0
  clear h0
  go_enter Try.func16, Try.ntmps16
  go_wp2_with fail
  go_step3
  go_wp2_with (first
    | (go_at_call 23; refine (at_ok C L l i _ h hi).mono ?_; rintro e w' ⟨rfl, rfl⟩)
    | (go_at_call 20; refine (aload _ _ _ c0).mono ?_; rintro e w' ⟨rfl, rfl⟩))
  go_step3
  go_wp2_with (go_at_call 20; refine (aload _ _ _ c0).mono ?_; rintro e w' ⟨rfl, rfl⟩)
  rw [Exit.noGoto_ret]
  go_ret2
  exact ⟨rfl, rfl⟩
set_option maxHeartbeats 400000 in
theorem down_ok (C L : Nat) (l : List Int) (i : Nat) (w : World) (h : Cs w C L l) (hi : i < l.length) (x : Int) (h0 : l.getD i 0 = x) (h1 : 0 < x) (h2 : x ≤ 9223372036854775807) :
    Calls Try.prog 16 #[.pointer (some ⟨C, 0, none⟩), .int .i64 i] w fun e w' => e = .returned (.tuple #[.int .i64 (x - 1), .int .i64 0]) ∧ w.setCell ⟨L, i, none⟩ (.int .i64 (x - 1)) = w' := by
  have c0 := h.cell hi
  have f0 := Blk_frozen h.row i
  rw [h0] at c0
  clear h0
  go_enter Try.func16, Try.ntmps16
  go_wp2_with fail
  go_step3
  go_wp2_with (go_at_call 23; refine (at_ok C L l i _ h hi).mono ?_; rintro e w' ⟨rfl, rfl⟩)
  go_step3
  go_wp2_with (first
    | (go_at_call 20; refine (aload _ _ _ c0).mono ?_; rintro e w' ⟨rfl, rfl⟩)
    | (go_at_call 21; refine (acas _ _ _ _ c0 f0).mono ?_; rintro e w' ⟨rfl, rfl⟩))
  rw [Exit.noGoto_ret]
  go_ret2
  exact ⟨rfl, rfl⟩
set_option maxHeartbeats 400000 in
theorem left_nil (i : Int) (w : World) :
    Calls Try.prog 18 #[.pointer none, .int .i64 i] w fun e w' => e = .returned (.tuple #[.int .i64 0, .int .i64 2]) ∧ w = w' := by
  go_enter Try.func18, Try.ntmps18
  go_wp2_with (go_at_call 23; refine (at_nil _ _).mono ?_; rintro e w' ⟨rfl, rfl⟩)
  go_ret2
  exact ⟨rfl, rfl⟩
set_option maxHeartbeats 400000 in
theorem left_arg (C L : Nat) (l : List Int) (i : Int) (w : World) (h : Cs w C L l) (hi : i < 0 ∨ (l.length : Int) ≤ i) :
    Calls Try.prog 18 #[.pointer (some ⟨C, 0, none⟩), .int .i64 i] w fun e w' => e = .returned (.tuple #[.int .i64 0, .int .i64 1]) ∧ w = w' := by
  go_enter Try.func18, Try.ntmps18
  go_wp2_with (go_at_call 23; refine (at_arg C L l i _ h hi).mono ?_; rintro e w' ⟨rfl, rfl⟩)
  go_ret2
  exact ⟨rfl, rfl⟩
set_option maxHeartbeats 400000 in
theorem left_ok (C L : Nat) (l : List Int) (i : Nat) (w : World) (h : Cs w C L l) (hi : i < l.length) (x : Int) (h0 : l.getD i 0 = x) :
    Calls Try.prog 18 #[.pointer (some ⟨C, 0, none⟩), .int .i64 i] w fun e w' => e = .returned (.tuple #[.int .i64 x, .int .i64 0]) ∧ w = w' := by
  have c0 := h.cell hi
  rw [h0] at c0
  clear h0
  go_enter Try.func18, Try.ntmps18
  go_wp2_with (first
    | (go_at_call 23; refine (at_ok C L l i _ h hi).mono ?_; rintro e w' ⟨rfl, rfl⟩)
    | (go_at_call 20; refine (aload _ _ _ c0).mono ?_; rintro e w' ⟨rfl, rfl⟩))
  go_ret2
  exact ⟨rfl, rfl⟩
end Go.Proofs.Ytginfglonakfpaa
