import Derived.Test.YtginfglonakfpaaCom2
import Derived.Laws.LoneSync
import Derived.WalkMore
namespace Go.Proofs.Ytginfglonakfpaa
open Go.RowKit

theorem aload (a : Addr) (n : Int) (w : World) (hc : w.cell? a = some (.int .i64 n)) :
    Calls Try.prog 20 #[.pointer (some a)] w fun e w' => e = .returned (.int .i64 n) ∧ w = w' := by
  have hl := run_call_load (P := Try.prog) Try.func24 (by kernel_rfl) (by kernel_rfl) (by kernel_rfl) .i64 (by kernel_rfl) hc
  go_enter Try.func20, Try.ntmps20
  go_wp2
  go_ret
  exact ⟨rfl, rfl⟩
theorem astore (a : Addr) (n x : Int) (w : World) (hc : w.cell? a = some (.int .i64 n)) (hf : w.frozen? a = false) :
    Calls Try.prog 22 #[.pointer (some a), .int .i64 x] w fun e w' => e = .returned (.tuple #[]) ∧ w.setCell a (.int .i64 x) = w' := by
  have hl := run_call_store (P := Try.prog) Try.func26 (by kernel_rfl) (by kernel_rfl) (by kernel_rfl) (by kernel_rfl) (k := .i64) (y := x) hc hf
  go_enter Try.func22, Try.ntmps22
  go_wp2
  go_end0
  exact ⟨rfl, rfl⟩
theorem acas (a : Addr) (n x : Int) (w : World) (hc : w.cell? a = some (.int .i64 n)) (hf : w.frozen? a = false) :
    Calls Try.prog 21 #[.pointer (some a), .int .i64 n, .int .i64 x] w fun e w' => e = .returned (.bool true) ∧ w.setCell a (.int .i64 x) = w' := by
  have hl := run_call_cas_hit (P := Try.prog) Try.func25 (by kernel_rfl) (by kernel_rfl) (by kernel_rfl) .i64 (by kernel_rfl) (y := x) hc hf
  go_enter Try.func21, Try.ntmps21
  go_wp2
  go_ret
  exact ⟨rfl, rfl⟩

/-- The counters: the object, its list. -/
structure Cs (w : World) (C L : Nat) (l : List Int) : Prop where
  obj : Blk w C 61 #[.slice (some ⟨L, 0, none⟩) l.length l.length]
  row : Blk w L 28 (l.map (Value.int .i64)).toArray
  ne : C ≠ L

theorem Cs.cell {w : World} {C L : Nat} {l : List Int} (h : Cs w C L l) {i : Nat} (hi : i < l.length) : w.cell? ⟨L, i, none⟩ = some (.int .i64 (l.getD i 0)) := by
  rw [Blk_cell h.row]; simp [hi]
theorem Cs.set {w : World} {C L : Nat} {l : List Int} (h : Cs w C L l) (i : Nat) (x : Int) : Cs (w.setCell ⟨L, i, none⟩ (.int .i64 x)) C L (l.set i x) := by
  refine ⟨?_, ?_, h.ne⟩
  · rw [List.length_set]; exact Blk_far h.obj (by simpa using h.ne) _
  · exact Blk_upd h.row i _ (by simp [List.map_set])
theorem Cs.kept {w w' : World} {C L : Nat} {l : List Int} {row : Option Nat} (h : Cs w C L l) (hb : w.grownBy w' row) (h1 : some C ≠ row) (h2 : some L ≠ row) : Cs w' C L l :=
  ⟨Blk_grown h.obj hb h1, Blk_grown h.row hb h2, h.ne⟩
theorem Cs.below {w w' : World} {C L : Nat} {l : List Int} (h : Cs w C L l) (hb : Below w.heap.size w w') : Cs w' C L l :=
  ⟨Blk_below h.obj hb (Blk_lt h.obj), Blk_below h.row hb (Blk_lt h.row), h.ne⟩
theorem grown_set (w : World) (g i : Nat) (u : Value) : w.grownBy (w.setCell ⟨g, i, none⟩ u) (some g) :=
  ⟨rfl, rfl, rfl, by simp, fun k hk hne => Below.heap_setCell w ⟨g, i, none⟩ u k (fun e => hne (by rw [e]))⟩

set_option maxHeartbeats 400000 in
theorem at_nil (i : Int) (w : World) :
    Calls Try.prog 23 #[.pointer none, .int .i64 i] w fun e w' => e = .returned (.tuple #[.pointer none, .int .i64 2]) ∧ w = w' := by
  go_enter Try.func23, Try.ntmps23
  go_wp2
  go_ret2
  exact ⟨rfl, rfl⟩
set_option maxHeartbeats 400000 in
theorem at_arg (C L : Nat) (l : List Int) (i : Int) (w : World) (h : Cs w C L l) (hi : i < 0 ∨ (l.length : Int) ≤ i) :
    Calls Try.prog 23 #[.pointer (some ⟨C, 0, none⟩), .int .i64 i] w fun e w' => e = .returned (.tuple #[.pointer none, .int .i64 1]) ∧ w = w' := by
  have c0 := Blk_cell h.obj 0
  rcases hi with hi | hi
  · go_enter Try.func23, Try.ntmps23
    go_wp2
    go_ret2
    exact ⟨rfl, rfl⟩
  · have hi2 : ¬ i < 0 := by omega
    go_enter Try.func23, Try.ntmps23
    go_wp2
    go_ret2
    exact ⟨rfl, rfl⟩
set_option maxHeartbeats 400000 in
theorem at_ok (C L : Nat) (l : List Int) (i : Nat) (w : World) (h : Cs w C L l) (hi : i < l.length) :
    Calls Try.prog 23 #[.pointer (some ⟨C, 0, none⟩), .int .i64 i] w fun e w' => e = .returned (.tuple #[.pointer (some ⟨L, i, none⟩), .int .i64 0]) ∧ w = w' := by
  have c0 := Blk_cell h.obj 0
  have i0 : ¬ (i : Int) < 0 := by omega
  have i1 : ¬ (l.length : Int) ≤ i := by omega
  go_enter Try.func23, Try.ntmps23
  go_wp2
  go_ret2
  exact ⟨rfl, rfl⟩
end Go.Proofs.Ytginfglonakfpaa
