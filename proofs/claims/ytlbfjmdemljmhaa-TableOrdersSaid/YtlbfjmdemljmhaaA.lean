import Derived.Test.YtlbfjmdemljmhaaCom6
import Derived.Laws.LoneSync
import Derived.WalkMore
namespace Go.Proofs.Ytlbfjmdemljmhaa
open Go.RowKit

theorem load64 (a : Addr) (n : Int) (w : World) (hc : w.cell? a = some (.int .i64 n)) :
    Calls Try.prog 33 #[.pointer (some a)] w fun e w' => e = .returned (.int .i64 n) ∧ w = w' := by
  have hl := run_call_load (P := Try.prog) Try.func40 (by kernel_rfl) (by kernel_rfl) (by kernel_rfl) .i64 (by kernel_rfl) hc
  go_enter Try.func33, Try.ntmps33
  go_wp2
  go_ret
  exact ⟨rfl, rfl⟩
theorem load32 (a : Addr) (n : Int) (w : World) (hc : w.cell? a = some (.int .i32 n)) :
    Calls Try.prog 32 #[.pointer (some a)] w fun e w' => e = .returned (.int .i32 n) ∧ w = w' := by
  have hl := run_call_load (P := Try.prog) Try.func39 (by kernel_rfl) (by kernel_rfl) (by kernel_rfl) .i32 (by kernel_rfl) hc
  go_enter Try.func32, Try.ntmps32
  go_wp2
  go_ret
  exact ⟨rfl, rfl⟩
theorem store64 (a : Addr) (n x : Int) (w : World) (hc : w.cell? a = some (.int .i64 n)) (hf : w.frozen? a = false) :
    Calls Try.prog 27 #[.pointer (some a), .int .i64 x] w fun e w' => e = .returned (.tuple #[]) ∧ w.setCell a (.int .i64 x) = w' := by
  have hl := run_call_store (P := Try.prog) Try.func35 (by kernel_rfl) (by kernel_rfl) (by kernel_rfl) (by kernel_rfl) (k := .i64) (y := x) hc hf
  go_enter Try.func27, Try.ntmps27
  go_wp2
  go_end0
  exact ⟨rfl, rfl⟩
theorem store32 (a : Addr) (n x : Int) (w : World) (hc : w.cell? a = some (.int .i32 n)) (hf : w.frozen? a = false) :
    Calls Try.prog 30 #[.pointer (some a), .int .i32 x] w fun e w' => e = .returned (.tuple #[]) ∧ w.setCell a (.int .i32 x) = w' := by
  have hl := run_call_store (P := Try.prog) Try.func37 (by kernel_rfl) (by kernel_rfl) (by kernel_rfl) (by kernel_rfl) (k := .i32) (y := x) hc hf
  go_enter Try.func30, Try.ntmps30
  go_wp2
  go_end0
  exact ⟨rfl, rfl⟩
theorem cas32 (a : Addr) (n x : Int) (w : World) (hc : w.cell? a = some (.int .i32 n)) (hf : w.frozen? a = false) :
    Calls Try.prog 29 #[.pointer (some a), .int .i32 n, .int .i32 x] w fun e w' => e = .returned (.bool true) ∧ w.setCell a (.int .i32 x) = w' := by
  have hl := run_call_cas_hit (P := Try.prog) Try.func36 (by kernel_rfl) (by kernel_rfl) (by kernel_rfl) .i32 (by kernel_rfl) (y := x) hc hf
  go_enter Try.func29, Try.ntmps29
  go_wp2
  go_ret
  exact ⟨rfl, rfl⟩
theorem cas32_miss (a : Addr) (n o x : Int) (w : World) (hc : w.cell? a = some (.int .i32 n)) (hf : w.frozen? a = false) (hne : ¬ n = o) :
    Calls Try.prog 29 #[.pointer (some a), .int .i32 o, .int .i32 x] w fun e w' => e = .returned (.bool false) ∧ w = w' := by
  have hl := run_call_cas_miss (P := Try.prog) Try.func36 (by kernel_rfl) (by kernel_rfl) (by kernel_rfl) .i32 (by kernel_rfl) (y := x) hc hf hne
  clear hne
  go_enter Try.func29, Try.ntmps29
  go_wp2
  go_ret
  exact ⟨rfl, rfl⟩
theorem add64 (a : Addr) (n x s : Int) (w : World) (hc : w.cell? a = some (.int .i64 n)) (hf : w.frozen? a = false) (hs : wrap64 (n + x) = s) :
    Calls Try.prog 31 #[.pointer (some a), .int .i64 x] w fun e w' => e = .returned (.int .i64 s) ∧ w.setCell a (.int .i64 s) = w' := by
  have hl := run_call_add (P := Try.prog) Try.func38 (by kernel_rfl) (by kernel_rfl) (by kernel_rfl) .i64 (by kernel_rfl) (y := x) (s := wrap64 (n + x)) hc hf (by simp [go_sem, wrap64, IntKind.wrap_i64])
  rw [hs] at hl
  clear hs
  go_enter Try.func31, Try.ntmps31
  go_wp2
  go_ret
  exact ⟨rfl, rfl⟩
end Go.Proofs.Ytlbfjmdemljmhaa
