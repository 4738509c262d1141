import Derived.Test.YtlbfjmdemljmhaaP
set_option linter.unusedVariables false
namespace Go.Proofs.Ytlbfjmdemljmhaa
open Go.RowKit
theorem os_of {w : World} {A : Option Addr} {n c : Nat} {l : List O} (h : SliceRd 4 E35 w A n c l) : Opl w A n l := h.els o0 (by omega) (fun _ _ _ h => (F35 h).1)
theorem ps_of {w : World} {A : Option Addr} {n c : Nat} {l : List (Int × ByteArray)} (h : SliceRd 2 E30 w A n c l) : Ps w A n l := h.els _ (by omega) (fun _ _ _ h => (F30 h).1)
theorem plays_walk (w : World) {n : Int} (_hn : (Lit.int .i64 n).wf = true) {A : Option Addr} {m c : Nat} {l : List O} (h : SliceRd 4 E35 w A m c l) :
    Calls Try.prog 3 #[.int .i64 n, .slice A m c] w fun e w' => e = .returned (.bool true) ∧ Below w.heap.size w w' := by
  have hO := os_of h
  have hl := h.len_eq
  have hm : m ≤ maxLen := Nat.le_trans h.le h.le_max
  subst hl
  exact plays_any n l A c w hO hm
end Go.Proofs.Ytlbfjmdemljmhaa
