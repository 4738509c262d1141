import Derived.Test.YtlbfjmdemljmhaaE
import Derived.Test.YtlbfjmdemljmhaaSt
set_option linter.unusedVariables false
namespace Go.Proofs.Ytlbfjmdemljmhaa
open Go.RowKit
theorem stays_walk (w : World) {n : Int} (hn : (Lit.int .u8 n).wf = true) {A : Option Addr} {m c : Nat} {l : List O} (h : SliceRd 4 E35 w A m c l) :
    Calls Try.prog 4 #[.int .u8 n, .slice A m c] w fun e w' => e = .returned (.bool true) ∧ Below w.heap.size w w' := by
  have hO := os_of h
  have hl := h.len_eq
  have hm : m ≤ maxLen := Nat.le_trans h.le h.le_max
  subst hl
  have hr := bounds_u8 hn
  obtain ⟨k, rfl⟩ : ∃ k : Nat, (k : Int) = n := ⟨n.toNat, by omega⟩
  exact stays_any k (by omega) l A c w hO hm
end Go.Proofs.Ytlbfjmdemljmhaa
