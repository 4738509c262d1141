/-
  A block of ints of the program's own. No condition.
-/
import Derived.Test.YtedlfkklkoihjaaCom8
set_option linter.unusedVariables false
set_option linter.unusedSimpArgs false
namespace Go.Proofs.Ytedlfkklkoihjaa
open Go.RowKit

def Row (w : World) (t : TypeId) (g : Nat) (l : List Int) : Prop := Blk w g t (l.map (Value.int .i64)).toArray
theorem Row.cell {w : World} {t : TypeId} {g : Nat} {l : List Int} (h : Row w t g l) {i : Nat} (hi : i < l.length) : w.cell? ⟨g, i, none⟩ = some (.int .i64 (l.getD i 0)) := by
  rw [Blk_cell h]; simp [hi]
theorem Row.set {w : World} {t : TypeId} {g : Nat} {l : List Int} (h : Row w t g l) (i : Nat) (x : Int) : Row (w.setCell ⟨g, i, none⟩ (.int .i64 x)) t g (l.set i x) := Blk_upd h i _ (by simp [List.map_set])
theorem Row.below {w w' : World} {t : TypeId} {g : Nat} {l : List Int} (h : Row w t g l) (hb : Below w.heap.size w w') : Row w' t g l := Blk_below h hb (Blk_lt h)
theorem Row.only {gs : List Nat} {w w' : World} {t : TypeId} {g : Nat} {l : List Int} (h : Row w t g l) (ho : Only gs w w') (hg : g ∉ gs) : Row w' t g l := ho.blk h hg
theorem pads_set {n j : Nat} (a b : Int) (h : j < n) : (List.replicate j a ++ List.replicate (n - j) b).set j a = List.replicate (j + 1) a ++ List.replicate (n - (j + 1)) b := by
  obtain ⟨m, rfl⟩ : ∃ m, n = j + 1 + m := ⟨n - (j + 1), by omega⟩
  rw [show j + 1 + m - j = m + 1 by omega, show j + 1 + m - (j + 1) = m by omega, List.replicate_succ (n := m), List.set_append_right _ _ (by simp), List.replicate_succ' (n := j)]
  simp
/-- What the counting row holds: the first j are 0, 1, .. . -/
def upto (n j : Nat) : List Int := (List.range j).map (Int.ofNat ·) ++ List.replicate (n - j) 0
theorem upto_len {n j : Nat} (h : j ≤ n) : (upto n j).length = n := by simp [upto]; omega
theorem upto_set {n j : Nat} (h : j < n) : (upto n j).set j (j : Int) = upto n (j + 1) := by
  obtain ⟨m, rfl⟩ : ∃ m, n = j + 1 + m := ⟨n - (j + 1), by omega⟩
  unfold upto
  rw [show j + 1 + m - j = m + 1 by omega, show j + 1 + m - (j + 1) = m by omega, List.replicate_succ (n := m), List.set_append_right _ _ (by simp), List.range_succ]
  simp
end Go.Proofs.Ytedlfkklkoihjaa
