/-
  Lists of ints that are handed back. No condition.
-/
import Derived.Test.YtlfjbkmdehpahaaCom10
set_option linter.unusedVariables false
set_option linter.unusedSimpArgs false
namespace Go.Proofs.Ytlfjbkmdehpahaa
open Go.RowKit Go.BigFrame

theorem iI : (Try.prog.info? 3).map (fun i => (i.zero, i.size, i.bytes)) = some (some (.int .i64 0), 1, 8) := by kernel_rfl
/-- A list of ints that is handed back. -/
def RetInts (xs : List Int) (w : World) (e : Ending) (w' : World) : Prop :=
  ∃ A c, e = .returned (.slice A xs.length c) ∧ xs.length ≤ c ∧ c ≤ maxLen ∧ Ints .i64 w' A xs.length xs ∧ (∀ a, A = some a → w.heap.size ≤ a.block) ∧ Below w.heap.size w w'
theorem RetInts.out {xs : List Int} {w w' : World} {e : Ending} {n : Nat} (h : RetInts xs w e w') (hn : xs.length = n) :
    ∃ A c, e = .returned (.slice A n c) ∧ n ≤ c ∧ c ≤ maxLen ∧ Ints .i64 w' A n xs ∧ (∀ a, A = some a → w.heap.size ≤ a.block) ∧ Below w.heap.size w w' := by subst hn; exact h
theorem ret_own {w w' : World} {e : TypeId} {sv : Value} {xs : List Int} {n B : Nat} (h : w'.ownsRow B e 1 sv n (xs.map (Value.int .i64))) (hb : Below w.heap.size w w') (hB : w.heap.size ≤ B) : RetInts xs w (.returned sv) w' := by
  have hlt := h.lt
  obtain ⟨A, c, rfl, h1, h2⟩ := own_slice h
  have hl : xs.length = n := by have := h.1; simpa using this
  subst hl
  exact ⟨A, c, rfl, h1, h2, Ints_of_own h, fun a ha => Nat.le_trans hB (hlt a.block (by rw [ha]; rfl)).1, hb⟩
theorem ret_nil (w w' : World) (hb : Below w.heap.size w w') : RetInts [] w (.returned (.slice none 0 0)) w' :=
  ⟨none, 0, rfl, Nat.le_refl _, Nat.zero_le _, ⟨rfl, fun h => by simp at h⟩, (fun a h => by cases h), hb⟩
theorem ret_row {w w' : World} {g : Nat} {xs : List Int} {n : Nat} (h : Row w' 3 g xs) (hl : xs.length = n) (hn : n ≤ maxLen) (hb : Below w.heap.size w w') (hg : w.heap.size ≤ g) : RetInts xs w (.returned (.slice (some ⟨g, 0, none⟩) n n)) w' := by
  subst hl
  exact ⟨some ⟨g, 0, none⟩, xs.length, rfl, Nat.le_refl _, hn, Ints.of_blk h, (fun a ha => by injection ha with ha; subst ha; exact hg), hb⟩
end Go.Proofs.Ytlfjbkmdehpahaa
