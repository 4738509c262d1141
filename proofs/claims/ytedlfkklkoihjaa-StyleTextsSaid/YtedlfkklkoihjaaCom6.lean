/-
  A block of rows of one length each. No condition.
-/
import Derived.Test.YtedlfkklkoihjaaCom4
set_option linter.unusedVariables false
set_option linter.unusedSimpArgs false
namespace Go.Proofs.Ytedlfkklkoihjaa
open Go.RowKit

theorem flat_get {k : Nat} : ∀ (rows : List (List Value)) (i j : Nat), (∀ r ∈ rows, r.length = k) → i < rows.length → j < k → rows.flatten[i * k + j]? = (rows.getD i [])[j]? := by
  intro rows
  induction rows with
  | nil => intro i j _ h; simp at h
  | cons r rows ih =>
    intro i j hr hi hj
    have h0 := hr r (by simp)
    cases i with
    | zero =>
      rw [Nat.zero_mul, Nat.zero_add, List.flatten_cons, List.getElem?_append_left (by omega)]
      simp
    | succ i =>
      rw [List.flatten_cons, List.getElem?_append_right (by rw [h0, Nat.succ_mul]; omega), h0, show (i + 1) * k + j - k = i * k + j by rw [Nat.succ_mul]; omega]
      rw [ih i j (fun x hx => hr x (by simp [hx])) (by simpa using hi) hj]
      simp
theorem flat_set {k : Nat} : ∀ (rows : List (List Value)) (i j : Nat) (u : Value), (∀ r ∈ rows, r.length = k) → i < rows.length → j < k → rows.flatten.set (i * k + j) u = (rows.set i ((rows.getD i []).set j u)).flatten := by
  intro rows
  induction rows with
  | nil => intro i j u _ h; simp at h
  | cons r rows ih =>
    intro i j u hr hi hj
    have h0 := hr r (by simp)
    cases i with
    | zero =>
      rw [Nat.zero_mul, Nat.zero_add, List.flatten_cons, List.set_append_left _ _ (by omega)]
      simp
    | succ i =>
      rw [List.flatten_cons, List.set_append_right _ _ (by rw [h0, Nat.succ_mul]; omega), h0, show (i + 1) * k + j - k = i * k + j by rw [Nat.succ_mul]; omega]
      rw [ih i j u (fun x hx => hr x (by simp [hx])) (by simpa using hi) hj]
      simp
theorem flat_length {k : Nat} : ∀ (rows : List (List Value)), (∀ r ∈ rows, r.length = k) → rows.flatten.length = rows.length * k := by
  intro rows
  induction rows with
  | nil => intro _; simp
  | cons r rows ih =>
    intro hr
    rw [List.flatten_cons, List.length_append, ih (fun x hx => hr x (by simp [hx])), hr r (by simp), List.length_cons, Nat.succ_mul]
    omega
structure Grid (w : World) (g : Nat) (t : TypeId) (k : Nat) (rows : List (List Value)) : Prop where
  blk : Blk w g t rows.flatten.toArray
  len : ∀ r ∈ rows, r.length = k
section
variable {w w' : World} {g k : Nat} {t : TypeId} {rows : List (List Value)}
theorem Grid.cell (h : Grid w g t k rows) {i j : Nat} (hi : i < rows.length) (hj : j < k) : w.cell? ⟨g, i * k + j, none⟩ = (rows.getD i [])[j]? := by
  rw [Blk_cell h.blk, ← flat_get rows i j h.len hi hj]
  simp
theorem Grid.frozen (h : Grid w g t k rows) (i : Nat) : w.frozen? ⟨g, i, none⟩ = false := Blk_frozen h.blk i
theorem Grid.set (h : Grid w g t k rows) {i j : Nat} (hi : i < rows.length) (hj : j < k) (u : Value) : Grid (w.setCell ⟨g, i * k + j, none⟩ u) g t k (rows.set i ((rows.getD i []).set j u)) := by
  refine ⟨Blk_upd h.blk (i * k + j) u ?_, fun r hr => ?_⟩
  · rw [← flat_set rows i j u h.len hi hj]; simp
  · rcases List.mem_or_eq_of_mem_set hr with hr | rfl
    · exact h.len r hr
    · rw [List.length_set]
      have : rows.getD i [] = rows[i] := by simp [List.getD, hi]
      rw [this]; exact h.len _ (List.getElem_mem _)
theorem Grid.below (h : Grid w g t k rows) (hb : Below w.heap.size w w') : Grid w' g t k rows := ⟨Blk_below h.blk hb (Blk_lt h.blk), h.len⟩
theorem Grid.grown {row : Option Nat} (h : Grid w g t k rows) (hb : w.grownBy w' row) (hg : some g ≠ row) : Grid w' g t k rows := ⟨Blk_grown h.blk hb hg, h.len⟩
theorem Grid.far (h : Grid w g t k rows) {p : Addr} (hp : g ≠ p.block) (u : Value) : Grid (w.setCell p u) g t k rows := ⟨Blk_far h.blk hp u, h.len⟩
theorem Grid.lt (h : Grid w g t k rows) : g < w.heap.size := Blk_lt h.blk
end
/-- 'make([]T, n)', an element of k cells: the new block, whole. -/
theorem madeCells_rows (z : Array Value) (n : Nat) (hz : 0 < z.size) : madeCells z (n * z.size) = (List.replicate n z.toList).flatten.toArray := by
  apply Array.toList_inj.1
  apply List.ext_getElem?
  intro q
  have hlen : ∀ r ∈ List.replicate n z.toList, r.length = z.size := fun r hr => by rw [List.eq_of_mem_replicate hr]; simp
  by_cases hq : q < n * z.size
  · have hi : q / z.size < n := (Nat.div_lt_iff_lt_mul hz).2 hq
    have hj : q % z.size < z.size := Nat.mod_lt _ hz
    have e : q = q / z.size * z.size + q % z.size := by have := Nat.div_add_mod q z.size; rw [Nat.mul_comm] at this; omega
    have h1 := flat_get (List.replicate n z.toList) (q / z.size) (q % z.size) hlen (by simpa using hi) hj
    rw [← e] at h1
    rw [List.toList_toArray, h1]
    simp [madeCells, hq, hi, hj]
  · rw [List.getElem?_eq_none (by simp [madeCells]; omega), List.getElem?_eq_none (by rw [List.toList_toArray, flat_length _ hlen]; simp; omega)]
theorem run_make_grid {P : Program} {t e : TypeId} {i : TypeInfo} {z : Value} (ht : P.underlying t = some (.slice e)) (hi : P.info? e = some i) (hz : i.zero = some z) (hs : i.size = z.cells.size) (h0 : 0 < z.cells.size)
    (kl kc : IntKind) (n : Nat) (hb : i.bytes * n ≤ 281474976710656) (h63 : n ≤ maxLen) (w : World) :
    (Instr.makeSlice t (.int kl (n : Int)) (.int kc (n : Int))).run P w = .ok (.slice (some ⟨w.heap.size, 0, none⟩) n n) (w.alloc (.cells (List.replicate n z.cells.toList).flatten.toArray e)) := by
  have h63' : (n : Int) ≤ 9223372036854775807 := by unfold maxLen at h63; omega
  rw [run_make w t e i z ht hi hz kl kc n n (by omega) (Int.le_refl _) (by omega) h63']
  rw [← madeCells_rows _ n h0]
  simp [hs]
end Go.Proofs.Ytedlfkklkoihjaa
