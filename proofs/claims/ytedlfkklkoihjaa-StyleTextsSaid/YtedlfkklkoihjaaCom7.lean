/-
  Only some blocks have changed. No condition.
-/
import Derived.Test.YtedlfkklkoihjaaCom6
set_option linter.unusedVariables false
set_option linter.unusedSimpArgs false
namespace Go.Proofs.Ytedlfkklkoihjaa
open Go.RowKit

structure Only (gs : List Nat) (w w' : World) : Prop where
  os : w'.os = w.os
  tape : w'.tape = w.tape
  output : w'.output = w.output
  size : w.heap.size ≤ w'.heap.size
  block : ∀ k, k < w.heap.size → k ∉ gs → w'.heap[k]? = w.heap[k]?
theorem Only.refl (gs : List Nat) (w : World) : Only gs w w := ⟨rfl, rfl, rfl, Nat.le_refl _, fun _ _ _ => rfl⟩
theorem Only.of_below {gs : List Nat} {w w' : World} (h : Below w.heap.size w w') : Only gs w w' := ⟨h.os, h.tape, h.output, h.size, fun k hk _ => h.block k hk⟩
theorem Only.trans {gs : List Nat} {a b c : World} (h : Only gs a b) (k : Only gs b c) : Only gs a c :=
  ⟨k.os.trans h.os, k.tape.trans h.tape, k.output.trans h.output, Nat.le_trans h.size k.size, fun i hi hg => (k.block i (Nat.lt_of_lt_of_le hi h.size) hg).trans (h.block i hi hg)⟩
theorem Only.set {gs : List Nat} {a b : World} (h : Only gs a b) {p : Addr} (hp : p.block ∈ gs) (u : Value) : Only gs a (b.setCell p u) :=
  ⟨h.os, h.tape, h.output, by simpa using h.size, fun k hk hg => (Below.heap_setCell b p u k (fun e => hg (e ▸ hp))).trans (h.block k hk hg)⟩
theorem Only.alloc {gs : List Nat} {a b : World} (h : Only gs a b) (o : Obj) : Only gs a (b.alloc o) :=
  ⟨h.os, h.tape, h.output, by have := h.size; simp; omega, fun k hk hg => (Below.heap_alloc b o k (Nat.lt_of_lt_of_le hk h.size)).trans (h.block k hk hg)⟩
theorem Only.drew {gs : List Nat} {a b : World} (h : Only gs a b) : Only gs a b.drew := ⟨h.os, h.tape, h.output, h.size, h.block⟩
theorem Only.mono {gs hs : List Nat} {a b : World} (h : Only gs a b) (hsub : ∀ g ∈ gs, g ∈ hs) : Only hs a b := ⟨h.os, h.tape, h.output, h.size, fun k hk hg => h.block k hk (fun x => hg (hsub k x))⟩
theorem Only.below {gs : List Nat} {w w' : World} (h : Only gs w w') {B : Nat} (hB : B ≤ w.heap.size) (hg : ∀ g ∈ gs, B ≤ g) : Below B w w' :=
  ⟨h.os, h.tape, h.output, h.size, fun k hk => h.block k (Nat.lt_of_lt_of_le hk hB) (fun x => by have := hg k x; omega)⟩
/-- Behind a part that changed nothing below B, where the blocks that change now lie above. -/
theorem Only.after {gs : List Nat} {a b c : World} {B : Nat} (h : Below B a b) (hB : B ≤ a.heap.size) (k : Only gs b c) (hg : ∀ g ∈ gs, B ≤ g) : Below B a c :=
  h.trans (k.below (Nat.le_trans hB h.size) hg)
theorem Only.blk {gs : List Nat} {w w' : World} {g : Nat} {t : TypeId} {cs : Array Value} (h : Only gs w w') (hb : Blk w g t cs) (hg : g ∉ gs) : Blk w' g t cs := (h.block g (Blk_lt hb) hg).trans hb
theorem Only.grid {gs : List Nat} {w w' : World} {g k : Nat} {t : TypeId} {rows : List (List Value)} (h : Only gs w w') (hb : Grid w g t k rows) (hg : g ∉ gs) : Grid w' g t k rows := ⟨h.blk hb.blk hg, hb.len⟩
theorem Only.own {gs : List Nat} {w w' : World} {base : Nat} {e : TypeId} {size n : Nat} {v : Value} {xs : List Value} (h : Only gs w w') (ho : w.ownsRow base e size v n xs) (hg : ∀ g ∈ gs, v.ownBlock ≠ some g) : w'.ownsRow base e size v n xs := by
  refine ⟨ho.1, ?_⟩
  rcases ho.2 with hn | ⟨g, cap, cur, rfl, hbg, hgg, rest⟩
  · exact .inl hn
  · have hlt : g < w.heap.size := by
      rcases Nat.lt_or_ge g w.heap.size with hlt | hge
      · exact hlt
      · rw [Array.getElem?_eq_none hge] at hgg; cases hgg
    exact .inr ⟨g, cap, cur, rfl, hbg, (h.block g hlt (fun x => hg g x rfl)).trans hgg, rest⟩
theorem Only.of_grown {gs : List Nat} {w w' : World} {row : Option Nat} (h : w.grownBy w' row) (hr : ∀ g, row = some g → g ∈ gs) : Only gs w w' :=
  ⟨h.os, h.tape, h.output, h.size, fun k hk hg => h.block k hk (fun e => hg (hr k e.symm))⟩
theorem blk_neq {w : World} {g g' : Nat} {t t' : TypeId} {cs cs' : Array Value} (h : Blk w g t cs) (h' : Blk w g' t' cs') (hne : t ≠ t') : g ≠ g' := by
  rintro rfl
  unfold Blk at h h'
  rw [h] at h'
  injection h' with h'
  injection h' with _ ht
  exact hne ht
theorem Grid.alloc {w : World} {g k : Nat} {t : TypeId} {rows : List (List Value)} (h : Grid w g t k rows) (o : Obj) : Grid (w.alloc o) g t k rows := ⟨Blk_alloc h.blk o, h.len⟩
theorem Grid.drew {w : World} {g k : Nat} {t : TypeId} {rows : List (List Value)} (h : Grid w g t k rows) : Grid w.drew g t k rows := ⟨Blk_drew h.blk, h.len⟩
/-- A store, the row as it then is. -/
theorem Grid.put {w : World} {g k : Nat} {t : TypeId} {rows : List (List Value)} (h : Grid w g t k rows) {i j : Nat} (hi : i < rows.length) (hj : j < k) (u : Value) {r : List Value} (hr : (rows.getD i []).set j u = r) :
    Grid (w.setCell ⟨g, i * k + j, none⟩ u) g t k (rows.set i r) := hr ▸ h.set hi hj u
theorem getD_set_self {rows : List (List Value)} {i : Nat} (hi : i < rows.length) (r : List Value) : (rows.set i r).getD i [] = r := by simp [hi]
/-- 'make([]T, 0, n)'. -/
theorem run_make_cap {P : Program} {t e : TypeId} {i : TypeInfo} {z : Value} (ht : P.underlying t = some (.slice e)) (hi : P.info? e = some i) (hz : i.zero = some z)
    (kl kc : IntKind) (n : Nat) (hb : i.bytes * n ≤ 281474976710656) (h63 : n ≤ maxLen) :
    ∃ M : Array Value, M.size = n * i.size ∧ ∀ w : World, (Instr.makeSlice t (.int kl 0) (.int kc (n : Int))).run P w = .ok (.slice (some ⟨w.heap.size, 0, none⟩) 0 n) (w.alloc (.cells M e)) := by
  have h63' : (n : Int) ≤ 9223372036854775807 := by unfold maxLen at h63; omega
  refine ⟨madeCells z.cells (n * i.size), size_madeCells _ _, fun w => ?_⟩
  rw [run_make w t e i z ht hi hz kl kc 0 n (by omega) (by omega) (by omega) h63']
  simp
end Go.Proofs.Ytedlfkklkoihjaa
