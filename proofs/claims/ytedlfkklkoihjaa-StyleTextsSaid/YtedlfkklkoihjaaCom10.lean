/-
  A row of rows of ints, of the program's own. No condition.
-/
import Derived.Test.YtedlfkklkoihjaaCom9
set_option linter.unusedVariables false
set_option linter.unusedSimpArgs false
namespace Go.Proofs.Ytedlfkklkoihjaa
open Go.RowKit

theorem Src_at (w : World) (t : TypeId) (cs : Array Value) (k g : Nat) (hk : cs.size = k) (hg : w.heap.size = g) : Src (w.alloc (.cells cs t)) (some ⟨g, 0, none⟩) k cs.toList := hg ▸ Src_new w t cs k hk
theorem map_range_set {α : Type} (f : Nat → α) (n p : Nat) (x : α) : ((List.range n).map f).set p x = (List.range n).map fun q => if q = p then x else f q := by
  apply List.ext_getElem?
  intro q
  by_cases hq : q < n
  · by_cases e : q = p
    · subst e; simp [hq]
    · have e' : ¬ p = q := fun h => e h.symm
      rw [List.getElem?_set_ne e']
      simp [hq, e]
  · rw [List.getElem?_eq_none (by simp; omega), List.getElem?_eq_none (by simp; omega)]
abbrev nilV : Value := .slice none 0 0
theorem own_grown {w w' : World} {base : Nat} {e : TypeId} {size n : Nat} {v : Value} {xs : List Value} {row : Option Nat} (h : w.ownsRow base e size v n xs) (hg : w.grownBy w' row)
    (hne : ∀ b, v.ownBlock = some b → row ≠ some b) : w'.ownsRow base e size v n xs := by
  refine ⟨h.1, ?_⟩
  rcases h.2 with hn | ⟨g, cap, cur, rfl, hbg, hgg, rest⟩
  · exact .inl hn
  · have hlt : g < w.heap.size := by
      rcases Nat.lt_or_ge g w.heap.size with hlt | hge
      · exact hlt
      · rw [Array.getElem?_eq_none hge] at hgg; cases hgg
    exact .inr ⟨g, cap, cur, rfl, hbg, (hg.block g hlt (fun e => hne g rfl e.symm)).trans hgg, rest⟩
theorem Only.grown {gs : List Nat} {a b w : World} {row : Option Nat} (h : Only gs a b) (hg : b.grownBy w row) (hr : ∀ z, row = some z → a.heap.size ≤ z) : Only gs a w :=
  ⟨hg.os.trans h.os, hg.tape.trans h.tape, hg.output.trans h.output, Nat.le_trans h.size hg.size, fun k hk hks => (hg.block k (Nat.lt_of_lt_of_le hk h.size) (fun e => by have := hr k e.symm; omega)).trans (h.block k hk hks)⟩
theorem Ints.only {gs : List Nat} {kd : IntKind} {w w' : World} {A : Option Addr} {len : Nat} {l : List Int} (h : Ints kd w A len l) (ho : Only gs w w') (hA : ∀ a, A = some a → a.block ∉ gs) : Ints kd w' A len l := by
  refine ⟨h.len_eq, fun h0 => ?_⟩
  obtain ⟨b, off, e, hB, hc⟩ := h.at_ h0
  have hb := ho.block b hB (hA _ e)
  refine ⟨b, off, e, Nat.lt_of_lt_of_le hB ho.size, fun k hk => ?_⟩
  rw [← hc k hk]
  simp only [World.cell?, hb]
structure Mat (w : World) (B g : Nat) (t2 t1 : TypeId) (vs : List Value) (ks : List (List Int)) : Prop where
  blk : Blk w g t2 vs.toArray
  len : vs.length = ks.length
  row : ∀ p, p < ks.length → w.ownsRow B t1 1 (vs.getD p nilV) (ks.getD p []).length ((ks.getD p []).map (Value.int .i64))
  apart : ∀ p q, p < ks.length → q < ks.length → p ≠ q → ∀ b, (vs.getD p nilV).ownBlock = some b → (vs.getD q nilV).ownBlock ≠ some b
  lt : g < B
section
variable {w w' : World} {B g : Nat} {t2 t1 : TypeId} {vs : List Value} {ks : List (List Int)}
theorem Mat.init {n : Nat} (h : Blk w g t2 (List.replicate n nilV).toArray) (hB : g < B) : Mat w B g t2 t1 (List.replicate n nilV) (List.replicate n []) := by
  have e1 : ∀ p, (List.replicate n nilV).getD p nilV = nilV := fun p => by simp only [List.getD, List.getElem?_replicate]; split <;> rfl
  have e2 : ∀ p, (List.replicate n ([] : List Int)).getD p [] = [] := fun p => by simp only [List.getD, List.getElem?_replicate]; split <;> rfl
  refine ⟨h, by simp, fun p _ => ?_, fun p q _ _ _ b hb => ?_, hB⟩
  · rw [e1, e2]; exact World.ownsRow_nil _ _ _ _
  · rw [e1] at hb; cases hb
theorem Mat.below (h : Mat w B g t2 t1 vs ks) (hb : Below w.heap.size w w') : Mat w' B g t2 t1 vs ks :=
  ⟨Blk_below h.blk hb (Blk_lt h.blk), h.len, fun p hp => own_below (h.row p hp) hb, h.apart, h.lt⟩
theorem Mat.cell (h : Mat w B g t2 t1 vs ks) {p : Nat} (hp : p < ks.length) : w.cell? ⟨g, p, none⟩ = some (vs.getD p nilV) := by
  rw [Blk_cell h.blk]; simp [List.getD, h.len, hp]
/-- A row as it is read. -/
theorem Mat.ints (h : Mat w B g t2 t1 vs ks) {p : Nat} (hp : p < ks.length) : ∃ A c, w.cell? ⟨g, p, none⟩ = some (.slice A (ks.getD p []).length c) ∧ (ks.getD p []).length ≤ c ∧ c ≤ maxLen ∧ Ints .i64 w A (ks.getD p []).length (ks.getD p []) := by
  obtain ⟨A, c, e, h1, h2⟩ := own_slice (h.row p hp)
  have hr := h.row p hp
  rw [e] at hr
  exact ⟨A, c, by rw [h.cell hp, e], h1, h2, Ints_of_own hr⟩
theorem Mat.only {gs : List Nat} (h : Mat w B g t2 t1 vs ks) (ho : Only gs w w') (hg : g ∉ gs) (hB : ∀ z ∈ gs, z < B) : Mat w' B g t2 t1 vs ks :=
  ⟨ho.blk h.blk hg, h.len, fun p hp => ho.own (h.row p hp) (fun z hz e => by have := ((h.row p hp).lt z e).1; have := hB z hz; omega), h.apart, h.lt⟩
/-- An append to a row. -/
theorem Mat.app {w6 : World} {v' : Value} {x : Int} {p : Nat} (h : Mat w B g t2 t1 vs ks) (hp : p < ks.length) (hB : B ≤ w.heap.size)
    (hown : w6.ownsRow B t1 1 v' ((ks.getD p []).length + 1) ((ks.getD p []).map (Value.int .i64) ++ [.int .i64 x])) (hg : w.grownBy w6 (vs.getD p nilV).ownBlock)
    (hat : v'.ownBlock = (vs.getD p nilV).ownBlock ∨ v'.ownBlock = some w.heap.size) :
    Mat (w6.setCell ⟨g, p, none⟩ v') B g t2 t1 (vs.set p v') (ks.set p (ks.getD p [] ++ [x])) := by
  have hlt := h.lt
  have hl := h.len
  have hge : ∀ q, q < ks.length → ∀ b, (vs.getD q nilV).ownBlock = some b → B ≤ b ∧ b < w.heap.size := fun q hq b hb => (h.row q hq).lt b hb
  have hgv : some g ≠ (vs.getD p nilV).ownBlock := fun e => by have := (hge p hp g e.symm).1; omega
  have hgv' : some g ≠ v'.ownBlock := by
    rcases hat with e | e
    · rw [e]; exact hgv
    · rw [e]; intro e; injection e with e; have := Blk_lt h.blk; omega
  have hset : ∀ q, (vs.set p v').getD q nilV = if q = p then v' else vs.getD q nilV := fun q => by
    by_cases e : q = p
    · subst e; simp [List.getD, hl, hp]
    · have e' : ¬ p = q := fun x => e x.symm
      rw [if_neg e]; simp [List.getD, e']
  have hks : ∀ q, (ks.set p (ks.getD p [] ++ [x])).getD q [] = if q = p then ks.getD p [] ++ [x] else ks.getD q [] := fun q => by
    by_cases e : q = p
    · subst e; rw [if_pos rfl]; simp [List.getD, hp]
    · have e' : ¬ p = q := fun x => e x.symm
      rw [if_neg e]; simp only [List.getD, List.getElem?_set_ne e']
  have hfar : ∀ q, q < ks.length → ¬ q = p → ∀ b, (vs.getD q nilV).ownBlock = some b → v'.ownBlock ≠ some b := fun q hq hne b hb => by
    rcases hat with e | e
    · rw [e]; exact h.apart q p hq hp hne b hb
    · rw [e]; intro e; injection e with e; have := (hge q hq b hb).2; omega
  refine ⟨?_, by simp [hl], fun q hq => ?_, fun q r hq hr hne b hb => ?_, hlt⟩
  · exact Blk_upd (Blk_grown h.blk hg hgv) p v' (by simp)
  · rw [List.length_set] at hq
    rw [hset, hks]
    by_cases e : q = p
    · rw [if_pos e, if_pos e, List.length_append, List.map_append]
      exact own_far hown hgv' _
    · rw [if_neg e, if_neg e]
      exact own_far (own_grown (h.row q hq) hg (fun b hb he => h.apart q p hq hp e b hb he)) (fun e => by have := (hge q hq g e.symm).1; omega) _
  · rw [List.length_set] at hq hr
    rw [hset] at hb
    rw [hset]
    by_cases e : q = p
    · rw [if_pos e] at hb
      rw [if_neg (fun e2 => hne (e.trans e2.symm))]
      intro hb2
      exact hfar r hr (fun e2 => hne (e.trans e2.symm)) b hb2 hb
    · rw [if_neg e] at hb
      by_cases e2 : r = p
      · rw [if_pos e2]; exact hfar q hq e b hb
      · rw [if_neg e2]; exact h.apart q r hq hr hne b hb
end
end Go.Proofs.Ytedlfkklkoihjaa
