/-
  The walk of EdgesPoints. No condition.
-/
import Derived.Test.YtfhbndfhmphnaaaXM
set_option linter.unusedVariables false
set_option linter.unusedSimpArgs false
namespace Go.Proofs.Ytfhbndfhmphnaaa
open Go.RowKit Go.BigFrame

structure PS (w wr : World) (gX gY gJ gR gC : Nat) (p q J : Q4) (R C : List Bool) : Prop where
  b : Below w.heap.size w wr
  x : Blk wr gX 33 #[.int .i64 p.a, .int .i64 p.b, .int .i64 p.c, .int .i64 p.d]
  y : Blk wr gY 33 #[.int .i64 q.a, .int .i64 q.b, .int .i64 q.c, .int .i64 q.d]
  j : Blk wr gJ 33 #[.int .i64 J.a, .int .i64 J.b, .int .i64 J.c, .int .i64 J.d]
  r : Blk wr gR 4 (R.map Value.bool).toArray
  c : Blk wr gC 4 (C.map Value.bool).toArray
  gr : w.heap.size ≤ gR
  gc : w.heap.size ≤ gC
  ne : gR ≠ gC
section
variable {w wr w' : World} {gX gY gJ gR gC : Nat} {p q J : Q4} {R C : List Bool}
theorem PS.below (h : PS w wr gX gY gJ gR gC p q J R C) (k : Below wr.heap.size wr w') : PS w w' gX gY gJ gR gC p q J R C :=
  ⟨Below_then h.b k (Nat.le_refl _), Blk_below h.x k (Blk_lt h.x), Blk_below h.y k (Blk_lt h.y), Blk_below h.j k (Blk_lt h.j), Blk_below h.r k (Blk_lt h.r), Blk_below h.c k (Blk_lt h.c), h.gr, h.gc, h.ne⟩
theorem set_map (l : List Bool) (m : Nat) : ((l.map Value.bool).toArray).setIfInBounds m (.bool true) = ((l.set m true).map Value.bool).toArray := by
  simp [List.map_set]
theorem PS.setR (h : PS w wr gX gY gJ gR gC p q J R C) (m : Nat) : PS w (wr.setCell ⟨gR, m, none⟩ (.bool true)) gX gY gJ gR gC p q J (R.set m true) C :=
  ⟨h.b.setCell h.gr _, Blk_far h.x (blk_neq h.x h.r (by decide)) _, Blk_far h.y (blk_neq h.y h.r (by decide)) _, Blk_far h.j (blk_neq h.j h.r (by decide)) _, by have := Blk_set h.r m (.bool true); rw [set_map] at this; exact this, Blk_far h.c h.ne.symm _, h.gr, h.gc, h.ne⟩
theorem PS.setC (h : PS w wr gX gY gJ gR gC p q J R C) (m : Nat) : PS w (wr.setCell ⟨gC, m, none⟩ (.bool true)) gX gY gJ gR gC p q J R (C.set m true) :=
  ⟨h.b.setCell h.gc _, Blk_far h.x (blk_neq h.x h.c (by decide)) _, Blk_far h.y (blk_neq h.y h.c (by decide)) _, Blk_far h.j (blk_neq h.j h.c (by decide)) _, Blk_far h.r h.ne _, by have := Blk_set h.c m (.bool true); rw [set_map] at this; exact this, h.gr, h.gc, h.ne⟩
theorem bl_cell {w : World} {g : Nat} {R : List Bool} (h : Blk w g 4 (R.map Value.bool).toArray) {m : Nat} (hm : m < R.length) : w.cell? ⟨g, m, none⟩ = some (.bool (R.getD m false)) := by
  rw [Blk_cell h m]
  simp [List.getD, hm]
end
theorem join_ab {p q : Q4} (hp : Sm p) (hq : Sm q) : (-9 ≤ (join p q).a ∧ (join p q).a ≤ 9) ∧ (-9 ≤ (join p q).b ∧ (join p q).b ≤ 9) := by
  have h1 := hp.a; have h2 := hp.b
  have g1 := hq.a; have g2 := hq.b
  unfold join
  split
  · split
    · simp only []; omega
    · exact ⟨h1, h2⟩
  · split
    · exact ⟨g1, g2⟩
    · simp
end Go.Proofs.Ytfhbndfhmphnaaa
