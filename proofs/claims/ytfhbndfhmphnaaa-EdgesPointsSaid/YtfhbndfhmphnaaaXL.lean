/-
  Points of small rectangles: what the two loops of EdgesPoints gather, and what it says. No condition.
-/
import Derived.Test.YtfhbndfhmphnaaaXC
set_option linter.unusedVariables false
set_option linter.unusedSimpArgs false
namespace Go.Proofs.Ytfhbndfhmphnaaa
open Go.RowKit Go.BigFrame

def hasB (q : Q4) (x y : Int) : Bool := decide (q.a ≤ x) && decide (x - q.a < q.c) && decide (q.b ≤ y) && decide (y - q.b < q.d)
theorem hasB_iff (q : Q4) (x y : Int) : hasB q x y = true ↔ q.a ≤ x ∧ x - q.a < q.c ∧ q.b ≤ y ∧ y - q.b < q.d := by
  simp [hasB, and_assoc]
structure Sm (q : Q4) : Prop where
  a : -9 ≤ q.a ∧ q.a ≤ 9
  b : -9 ≤ q.b ∧ q.b ≤ 9
  c : -11 ≤ q.c ∧ q.c ≤ 11
  d : -11 ≤ q.d ∧ q.d ≤ 11
def pt (q : Q4) (i j : Nat) : Bool := hasB q ((i : Int) - 9) ((j : Int) - 9)
theorem pt_iff (q : Q4) (i j : Nat) : pt q i j = true ↔ q.a ≤ (i : Int) - 9 ∧ (i : Int) - 9 - q.a < q.c ∧ q.b ≤ (j : Int) - 9 ∧ (j : Int) - 9 - q.b < q.d := hasB_iff _ _ _
structure Inv (p q : Q4) (S : Nat → Nat → Prop) (co al : Bool) (R C : List Bool) : Prop where
  co : co = true ↔ ∃ i j, S i j ∧ pt p i j = true ∧ pt q i j = true
  al : al = true ↔ ∀ i j, S i j → pt p i j = true → pt q i j = true
  rl : R.length = 40
  cl : C.length = 40
  r : ∀ t, t < 40 → (R.getD t false = true ↔ ∃ i, S i t ∧ (pt p i t = true ∨ pt q i t = true))
  c : ∀ t, t < 40 → (C.getD t false = true ↔ ∃ j, S t j ∧ (pt p t j = true ∨ pt q t j = true))
def Sk (k m : Nat) (i j : Nat) : Prop := j < 39 ∧ (i < k ∨ (i = k ∧ j < m))
theorem Inv.nil (p q : Q4) : Inv p q (Sk 0 0) false true (List.replicate 40 false) (List.replicate 40 false) := by
  have h : ∀ i j, ¬ Sk 0 0 i j := fun i j h => by unfold Sk at h; omega
  have hz : ∀ t, (List.replicate 40 false).getD t false = false := fun t => by rw [List.getD_eq_getElem?_getD, List.getElem?_replicate]; split <;> rfl
  refine ⟨⟨fun h' => (by cases h'), fun h' => ?_⟩, ⟨fun _ i j h' => absurd h' (h i j), fun _ => rfl⟩, by simp, by simp, fun t ht => ⟨fun h' => ?_, fun h' => ?_⟩, fun t ht => ⟨fun h' => ?_, fun h' => ?_⟩⟩
  · obtain ⟨i, j, h', _⟩ := h'; exact absurd h' (h i j)
  · rw [hz] at h'; cases h'
  · obtain ⟨i, h', _⟩ := h'; exact absurd h' (h i t)
  · rw [hz] at h'; cases h'
  · obtain ⟨j, h', _⟩ := h'; exact absurd h' (h t j)
theorem Inv.congr {p q : Q4} {S S' : Nat → Nat → Prop} {co al : Bool} {R C : List Bool} (h : Inv p q S co al R C) (e : ∀ i j, S i j ↔ S' i j) : Inv p q S' co al R C := by
  have : S = S' := by funext i j; exact propext (e i j)
  exact this ▸ h
theorem getD_setT (l : List Bool) (t m : Nat) (ht : t < l.length) : ((l.set m true).getD t false = true) ↔ (t = m ∨ l.getD t false = true) := by
  by_cases h : m = t
  · subst h; simp [List.getD, ht]
  · simp only [List.getD_eq_getElem?_getD, List.getElem?_set_ne h]
    constructor
    · exact .inr
    · rintro (rfl | h')
      · exact absurd rfl h
      · exact h'
theorem Inv.step {p q : Q4} {S : Nat → Nat → Prop} {co al : Bool} {R C : List Bool} (h : Inv p q S co al R C) (k m : Nat) {o1 o2 : Bool} (e1 : pt p k m = o1) (e2 : pt q k m = o2) :
    Inv p q (fun i j => S i j ∨ (i = k ∧ j = m)) (co || (o1 && o2)) (al && (!o1 || o2)) (if (o1 || o2) = true then R.set m true else R) (if (o1 || o2) = true then C.set k true else C) := by
  subst e1; subst e2
  refine ⟨?_, ?_, ?_, ?_, ?_, ?_⟩
  · rw [Bool.or_eq_true, h.co, Bool.and_eq_true]
    constructor
    · rintro (⟨i, j, hs, h1, h2⟩ | ⟨h1, h2⟩)
      · exact ⟨i, j, .inl hs, h1, h2⟩
      · exact ⟨k, m, .inr ⟨rfl, rfl⟩, h1, h2⟩
    · rintro ⟨i, j, hs | ⟨rfl, rfl⟩, h1, h2⟩
      · exact .inl ⟨i, j, hs, h1, h2⟩
      · exact .inr ⟨h1, h2⟩
  · rw [Bool.and_eq_true, h.al]
    constructor
    · rintro ⟨h1, h2⟩ i j (hs | ⟨rfl, rfl⟩) h3
      · exact h1 i j hs h3
      · simpa [h3] using h2
    · intro h1
      refine ⟨fun i j hs => h1 i j (.inl hs), ?_⟩
      have := h1 k m (.inr ⟨rfl, rfl⟩)
      cases h3 : pt p k m
      · rfl
      · simpa using this h3
  · split <;> simp [h.rl]
  · split <;> simp [h.cl]
  · intro t ht
    have hr := h.r t ht
    split
    · rename_i ho
      rw [getD_setT _ _ _ (by rw [h.rl]; exact ht), hr]
      constructor
      · rintro (rfl | ⟨i, hs, h1⟩)
        · exact ⟨k, .inr ⟨rfl, rfl⟩, by simpa using ho⟩
        · exact ⟨i, .inl hs, h1⟩
      · rintro ⟨i, hs | ⟨rfl, rfl⟩, h1⟩
        · exact .inr ⟨i, hs, h1⟩
        · exact .inl rfl
    · rename_i ho
      rw [hr]
      constructor
      · rintro ⟨i, hs, h1⟩; exact ⟨i, .inl hs, h1⟩
      · rintro ⟨i, hs | ⟨rfl, rfl⟩, h1⟩
        · exact ⟨i, hs, h1⟩
        · exact absurd (by simpa using h1) ho
  · intro t ht
    have hr := h.c t ht
    split
    · rename_i ho
      rw [getD_setT _ _ _ (by rw [h.cl]; exact ht), hr]
      constructor
      · rintro (rfl | ⟨j, hs, h1⟩)
        · exact ⟨m, .inr ⟨rfl, rfl⟩, by simpa using ho⟩
        · exact ⟨j, .inl hs, h1⟩
      · rintro ⟨j, hs | ⟨rfl, rfl⟩, h1⟩
        · exact .inr ⟨j, hs, h1⟩
        · exact .inl rfl
    · rename_i ho
      rw [hr]
      constructor
      · rintro ⟨j, hs, h1⟩; exact ⟨j, .inl hs, h1⟩
      · rintro ⟨j, hs | ⟨rfl, rfl⟩, h1⟩
        · exact ⟨j, hs, h1⟩
        · exact absurd (by simpa using h1) ho
theorem Sk_step {k m : Nat} (h : m < 39) (i j : Nat) : (Sk k m i j ∨ (i = k ∧ j = m)) ↔ Sk k (m + 1) i j := by unfold Sk; omega
theorem Sk_next (k : Nat) (i j : Nat) : Sk k 39 i j ↔ Sk (k + 1) 0 i j := by unfold Sk; omega
theorem Inv.step' {p q : Q4} {k m : Nat} {co al : Bool} {R C : List Bool} (h : Inv p q (Sk k m) co al R C) (hm : m < 39) {o1 o2 : Bool} (e1 : pt p k m = o1) (e2 : pt q k m = o2) :
    Inv p q (Sk k (m + 1)) (co || (o1 && o2)) (al && (!o1 || o2)) (if (o1 || o2) = true then R.set m true else R) (if (o1 || o2) = true then C.set k true else C) :=
  (h.step k m e1 e2).congr (Sk_step hm)
theorem Inv.next {p q : Q4} {k : Nat} {co al : Bool} {R C : List Bool} (h : Inv p q (Sk k 39) co al R C) : Inv p q (Sk (k + 1) 0) co al R C := h.congr (Sk_next k)
theorem bool_iff {a b : Bool} (h : a = true ↔ b = true) : a = b := by cases a <;> cases b <;> simp_all
theorem MeetB_iff (p q : Q4) : MeetB p q = true ↔ (0 < p.c ∧ 0 < p.d) ∧ (0 < q.c ∧ 0 < q.d) ∧ (p.a < q.a + q.c ∧ q.a < p.a + p.c) ∧ (p.b < q.b + q.d ∧ q.b < p.b + p.d) := by
  unfold MeetB
  rw [Bool.and_eq_true, Bool.and_eq_true, Bool.and_eq_true, meetB_spec, meetB_spec]
  simp only [someB, Bool.and_eq_true, decide_eq_true_eq]
  constructor
  · rintro ⟨⟨⟨h1, h2⟩, h3⟩, h4⟩
    split at h3 <;> split at h4 <;> omega
  · rintro ⟨h1, h2, h3, h4⟩
    refine ⟨⟨⟨h1, h2⟩, ?_⟩, ?_⟩ <;> split <;> omega
theorem Inv.meet {p q : Q4} {co al : Bool} {R C : List Bool} (h : Inv p q (Sk 39 0) co al R C) (hp : Sm p) (hq : Sm q) : MeetB p q = co := by
  apply bool_iff
  rw [h.co, MeetB_iff]
  have h1 := hp.a; have h2 := hp.b; have h3 := hp.c; have h4 := hp.d
  have g1 := hq.a; have g2 := hq.b; have g3 := hq.c; have g4 := hq.d
  constructor
  · rintro ⟨a1, a2, a3, a4⟩
    refine ⟨(max p.a q.a + 9).toNat, (max p.b q.b + 9).toNat, ?_, ?_, ?_⟩
    · unfold Sk; omega
    · rw [pt_iff]; omega
    · rw [pt_iff]; omega
  · rintro ⟨i, j, _, h5, h6⟩
    rw [pt_iff] at h5 h6
    omega
theorem Inv.ins {p q : Q4} {co al : Bool} {R C : List Bool} (h : Inv p q (Sk 39 0) co al R C) (hp : Sm p) (hq : Sm q) : InB p q = al := by
  apply bool_iff
  rw [h.al]
  have h1 := hp.a; have h2 := hp.b; have h3 := hp.c; have h4 := hp.d
  have g1 := hq.a; have g2 := hq.b; have g3 := hq.c; have g4 := hq.d
  constructor
  · intro hi i j _ h5
    rw [pt_iff] at h5 ⊢
    have := InB_spec hi (by simp [someB]; omega)
    have hs := someB_pos this.1
    omega
  · intro hi
    apply InB_mk
    intro hs
    have hs := someB_pos hs
    have k1 := hi (p.a + 9).toNat (p.b + 9).toNat (by unfold Sk; omega) (by rw [pt_iff]; omega)
    have k2 := hi (p.a + p.c - 1 + 9).toNat (p.b + p.d - 1 + 9).toNat (by unfold Sk; omega) (by rw [pt_iff]; omega)
    rw [pt_iff] at k1 k2
    refine ⟨by simp [someB]; omega, by omega, by omega⟩
theorem Sm.lim {q : Q4} (h : Sm q) : q.lim := by
  obtain ⟨h1, h2, h3, h4⟩ := h
  constructor <;> omega
theorem join_pt {p q : Q4} (i j : Nat) (h : (pt p i j || pt q i j) = true) : pt (join p q) i j = true := by
  rw [Bool.or_eq_true] at h
  rcases h with h | h
  · have hi := join_in_l p q
    rw [pt_iff] at h ⊢
    have := InB_spec hi (by simp [someB]; omega)
    omega
  · have hi := join_in_r p q
    rw [pt_iff] at h ⊢
    have := InB_spec hi (by simp [someB]; omega)
    omega
/-- What the cover of two small rectangles is like. -/
structure Cov (g : Q4) (R C : List Bool) : Prop where
  a : -9 ≤ g.a ∧ g.a ≤ 9
  b : -9 ≤ g.b ∧ g.b ≤ 9
  c : g.c ≤ 29
  d : g.d ≤ 29
  ac : g.a + g.c ≤ 30
  bd : g.b + g.d ≤ 30
  lo : -11 ≤ g.c ∧ -11 ≤ g.d
  cd : 0 < g.c ↔ 0 < g.d
  c1 : 0 < g.c → C.getD (g.a + 9).toNat false = true
  c2 : 0 < g.c → C.getD (g.a + g.c - 1 + 9).toNat false = true
  r1 : 0 < g.c → R.getD (g.b + 9).toNat false = true
  r2 : 0 < g.c → R.getD (g.b + g.d - 1 + 9).toNat false = true
theorem Inv.one_c {p q : Q4} {co al : Bool} {R C : List Bool} (h : Inv p q (Sk 39 0) co al R C) {t j : Nat} (ht : t < 39) (hj : j < 39) (h' : pt p t j = true ∨ pt q t j = true) : C.getD t false = true :=
  (h.c t (by omega)).2 ⟨j, by unfold Sk; omega, h'⟩
theorem Inv.one_r {p q : Q4} {co al : Bool} {R C : List Bool} (h : Inv p q (Sk 39 0) co al R C) {t i : Nat} (ht : t < 39) (hi : i < 39) (h' : pt p i t = true ∨ pt q i t = true) : R.getD t false = true :=
  (h.r t (by omega)).2 ⟨i, by unfold Sk; omega, h'⟩
theorem Inv.cov {p q : Q4} {co al : Bool} {R C : List Bool} (h : Inv p q (Sk 39 0) co al R C) (hp : Sm p) (hq : Sm q) : Cov (join p q) R C := by
  have h1 := hp.a; have h2 := hp.b; have h3 := hp.c; have h4 := hp.d
  have g1 := hq.a; have g2 := hq.b; have g3 := hq.c; have g4 := hq.d
  cases e1 : someB p
  · cases e2 : someB q
    · rw [join_no e1 e2]
      constructor <;> simp
    · rw [join_r e1 e2]
      have hs := someB_pos e2
      have k : ∀ i j : Nat, i < 39 → j < 39 → (q.a ≤ (i : Int) - 9 ∧ (i : Int) - 9 - q.a < q.c ∧ q.b ≤ (j : Int) - 9 ∧ (j : Int) - 9 - q.b < q.d) → C.getD i false = true ∧ R.getD j false = true := fun i j hi hj hc =>
        ⟨h.one_c hi hj (.inr ((pt_iff _ _ _).2 hc)), h.one_r hj hi (.inr ((pt_iff _ _ _).2 hc))⟩
      have k1 := k (q.a + 9).toNat (q.b + 9).toNat (by omega) (by omega) (by omega)
      have k2 := k (q.a + q.c - 1 + 9).toNat (q.b + q.d - 1 + 9).toNat (by omega) (by omega) (by omega)
      exact ⟨g1, g2, by omega, by omega, by omega, by omega, by omega, by omega, fun _ => k1.1, fun _ => k2.1, fun _ => k1.2, fun _ => k2.2⟩
  · have hs := someB_pos e1
    have k : ∀ i j : Nat, i < 39 → j < 39 → (p.a ≤ (i : Int) - 9 ∧ (i : Int) - 9 - p.a < p.c ∧ p.b ≤ (j : Int) - 9 ∧ (j : Int) - 9 - p.b < p.d) → C.getD i false = true ∧ R.getD j false = true := fun i j hi hj hc =>
      ⟨h.one_c hi hj (.inl ((pt_iff _ _ _).2 hc)), h.one_r hj hi (.inl ((pt_iff _ _ _).2 hc))⟩
    have k1 := k (p.a + 9).toNat (p.b + 9).toNat (by omega) (by omega) (by omega)
    have k2 := k (p.a + p.c - 1 + 9).toNat (p.b + p.d - 1 + 9).toNat (by omega) (by omega) (by omega)
    cases e2 : someB q
    · rw [join_l e1 e2]
      exact ⟨h1, h2, by omega, by omega, by omega, by omega, by omega, by omega, fun _ => k1.1, fun _ => k2.1, fun _ => k1.2, fun _ => k2.2⟩
    · rw [join_b e1 e2]
      have hs' := someB_pos e2
      have k' : ∀ i j : Nat, i < 39 → j < 39 → (q.a ≤ (i : Int) - 9 ∧ (i : Int) - 9 - q.a < q.c ∧ q.b ≤ (j : Int) - 9 ∧ (j : Int) - 9 - q.b < q.d) → C.getD i false = true ∧ R.getD j false = true := fun i j hi hj hc =>
        ⟨h.one_c hi hj (.inr ((pt_iff _ _ _).2 hc)), h.one_r hj hi (.inr ((pt_iff _ _ _).2 hc))⟩
      have k1' := k' (q.a + 9).toNat (q.b + 9).toNat (by omega) (by omega) (by omega)
      have k2' := k' (q.a + q.c - 1 + 9).toNat (q.b + q.d - 1 + 9).toNat (by omega) (by omega) (by omega)
      refine ⟨by simp only []; omega, by simp only []; omega, by simp only []; omega, by simp only []; omega, by simp only []; omega, by simp only []; omega, by simp only []; omega, by simp only []; omega, fun _ => ?_, fun _ => ?_, fun _ => ?_, fun _ => ?_⟩
      · simp only []
        rcases Int.le_total p.a q.a with hh | hh
        · rw [Int.min_eq_left hh]; exact k1.1
        · rw [Int.min_eq_right hh]; exact k1'.1
      · simp only []
        rcases Int.le_total (p.a + p.c) (q.a + q.c) with hh | hh
        · rw [Int.max_eq_right hh, show min p.a q.a + (q.a + q.c - min p.a q.a) - 1 + 9 = q.a + q.c - 1 + 9 by omega]; exact k2'.1
        · rw [Int.max_eq_left hh, show min p.a q.a + (p.a + p.c - min p.a q.a) - 1 + 9 = p.a + p.c - 1 + 9 by omega]; exact k2.1
      · simp only []
        rcases Int.le_total p.b q.b with hh | hh
        · rw [Int.min_eq_left hh]; exact k1.2
        · rw [Int.min_eq_right hh]; exact k1'.2
      · simp only []
        rcases Int.le_total (p.b + p.d) (q.b + q.d) with hh | hh
        · rw [Int.max_eq_right hh, show min p.b q.b + (q.b + q.d - min p.b q.b) - 1 + 9 = q.b + q.d - 1 + 9 by omega]; exact k2'.2
        · rw [Int.max_eq_left hh, show min p.b q.b + (p.b + p.d - min p.b q.b) - 1 + 9 = p.b + p.d - 1 + 9 by omega]; exact k2.2
end Go.Proofs.Ytfhbndfhmphnaaa
