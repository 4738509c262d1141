/-
  What covers two, or three, whose numbers are small. No condition.
-/
import Derived.Test.YtfhbndfhmphnaaaXA
set_option linter.unusedVariables false
set_option linter.unusedSimpArgs false
namespace Go.Proofs.Ytfhbndfhmphnaaa
open Go.RowKit

structure Q4.lim (q : Q4) : Prop where
  a : -4294967296 ≤ q.a ∧ q.a ≤ 4294967296
  b : -4294967296 ≤ q.b ∧ q.b ≤ 4294967296
  c : -4294967296 ≤ q.c ∧ q.c ≤ 4294967296
  d : -4294967296 ≤ q.d ∧ q.d ≤ 4294967296
theorem Q4.lim.ok {q : Q4} (h : q.lim) : q.ok := by
  obtain ⟨h1, h2, h3, h4⟩ := h
  exact ⟨by omega, by omega, by omega, by omega⟩
theorem cutV_id {s : Int} (h : -1099511627776 ≤ s ∧ s ≤ 1099511627776) : cutV s = s := by unfold cutV; omega
theorem cutB_id {s : Int} (h : -1099511627776 ≤ s ∧ s ≤ 1099511627776) : cutB s = false := by
  unfold cutB
  rw [cutV_id h]
  simp
def join (p q : Q4) : Q4 := if someB p = true then (if someB q = true then ⟨min p.a q.a, min p.b q.b, max (p.a + p.c) (q.a + q.c) - min p.a q.a, max (p.b + p.d) (q.b + q.d) - min p.b q.b⟩ else p) else if someB q = true then q else ⟨0, 0, 0, 0⟩
theorem q4_ext {p q : Q4} (h1 : p.a = q.a) (h2 : p.b = q.b) (h3 : p.c = q.c) (h4 : p.d = q.d) : p = q := by
  cases p; cases q; simp at h1 h2 h3 h4; simp [h1, h2, h3, h4]
theorem filt1 (p : Q4) : [p].filter someB = if someB p = true then [p] else [] := by
  cases h : someB p <;> simp [h]
theorem filt2 (p q : Q4) : [p, q].filter someB = if someB p = true then (if someB q = true then [p, q] else [p]) else if someB q = true then [q] else [] := by
  cases h : someB p <;> cases h2 : someB q <;> simp [h, h2]
theorem cover_one {p : Q4} (hp : p.lim) (h : someB p = true) : coverV [p] = p ∧ coverB [p] = false := by
  obtain ⟨h1, h2, h3, h4⟩ := hp
  obtain ⟨g1, g2⟩ := someB_pos h
  have e1 : cX [p] = p.a := by show min p.a p.a = p.a; omega
  have e2 : cY [p] = p.b := by show min p.b p.b = p.b; omega
  have v1 : gX [p] p = p.c := by unfold gX; omega
  have v2 : gY [p] p = p.d := by unfold gY; omega
  refine ⟨q4_ext ?_ ?_ ?_ ?_, ?_⟩
  · show cutV (cX [p]) = _
    rw [e1, cutV_id (by omega)]
  · show cutV (cY [p]) = _
    rw [e2, cutV_id (by omega)]
  · show max 0 (cutV (gX [p] p)) = _
    rw [v1, cutV_id (by omega)]; omega
  · show max 0 (cutV (gY [p] p)) = _
    rw [v2, cutV_id (by omega)]; omega
  · show ((cutB (gX [p] p) || false) || ((cutB (gY [p] p) || false) || (cutB (cX [p]) || cutB (cY [p])))) = false
    rw [e1, e2, v1, v2, cutB_id (by omega), cutB_id (by omega), cutB_id (by omega), cutB_id (by omega)]; rfl
theorem cover_pair {p q : Q4} (hp : p.lim) (hq : q.lim) : coverV [p, q] = ⟨min p.a q.a, min p.b q.b, max 0 (max (p.a + p.c) (q.a + q.c) - min p.a q.a), max 0 (max (p.b + p.d) (q.b + q.d) - min p.b q.b)⟩ ∧ coverB [p, q] = false := by
  obtain ⟨h1, h2, h3, h4⟩ := hp
  obtain ⟨k1, k2, k3, k4⟩ := hq
  have e1 : cX [p, q] = min p.a q.a := by show min (min p.a p.a) q.a = _; omega
  have e2 : cY [p, q] = min p.b q.b := by show min (min p.b p.b) q.b = _; omega
  have v1 : ∀ r : Q4, gX [p, q] r = r.a - min p.a q.a + r.c := fun r => by unfold gX; rw [e1]
  have v2 : ∀ r : Q4, gY [p, q] r = r.b - min p.b q.b + r.d := fun r => by unfold gY; rw [e2]
  have o1 : -1099511627776 ≤ p.a - min p.a q.a + p.c ∧ p.a - min p.a q.a + p.c ≤ 1099511627776 := by omega
  have o2 : -1099511627776 ≤ q.a - min p.a q.a + q.c ∧ q.a - min p.a q.a + q.c ≤ 1099511627776 := by omega
  have o3 : -1099511627776 ≤ p.b - min p.b q.b + p.d ∧ p.b - min p.b q.b + p.d ≤ 1099511627776 := by omega
  have o4 : -1099511627776 ≤ q.b - min p.b q.b + q.d ∧ q.b - min p.b q.b + q.d ≤ 1099511627776 := by omega
  have o5 : -1099511627776 ≤ min p.a q.a ∧ min p.a q.a ≤ 1099511627776 := by omega
  have o6 : -1099511627776 ≤ min p.b q.b ∧ min p.b q.b ≤ 1099511627776 := by omega
  refine ⟨q4_ext ?_ ?_ ?_ ?_, ?_⟩
  · show cutV (cX [p, q]) = _
    rw [e1, cutV_id o5]
  · show cutV (cY [p, q]) = _
    rw [e2, cutV_id o6]
  · show max (max 0 (cutV (gX [p, q] p))) (cutV (gX [p, q] q)) = _
    rw [v1, v1, cutV_id o1, cutV_id o2]; simp only []; omega
  · show max (max 0 (cutV (gY [p, q] p))) (cutV (gY [p, q] q)) = _
    rw [v2, v2, cutV_id o3, cutV_id o4]; simp only []; omega
  · show ((cutB (gX [p, q] p) || (cutB (gX [p, q] q) || false)) || ((cutB (gY [p, q] p) || (cutB (gY [p, q] q) || false)) || (cutB (cX [p, q]) || cutB (cY [p, q])))) = false
    rw [v1, v1, v2, v2, e1, e2, cutB_id o1, cutB_id o2, cutB_id o3, cutB_id o4, cutB_id o5, cutB_id o6]; rfl
theorem cover_two {p q : Q4} (hp : p.lim) (hq : q.lim) : CoverV [p, q] = join p q ∧ CoverB [p, q] = false := by
  unfold CoverV CoverB join
  rw [filt2]
  by_cases h1 : someB p = true
  · by_cases h2 : someB q = true
    · rw [if_pos h1, if_pos h1, if_pos h2, if_pos h2, if_neg (by simp), if_neg (by simp), (cover_pair hp hq).1, (cover_pair hp hq).2]
      obtain ⟨g1, g2⟩ := someB_pos h1
      refine ⟨q4_ext rfl rfl ?_ ?_, rfl⟩ <;> simp only [] <;> omega
    · rw [if_pos h1, if_pos h1, if_neg h2, if_neg h2, if_neg (by simp), if_neg (by simp), (cover_one hp h1).1, (cover_one hp h1).2]
      exact ⟨rfl, rfl⟩
  · by_cases h2 : someB q = true
    · rw [if_neg h1, if_neg h1, if_pos h2, if_pos h2, if_neg (by simp), if_neg (by simp), (cover_one hq h2).1, (cover_one hq h2).2]
      exact ⟨rfl, rfl⟩
    · rw [if_neg h1, if_neg h1, if_neg h2, if_neg h2]
      exact ⟨rfl, rfl⟩
theorem cover_trip {p q r : Q4} (hp : p.lim) (hq : q.lim) (hr : r.lim) : coverV [p, q, r] = ⟨min (min p.a q.a) r.a, min (min p.b q.b) r.b, max 0 (max (max (p.a + p.c) (q.a + q.c)) (r.a + r.c) - min (min p.a q.a) r.a), max 0 (max (max (p.b + p.d) (q.b + q.d)) (r.b + r.d) - min (min p.b q.b) r.b)⟩ ∧ coverB [p, q, r] = false := by
  obtain ⟨h1, h2, h3, h4⟩ := hp
  obtain ⟨k1, k2, k3, k4⟩ := hq
  obtain ⟨m1, m2, m3, m4⟩ := hr
  have e1 : cX [p, q, r] = min (min p.a q.a) r.a := by show min (min (min p.a p.a) q.a) r.a = _; omega
  have e2 : cY [p, q, r] = min (min p.b q.b) r.b := by show min (min (min p.b p.b) q.b) r.b = _; omega
  have v1 : ∀ s : Q4, gX [p, q, r] s = s.a - min (min p.a q.a) r.a + s.c := fun s => by unfold gX; rw [e1]
  have v2 : ∀ s : Q4, gY [p, q, r] s = s.b - min (min p.b q.b) r.b + s.d := fun s => by unfold gY; rw [e2]
  generalize hx : min (min p.a q.a) r.a = X at *
  generalize hy : min (min p.b q.b) r.b = Y at *
  have bx : -4294967296 ≤ X ∧ X ≤ 4294967296 ∧ X ≤ p.a ∧ X ≤ q.a ∧ X ≤ r.a := by omega
  have by_ : -4294967296 ≤ Y ∧ Y ≤ 4294967296 ∧ Y ≤ p.b ∧ Y ≤ q.b ∧ Y ≤ r.b := by omega
  clear hx hy
  have o1 : -1099511627776 ≤ p.a - X + p.c ∧ p.a - X + p.c ≤ 1099511627776 := by omega
  have o2 : -1099511627776 ≤ q.a - X + q.c ∧ q.a - X + q.c ≤ 1099511627776 := by omega
  have o3 : -1099511627776 ≤ r.a - X + r.c ∧ r.a - X + r.c ≤ 1099511627776 := by omega
  have o4 : -1099511627776 ≤ p.b - Y + p.d ∧ p.b - Y + p.d ≤ 1099511627776 := by omega
  have o5 : -1099511627776 ≤ q.b - Y + q.d ∧ q.b - Y + q.d ≤ 1099511627776 := by omega
  have o6 : -1099511627776 ≤ r.b - Y + r.d ∧ r.b - Y + r.d ≤ 1099511627776 := by omega
  have o7 : -1099511627776 ≤ X ∧ X ≤ 1099511627776 := by omega
  have o8 : -1099511627776 ≤ Y ∧ Y ≤ 1099511627776 := by omega
  refine ⟨q4_ext ?_ ?_ ?_ ?_, ?_⟩
  · show cutV (cX [p, q, r]) = _
    rw [e1, cutV_id o7]
  · show cutV (cY [p, q, r]) = _
    rw [e2, cutV_id o8]
  · show max (max (max 0 (cutV (gX [p, q, r] p))) (cutV (gX [p, q, r] q))) (cutV (gX [p, q, r] r)) = _
    rw [v1, v1, v1, cutV_id o1, cutV_id o2, cutV_id o3]; simp only []; omega
  · show max (max (max 0 (cutV (gY [p, q, r] p))) (cutV (gY [p, q, r] q))) (cutV (gY [p, q, r] r)) = _
    rw [v2, v2, v2, cutV_id o4, cutV_id o5, cutV_id o6]; simp only []; omega
  · show ((cutB (gX [p, q, r] p) || (cutB (gX [p, q, r] q) || (cutB (gX [p, q, r] r) || false))) || ((cutB (gY [p, q, r] p) || (cutB (gY [p, q, r] q) || (cutB (gY [p, q, r] r) || false))) || (cutB (cX [p, q, r]) || cutB (cY [p, q, r])))) = false
    rw [v1, v1, v1, v2, v2, v2, e1, e2, cutB_id o1, cutB_id o2, cutB_id o3, cutB_id o4, cutB_id o5, cutB_id o6, cutB_id o7, cutB_id o8]; rfl
theorem filt_cons (p : Q4) (l : List Q4) : (p :: l).filter someB = if someB p = true then p :: l.filter someB else l.filter someB := by
  cases h : someB p <;> simp [h]
theorem CoverV_of {l m : List Q4} (h : l.filter someB = m) (hm : m.filter someB = m) : CoverV l = CoverV m ∧ CoverB l = CoverB m := by
  unfold CoverV CoverB
  rw [h, hm]
  exact ⟨rfl, rfl⟩
theorem join_some (p q : Q4) : someB (join p q) = (someB p || someB q) := by
  unfold join
  by_cases h1 : someB p = true
  · rw [if_pos h1, h1]
    by_cases h2 : someB q = true
    · rw [if_pos h2]
      obtain ⟨g1, g2⟩ := someB_pos h1
      obtain ⟨g3, g4⟩ := someB_pos h2
      simp [someB]
      omega
    · rw [if_neg h2, h1]; rfl
  · rw [if_neg h1]
    by_cases h2 : someB q = true
    · rw [if_pos h2, h2]; simp
    · rw [if_neg h2]
      rw [Bool.not_eq_true] at h1 h2
      rw [h1, h2]; rfl
theorem join_no {p q : Q4} (h1 : someB p = false) (h2 : someB q = false) : join p q = ⟨0, 0, 0, 0⟩ := by
  unfold join
  rw [h1, h2]; rfl
theorem join_l {p q : Q4} (h1 : someB p = true) (h2 : someB q = false) : join p q = p := by
  unfold join
  rw [h1, h2]; rfl
theorem join_r {p q : Q4} (h1 : someB p = false) (h2 : someB q = true) : join p q = q := by
  unfold join
  rw [h1, h2]; rfl
theorem join_b {p q : Q4} (h1 : someB p = true) (h2 : someB q = true) : join p q = ⟨min p.a q.a, min p.b q.b, max (p.a + p.c) (q.a + q.c) - min p.a q.a, max (p.b + p.d) (q.b + q.d) - min p.b q.b⟩ := by
  unfold join
  rw [h1, h2]; rfl
theorem cover_three {a b c : Q4} (ha : a.lim) (hb : b.lim) (hc : c.lim) : CoverV [c, a, b] = join (join a b) c ∧ CoverB [c, a, b] = false := by
  have hf : [c, a, b].filter someB = (if someB c = true then c :: [a, b].filter someB else [a, b].filter someB) := filt_cons _ _
  rw [filt2] at hf
  cases h1 : someB a <;> cases h2 : someB b <;> cases h3 : someB c <;> simp only [h1, h2, h3, Bool.false_eq_true, if_false, if_true] at hf
  · unfold CoverV CoverB
    rw [hf, join_no (by rw [join_some, h1, h2]; rfl) h3]
    exact ⟨rfl, rfl⟩
  · rw [join_no h1 h2, join_r (by decide) h3]
    unfold CoverV CoverB
    rw [hf, if_neg (by simp), if_neg (by simp)]
    exact cover_one hc h3
  · rw [join_r h1 h2, join_l h2 h3]
    unfold CoverV CoverB
    rw [hf, if_neg (by simp), if_neg (by simp)]
    exact cover_one hb h2
  · rw [join_r h1 h2, join_b h2 h3]
    unfold CoverV CoverB
    rw [hf, if_neg (by simp), if_neg (by simp), (cover_pair hc hb).1, (cover_pair hc hb).2]
    obtain ⟨g1, g2⟩ := someB_pos h2
    refine ⟨q4_ext ?_ ?_ ?_ ?_, rfl⟩ <;> simp only [] <;> omega
  · rw [join_l h1 h2, join_l h1 h3]
    unfold CoverV CoverB
    rw [hf, if_neg (by simp), if_neg (by simp)]
    exact cover_one ha h1
  · rw [join_l h1 h2, join_b h1 h3]
    unfold CoverV CoverB
    rw [hf, if_neg (by simp), if_neg (by simp), (cover_pair hc ha).1, (cover_pair hc ha).2]
    obtain ⟨g1, g2⟩ := someB_pos h1
    refine ⟨q4_ext ?_ ?_ ?_ ?_, rfl⟩ <;> simp only [] <;> omega
  · rw [join_l (by rw [join_some, h1, h2]; rfl) h3, join_b h1 h2]
    unfold CoverV CoverB
    rw [hf, if_neg (by simp), if_neg (by simp), (cover_pair ha hb).1, (cover_pair ha hb).2]
    obtain ⟨g1, g2⟩ := someB_pos h1
    refine ⟨q4_ext ?_ ?_ ?_ ?_, rfl⟩ <;> simp only [] <;> omega
  · rw [join_b (by rw [join_some, h1, h2]; rfl) h3, join_b h1 h2]
    unfold CoverV CoverB
    rw [hf, if_neg (by simp), if_neg (by simp), (cover_trip hc ha hb).1, (cover_trip hc ha hb).2]
    obtain ⟨g1, g2⟩ := someB_pos h1
    refine ⟨q4_ext ?_ ?_ ?_ ?_, rfl⟩ <;> simp only [] <;> omega
theorem InB_spec {p q : Q4} (h : InB p q = true) (hp : someB p = true) : someB q = true ∧ (q.a ≤ p.a ∧ p.c ≤ q.c ∧ p.a - q.a ≤ q.c - p.c) ∧ (q.b ≤ p.b ∧ p.d ≤ q.d ∧ p.b - q.b ≤ q.d - p.d) := by
  unfold InB at h
  rw [hp] at h
  simp [insB] at h
  exact ⟨h.1.1, h.1.2, h.2⟩
theorem InB_mk {p q : Q4} (h : someB p = true → someB q = true ∧ (q.a ≤ p.a ∧ p.c ≤ q.c ∧ p.a - q.a ≤ q.c - p.c) ∧ (q.b ≤ p.b ∧ p.d ≤ q.d ∧ p.b - q.b ≤ q.d - p.d)) : InB p q = true := by
  unfold InB
  cases hp : someB p
  · rfl
  · obtain ⟨h1, h2, h3⟩ := h hp
    simp [insB]
    exact ⟨⟨h1, h2⟩, h3⟩
theorem InB_trans {p q r : Q4} (h1 : InB p q = true) (h2 : InB q r = true) : InB p r = true := by
  refine InB_mk fun hp => ?_
  obtain ⟨g1, g2, g3⟩ := InB_spec h1 hp
  obtain ⟨k1, k2, k3⟩ := InB_spec h2 g1
  exact ⟨k1, by omega, by omega⟩
theorem meetB_spec {a m b n : Int} : meetB a m b n = true ↔ (if a ≤ b then b - a < m else a - b < n) := by
  unfold meetB
  by_cases h : a ≤ b
  · rw [if_pos h, if_pos h]; simp
  · rw [if_neg h, if_neg h]; simp
theorem MeetB_in {p q r : Q4} (h1 : InB p q = true) (h2 : MeetB p r = true) : MeetB q r = true := by
  unfold MeetB at h2 ⊢
  simp only [Bool.and_eq_true, meetB_spec] at h2 ⊢
  obtain ⟨⟨⟨hp, hr⟩, h3⟩, h4⟩ := h2
  obtain ⟨g1, g2, g3⟩ := InB_spec h1 hp
  obtain ⟨g4, g5⟩ := someB_pos hr
  obtain ⟨g6, g7⟩ := someB_pos hp
  refine ⟨⟨⟨g1, hr⟩, ?_⟩, ?_⟩
  · split at h3 <;> split <;> omega
  · split at h4 <;> split <;> omega
theorem join_in_l (p q : Q4) : InB p (join p q) = true := by
  refine InB_mk fun hp => ?_
  rw [join_some, hp]
  refine ⟨rfl, ?_⟩
  cases hq : someB q
  · rw [join_l hp hq]; omega
  · rw [join_b hp hq]; simp only []; omega
theorem join_in_r (p q : Q4) : InB q (join p q) = true := by
  refine InB_mk fun hq => ?_
  rw [join_some, hq]
  refine ⟨by simp, ?_⟩
  cases hp : someB p
  · rw [join_r hp hq]; omega
  · rw [join_b hp hq]; simp only []; omega
def Q4.near (q : Q4) : Prop := (-1073741824 ≤ q.a ∧ q.a ≤ 1073741824) ∧ (-1073741824 ≤ q.b ∧ q.b ≤ 1073741824) ∧ (-1073741824 ≤ q.c ∧ q.c ≤ 1073741824) ∧ (-1073741824 ≤ q.d ∧ q.d ≤ 1073741824)
theorem Q4.near.lim {q : Q4} (h : q.near) : q.lim := by
  obtain ⟨h1, h2, h3, h4⟩ := h
  exact ⟨by omega, by omega, by omega, by omega⟩
theorem join_near {p q : Q4} (hp : p.near) (hq : q.near) : (-1073741824 ≤ (join p q).a ∧ (join p q).a ≤ 1073741824) ∧ (-1073741824 ≤ (join p q).b ∧ (join p q).b ≤ 1073741824) ∧ (-1073741824 ≤ (join p q).c ∧ (join p q).c ≤ 3221225472) ∧ (-1073741824 ≤ (join p q).d ∧ (join p q).d ≤ 3221225472) := by
  unfold join
  unfold Q4.near at hp hq
  split
  · split
    · rename_i h1 h2
      obtain ⟨g1, g2⟩ := someB_pos h1
      simp only []; omega
    · omega
  · split
    · omega
    · simp only []; omega
theorem join_lim {p q : Q4} (hp : p.near) (hq : q.near) : (join p q).lim := by
  have h := join_near hp hq
  exact ⟨by omega, by omega, by omega, by omega⟩
theorem cover2_any {p q : Q4} (hp : p.lim) (hq : q.lim) (w : World) : Calls Try.prog 21 #[.slice (some ⟨w.heap.size, 0, none⟩) 2 2] (w.alloc (.cells #[.int .i64 p.a, .int .i64 p.b, .int .i64 p.c, .int .i64 p.d, .int .i64 q.a, .int .i64 q.b, .int .i64 q.c, .int .i64 q.d] 33)) fun e w' => e = .returned (.tuple #[qv (join p q), .bool false]) ∧ Below w.heap.size w w' := by
  have h := cover_any (c := 2) _ (Els_lit w 33 [p, q] (by show 2 ≤ maxLen; decide)) (fun r hr => by simp at hr; rcases hr with rfl | rfl <;> (first | exact hp.ok | exact hq.ok)) (by show 2 ≤ 65536; decide)
  rw [(cover_two hp hq).1, (cover_two hp hq).2] at h
  exact h.mono fun e w' ⟨h1, h2⟩ => ⟨h1, Below_al h2⟩
theorem cover3_any {a b c : Q4} (ha : a.lim) (hb : b.lim) (hc : c.lim) (w : World) : Calls Try.prog 21 #[.slice (some ⟨w.heap.size, 0, none⟩) 3 3] (w.alloc (.cells #[.int .i64 c.a, .int .i64 c.b, .int .i64 c.c, .int .i64 c.d, .int .i64 a.a, .int .i64 a.b, .int .i64 a.c, .int .i64 a.d, .int .i64 b.a, .int .i64 b.b, .int .i64 b.c, .int .i64 b.d] 33)) fun e w' => e = .returned (.tuple #[qv (join (join a b) c), .bool false]) ∧ Below w.heap.size w w' := by
  have h := cover_any (c := 3) _ (Els_lit w 33 [c, a, b] (by show 3 ≤ maxLen; decide)) (fun r hr => by simp at hr; rcases hr with rfl | rfl | rfl <;> (first | exact hc.ok | exact ha.ok | exact hb.ok)) (by show 3 ≤ 65536; decide)
  rw [(cover_three ha hb hc).1, (cover_three ha hb hc).2] at h
  exact h.mono fun e w' ⟨h1, h2⟩ => ⟨h1, Below_al h2⟩
end Go.Proofs.Ytfhbndfhmphnaaa
