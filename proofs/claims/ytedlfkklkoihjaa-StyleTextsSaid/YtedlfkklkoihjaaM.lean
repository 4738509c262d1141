/-
  The sum of numbers of any size (jambref01.Add). No condition.
-/
import Derived.Test.YtedlfkklkoihjaaSh2
import Derived.Test.YtedlfkklkoihjaaCom4
set_option linter.unusedVariables false
set_option linter.unusedSimpArgs false
namespace Go.Proofs.Ytedlfkklkoihjaa
open Go.RowKit Go.BigFrame

theorem sg_eq {z : Int} {s : Bool} (h : decide (z < 0) = s) : z = sgn s z.natAbs := by
  subst h
  unfold sgn
  by_cases h : z < 0
  · simp only [h, decide_true, if_true]; omega
  · simp only [h, decide_false]; simp; omega
theorem add_eq1 {s : Bool} (x y : Nat) : sgn s (x + y) = sgn s x + sgn s y := by cases s <;> simp [sgn] <;> omega
theorem add_eq2 {s t : Bool} {x y : Nat} (h : s ≠ t) (hl : x < y) : sgn t (y - x) = sgn s x + sgn t y := by cases s <;> cases t <;> simp [sgn] at h ⊢ <;> omega
theorem add_eq3 {s t : Bool} {x y : Nat} (h : s ≠ t) (hl : ¬ x < y) : sgn s (x - y) = sgn s x + sgn t y := by cases s <;> cases t <;> simp [sgn] at h ⊢ <;> omega
set_option maxHeartbeats 4000000 in
theorem add_any (w : World) {va vb : Value} {za zb : Int} {Ka Kb : Nat} (ha : BV w va za Ka) (hb : BV w vb zb Kb) (hKa : Ka ≤ 60000) (hKb : Kb ≤ 60000) :
    Calls Try.prog 54 #[va, vb] w fun e w' => ∃ v, e = .returned v ∧ BV w' v (za + zb) (max Ka Kb + 1) ∧ Below w.heap.size w w' := by
  obtain ⟨la, sva, rfl, ⟨A, c, rfl, ha1, ha2, hA⟩, ha4, ha5⟩ := ha
  obtain ⟨lb, svb, rfl, ⟨D, d, rfl, hb1, hb2, hB⟩, hb4, hb5⟩ := hb
  obtain ⟨n, hn⟩ : ∃ n, la.length = n := ⟨_, rfl⟩
  obtain ⟨m, hm⟩ : ∃ n, lb.length = n := ⟨_, rfl⟩
  rw [hn] at ha1 hA ha5 ⊢
  rw [hm] at hb1 hB hb5 ⊢
  obtain ⟨sa, hsa⟩ : ∃ s, decide (za < 0) = s := ⟨_, rfl⟩
  obtain ⟨sb, hsb⟩ : ∃ s, decide (zb < 0) = s := ⟨_, rfl⟩
  rw [hsa, hsb]
  have hX := Blk_alloc (Blk_alloc (Blk_new w 56 #[.bool sa, .slice A n c]) (.cells #[.bool sb, .slice D m d] 56)) (.cells #[.bool false, .slice none 0 0] 56)
  have hY := Blk_alloc (Blk_new (w.alloc (.cells #[.bool sa, .slice A n c] 56)) 56 #[.bool sb, .slice D m d]) (.cells #[.bool false, .slice none 0 0] 56)
  have hR := Blk_new ((w.alloc (.cells #[.bool sa, .slice A n c] 56)).alloc (.cells #[.bool sb, .slice D m d] 56)) 56 #[.bool false, .slice none 0 0]
  have hb0 : Below w.heap.size w (((w.alloc (.cells #[.bool sa, .slice A n c] 56)).alloc (.cells #[.bool sb, .slice D m d] 56)).alloc (.cells #[.bool false, .slice none 0 0] 56)) := by (repeat' (first | (with_reducible exact Below.refl _ _) | (with_reducible assumption) | (with_reducible refine Below.alloc ?_ ?_ _) | (with_reducible refine Below.drew ?_) | (with_reducible refine Below_drewN ?_ _) | (with_reducible refine Below.setCell ?_ ?_ _) | go_size))
  have hsz : (((w.alloc (.cells #[.bool sa, .slice A n c] 56)).alloc (.cells #[.bool sb, .slice D m d] 56)).alloc (.cells #[.bool false, .slice none 0 0] 56)).heap.size = w.heap.size + 3 := by simp
  simp only [World.size_alloc] at hY hR
  obtain ⟨w3, hw3⟩ : ∃ x, ((w.alloc (.cells #[.bool sa, .slice A n c] 56)).alloc (.cells #[.bool sb, .slice D m d] 56)).alloc (.cells #[.bool false, .slice none 0 0] 56) = x := ⟨_, rfl⟩
  rw [hw3] at hX hY hR hb0 hsz
  have HW3 := Lib.hid hw3
  have HS := Lib.hid (And.intro (And.intro hsa hsb) (And.intro ha4 hb4))
  have hS : ∀ w1 w', (fun w' => Below (w.heap.size + 2) w3 w' ∧ (∃ u1 u2, Blk w' (w.heap.size + 1 + 1) 56 #[u1, u2]) ∧ w'.cell? ⟨w.heap.size, 0, none⟩ = some (.bool sa) ∧ w'.cell? ⟨w.heap.size, 1, none⟩ = some (.slice A n c) ∧ w'.cell? ⟨w.heap.size + 1, 0, none⟩ = some (.bool sb) ∧ w'.cell? ⟨w.heap.size + 1, 1, none⟩ = some (.slice D m d)) w1 → Below w1.heap.size w1 w' → (fun w' => Below (w.heap.size + 2) w3 w' ∧ (∃ u1 u2, Blk w' (w.heap.size + 1 + 1) 56 #[u1, u2]) ∧ w'.cell? ⟨w.heap.size, 0, none⟩ = some (.bool sa) ∧ w'.cell? ⟨w.heap.size, 1, none⟩ = some (.slice A n c) ∧ w'.cell? ⟨w.heap.size + 1, 0, none⟩ = some (.bool sb) ∧ w'.cell? ⟨w.heap.size + 1, 1, none⟩ = some (.slice D m d)) w' := fun w1 w' ⟨q0, ⟨u1, u2, q5⟩, q1, q2, q3, q4⟩ h =>
    ⟨q0.trans (h.mono (by have := q0.size; omega)), ⟨u1, u2, Blk_below q5 h (Blk_lt q5)⟩, (h.cell (cell_lt q1)).trans q1, (h.cell (cell_lt q2)).trans q2, (h.cell (cell_lt q3)).trans q3, (h.cell (cell_lt q4)).trans q4⟩
  have HH := Lib.hid hS
  have x0 := Blk_cell hX 0
  have x1 := Blk_cell hX 1
  have y0 := Blk_cell hY 0
  have y1 := Blk_cell hY 1
  have HS0 := Lib.hid (show (fun w' => Below (w.heap.size + 2) w3 w' ∧ (∃ u1 u2, Blk w' (w.heap.size + 1 + 1) 56 #[u1, u2]) ∧ w'.cell? ⟨w.heap.size, 0, none⟩ = some (.bool sa) ∧ w'.cell? ⟨w.heap.size, 1, none⟩ = some (.slice A n c) ∧ w'.cell? ⟨w.heap.size + 1, 0, none⟩ = some (.bool sb) ∧ w'.cell? ⟨w.heap.size + 1, 1, none⟩ = some (.slice D m d)) w3 from ⟨Below.refl _ _, ⟨_, _, hR⟩, x0, x1, y0, y1⟩)
  clear hw3 hsa hsb ha4 hb4 hS
  go_enter Try.func54, Try.ntmps54
  go_upto_region 1 with fail
  rw [HW3.out]
  by_cases hss : sa = sb
  · subst hss
    go_upto_region 2 with fail
    go_region_held3 (fun w' => Below (w.heap.size + 2) w3 w' ∧ (∃ u1 u2, Blk w' (w.heap.size + 1 + 1) 56 #[u1, u2]) ∧ w'.cell? ⟨w.heap.size, 0, none⟩ = some (.bool sa) ∧ w'.cell? ⟨w.heap.size, 1, none⟩ = some (.slice A n c) ∧ w'.cell? ⟨w.heap.size + 1, 0, none⟩ = some (.bool sa) ∧ w'.cell? ⟨w.heap.size + 1, 1, none⟩ = some (.slice D m d))
      (first
        | (with_reducible assumption)
        | exact HH.out _ _ HS0.out (Below.refl _ _).drew
        | exact HH.out _ _ hSS hw
        | exact ⟨((‹Below _ _ _ ∧ _›).1.setCell (by simp) _).setCell (by simp) _, ⟨_, _, Blk_upd (Blk_set hR6 0 _) 1 _ rfl⟩, by go_simp, by go_simp, by go_simp, by go_simp⟩)
      (first
        | (go_at_call 55; have hSS := ‹Below _ _ _ ∧ _›; have hh := hb0.trans (hSS.1.mono (by omega)); (with_reducible refine (rplus_any _ (hA.mono hh) (hB.mono hh) (by omega) (by omega)).mono ?_); rintro e w' ⟨v5, out5, rfl, hBS5, hval, hlen5, hw⟩; have HL5 := Lib.hid (And.intro hval hlen5); clear hval hlen5; obtain ⟨G5, g5, rfl, hg5, hg6, hBl⟩ := hBS5; have HB5 := Lib.hid (show BS w' (.slice G5 out5.length g5) out5 from ⟨G5, g5, rfl, hg5, hg6, hBl⟩); clear hBl)
        | (go_at_call 52; have hSS := ‹Below _ _ _ ∧ _›; have hh := hb0.trans (hSS.1.mono (by omega)); (with_reducible refine (short_any _ sa HB5.out (by have := HL5.out; omega)).mono ?_); rintro e w' ⟨v6, rfl, hBV6, hw⟩; have hRR := hSS.2.1; obtain ⟨u1, u2, hRu⟩ := hRR; have hR6 := Blk_below hRu hw (Blk_lt hRu); have f0 := Blk_frozen hR6 0; have f1 := Blk_frozen hR6 1; have d0 := Blk_cell hR6 0; have d1 := Blk_cell hR6 1; obtain ⟨l6, sv6, rfl, ⟨G6, g6, rfl, hh1, hh2, hBl6⟩, hv6, hl6⟩ := hBV6))
    have hbe := (‹Below (w.heap.size + 2) w3 _ ∧ _›).1
    have hval : sgn sa (bval out5) = za + zb := by
      obtain ⟨⟨q1, q2⟩, q3, q4⟩ := HS.out
      rw [HL5.out.1, add_eq1, q3, q4, ← sg_eq q1, ← sg_eq q2]
    have hlen := HL5.out.2
    have HVL := Lib.hid (And.intro hval hlen)
    generalize sgn sa (bval out5) = z at *
    obtain ⟨sz, hsz2⟩ : ∃ s, decide (z < 0) = s := ⟨_, rfl⟩
    rw [hsz2]
    have HSZ := Lib.hid hsz2
    have hBf := Blk_set (Blk_set hR6 0 (.bool sz)) 1 (.slice G6 l6.length g6)
    have e0 := Blk_cell hBf 0
    have e1 := Blk_cell hBf 1
    clear hval hlen hsz2
    go_wp2_with fail
    refine bodyPost_ret (v := .agg #[.bool sz, .slice G6 l6.length g6]) (by simp at e0 e1; simp [results, Try.results54, go_sem, e0, e1]) rfl ⟨_, rfl, ?_, ?_⟩
    · exact ⟨l6, _, by rw [← HVL.out.1, HSZ.out], ⟨G6, g6, rfl, hh1, hh2, (hBl6.far hR6 (by decide) _ _).far (Blk_set hR6 0 _) (by decide) _ _⟩, by rw [hv6, HVL.out.1], by have := HVL.out.2; omega⟩
    · rw [HSZ.out] at hbe
      exact hb0.trans (hbe.mono (by omega))
  · have hss2 : (sa == sb) = false := by simpa using hss
    have hl := less_any (c := c) (d := d) w3 (hA.mono hb0) (hB.mono hb0) (by omega) (by omega)
    by_cases hlt : bval la < bval lb
    · rw [decide_eq_true hlt] at hl
      go_upto_region 4 with ((go_at_call 44; (with_reducible refine (hl).mono ?_)); rintro e w1 ⟨rfl, hq⟩; subst hq)
      go_region_held3 (fun w' => Below (w.heap.size + 2) w3 w' ∧ (∃ u1 u2, Blk w' (w.heap.size + 1 + 1) 56 #[u1, u2]) ∧ w'.cell? ⟨w.heap.size, 0, none⟩ = some (.bool sa) ∧ w'.cell? ⟨w.heap.size, 1, none⟩ = some (.slice A n c) ∧ w'.cell? ⟨w.heap.size + 1, 0, none⟩ = some (.bool sb) ∧ w'.cell? ⟨w.heap.size + 1, 1, none⟩ = some (.slice D m d))
        (first
          | (with_reducible assumption)
          | exact HH.out _ _ HS0.out (Below.refl _ _).drew
          | exact HH.out _ _ hSS hw
          | exact ⟨((‹Below _ _ _ ∧ _›).1.setCell (by simp) _).setCell (by simp) _, ⟨_, _, Blk_upd (Blk_set hR6 0 _) 1 _ rfl⟩, by go_simp, by go_simp, by go_simp, by go_simp⟩)
        (first
          | (go_at_call 53; have hSS := ‹Below _ _ _ ∧ _›; have hh := hb0.trans (hSS.1.mono (by omega)); (with_reducible refine (rminus_any _ (hB.mono hh) (hA.mono hh) (by omega) (by omega) (by omega)).mono ?_); rintro e w' ⟨v5, out5, rfl, hBS5, hval, hlen5, hw⟩; have HL5 := Lib.hid (And.intro hval hlen5); clear hval hlen5; obtain ⟨G5, g5, rfl, hg5, hg6, hBl⟩ := hBS5; have HB5 := Lib.hid (show BS w' (.slice G5 out5.length g5) out5 from ⟨G5, g5, rfl, hg5, hg6, hBl⟩); clear hBl)
          | (go_at_call 52; have hSS := ‹Below _ _ _ ∧ _›; have hh := hb0.trans (hSS.1.mono (by omega)); (with_reducible refine (short_any _ sb HB5.out (by have := HL5.out; omega)).mono ?_); rintro e w' ⟨v6, rfl, hBV6, hw⟩; have hRR := hSS.2.1; obtain ⟨u1, u2, hRu⟩ := hRR; have hR6 := Blk_below hRu hw (Blk_lt hRu); have f0 := Blk_frozen hR6 0; have f1 := Blk_frozen hR6 1; have d0 := Blk_cell hR6 0; have d1 := Blk_cell hR6 1; obtain ⟨l6, sv6, rfl, ⟨G6, g6, rfl, hh1, hh2, hBl6⟩, hv6, hl6⟩ := hBV6))
      have hbe := (‹Below (w.heap.size + 2) w3 _ ∧ _›).1
      have hval : sgn sb (bval out5) = za + zb := by
        obtain ⟨⟨q1, q2⟩, q3, q4⟩ := HS.out
        rw [HL5.out.1, add_eq2 hss hlt, q3, q4, ← sg_eq q1, ← sg_eq q2]
      have hlen := HL5.out.2
      have HVL := Lib.hid (And.intro hval hlen)
      generalize sgn sb (bval out5) = z at *
      obtain ⟨sz, hsz2⟩ : ∃ s, decide (z < 0) = s := ⟨_, rfl⟩
      rw [hsz2]
      have HSZ := Lib.hid hsz2
      have hBf := Blk_set (Blk_set hR6 0 (.bool sz)) 1 (.slice G6 l6.length g6)
      have e0 := Blk_cell hBf 0
      have e1 := Blk_cell hBf 1
      clear hval hlen hsz2
      go_wp2_with fail
      refine bodyPost_ret (v := .agg #[.bool sz, .slice G6 l6.length g6]) (by simp at e0 e1; simp [results, Try.results54, go_sem, e0, e1]) rfl ⟨_, rfl, ?_, ?_⟩
      · exact ⟨l6, _, by rw [← HVL.out.1, HSZ.out], ⟨G6, g6, rfl, hh1, hh2, (hBl6.far hR6 (by decide) _ _).far (Blk_set hR6 0 _) (by decide) _ _⟩, by rw [hv6, HVL.out.1], by have := HVL.out.2; omega⟩
      · rw [HSZ.out] at hbe
        exact hb0.trans (hbe.mono (by omega))
    · rw [decide_eq_false hlt] at hl
      go_upto_region 5 with ((go_at_call 44; (with_reducible refine (hl).mono ?_)); rintro e w1 ⟨rfl, hq⟩; subst hq)
      go_region_held3 (fun w' => Below (w.heap.size + 2) w3 w' ∧ (∃ u1 u2, Blk w' (w.heap.size + 1 + 1) 56 #[u1, u2]) ∧ w'.cell? ⟨w.heap.size, 0, none⟩ = some (.bool sa) ∧ w'.cell? ⟨w.heap.size, 1, none⟩ = some (.slice A n c) ∧ w'.cell? ⟨w.heap.size + 1, 0, none⟩ = some (.bool sb) ∧ w'.cell? ⟨w.heap.size + 1, 1, none⟩ = some (.slice D m d))
        (first
          | (with_reducible assumption)
          | exact HH.out _ _ HS0.out (Below.refl _ _).drew
          | exact HH.out _ _ hSS hw
          | exact ⟨((‹Below _ _ _ ∧ _›).1.setCell (by simp) _).setCell (by simp) _, ⟨_, _, Blk_upd (Blk_set hR6 0 _) 1 _ rfl⟩, by go_simp, by go_simp, by go_simp, by go_simp⟩)
        (first
          | (go_at_call 53; have hSS := ‹Below _ _ _ ∧ _›; have hh := hb0.trans (hSS.1.mono (by omega)); (with_reducible refine (rminus_any _ (hA.mono hh) (hB.mono hh) (by omega) (by omega) (by omega)).mono ?_); rintro e w' ⟨v5, out5, rfl, hBS5, hval, hlen5, hw⟩; have HL5 := Lib.hid (And.intro hval hlen5); clear hval hlen5; obtain ⟨G5, g5, rfl, hg5, hg6, hBl⟩ := hBS5; have HB5 := Lib.hid (show BS w' (.slice G5 out5.length g5) out5 from ⟨G5, g5, rfl, hg5, hg6, hBl⟩); clear hBl)
          | (go_at_call 52; have hSS := ‹Below _ _ _ ∧ _›; have hh := hb0.trans (hSS.1.mono (by omega)); (with_reducible refine (short_any _ sa HB5.out (by have := HL5.out; omega)).mono ?_); rintro e w' ⟨v6, rfl, hBV6, hw⟩; have hRR := hSS.2.1; obtain ⟨u1, u2, hRu⟩ := hRR; have hR6 := Blk_below hRu hw (Blk_lt hRu); have f0 := Blk_frozen hR6 0; have f1 := Blk_frozen hR6 1; have d0 := Blk_cell hR6 0; have d1 := Blk_cell hR6 1; obtain ⟨l6, sv6, rfl, ⟨G6, g6, rfl, hh1, hh2, hBl6⟩, hv6, hl6⟩ := hBV6))
      have hbe := (‹Below (w.heap.size + 2) w3 _ ∧ _›).1
      have hval : sgn sa (bval out5) = za + zb := by
        obtain ⟨⟨q1, q2⟩, q3, q4⟩ := HS.out
        rw [HL5.out.1, add_eq3 hss hlt, q3, q4, ← sg_eq q1, ← sg_eq q2]
      have hlen := HL5.out.2
      have HVL := Lib.hid (And.intro hval hlen)
      generalize sgn sa (bval out5) = z at *
      obtain ⟨sz, hsz2⟩ : ∃ s, decide (z < 0) = s := ⟨_, rfl⟩
      rw [hsz2]
      have HSZ := Lib.hid hsz2
      have hBf := Blk_set (Blk_set hR6 0 (.bool sz)) 1 (.slice G6 l6.length g6)
      have e0 := Blk_cell hBf 0
      have e1 := Blk_cell hBf 1
      clear hval hlen hsz2
      go_wp2_with fail
      refine bodyPost_ret (v := .agg #[.bool sz, .slice G6 l6.length g6]) (by simp at e0 e1; simp [results, Try.results54, go_sem, e0, e1]) rfl ⟨_, rfl, ?_, ?_⟩
      · exact ⟨l6, _, by rw [← HVL.out.1, HSZ.out], ⟨G6, g6, rfl, hh1, hh2, (hBl6.far hR6 (by decide) _ _).far (Blk_set hR6 0 _) (by decide) _ _⟩, by rw [hv6, HVL.out.1], by have := HVL.out.2; omega⟩
      · rw [HSZ.out] at hbe
        exact hb0.trans (hbe.mono (by omega))
end Go.Proofs.Ytedlfkklkoihjaa
