/-
  What a length comes to (style.Of, style.Size), and the document's answers. No condition.
-/
import Derived.Test.YtedlfkklkoihjaaV
import Derived.Test.YtedlfkklkoihjaaF
import Derived.Test.YtedlfkklkoihjaaTW5
set_option linter.unusedVariables false
set_option linter.unusedSimpArgs false
namespace Go.Proofs.Ytedlfkklkoihjaa
open Go.RowKit Go.BigFrame

def mdV (z c : Int) : Int := if c = 0 then 0 else cutV (fl z c)
def mdB (z c : Int) : Bool := if c = 0 then true else cutB (fl z c)
set_option maxHeartbeats 1000000 in
theorem rmuldiv_any (a b c : Int) (w : World) (ha : (Lit.int .i64 a).wf = true) (hb : (Lit.int .i64 b).wf = true) (hc : (Lit.int .i64 c).wf = true) :
    Calls Try.prog 27 #[.int .i64 a, .int .i64 b, .int .i64 c] w fun e w' => e = .returned (.tuple #[.int .i64 (mdV (a * b) c), .bool (mdB (a * b) c)]) ∧ Below w.heap.size w w' := by
  unfold mdV mdB
  by_cases h : c = 0
  · subst h
    go_enter Try.func27, Try.ntmps27
    go_wp2
    go_ret2
    exact ⟨rfl, Below.refl _ _⟩
  · rw [if_neg h, if_neg h]
    have oa := fun w => of_any w a ha
    have ob := fun w => of_any w b hb
    have oc := fun w => of_any w c hc
    go_enter Try.func27, Try.ntmps27
    go_wp2_with (first | ((go_at_call 26; (with_reducible refine ((oa _)).mono ?_)); rintro e w1 ⟨v1, rfl, b1, g1⟩) | ((go_at_call 26; (with_reducible refine ((ob _)).mono ?_)); rintro e w2 ⟨v2, rfl, b2, g2⟩; have b12 := b1.mono g2) | ((go_at_call 47; (with_reducible refine ((mul_any _ b12 b2 (by omega) (by omega))).mono ?_)); rintro e w3 ⟨v3, rfl, b3, g3⟩) | ((go_at_call 26; (with_reducible refine ((oc _)).mono ?_)); rintro e w4 ⟨v4, rfl, b4, g4⟩; have b34 := b3.mono g4) | ((go_at_call 46; (with_reducible refine ((div_any _ b34 b4 (by omega) (by omega) h)).mono ?_)); rintro e w5 ⟨v5, rfl, b5, g5⟩) | ((go_at_call 25; (with_reducible refine ((rcut_any _ b5 (by omega))).mono ?_)); rintro e w6 ⟨rfl, g6⟩))
    go_ret2
    exact ⟨rfl, Below_same (Below_same (Below_same (Below_same (Below_same g1 g2) g3) g4) g5) g6⟩

def lnV (l : Int × Int) (z : Int) : Int := if l.1 = 1 then cutV l.2 else if l.1 = 2 then cutV (fl (z * l.2) 10000) else 0
def lnA (l : Int × Int) : Bool := if l.1 = 1 then false else if l.1 = 2 then false else true
def lnB (l : Int × Int) (z : Int) : Bool := if l.1 = 1 then cutB l.2 else if l.1 = 2 then cutB (fl (z * l.2) 10000) else false
theorem lnA_auto {l : Int × Int} (h : lnA l = true) (z : Int) : lnV l z = 0 ∧ lnB l z = false := by
  unfold lnA at h
  split at h
  · cases h
  · split at h
    · cases h
    · rename_i h1 h2
      unfold lnV lnB
      rw [if_neg h1, if_neg h2, if_neg h1, if_neg h2]
      exact ⟨rfl, rfl⟩
set_option maxHeartbeats 1000000 in
theorem sof_any (k n z : Int) (w : World) (hn : (Lit.int .i64 n).wf = true) (hz : (Lit.int .i64 z).wf = true) :
    Calls Try.prog 13 #[.agg #[.int .u8 k, .int .i64 n], .int .i64 z] w fun e w' => e = .returned (.tuple #[.int .i64 (lnV (k, n) z), .bool (lnA (k, n)), .bool (lnB (k, n) z)]) ∧ Below w.heap.size w w' := by
  unfold lnV lnA lnB
  simp only []
  by_cases h1 : k = 1
  · subst h1
    have c := fun w => cut_any n w
    go_enter Try.func13, Try.ntmps13
    go_wp2_with ((go_at_call 23; (with_reducible refine (c _).mono ?_)); rintro e w1 ⟨rfl, rfl⟩)
    go_ret3
    exact ⟨rfl, by (repeat' (first | (with_reducible exact Below.refl _ _) | (with_reducible assumption) | (with_reducible refine Below.alloc ?_ ?_ _) | (with_reducible refine Below.drew ?_) | (with_reducible refine Below_drewN ?_ _) | (with_reducible refine Below.setCell ?_ ?_ _) | go_size))⟩
  · have b1 : (k == 1) = false := by simpa using h1
    rw [if_neg h1, if_neg h1, if_neg h1]
    by_cases h2 : k = 2
    · subst h2
      have c := fun w => part_any z n w hz hn
      go_enter Try.func13, Try.ntmps13
      go_wp2_with ((go_at_call 24; (with_reducible refine (c _).mono ?_)); rintro e w1 ⟨rfl, g1⟩)
      go_ret3
      exact ⟨rfl, Below_al g1⟩
    · have b2 : (k == 2) = false := by simpa using h2
      rw [if_neg h2, if_neg h2, if_neg h2]
      clear h1 h2
      go_enter Try.func13, Try.ntmps13
      go_wp2_with fail
      go_ret3
      exact ⟨rfl, by (repeat' (first | (with_reducible exact Below.refl _ _) | (with_reducible assumption) | (with_reducible refine Below.alloc ?_ ?_ _) | (with_reducible refine Below.drew ?_) | (with_reducible refine Below_drewN ?_ _) | (with_reducible refine Below.setCell ?_ ?_ _) | go_size))⟩
set_option maxHeartbeats 1000000 in
theorem rof_any (k n z : Int) (w : World) (hn : (Lit.int .i64 n).wf = true) (hz : (Lit.int .i64 z).wf = true) :
    Calls Try.prog 14 #[.agg #[.int .u8 k, .int .i64 n], .int .i64 z] w fun e w' => e = .returned (.tuple #[.int .i64 (lnV (k, n) z), .bool (lnA (k, n)), .bool (lnB (k, n) z)]) ∧ Below w.heap.size w w' := by
  unfold lnV lnA lnB
  simp only []
  by_cases h1 : k = 1
  · subst h1
    have o1 := fun w => of_any w n hn
    go_enter Try.func14, Try.ntmps14
    go_wp2_with (first | ((go_at_call 26; (with_reducible refine ((o1 _)).mono ?_)); rintro e w1 ⟨v1, rfl, b1, g1⟩) | ((go_at_call 25; (with_reducible refine ((rcut_any _ b1 (by omega))).mono ?_)); rintro e w2 ⟨rfl, g2⟩))
    go_ret3
    exact ⟨rfl, Below_al (Below_same g1 g2)⟩
  · have b1 : (k == 1) = false := by simpa using h1
    rw [if_neg h1, if_neg h1, if_neg h1]
    by_cases h2 : k = 2
    · subst h2
      have c := fun w => rmuldiv_any z n 10000 w hz hn (by decide)
      have e1 : mdV (z * n) 10000 = cutV (fl (z * n) 10000) := rfl
      have e2 : mdB (z * n) 10000 = cutB (fl (z * n) 10000) := rfl
      rw [e1, e2] at c
      clear e1 e2
      go_enter Try.func14, Try.ntmps14
      go_wp2_with ((go_at_call 27; (with_reducible refine (c _).mono ?_)); rintro e w1 ⟨rfl, g1⟩)
      go_ret3
      exact ⟨rfl, Below_al g1⟩
    · have b2 : (k == 2) = false := by simpa using h2
      rw [if_neg h2, if_neg h2, if_neg h2]
      clear h1 h2
      go_enter Try.func14, Try.ntmps14
      go_wp2_with fail
      go_ret3
      exact ⟨rfl, by (repeat' (first | (with_reducible exact Below.refl _ _) | (with_reducible assumption) | (with_reducible refine Below.alloc ?_ ?_ _) | (with_reducible refine Below.drew ?_) | (with_reducible refine Below_drewN ?_ _) | (with_reducible refine Below.setCell ?_ ?_ _) | go_size))⟩
def szV (l a b : Int × Int) (z : Int) : Int := if lnA l = true then 0 else max (lnV a z) (min (lnV l z) (if lnA b = true then 1099511627776 else lnV b z))
def szB (l a b : Int × Int) (z : Int) : Bool := if lnA l = true then false else (lnB l z || (lnB a z || lnB b z))
set_option maxRecDepth 20000 in
set_option maxHeartbeats 4000000 in
theorem ssize_any (k n ka na kb nb z : Int) (w : World) (hn : (Lit.int .i64 n).wf = true) (hna : (Lit.int .i64 na).wf = true) (hnb : (Lit.int .i64 nb).wf = true) (hz : (Lit.int .i64 z).wf = true) :
    Calls Try.prog 15 #[.agg #[.int .u8 k, .int .i64 n], .agg #[.int .u8 ka, .int .i64 na], .agg #[.int .u8 kb, .int .i64 nb], .int .i64 z] w fun e w' => e = .returned (.tuple #[.int .i64 (szV (k, n) (ka, na) (kb, nb) z), .bool (lnA (k, n)), .bool (szB (k, n) (ka, na) (kb, nb) z)]) ∧ Below w.heap.size w w' := by
  have o1 := fun w => sof_any k n z w hn hz
  have o2 := fun w => sof_any ka na z w hna hz
  have o3 := fun w => sof_any kb nb z w hnb hz
  have hau := @lnA_auto (k, n)
  have hX := Blk_alloc (Blk_new (w.alloc (.cells #[.int .u8 k, .int .i64 n] 23)) 23 #[.int .u8 ka, .int .i64 na]) (.cells #[.int .u8 kb, .int .i64 nb] 23)
  have hY := Blk_new ((w.alloc (.cells #[.int .u8 k, .int .i64 n] 23)).alloc (.cells #[.int .u8 ka, .int .i64 na] 23)) 23 #[.int .u8 kb, .int .i64 nb]
  have hb : Below w.heap.size w (((w.alloc (.cells #[.int .u8 k, .int .i64 n] 23)).alloc (.cells #[.int .u8 ka, .int .i64 na] 23)).alloc (.cells #[.int .u8 kb, .int .i64 nb] 23)) := by (repeat' (first | (with_reducible exact Below.refl _ _) | (with_reducible assumption) | (with_reducible refine Below.alloc ?_ ?_ _) | (with_reducible refine Below.drew ?_) | (with_reducible refine Below_drewN ?_ _) | (with_reducible refine Below.setCell ?_ ?_ _) | go_size))
  simp only [World.size_alloc] at hX hY
  have hu := hau
  unfold szV szB
  cases q : lnA (k, n)
  case true =>
    have hv := hau q z
    rw [if_pos rfl, if_pos rfl]
    rw [q, hv.1, hv.2] at o1
    clear hv hau q
    go_enter Try.func15, Try.ntmps15
    go_wp2_with ((go_at_call 13; (with_reducible refine (o1 _).mono ?_)); rintro e w' ⟨rfl, h⟩; have hb := Below_then hb h (Nat.le_refl _))
    go_ret3
    exact ⟨rfl, hb⟩
  case false =>
    simp only [Bool.false_eq_true, if_false]
    rw [q] at o1
    clear hau q hu
    generalize lnV (k, n) z = V1 at *
    generalize lnV (ka, na) z = V2 at *
    generalize lnV (kb, nb) z = V3 at *
    generalize lnB (k, n) z = B1 at *
    generalize lnB (ka, na) z = B2 at *
    generalize lnB (kb, nb) z = B3 at *
    generalize lnA (ka, na) = A2 at *
    generalize lnA (kb, nb) = A3 at *
    have hw1 := fun w => within_any V1 V2 V3 w
    have hw2 := fun w => within_any V1 V2 1099511627776 w
    cases A3
    all_goals
      cases B1
      all_goals
        cases B2
        all_goals
          go_enter Try.func15, Try.ntmps15
          go_wp2_with (first | ((go_at_call 13; (with_reducible refine (o1 _).mono ?_)); rintro e w' ⟨rfl, h⟩; (have hX := Blk_below hX h (Blk_lt hX); have hY := Blk_below hY h (Blk_lt hY); have hb := Below_then hb h (Nat.le_refl _); have x0 := Blk_cell hX 0; have x1 := Blk_cell hX 1; have y0 := Blk_cell hY 0; have y1 := Blk_cell hY 1)) | ((go_at_call 13; (with_reducible refine (o2 _).mono ?_)); rintro e w' ⟨rfl, h⟩; (have hX := Blk_below hX h (Blk_lt hX); have hY := Blk_below hY h (Blk_lt hY); have hb := Below_then hb h (Nat.le_refl _); have x0 := Blk_cell hX 0; have x1 := Blk_cell hX 1; have y0 := Blk_cell hY 0; have y1 := Blk_cell hY 1)) | ((go_at_call 13; (with_reducible refine (o3 _).mono ?_)); rintro e w' ⟨rfl, h⟩; have hb := Below_then hb h (Nat.le_refl _)) | ((go_at_call 28; (with_reducible refine (hw1 _).mono ?_)); rintro e w' ⟨rfl, h⟩; subst h) | ((go_at_call 28; (with_reducible refine (hw2 _).mono ?_)); rintro e w' ⟨rfl, h⟩; subst h))
          go_ret3
          exact ⟨by first | rfl | (simp only [Int.max_comm]; rfl), hb⟩
set_option maxRecDepth 20000 in
set_option maxHeartbeats 4000000 in
theorem rsize_any (k n ka na kb nb z : Int) (w : World) (hn : (Lit.int .i64 n).wf = true) (hna : (Lit.int .i64 na).wf = true) (hnb : (Lit.int .i64 nb).wf = true) (hz : (Lit.int .i64 z).wf = true) :
    Calls Try.prog 16 #[.agg #[.int .u8 k, .int .i64 n], .agg #[.int .u8 ka, .int .i64 na], .agg #[.int .u8 kb, .int .i64 nb], .int .i64 z] w fun e w' => e = .returned (.tuple #[.int .i64 (szV (k, n) (ka, na) (kb, nb) z), .bool (lnA (k, n)), .bool (szB (k, n) (ka, na) (kb, nb) z)]) ∧ Below w.heap.size w w' := by
  have o1 := fun w => rof_any k n z w hn hz
  have o2 := fun w => rof_any ka na z w hna hz
  have o3 := fun w => rof_any kb nb z w hnb hz
  have hau := @lnA_auto (k, n)
  have hX := Blk_alloc (Blk_new (w.alloc (.cells #[.int .u8 k, .int .i64 n] 23)) 23 #[.int .u8 ka, .int .i64 na]) (.cells #[.int .u8 kb, .int .i64 nb] 23)
  have hY := Blk_new ((w.alloc (.cells #[.int .u8 k, .int .i64 n] 23)).alloc (.cells #[.int .u8 ka, .int .i64 na] 23)) 23 #[.int .u8 kb, .int .i64 nb]
  have hb : Below w.heap.size w (((w.alloc (.cells #[.int .u8 k, .int .i64 n] 23)).alloc (.cells #[.int .u8 ka, .int .i64 na] 23)).alloc (.cells #[.int .u8 kb, .int .i64 nb] 23)) := by (repeat' (first | (with_reducible exact Below.refl _ _) | (with_reducible assumption) | (with_reducible refine Below.alloc ?_ ?_ _) | (with_reducible refine Below.drew ?_) | (with_reducible refine Below_drewN ?_ _) | (with_reducible refine Below.setCell ?_ ?_ _) | go_size))
  simp only [World.size_alloc] at hX hY
  have hu := hau
  unfold szV szB
  cases q : lnA (k, n)
  case true =>
    have hv := hau q z
    rw [if_pos rfl, if_pos rfl]
    rw [q, hv.1, hv.2] at o1
    clear hv hau q
    go_enter Try.func16, Try.ntmps16
    go_wp2_with ((go_at_call 14; (with_reducible refine (o1 _).mono ?_)); rintro e w' ⟨rfl, h⟩; have hb := Below_then hb h (Nat.le_refl _))
    go_ret3
    exact ⟨rfl, hb⟩
  case false =>
    simp only [Bool.false_eq_true, if_false]
    rw [q] at o1
    clear hau q hu
    generalize lnV (k, n) z = V1 at *
    generalize lnV (ka, na) z = V2 at *
    generalize lnV (kb, nb) z = V3 at *
    generalize lnB (k, n) z = B1 at *
    generalize lnB (ka, na) z = B2 at *
    generalize lnB (kb, nb) z = B3 at *
    generalize lnA (ka, na) = A2 at *
    generalize lnA (kb, nb) = A3 at *
    have hw1 := fun w => rwithin_any V1 V2 V3 w
    have hw2 := fun w => rwithin_any V1 V2 1099511627776 w
    cases A3
    all_goals
      cases B1
      all_goals
        cases B2
        all_goals
          go_enter Try.func16, Try.ntmps16
          go_wp2_with (first | ((go_at_call 14; (with_reducible refine (o1 _).mono ?_)); rintro e w' ⟨rfl, h⟩; (have hX := Blk_below hX h (Blk_lt hX); have hY := Blk_below hY h (Blk_lt hY); have hb := Below_then hb h (Nat.le_refl _); have x0 := Blk_cell hX 0; have x1 := Blk_cell hX 1; have y0 := Blk_cell hY 0; have y1 := Blk_cell hY 1)) | ((go_at_call 14; (with_reducible refine (o2 _).mono ?_)); rintro e w' ⟨rfl, h⟩; (have hX := Blk_below hX h (Blk_lt hX); have hY := Blk_below hY h (Blk_lt hY); have hb := Below_then hb h (Nat.le_refl _); have x0 := Blk_cell hX 0; have x1 := Blk_cell hX 1; have y0 := Blk_cell hY 0; have y1 := Blk_cell hY 1)) | ((go_at_call 14; (with_reducible refine (o3 _).mono ?_)); rintro e w' ⟨rfl, h⟩; have hb := Below_then hb h (Nat.le_refl _)) | ((go_at_call 29; (with_reducible refine (hw1 _).mono ?_)); rintro e w' ⟨rfl, h⟩; subst h) | ((go_at_call 29; (with_reducible refine (hw2 _).mono ?_)); rintro e w' ⟨rfl, h⟩; subst h))
          go_ret3
          exact ⟨by first | rfl | (simp only [Int.max_comm]; rfl), hb⟩
end Go.Proofs.Ytedlfkklkoihjaa
