/-
  Which styles may be (jambref04). No condition.
-/
import Derived.Test.YtedlfkklkoihjaaTP
import Derived.Deep.MidRow
import Derived.Deep.DeepCutAuto
set_option linter.unusedVariables false
set_option linter.unusedSimpArgs false
namespace Go.Proofs.Ytedlfkklkoihjaa
open Go.RowKit Go.BigFrame

/-- A Bool that is decided. -/
theorem bool_eq {b c : Bool} (h : b = c) : Ending.returned (.bool b) = .returned (.bool c) := by rw [h]
theorem may_0 (z l : Int) : (z == 0) = mayB (0, z) l := by simp [mayB, BEq.beq]
theorem may_1f (z l : Int) (h : 1099511627776 < z) : false = mayB (1, z) l := by
  show false = decide _
  symm; apply decide_eq_false; omega
theorem may_1t (z l a : Int) (h : z ≤ 1099511627776) (e : l * 1099511627776 = a) : decide (a ≤ z) = mayB (1, z) l := by
  show _ = decide _
  apply decide_eq_decide.2; omega
theorem may_2f (z l : Int) (h : 100000 < z) : false = mayB (2, z) l := by
  show false = decide _
  symm; apply decide_eq_false; omega
theorem may_2t (z l a : Int) (h : z ≤ 100000) (e : l * 100000 = a) : decide (a ≤ z) = mayB (2, z) l := by
  show _ = decide _
  apply decide_eq_decide.2; omega
theorem may_3 (k z l : Int) (h0 : ¬ k = 0) (h1 : ¬ k = 1) (h2 : ¬ k = 2) : false = mayB (k, z) l := by unfold mayB; rw [if_neg h0, if_neg h1, if_neg h2]
set_option maxHeartbeats 1000000 in
theorem may_any (k z : Int) (bel : Bool) (w : World) :
    Calls Try.prog 42 #[.agg #[.int .u8 k, .int .i64 z], .bool bel] w fun e w' => e = .returned (.bool (mayB (k, z) (if bel then -1 else 0))) ∧ Below w.heap.size w w' := by
  by_cases h0 : k = 0
  · subst h0
    cases bel
    all_goals
      go_enter Try.func42, Try.ntmps42
      go_wp2_with fail
      go_ret
      exact ⟨bool_eq (may_0 z _), by (repeat' (first | (with_reducible exact Below.refl _ _) | (with_reducible assumption) | (with_reducible refine Below.alloc ?_ ?_ _) | (with_reducible refine Below.drew ?_) | (with_reducible refine Below_drewN ?_ _) | (with_reducible refine Below.setCell ?_ ?_ _) | go_size))⟩
  have b0 : (k == 0) = false := by simpa using h0
  by_cases h1 : k = 1
  · subst h1
    clear h0 b0
    cases bel
    all_goals
      cases g1 : decide (z ≤ 1099511627776)
      · have g2 := of_decide_eq_false g1
        go_enter Try.func42, Try.ntmps42
        go_wp2_with fail
        go_ret
        exact ⟨bool_eq (may_1f z _ g2), by (repeat' (first | (with_reducible exact Below.refl _ _) | (with_reducible assumption) | (with_reducible refine Below.alloc ?_ ?_ _) | (with_reducible refine Below.drew ?_) | (with_reducible refine Below_drewN ?_ _) | (with_reducible refine Below.setCell ?_ ?_ _) | go_size))⟩
      · have g2 := of_decide_eq_true g1
        go_enter Try.func42, Try.ntmps42
        go_wp2_with fail
        go_ret
        exact ⟨bool_eq (may_1t z _ _ g2 (by decide)), by (repeat' (first | (with_reducible exact Below.refl _ _) | (with_reducible assumption) | (with_reducible refine Below.alloc ?_ ?_ _) | (with_reducible refine Below.drew ?_) | (with_reducible refine Below_drewN ?_ _) | (with_reducible refine Below.setCell ?_ ?_ _) | go_size))⟩
  have b1 : (k == 1) = false := by simpa using h1
  by_cases h2 : k = 2
  · subst h2
    clear h0 b0 h1 b1
    cases bel
    all_goals
      cases g1 : decide (z ≤ 100000)
      · have g2 := of_decide_eq_false g1
        go_enter Try.func42, Try.ntmps42
        go_wp2_with fail
        go_ret
        exact ⟨bool_eq (may_2f z _ g2), by (repeat' (first | (with_reducible exact Below.refl _ _) | (with_reducible assumption) | (with_reducible refine Below.alloc ?_ ?_ _) | (with_reducible refine Below.drew ?_) | (with_reducible refine Below_drewN ?_ _) | (with_reducible refine Below.setCell ?_ ?_ _) | go_size))⟩
      · have g2 := of_decide_eq_true g1
        go_enter Try.func42, Try.ntmps42
        go_wp2_with fail
        go_ret
        exact ⟨bool_eq (may_2t z _ _ g2 (by decide)), by (repeat' (first | (with_reducible exact Below.refl _ _) | (with_reducible assumption) | (with_reducible refine Below.alloc ?_ ?_ _) | (with_reducible refine Below.drew ?_) | (with_reducible refine Below_drewN ?_ _) | (with_reducible refine Below.setCell ?_ ?_ _) | go_size))⟩
  have b2 : (k == 2) = false := by simpa using h2
  have HE := Lib.hid (may_3 k z (if bel then -1 else 0) h0 h1 h2)
  clear h0 h1 h2
  cases bel
  all_goals
    go_enter Try.func42, Try.ntmps42
    go_wp2_with fail
    go_ret
    exact ⟨bool_eq HE.out, by (repeat' (first | (with_reducible exact Below.refl _ _) | (with_reducible assumption) | (with_reducible refine Below.alloc ?_ ?_ _) | (with_reducible refine Below.drew ?_) | (with_reducible refine Below_drewN ?_ _) | (with_reducible refine Below.setCell ?_ ?_ _) | go_size))⟩

def mG (s : St) : Nat → Int × Int
  | 0 => s.m0 | 1 => s.m1 | 2 => s.m2 | _ => s.m3
def bG (s : St) : Nat → Int
  | 0 => s.b0 | 1 => s.b1 | 2 => s.b2 | _ => s.b3
def pG (s : St) : Nat → Int
  | 0 => s.p0 | 1 => s.p1 | 2 => s.p2 | _ => s.p3
def wideG (s : St) : Nat → Int × Int
  | 0 => s.w | 1 => s.minw | 2 => s.maxw | _ => s.basis
def highG (s : St) : Nat → Int × Int
  | 0 => s.h | 1 => s.minh | _ => s.maxh
def edgeAt (s : St) (k : Nat) : Bool := edgeB (mG s k) (bG s k) (pG s k)
def AllB (f : Nat → Bool) (k : Nat) : Prop := ∀ i, i < k → f i = true
theorem AllB.zero (f : Nat → Bool) : AllB f 0 := fun i hi => by omega
theorem AllB.next {f : Nat → Bool} {k : Nat} (h : AllB f k) (hk : f k = true) : AllB f (k + 1) := fun i hi => by
  rcases Nat.lt_or_ge i k with h1 | h1
  · exact h i h1
  · obtain rfl : i = k := by omega
    exact hk
def restB (s : St) : Bool :=
  decide (s.float ≤ 2 ∧ s.clear ≤ 3) && decide (s.align ≤ 2 ∧ s.justify ≤ 3 ∧ s.items ≤ 3) && (inB s.grow 0 60 && inB s.shrink 0 60) &&
  inB s.line 0 1099511627776 && inB s.order (-1048576) 1048576 && decide (s.units.length = 0)
def wideAt (s : St) (k : Nat) : Bool := mayB (wideG s k) 0
def highAt (s : St) (k : Nat) : Bool := highB (highG s k)
theorem box_eq (s : St) : boxB s = ((edgeAt s 0 && edgeAt s 1 && edgeAt s 2 && edgeAt s 3) && (wideAt s 0 && wideAt s 1 && wideAt s 2 && wideAt s 3) && (highAt s 0 && highAt s 1 && highAt s 2) && restB s) := by
  simp only [boxB, restB, wideAt, highAt, edgeAt, mG, bG, pG, wideG, highG, Bool.and_assoc]
theorem box_edge {s : St} {k : Nat} (hk : k < 4) (h : edgeAt s k = false) : boxB s = false := by
  rw [box_eq]
  obtain rfl | rfl | rfl | rfl : k = 0 ∨ k = 1 ∨ k = 2 ∨ k = 3 := by omega
  all_goals simp [h]
theorem box_wide {s : St} {k : Nat} (hk : k < 4) (h : wideAt s k = false) : boxB s = false := by
  rw [box_eq]
  obtain rfl | rfl | rfl | rfl : k = 0 ∨ k = 1 ∨ k = 2 ∨ k = 3 := by omega
  all_goals simp [h]
theorem box_high {s : St} {k : Nat} (hk : k < 3) (h : highAt s k = false) : boxB s = false := by
  rw [box_eq]
  obtain rfl | rfl | rfl : k = 0 ∨ k = 1 ∨ k = 2 := by omega
  all_goals simp [h]
theorem box_rest {s : St} (h1 : AllB (edgeAt s) 4) (h2 : AllB (wideAt s) 4) (h3 : AllB (highAt s) 3) : boxB s = restB s := by
  rw [box_eq, h1 0 (by omega), h1 1 (by omega), h1 2 (by omega), h1 3 (by omega), h2 0 (by omega), h2 1 (by omega), h2 2 (by omega), h2 3 (by omega), h3 0 (by omega), h3 1 (by omega), h3 2 (by omega)]
  simp
theorem edge_may {s : St} {k : Nat} (h : mayB (mG s k) (-1) = false) : edgeAt s k = false := by unfold edgeAt edgeB; rw [h]; rfl
theorem edge_no {s : St} {k : Nat} (h : bG s k < 0 ∨ 1099511627776 < bG s k ∨ pG s k < 0 ∨ 1099511627776 < pG s k) : edgeAt s k = false := by
  unfold edgeAt edgeB inB
  rcases h with h | h | h | h
  · rw [show decide (0 ≤ bG s k ∧ bG s k ≤ 1099511627776) = false from decide_eq_false (by omega)]; simp
  · rw [show decide (0 ≤ bG s k ∧ bG s k ≤ 1099511627776) = false from decide_eq_false (by omega)]; simp
  · rw [show decide (0 ≤ pG s k ∧ pG s k ≤ 1099511627776) = false from decide_eq_false (by omega)]; simp
  · rw [show decide (0 ≤ pG s k ∧ pG s k ≤ 1099511627776) = false from decide_eq_false (by omega)]; simp
theorem edge_yes {s : St} {k : Nat} (h : mayB (mG s k) (-1) = true) (h1 : 0 ≤ bG s k) (h2 : bG s k ≤ 1099511627776) (h3 : 0 ≤ pG s k) (h4 : pG s k ≤ 1099511627776) : edgeAt s k = true := by
  unfold edgeAt edgeB inB
  rw [h, decide_eq_true ⟨h1, h2⟩, decide_eq_true ⟨h3, h4⟩]; rfl
theorem St_cell {w : World} {g : Nat} {t : TypeId} {s : St} (h : Blk w g t (scells s).toArray) {j : Nat} {v : Value} (e : (scells s).toArray[j]? = some v) : w.cell? ⟨g, j, none⟩ = some v := (Blk_cell h j).trans e
theorem St_m {w : World} {g : Nat} {t : TypeId} {s : St} (h : Blk w g t (scells s).toArray) {k : Nat} (hk : k < 4) :
    w.cell? ⟨g, 16 + k * 2, none⟩ = some (.int .u8 (mG s k).1) ∧ w.cell? ⟨g, 16 + k * 2 + 1, none⟩ = some (.int .i64 (mG s k).2) ∧ w.cell? ⟨g, 24 + k, none⟩ = some (.int .i64 (bG s k)) ∧ w.cell? ⟨g, 28 + k, none⟩ = some (.int .i64 (pG s k)) := by
  obtain rfl | rfl | rfl | rfl : k = 0 ∨ k = 1 ∨ k = 2 ∨ k = 3 := by omega
  all_goals exact ⟨St_cell h rfl, St_cell h rfl, St_cell h rfl, St_cell h rfl⟩
theorem St_wide {w : World} {g : Nat} {t : TypeId} {s : St} (h : Blk w g t (scells s).toArray) :
    w.cell? ⟨g, 4, none⟩ = some (.int .u8 s.w.1) ∧ w.cell? ⟨g, 5, none⟩ = some (.int .i64 s.w.2) ∧ w.cell? ⟨g, 8, none⟩ = some (.int .u8 s.minw.1) ∧ w.cell? ⟨g, 9, none⟩ = some (.int .i64 s.minw.2) ∧ w.cell? ⟨g, 10, none⟩ = some (.int .u8 s.maxw.1) ∧ w.cell? ⟨g, 11, none⟩ = some (.int .i64 s.maxw.2) ∧ w.cell? ⟨g, 40, none⟩ = some (.int .u8 s.basis.1) ∧ w.cell? ⟨g, 41, none⟩ = some (.int .i64 s.basis.2) :=
  ⟨St_cell h rfl, St_cell h rfl, St_cell h rfl, St_cell h rfl, St_cell h rfl, St_cell h rfl, St_cell h rfl, St_cell h rfl⟩
theorem St_high {w : World} {g : Nat} {t : TypeId} {s : St} (h : Blk w g t (scells s).toArray) :
    w.cell? ⟨g, 6, none⟩ = some (.int .u8 s.h.1) ∧ w.cell? ⟨g, 7, none⟩ = some (.int .i64 s.h.2) ∧ w.cell? ⟨g, 12, none⟩ = some (.int .u8 s.minh.1) ∧ w.cell? ⟨g, 13, none⟩ = some (.int .i64 s.minh.2) ∧ w.cell? ⟨g, 14, none⟩ = some (.int .u8 s.maxh.1) ∧ w.cell? ⟨g, 15, none⟩ = some (.int .i64 s.maxh.2) :=
  ⟨St_cell h rfl, St_cell h rfl, St_cell h rfl, St_cell h rfl, St_cell h rfl, St_cell h rfl⟩
theorem St_sides {w : World} {g : Nat} {t : TypeId} {s : St} (h : Blk w g t (scells s).toArray) :
    w.cell? ⟨g, 2, none⟩ = some (.int .u8 s.float) ∧ w.cell? ⟨g, 3, none⟩ = some (.int .u8 s.clear) :=
  ⟨St_cell h rfl, St_cell h rfl⟩
theorem St_places {w : World} {g : Nat} {t : TypeId} {s : St} (h : Blk w g t (scells s).toArray) :
    w.cell? ⟨g, 32, none⟩ = some (.int .u8 s.align) ∧ w.cell? ⟨g, 35, none⟩ = some (.int .u8 s.justify) ∧ w.cell? ⟨g, 36, none⟩ = some (.int .u8 s.items) :=
  ⟨St_cell h rfl, St_cell h rfl, St_cell h rfl⟩
theorem St_facts {w : World} {g : Nat} {t : TypeId} {s : St} (h : Blk w g t (scells s).toArray) :
    w.cell? ⟨g, 38, none⟩ = some (.int .i64 s.grow) ∧ w.cell? ⟨g, 39, none⟩ = some (.int .i64 s.shrink) :=
  ⟨St_cell h rfl, St_cell h rfl⟩
theorem St_rest {w : World} {g : Nat} {t : TypeId} {s : St} (h : Blk w g t (scells s).toArray) :
    w.cell? ⟨g, 33, none⟩ = some (.int .i64 s.line) ∧ w.cell? ⟨g, 37, none⟩ = some (.int .i64 s.order) ∧ w.cell? ⟨g, 42, none⟩ = some (.slice s.uA s.units.length s.uc) :=
  ⟨St_cell h rfl, St_cell h rfl, St_cell h rfl⟩
def wideC (s : St) : Array Value := #[.int .u8 s.w.1, .int .i64 s.w.2, .int .u8 s.minw.1, .int .i64 s.minw.2, .int .u8 s.maxw.1, .int .i64 s.maxw.2, .int .u8 s.basis.1, .int .i64 s.basis.2]
def highC (s : St) : Array Value := #[.int .u8 s.h.1, .int .i64 s.h.2, .int .u8 s.minh.1, .int .i64 s.minh.2, .int .u8 s.maxh.1, .int .i64 s.maxh.2]
theorem wide_cell {w : World} {g : Nat} {t : TypeId} {s : St} (h : Blk w g t (wideC s)) {k : Nat} (hk : k < 4) :
    w.cell? ⟨g, k * 2, none⟩ = some (.int .u8 (wideG s k).1) ∧ w.cell? ⟨g, k * 2 + 1, none⟩ = some (.int .i64 (wideG s k).2) := by
  obtain rfl | rfl | rfl | rfl : k = 0 ∨ k = 1 ∨ k = 2 ∨ k = 3 := by omega
  all_goals exact ⟨(Blk_cell h _).trans rfl, (Blk_cell h _).trans rfl⟩
theorem high_cell {w : World} {g : Nat} {t : TypeId} {s : St} (h : Blk w g t (highC s)) {k : Nat} (hk : k < 3) :
    w.cell? ⟨g, k * 2, none⟩ = some (.int .u8 (highG s k).1) ∧ w.cell? ⟨g, k * 2 + 1, none⟩ = some (.int .i64 (highG s k).2) := by
  obtain rfl | rfl | rfl : k = 0 ∨ k = 1 ∨ k = 2 := by omega
  all_goals exact ⟨(Blk_cell h _).trans rfl, (Blk_cell h _).trans rfl⟩
theorem high_may {s : St} {k : Nat} (h : mayB (highG s k) 0 = false) : highAt s k = false := by unfold highAt highB; rw [h]; rfl
theorem high_two {s : St} {k : Nat} (h : (highG s k).1 = 2) : highAt s k = false := by unfold highAt highB; rw [h]; simp
theorem high_yes {s : St} {k : Nat} (h : mayB (highG s k) 0 = true) (h2 : ¬ (highG s k).1 = 2) : highAt s k = true := by unfold highAt highB; rw [h]; simpa using h2
theorem val_bool {b c : Bool} (h : b = c) : Value.bool b = .bool c := by rw [h]
def sidesB (s : St) : Bool := decide (s.float ≤ 2 ∧ s.clear ≤ 3)
def placesB (s : St) : Bool := decide (s.align ≤ 2 ∧ s.justify ≤ 3 ∧ s.items ≤ 3)
def factsB (s : St) : Bool := decide ((0 ≤ s.grow ∧ s.grow ≤ 60) ∧ 0 ≤ s.shrink ∧ s.shrink ≤ 60)
theorem rest_eq (s : St) : restB s = (sidesB s && placesB s && factsB s && decide (((0 ≤ s.line ∧ s.line ≤ 1099511627776) ∧ -1048576 ≤ s.order ∧ s.order ≤ 1048576) ∧ s.units.length = 0)) := by
  simp only [restB, sidesB, placesB, factsB, inB, Bool.decide_and, Bool.and_assoc]
theorem rest_no {s : St} (h : sidesB s = false ∨ placesB s = false ∨ factsB s = false) : restB s = false := by
  rw [rest_eq]
  rcases h with h | h | h
  all_goals simp [h]
theorem rest_yes {s : St} (h1 : sidesB s = true) (h2 : placesB s = true) (h3 : factsB s = true) : restB s = decide (((0 ≤ s.line ∧ s.line ≤ 1099511627776) ∧ -1048576 ≤ s.order ∧ s.order ≤ 1048576) ∧ s.units.length = 0) := by
  rw [rest_eq, h1, h2, h3]; simp only [Bool.true_and]
set_option maxRecDepth 100000 in
set_option maxHeartbeats 4000000 in
theorem box_any (s : St) (hw : s.Wf) (hu : s.units.length ≤ maxLen) (w : World) :
    Calls Try.prog 21 #[.agg (scells s).toArray] w fun e w' => e = .returned (.bool (boxB s)) ∧ Below w.heap.size w w' := by
  have hbk := Blk_new w 28 (scells s).toArray
  have hb0 := (Below.refl w.heap.size w).alloc (Nat.le_refl _) (.cells (scells s).toArray 28)
  go_enter Try.func21, Try.ntmps21
  go_wp2_with fail
  go_loopw [3, 11, 12, 13, 14, 15, 16, 17, 18, 19, 20, 21, 22, 23, 24, 25, 26, 27, 28, 29, 30, 31, 32, 33, 34, 35, 36, 37, 38, 39, 40, 41, 42, 43, 44, 45, 46, 47, 48] (fun k _ _ _ _ _ _ _ _ _ _ _ _ _ _ _ _ _ _ _ _ _ _ _ _ _ _ _ _ _ _ _ _ _ _ _ _ _ _ wr => ∃ j : Nat, j ≤ 4 ∧ k = .int .i64 j ∧ AllB (edgeAt s) j ∧ Below w.heap.size w wr ∧ Blk wr w.heap.size 28 (scells s).toArray) (fun k _ _ _ _ _ _ _ _ _ _ _ _ _ _ _ _ _ _ _ _ _ _ _ _ _ _ _ _ _ _ _ _ _ _ _ _ _ _ _ => 4 - (intOf k).toNat)
  case atStart => exact ⟨0, by omega, rfl, AllB.zero _, hb0, hbk⟩
  case round =>
    clear hbk hb0
    obtain ⟨j, hj, rfl, hA, hb, hbk⟩ := hrel
    by_cases hlt : j < 4
    · obtain ⟨c0, c1, c2, c3⟩ := St_m hbk hlt
      have HA := Lib.hid hA
      have hlt' : (j : Int) < 4 := by omega
      cases hm : mayB (mG s j) (-1)
      · have HB := Lib.hid (box_edge hlt (edge_may hm))
        have hmy := may_any (mG s j).1 (mG s j).2 true wr
        rw [show mayB ((mG s j).1, (mG s j).2) (if true then -1 else 0) = false from hm] at hmy
        clear hm hA
        go_wp2_with (go_at_call 42; refine hmy.mono ?_; rintro e w1 ⟨rfl, h1⟩)
        go_ret
        exact ⟨bool_eq HB.out.symm, Below_same hb h1⟩
      · have HM := Lib.hid hm
        have hmy := may_any (mG s j).1 (mG s j).2 true wr
        rw [show mayB ((mG s j).1, (mG s j).2) (if true then -1 else 0) = true from hm] at hmy
        clear hm hA
        go_wp2_with (go_at_call 42; refine hmy.mono ?_; rintro e w1 ⟨rfl, h1⟩; have hbk1 := Blk_below hbk h1 (Blk_lt hbk); obtain ⟨_, _, d2, d3⟩ := St_m hbk1 hlt)
        all_goals first
          | (go_ret
             exact ⟨bool_eq (box_edge hlt (edge_no (by omega))).symm, Below_same hb h1⟩)
          | (have hb2 := Below_same hb h1
             go_roundw
             case rel => exact ⟨j + 1, by omega, by go_num, HA.out.next (edge_yes HM.out (by omega) (by omega) (by omega) (by omega)), hb2, hbk1⟩
             case measure => simp [intOf]; omega)
    · have hj4 : j = 4 := by omega
      have hge : ¬ (j : Int) < 4 := by omega
      rw [hj4] at hA
      have HA := Lib.hid hA
      have lt := Blk_lt hbk
      obtain ⟨f0, f1, f2, f3, f4, f5, f6, f7⟩ := St_wide hbk
      obtain ⟨g0, g1, g2, g3, g4, g5⟩ := St_high hbk
      clear hA hj4
      have hS2 := Blk_alloc (Blk_alloc hbk (.cells #[.int .u8 s.w.1, .int .i64 s.w.2, .int .u8 s.minw.1, .int .i64 s.minw.2, .int .u8 s.maxw.1, .int .i64 s.maxw.2, .int .u8 s.basis.1, .int .i64 s.basis.2] 23)) (.cells #[.int .u8 s.h.1, .int .i64 s.h.2, .int .u8 s.minh.1, .int .i64 s.minh.2, .int .u8 s.maxh.1, .int .i64 s.maxh.2] 23)
      have hW2 := Blk_alloc (Blk_new wr 23 #[.int .u8 s.w.1, .int .i64 s.w.2, .int .u8 s.minw.1, .int .i64 s.minw.2, .int .u8 s.maxw.1, .int .i64 s.maxw.2, .int .u8 s.basis.1, .int .i64 s.basis.2]) (.cells #[.int .u8 s.h.1, .int .i64 s.h.2, .int .u8 s.minh.1, .int .i64 s.minh.2, .int .u8 s.maxh.1, .int .i64 s.maxh.2] 23)
      have hH2 := Blk_new (wr.alloc (.cells #[.int .u8 s.w.1, .int .i64 s.w.2, .int .u8 s.minw.1, .int .i64 s.minw.2, .int .u8 s.maxw.1, .int .i64 s.maxw.2, .int .u8 s.basis.1, .int .i64 s.basis.2] 23)) 23 #[.int .u8 s.h.1, .int .i64 s.h.2, .int .u8 s.minh.1, .int .i64 s.minh.2, .int .u8 s.maxh.1, .int .i64 s.maxh.2]
      rw [World.size_alloc] at hH2
      have hb2 := (hb.alloc hb.size (.cells #[.int .u8 s.w.1, .int .i64 s.w.2, .int .u8 s.minw.1, .int .i64 s.minw.2, .int .u8 s.maxw.1, .int .i64 s.maxw.2, .int .u8 s.basis.1, .int .i64 s.basis.2] 23)).alloc (by have := hb.size; simp; omega) (.cells #[.int .u8 s.h.1, .int .i64 s.h.2, .int .u8 s.minh.1, .int .i64 s.minh.2, .int .u8 s.maxh.1, .int .i64 s.maxh.2] 23)
      go_wp2_with fail
      obtain ⟨gw, hgw⟩ : ∃ g, wr.heap.size = g := ⟨_, rfl⟩
      rw [hgw] at hW2 hH2 ⊢
      clear f0 f1 f2 f3 f4 f5 f6 f7 g0 g1 g2 g3 g4 g5 lt hb hbk hlt hj hgw hge
      go_loopw [6, 65, 66, 67, 68, 69, 70, 71, 72, 73, 74, 75, 76] (fun k _ _ _ _ _ _ _ _ _ _ _ _ wr => ∃ j : Nat, j ≤ 4 ∧ k = .int .i64 j ∧ AllB (wideAt s) j ∧ Below w.heap.size w wr ∧ Blk wr w.heap.size 28 (scells s).toArray ∧ Blk wr gw 23 (wideC s) ∧ Blk wr (gw + 1) 23 (highC s)) (fun k _ _ _ _ _ _ _ _ _ _ _ _ _ => 4 - (intOf k).toNat)
      case atStart => exact ⟨0, by omega, rfl, AllB.zero _, hb2, hS2, hW2, hH2⟩
      case round =>
        clear hb2 hS2 hW2 hH2
        obtain ⟨j, hj, rfl, hA2, hb, hbk, hbw, hbh⟩ := hrel
        have HA2 := Lib.hid hA2
        by_cases hlt : j < 4
        · obtain ⟨c0, c1⟩ := wide_cell hbw hlt
          have hlt' : (j : Int) < 4 := by omega
          have hmy := may_any (wideG s j).1 (wideG s j).2 false wr
          have hme : mayB ((wideG s j).1, (wideG s j).2) (if false then -1 else 0) = wideAt s j := rfl
          rw [hme] at hmy
          cases hm : wideAt s j
          · have HB := Lib.hid (box_wide hlt hm)
            rw [hm] at hmy
            clear hm hme hA2
            go_wp2_with (go_at_call 42; refine hmy.mono ?_; rintro e w1 ⟨rfl, h1⟩)
            go_ret
            exact ⟨bool_eq HB.out.symm, Below_same hb h1⟩
          · have HM := Lib.hid hm
            rw [hm] at hmy
            clear hm hme hA2
            go_wp2_with (go_at_call 42; refine hmy.mono ?_; rintro e w1 ⟨rfl, h1⟩)
            have hb2 := Below_same hb h1
            have hx := Blk_below hbk h1 (Blk_lt hbk)
            have hy := Blk_below hbw h1 (Blk_lt hbw)
            have hz := Blk_below hbh h1 (Blk_lt hbh)
            go_roundw
            case rel => exact ⟨j + 1, by omega, by go_num, HA2.out.next HM.out, hb2, hx, hy, hz⟩
            case measure => simp [intOf]; omega
        · have hj4 : j = 4 := by omega
          have hge : ¬ (j : Int) < 4 := by omega
          have HA2 := Lib.hid (show AllB (wideAt s) 4 from hj4 ▸ hA2)
          clear hA2 hj4
          go_wp2_with fail
          clear hlt hj hge
          go_loopw [7, 77, 78, 79, 80, 81, 82, 83, 84, 85, 86, 87, 88, 89, 90, 91, 92, 93, 94, 95, 96] (fun k _ _ _ _ _ _ _ _ _ _ _ _ _ _ _ _ _ _ _ _ wr => ∃ j : Nat, j ≤ 3 ∧ k = .int .i64 j ∧ AllB (highAt s) j ∧ Below w.heap.size w wr ∧ Blk wr w.heap.size 28 (scells s).toArray ∧ Blk wr (gw + 1) 23 (highC s)) (fun k _ _ _ _ _ _ _ _ _ _ _ _ _ _ _ _ _ _ _ _ _ => 4 - (intOf k).toNat)
          case atStart => exact ⟨0, by omega, rfl, AllB.zero _, hb, hbk, hbh⟩
          case round =>
            clear hb hbk hbw hbh
            obtain ⟨j, hj, rfl, hA3, hb, hbk, hbh⟩ := hrel
            have HA3 := Lib.hid hA3
            by_cases hlt : j < 3
            · obtain ⟨c0, c1⟩ := high_cell hbh hlt
              have hlt' : (j : Int) < 3 := by omega
              have hmy := may_any (highG s j).1 (highG s j).2 false wr
              have hme : mayB ((highG s j).1, (highG s j).2) (if false then -1 else 0) = mayB (highG s j) 0 := rfl
              rw [hme] at hmy
              cases hm : mayB (highG s j) 0
              · have HB := Lib.hid (box_high hlt (high_may hm))
                rw [hm] at hmy
                clear hm hme hA3
                go_wp2_with (go_at_call 42; refine hmy.mono ?_; rintro e w1 ⟨rfl, h1⟩)
                go_ret
                exact ⟨bool_eq HB.out.symm, Below_same hb h1⟩
              · have HM := Lib.hid hm
                rw [hm] at hmy
                clear hm hme hA3
                by_cases h2 : (highG s j).1 = 2
                · have HB := Lib.hid (box_high hlt (high_two h2))
                  rw [h2] at c0 hmy
                  clear h2
                  go_wp2_with (go_at_call 42; refine hmy.mono ?_; rintro e w1 ⟨rfl, h1⟩; have d0 := (h1.cell (cell_lt c0)).trans c0)
                  go_ret
                  exact ⟨bool_eq HB.out.symm, Below_same hb h1⟩
                · have HB := Lib.hid (high_yes HM.out h2)
                  have hk2 : ((highG s j).1 == 2) = false := by simpa using h2
                  clear h2
                  go_wp2_with (go_at_call 42; refine hmy.mono ?_; rintro e w1 ⟨rfl, h1⟩; have d0 := (h1.cell (cell_lt c0)).trans c0)
                  have hb2 := Below_same hb h1
                  have hx := Blk_below hbk h1 (Blk_lt hbk)
                  have hz := Blk_below hbh h1 (Blk_lt hbh)
                  go_roundw
                  case rel => exact ⟨j + 1, by omega, by go_num, HA3.out.next HB.out, hb2, hx, hz⟩
                  case measure => simp [intOf]; omega
            · have hj4 : j = 3 := by omega
              have hge : ¬ (j : Int) < 3 := by omega
              have HE := Lib.hid (box_rest HA.out HA2.out (hj4 ▸ hA3))
              clear hA3 hlt hj HA HA2 HA3 hbh hj4
              obtain ⟨f0, f1⟩ := St_sides hbk
              obtain ⟨f2, f3, f4⟩ := St_places hbk
              obtain ⟨f5, f6⟩ := St_facts hbk
              obtain ⟨f7, f8, f9⟩ := St_rest hbk
              unfold maxLen at hu
              go_upto_region 18 with fail
              go_cut [8] (fun x wx => x = .bool (sidesB s) ∧ wr = wx)
              case first =>
                go_wp2_with fail
                all_goals
                  go_meet
                  exact ⟨val_bool (by first | (symm; apply decide_eq_true; omega) | (symm; apply decide_eq_false; omega) | (apply decide_eq_decide.2; omega) | (simp only [Bool.decide_and]; done) | (simp [*]; done)), rfl⟩
              case rest =>
                obtain ⟨rfl, rfl⟩ := hcut
                go_upto_region 19 with fail
                go_cut [9] (fun x wx => x = .bool (placesB s) ∧ wr = wx)
                case first =>
                  go_wp2_with fail
                  all_goals
                    go_meet
                    exact ⟨val_bool (by first | (symm; apply decide_eq_true; omega) | (symm; apply decide_eq_false; omega) | (apply decide_eq_decide.2; omega) | (simp only [Bool.decide_and]; done) | (simp [*]; done)), rfl⟩
                case rest =>
                  obtain ⟨rfl, rfl⟩ := hcut
                  go_upto_region 20 with fail
                  go_cut [10] (fun x wx => x = .bool (factsB s) ∧ wr = wx)
                  case first =>
                    go_wp2_with fail
                    all_goals
                      go_meet
                      exact ⟨val_bool (by first | (symm; apply decide_eq_true; omega) | (symm; apply decide_eq_false; omega) | (apply decide_eq_decide.2; omega) | (simp only [Bool.decide_and]; done) | (simp [*]; done)), rfl⟩
                  case rest =>
                    obtain ⟨rfl, rfl⟩ := hcut
                    cases q1 : sidesB s
                    · have HR := Lib.hid (HE.out.trans (rest_no (.inl q1)))
                      go_wp2_with fail
                      go_ret
                      exact ⟨bool_eq HR.out.symm, hb⟩
                    cases q2 : placesB s
                    · have HR := Lib.hid (HE.out.trans (rest_no (.inr (.inl q2))))
                      go_wp2_with fail
                      go_ret
                      exact ⟨bool_eq HR.out.symm, hb⟩
                    cases q3 : factsB s
                    · have HR := Lib.hid (HE.out.trans (rest_no (.inr (.inr q3))))
                      go_wp2_with fail
                      go_ret
                      exact ⟨bool_eq HR.out.symm, hb⟩
                    have HR := Lib.hid (HE.out.trans (rest_yes q1 q2 q3))
                    go_wp2_with fail
                    all_goals
                      go_ret
                      refine ⟨bool_eq ?_, hb⟩
                      rw [HR.out]
                      first | (symm; apply decide_eq_true; omega) | (symm; apply decide_eq_false; omega) | (apply decide_eq_decide.2; omega) | (simp [*]; done)
end Go.Proofs.Ytedlfkklkoihjaa
