/-
  Which texts may be, and which styles (jambref04). No condition.
-/
import Derived.Test.YtedlfkklkoihjaaTR
set_option linter.unusedVariables false
set_option linter.unusedSimpArgs false
namespace Go.Proofs.Ytedlfkklkoihjaa
open Go.RowKit Go.BigFrame

def lensL (s : St) : List (Int × Int) := [s.w, s.h, s.minw, s.maxw, s.minh, s.maxh, s.basis, s.m0, s.m1, s.m2, s.m3]
def lc (x : Int × Int) : List Value := [.int .u8 x.1, .int .i64 x.2]
def sevenC (s : St) : Array Value := #[.int .u8 s.w.1, .int .i64 s.w.2, .int .u8 s.h.1, .int .i64 s.h.2, .int .u8 s.minw.1, .int .i64 s.minw.2, .int .u8 s.maxw.1, .int .i64 s.maxw.2, .int .u8 s.minh.1, .int .i64 s.minh.2, .int .u8 s.maxh.1, .int .i64 s.maxh.2, .int .u8 s.basis.1, .int .i64 s.basis.2]
theorem St_seven {w : World} {g : Nat} {t : TypeId} {s : St} (h : Blk w g t (scells s).toArray) :
    w.cell? ⟨g, 4, none⟩ = some (.int .u8 s.w.1) ∧ w.cell? ⟨g, 5, none⟩ = some (.int .i64 s.w.2) ∧ w.cell? ⟨g, 6, none⟩ = some (.int .u8 s.h.1) ∧ w.cell? ⟨g, 7, none⟩ = some (.int .i64 s.h.2) ∧ w.cell? ⟨g, 8, none⟩ = some (.int .u8 s.minw.1) ∧ w.cell? ⟨g, 9, none⟩ = some (.int .i64 s.minw.2) ∧ w.cell? ⟨g, 10, none⟩ = some (.int .u8 s.maxw.1) ∧ w.cell? ⟨g, 11, none⟩ = some (.int .i64 s.maxw.2) ∧ w.cell? ⟨g, 12, none⟩ = some (.int .u8 s.minh.1) ∧ w.cell? ⟨g, 13, none⟩ = some (.int .i64 s.minh.2) ∧ w.cell? ⟨g, 14, none⟩ = some (.int .u8 s.maxh.1) ∧ w.cell? ⟨g, 15, none⟩ = some (.int .i64 s.maxh.2) ∧ w.cell? ⟨g, 40, none⟩ = some (.int .u8 s.basis.1) ∧ w.cell? ⟨g, 41, none⟩ = some (.int .i64 s.basis.2) :=
  ⟨St_cell h rfl, St_cell h rfl, St_cell h rfl, St_cell h rfl, St_cell h rfl, St_cell h rfl, St_cell h rfl, St_cell h rfl, St_cell h rfl, St_cell h rfl, St_cell h rfl, St_cell h rfl, St_cell h rfl, St_cell h rfl⟩
theorem St_last {w : World} {g : Nat} {t : TypeId} {s : St} (h : Blk w g t (scells s).toArray) :
    w.cell? ⟨g, 1, none⟩ = some (.bool s.flow) ∧ w.cell? ⟨g, 34, none⟩ = some (.bool s.wrap) ∧ w.cell? ⟨g, 2, none⟩ = some (.int .u8 s.float) ∧ w.cell? ⟨g, 3, none⟩ = some (.int .u8 s.clear) ∧ w.cell? ⟨g, 32, none⟩ = some (.int .u8 s.align) ∧ w.cell? ⟨g, 35, none⟩ = some (.int .u8 s.justify) ∧ w.cell? ⟨g, 36, none⟩ = some (.int .u8 s.items) ∧ w.cell? ⟨g, 33, none⟩ = some (.int .i64 s.line) ∧ w.cell? ⟨g, 37, none⟩ = some (.int .i64 s.order) ∧ w.cell? ⟨g, 38, none⟩ = some (.int .i64 s.grow) ∧ w.cell? ⟨g, 39, none⟩ = some (.int .i64 s.shrink) :=
  ⟨St_cell h rfl, St_cell h rfl, St_cell h rfl, St_cell h rfl, St_cell h rfl, St_cell h rfl, St_cell h rfl, St_cell h rfl, St_cell h rfl, St_cell h rfl, St_cell h rfl⟩
def zeroAt (s : St) (k : Nat) : Bool := decide (bG s k = 0 ∧ pG s k = 0)
def noneAt (s : St) (k : Nat) : Bool := noneB ((lensL s).getD k (0, 0))
def bareB (s : St) : Bool := decide (s.flow = false ∧ s.wrap = false ∧ s.float = 0 ∧ s.clear = 0 ∧ s.align = 0 ∧ s.justify = 0 ∧ s.items = 0 ∧ s.line = 0 ∧ s.order = 0 ∧ s.grow = 0 ∧ s.shrink = 0)
theorem empty_eq (s : St) : emptyB s = ((zeroAt s 0 && zeroAt s 1 && zeroAt s 2 && zeroAt s 3) && (noneAt s 0 && noneAt s 1 && noneAt s 2 && noneAt s 3 && noneAt s 4 && noneAt s 5 && noneAt s 6 && noneAt s 7 && noneAt s 8 && noneAt s 9 && noneAt s 10) && bareB s) := by
  simp only [emptyB, zeroAt, noneAt, bareB, bG, pG, lensL, List.getD_cons_zero, List.getD_cons_succ, Bool.decide_and, Bool.and_assoc]
theorem empty_zero {s : St} {k : Nat} (hk : k < 4) (h : zeroAt s k = false) : emptyB s = false := by
  rw [empty_eq]
  obtain rfl | rfl | rfl | rfl : k = 0 ∨ k = 1 ∨ k = 2 ∨ k = 3 := by omega
  all_goals simp [h]
theorem empty_none {s : St} {k : Nat} (hk : k < 11) (h : noneAt s k = false) : emptyB s = false := by
  rw [empty_eq]
  obtain rfl | rfl | rfl | rfl | rfl | rfl | rfl | rfl | rfl | rfl | rfl : k = 0 ∨ k = 1 ∨ k = 2 ∨ k = 3 ∨ k = 4 ∨ k = 5 ∨ k = 6 ∨ k = 7 ∨ k = 8 ∨ k = 9 ∨ k = 10 := by omega
  all_goals simp [h]
theorem empty_bare {s : St} (h1 : AllB (zeroAt s) 4) (h2 : AllB (noneAt s) 11) : emptyB s = bareB s := by
  rw [empty_eq, h1 0 (by omega), h1 1 (by omega), h1 2 (by omega), h1 3 (by omega), h2 0 (by omega), h2 1 (by omega), h2 2 (by omega), h2 3 (by omega), h2 4 (by omega), h2 5 (by omega), h2 6 (by omega), h2 7 (by omega), h2 8 (by omega), h2 9 (by omega), h2 10 (by omega)]
  simp
theorem zero_no {s : St} {k : Nat} (h : ¬ (bG s k = 0 ∧ pG s k = 0)) : zeroAt s k = false := decide_eq_false h
theorem zero_yes {s : St} {k : Nat} (h : bG s k = 0) (h2 : pG s k = 0) : zeroAt s k = true := decide_eq_true ⟨h, h2⟩
theorem lens_take {s : St} {k : Nat} (hk : k < 4) : (lensL s).take (7 + (k + 1)) = (lensL s).take (7 + k) ++ [mG s k] := by
  obtain rfl | rfl | rfl | rfl : k = 0 ∨ k = 1 ∨ k = 2 ∨ k = 3 := by omega
  all_goals rfl
def lensC (s : St) (k : Nat) : List Value := (((lensL s).take k).map lc).flatten
theorem lensC_next {s : St} {k : Nat} (hk : k < 4) : lensC s (7 + k) ++ [.int .u8 (mG s k).1, .int .i64 (mG s k).2] = lensC s (7 + (k + 1)) := by
  unfold lensC; rw [lens_take hk]; simp [lc]
theorem own_seven {w : World} {g B : Nat} {t : TypeId} {s : St} (h : Blk w g t (sevenC s)) (hB : B ≤ g) : w.ownsRow B t 2 (.slice (some ⟨g, 0, none⟩) 7 7) 7 (lensC s (7 + 0)) :=
  ⟨rfl, .inr ⟨g, 7, sevenC s, rfl, hB, h, Nat.le_refl _, by unfold maxLen; omega, rfl, rfl⟩⟩
theorem iL : (Try.prog.info? 23).map (fun i => (i.zero, i.size, i.bytes)) = some (some (.agg #[.int .u8 0, .int .i64 0]), 2, 16) := by kernel_rfl
set_option maxRecDepth 100000 in
set_option maxHeartbeats 4000000 in
theorem empty_any (s : St) (w : World) :
    Calls Try.prog 22 #[.agg (scells s).toArray] w fun e w' => e = .returned (.bool (emptyB s)) ∧ Below w.heap.size w w' := by
  obtain ⟨i0, hi0, hz0, hz1, hz2⟩ := info_parts iL
  have hbk := Blk_new w 28 (scells s).toArray
  have hb0 := ((Below.refl w.heap.size w).alloc (Nat.le_refl _) (.cells (scells s).toArray 28)).alloc (by simp) (.cells (sevenC s) 23)
  have hbs := Blk_alloc hbk (.cells (sevenC s) 23)
  have hbl := Blk_new (w.alloc (.cells (scells s).toArray 28)) 23 (sevenC s)
  rw [World.size_alloc] at hbl
  have hown := own_seven hbl (Nat.le_refl _)
  obtain ⟨f0, f1, f2, f3, f4, f5, f6, f7, f8, f9, f10, f11, f12, f13⟩ := St_seven hbk
  clear hbl
  unfold sevenC at hb0 hbs hown
  go_enter Try.func22, Try.ntmps22
  go_wp2_with fail
  clear f0 f1 f2 f3 f4 f5 f6 f7 f8 f9 f10 f11 f12 f13 hbk
  go_loopw [3, 4, 21, 22, 23, 24, 25, 26, 27, 28, 29, 30, 31, 32, 33, 34, 35, 36, 37, 38, 39, 40, 41, 42, 43] (fun v k _ _ _ _ _ _ _ _ _ _ _ _ _ _ _ _ _ _ _ _ _ _ _ wr => ∃ j : Nat, j ≤ 4 ∧ k = .int .i64 j ∧ AllB (zeroAt s) j ∧ Below w.heap.size w wr ∧ Blk wr w.heap.size 28 (scells s).toArray ∧ wr.ownsRow (w.heap.size + 1) 23 2 v (7 + j) (lensC s (7 + j))) (fun _ k _ _ _ _ _ _ _ _ _ _ _ _ _ _ _ _ _ _ _ _ _ _ _ _ => 4 - (intOf k).toNat)
  case atStart => exact ⟨0, by omega, rfl, AllB.zero _, hb0, hbs, hown⟩
  case round =>
    clear hb0 hbs hown
    obtain ⟨j, hj, rfl, hA, hb, hbk, hown⟩ := hrel
    have HA := Lib.hid hA
    have lt := Blk_lt hbk
    have hsz := hb.size
    by_cases hlt : j < 4
    · obtain ⟨c0, c1, c2, c3⟩ := St_m hbk hlt
      have hlt' : (j : Int) < 4 := by omega
      clear hA
      have HN := Lib.hid (lensC_next (s := s) hlt)
      have hgq : ∀ (z : Value) (q : Nat), wr.ownsRow (w.heap.size + 1) 23 2 z (7 + j) (lensC s (7 + j)) → z.ownBlock = some q → w.heap.size + 1 ≤ q := fun z q h hq => (h.lt q hq).1
      have HGQ := Lib.hid hgq
      clear hgq
      go_wp2_with (at_builtin; go_must (refine wpList_append_src _ rfl (.tmp 25) (.tmp 30) 66 rfl (w.heap.size + 1) 23 i0 _ 2 16 Try.underlying66 hi0 hz0 hz1 hz2 rfl (by omega) u3 (7 + j) _ rfl (hown.alloc _) _ 1 1 [.int .u8 (mG s j).1, .int .i64 (mG s j).2] rfl (Src_new wr 23 #[.int .u8 (mG s j).1, .int .i64 (mG s j).2] 2 rfl) (by simp [Value.oneCell']) (by simp only [maxLen]; omega) (by omega) (by simp; omega) ?_); intro v' w6 hown6 hg6 hat6; have hk6 := Blk_grown (Blk_alloc hbk _) hg6 (fun e => by have := HGQ.out _ _ hown e.symm; omega); obtain ⟨_, _, d2, d3⟩ := St_m hk6 hlt; have hb6 : Below w.heap.size w w6 := (hb.alloc hsz _).grown hg6 (by simp; omega) (fun q hq => by have := HGQ.out _ _ hown hq; omega))
      all_goals first
        | (go_ret
           exact ⟨bool_eq (empty_zero hlt (zero_no (by simp_all))).symm, by (repeat' (first | (with_reducible exact Below.refl _ _) | (with_reducible assumption) | (with_reducible refine Below.alloc ?_ ?_ _) | (with_reducible refine Below.drew ?_) | (with_reducible refine Below_drewN ?_ _) | (with_reducible refine Below.setCell ?_ ?_ _) | go_size))⟩)
        | (rw [HN.out] at hown6
           go_roundw
           case rel => exact ⟨j + 1, by omega, by go_num, HA.out.next (zero_yes (by simp_all) (by simp_all)), hb6, hk6, hown6⟩
           case measure => simp [intOf]; omega)
    · have hj4 : j = 4 := by omega
      have hge : ¬ (j : Int) < 4 := by omega
      rw [hj4] at hA hown
      have HA := Lib.hid hA
      obtain ⟨A, c, rfl, hnc, hcm, hel⟩ := Els_of_own (f := lc) (d := (0, 0)) (l := lensL s) hown (fun _ => rfl) (by omega)
      have hnc' : (11 : Int) ≤ c := by omega
      unfold maxLen at hcm
      obtain ⟨b, off, rfl, hB, hc⟩ := hel.at_ (by omega)
      clear hA hj4 hown hel
      go_wp2_with fail
      clear hlt hj hge
      go_loop [5, 44, 45, 46, 47, 48, 49, 50, 51, 52, 53, 54, 55, 56, 57, 58, 59, 60, 61, 62, 63] (fun k _ _ _ _ _ _ _ _ _ _ _ _ _ _ _ _ _ _ _ _ => ∃ i : Nat, i ≤ 11 ∧ k = .int .i64 i ∧ AllB (noneAt s) i) (fun k _ _ _ _ _ _ _ _ _ _ _ _ _ _ _ _ _ _ _ _ => 11 - (intOf k).toNat)
      case atStart => exact ⟨0, by omega, rfl, AllB.zero _⟩
      case round =>
        obtain ⟨i, hi, rfl, hN⟩ := hrel
        have HN := Lib.hid hN
        clear hN
        by_cases hlt : i < 11
        · have c0 : wr.cell? ⟨b, off + i * 2, none⟩ = some (.int .u8 ((lensL s).getD i (0, 0)).1) := hc i hlt 0 (by omega)
          have c1 : wr.cell? ⟨b, off + i * 2 + 1, none⟩ = some (.int .i64 ((lensL s).getD i (0, 0)).2) := hc i hlt 1 (by omega)
          have hle : noneAt s i = decide (((lensL s).getD i (0, 0)).1 = 0 ∧ ((lensL s).getD i (0, 0)).2 = 0) := rfl
          have HLE := Lib.hid hle
          generalize (lensL s).getD i (0, 0) = x at c0 c1 HLE
          clear hle
          have hlt' : (i : Int) < 11 := by omega
          go_wp2_with fail
          all_goals first
            | (go_ret
               exact ⟨bool_eq (empty_none hlt (HLE.out.trans (decide_eq_false (by simp_all)))).symm, by (repeat' (first | (with_reducible exact Below.refl _ _) | (with_reducible assumption) | (with_reducible refine Below.alloc ?_ ?_ _) | (with_reducible refine Below.drew ?_) | (with_reducible refine Below_drewN ?_ _) | (with_reducible refine Below.setCell ?_ ?_ _) | go_size))⟩)
            | (go_round
               case rel => exact ⟨i + 1, by omega, by go_num, HN.out.next (HLE.out.trans (decide_eq_true (by simp_all)))⟩
               case measure => simp [intOf]; omega)
        · have hj4 : i = 11 := by omega
          have hge : ¬ (i : Int) < 11 := by omega
          have HE := Lib.hid (empty_bare HA.out (hj4 ▸ HN.out))
          obtain ⟨l0, l1, l2, l3, l4, l5, l6, l7, l8, l9, l10⟩ := St_last hbk
          clear hj4 HN hc hi hlt
          go_wp2_with fail
          all_goals
            go_ret
            refine ⟨bool_eq ?_, by (repeat' (first | (with_reducible exact Below.refl _ _) | (with_reducible assumption) | (with_reducible refine Below.alloc ?_ ?_ _) | (with_reducible refine Below.drew ?_) | (with_reducible refine Below_drewN ?_ _) | (with_reducible refine Below.setCell ?_ ?_ _) | go_size))⟩
            rw [HE.out]
            unfold bareB
            first
              | (symm; apply decide_eq_false; simp_all; done)
              | (simp_all; rfl)
end Go.Proofs.Ytedlfkklkoihjaa
