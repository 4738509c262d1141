/-
  What the laws call: the same values; the anchor. No condition.
-/
import Derived.Test.YtlbfjmdemljmhaaR
import Derived.Test.YtlbfjmdemljmhaaTI
import Derived.Test.YtlbfjmdemljmhaaCom8
import Derived.Laws.StructEq
namespace Go.Proofs.Ytlbfjmdemljmhaa
open Go.RowKit Go.BigFrame
open TP (V)

def pv (v : V) : List Value := [.int .i64 v.1, .string v.2]
abbrev Ps := Els pv ((0, ByteArray.empty) : V) 2

set_option maxHeartbeats 1000000 in
theorem same_any (l m : List V) (A D : Option Addr) (n k c d : Nat) (w : World) (hI : Ps w A n l) (hJ : Ps w D k m) (hn : n ≤ 65536) (hm : k ≤ maxLen) :
    Calls Try.prog 20 #[.slice A n c, .slice D k d] w fun e w' => e = .returned (.bool (decide (l = m))) ∧ Below w.heap.size w w' := by
  unfold maxLen at hm
  have h1 := hI.len_eq
  have h2 := hJ.len_eq
  by_cases hne : n = k
  rotate_left
  · have hd : decide (l = m) = false := decide_eq_false fun h => by rw [h] at h1; omega
    rw [hd]
    go_enter Try.func20, Try.ntmps20
    go_wp2_with fail
    go_ret
    exact ⟨rfl, by (repeat' (first | (with_reducible exact Below.refl _ _) | (with_reducible assumption) | (with_reducible refine Below.alloc ?_ ?_ _) | (with_reducible refine Below.drew ?_) | (with_reducible refine Below_drewN ?_ _) | (with_reducible refine Below.setCell ?_ ?_ _) | go_size))⟩
  subst hne
  go_enter Try.func20, Try.ntmps20
  go_wp2_with fail
  go_loopw [5, 11, 12, 13, 14, 15, 16, 17, 18, 19, 20, 21, 22, 23, 24, 25] (fun i _ _ _ _ _ _ _ _ _ _ _ _ _ _ _ wr => ∃ j : Nat, j ≤ n ∧ i = .int .i64 j ∧ Below w.heap.size w wr ∧ l.take j = m.take j) (fun i _ _ _ _ _ _ _ _ _ _ _ _ _ _ _ _ => n - (intOf i).toNat)
  case atStart => exact ⟨0, by omega, rfl, Below.refl _ _, rfl⟩
  case round =>
    obtain ⟨j, hj, rfl, hb, htk⟩ := hrel
    by_cases hlt : j < n
    · obtain ⟨b, off, rfl, hB, _⟩ := hI.at_ (by omega)
      obtain ⟨b', off', rfl, hB', _⟩ := hJ.at_ (by omega)
      obtain ⟨x, hx⟩ : ∃ x, l.getD j (0, ByteArray.empty) = x := ⟨_, rfl⟩
      obtain ⟨y, hy⟩ : ∃ y, m.getD j (0, ByteArray.empty) = y := ⟨_, rfl⟩
      have cx0 : wr.cell? ⟨b, off + j * 2, none⟩ = some (.int .i64 x.1) := by have := (hI.mono hb).get rfl hlt 0 (by omega); rw [hx] at this; exact this
      have cx1 : wr.cell? ⟨b, off + j * 2 + 1, none⟩ = some (.string x.2) := by have := (hI.mono hb).get rfl hlt 1 (by omega); rw [hx] at this; exact this
      have cy0 : wr.cell? ⟨b', off' + j * 2, none⟩ = some (.int .i64 y.1) := by have := (hJ.mono hb).get rfl hlt 0 (by omega); rw [hy] at this; exact this
      have cy1 : wr.cell? ⟨b', off' + j * 2 + 1, none⟩ = some (.string y.2) := by have := (hJ.mono hb).get rfl hlt 1 (by omega); rw [hy] at this; exact this
      have ux0 := fun z : Up wr => up_cell z cx0
      have ux1 := fun z : Up wr => up_cell z cx1
      have uy0 := fun z : Up wr => up_cell z cy0
      have uy1 := fun z : Up wr => up_cell z cy1
      have hdec : (l = m → x = y) ∧ (x = y → l.take (j + 1) = m.take (j + 1)) := by
        refine ⟨fun h => by rw [← hx, ← hy, h], fun h => ?_⟩
        rw [List.take_succ_eq_append_getElem (by omega), List.take_succ_eq_append_getElem (by omega), htk]
        have e1 : l[j]'(by omega) = x := by rw [← hx]; simp [List.getD, h1, hlt]
        have e2 : m[j]'(by omega) = y := by rw [← hy]; simp [List.getD, h2, hlt]
        rw [e1, e2, h]
      have HD := Lib.hid hdec
      clear hx hy hdec htk
      obtain ⟨x1, x2⟩ := x
      obtain ⟨y1, y2⟩ := y
      dsimp only at cx0 cx1 cy0 cy1 ux0 ux1 uy0 uy1
      cases b1 : (x1 == y1)
      · have hd : decide (l = m) = false := decide_eq_false fun h => by
          have := HD.out.1 h
          simp only [Prod.mk.injEq] at this
          rw [this.1] at b1; simp at b1
        have HE := Lib.hid hd
        clear hd
        go_wp2_with fail
        refine wp_region_up (by kernel_rfl) (by kernel_rfl) ?_
        repeat (go_big_quiet_step (fail))
        refine wpQuiet_nil ?_
        intro w' hup
        go_wp2_with fail
        go_ret
        exact ⟨by rw [HE.out]; rfl, by have := Below_same hb hup; (repeat' (first | (with_reducible exact Below.refl _ _) | (with_reducible assumption) | (with_reducible refine Below.alloc ?_ ?_ _) | (with_reducible refine Below.drew ?_) | (with_reducible refine Below_drewN ?_ _) | (with_reducible refine Below.setCell ?_ ?_ _) | go_size))⟩
      cases b2 : (x2.toList == y2.toList)
      · have hd : decide (l = m) = false := decide_eq_false fun h => by
          have := HD.out.1 h
          simp only [Prod.mk.injEq] at this
          rw [this.2] at b2; simp at b2
        have HE := Lib.hid hd
        clear hd
        go_wp2_with fail
        refine wp_region_up (by kernel_rfl) (by kernel_rfl) ?_
        repeat (go_big_quiet_step (fail))
        refine wpQuiet_nil ?_
        intro w' hup
        go_wp2_with fail
        go_ret
        exact ⟨by rw [HE.out]; rfl, by have := Below_same hb hup; (repeat' (first | (with_reducible exact Below.refl _ _) | (with_reducible assumption) | (with_reducible refine Below.alloc ?_ ?_ _) | (with_reducible refine Below.drew ?_) | (with_reducible refine Below_drewN ?_ _) | (with_reducible refine Below.setCell ?_ ?_ _) | go_size))⟩
      · have hxy : (x1, x2) = (y1, y2) := by
          have h2 := eq_of_beq b2
          rw [ByteArray.toList_eq, ByteArray.toList_eq] at h2
          have h3 : x2 = y2 := ByteArray.ext (Array.toList_inj.1 h2)
          rw [eq_of_beq b1, h3]
        have HE := Lib.hid (HD.out.2 hxy)
        clear hxy
        go_wp2_with fail
        refine wp_region_up (by kernel_rfl) (by kernel_rfl) ?_
        repeat (go_big_quiet_step (fail))
        refine wpQuiet_nil ?_
        intro w' hup
        go_wp2_with fail
        go_round
        case rel => exact ⟨j + 1, by omega, by go_num, by have := Below_same hb hup; (repeat' (first | (with_reducible exact Below.refl _ _) | (with_reducible assumption) | (with_reducible refine Below.alloc ?_ ?_ _) | (with_reducible refine Below.drew ?_) | (with_reducible refine Below_drewN ?_ _) | (with_reducible refine Below.setCell ?_ ?_ _) | go_size)), HE.out⟩
        case measure => simp [intOf]; omega
    · obtain rfl : j = n := by omega
      have hd : decide (l = m) = true := by
        rw [List.take_of_length_le (by omega), List.take_of_length_le (by omega)] at htk
        exact decide_eq_true htk
      have HD := Lib.hid hd
      clear htk hd
      go_wp2_with fail
      go_ret
      exact ⟨by rw [HD.out]; rfl, by (repeat' (first | (with_reducible exact Below.refl _ _) | (with_reducible assumption) | (with_reducible refine Below.alloc ?_ ?_ _) | (with_reducible refine Below.drew ?_) | (with_reducible refine Below_drewN ?_ _) | (with_reducible refine Below.setCell ?_ ?_ _) | go_size))⟩

set_option maxRecDepth 100000 in
set_option maxHeartbeats 4000000 in
theorem works_any (w : World) : Calls Try.prog 8 #[] w fun e w' => e = .returned (.bool true) ∧ Below w.heap.size w w' := by
  go_enter Try.func8, Try.ntmps8
  go_wp2_with fail
  refine (TI.new_ok 2 w (by omega)).mono ?_
  rintro e w1 ⟨rfl, hb1, hT1⟩
  have hz := hb1.size
  have hz1 : w.heap.size + 1 < w1.heap.size := Blk_lt hT1.obj
  have lft : TI.cnt (List.replicate 2 (none : Option Int)) = 2 := rfl
  have c1 := TI.left_ok _ _ _ w1 hT1
  rw [lft] at c1
  have d1 := TI.size_ok _ _ _ w1 hT1
  go_wp2_with (first
    | (go_at_call 26; refine c1.mono ?_; rintro e w' ⟨rfl, rfl⟩)
    | (go_at_call 25; refine d1.mono ?_; rintro e w' ⟨rfl, rfl⟩))
  refine (TI.get_all _ _ _ 0 4 0 w1 hT1 rfl).mono ?_
  rintro e w2 ⟨rfl, hb2⟩
  have hT2 := hT1.below hb2
  have hbb2 := Below_same hb1 hb2
  clear hb1 hT1 c1 d1
  have hz2 := Blk_lt hT2.obj
  go_wp2_with fail
  refine (TI.put_all _ _ _ [some 7, none] 0 0 7 w2 hT2 (by decide) rfl).mono ?_
  rintro e w3 ⟨rfl, hb3, hT3⟩
  have hbb3 := Only.after hbb2 (Nat.le_refl _) hb3 (by simp)
  clear hbb2 hT2 hb3 hb2
  go_wp2_with fail
  refine (TI.put_all _ _ _ [some 7, none] 0 3 8 w3 hT3 (by decide) rfl).mono ?_
  rintro e w4 ⟨rfl, hb4, hT4⟩
  have hbb4 := Only.after hbb3 (Nat.le_refl _) hb4 (by simp)
  clear hbb3 hT3 hb4
  go_wp2_with fail
  refine (TI.get_all _ _ _ 0 0 7 w4 hT4 rfl).mono ?_
  rintro e w5 ⟨rfl, hb5⟩
  have hT5 := hT4.below hb5
  have hbb5 := Below_same hbb4 hb5
  clear hbb4 hT4 hb5
  go_wp2_with fail
  refine (TI.all_ok _ _ _ w5 hT5 (by decide)).mono ?_
  rintro e w6 ⟨hb6, rfl⟩
  have hT6 := hT5.below hb6
  have hbb6 := Below_same hbb5 hb6
  clear hbb5 hT5 hb6
  go_wp2_with fail
  refine (TI.put_all _ _ _ [some 7, some 9] 1 0 9 w6 hT6 (by decide) rfl).mono ?_
  rintro e w7 ⟨rfl, hb7, hT7⟩
  have hbb7 := Only.after hbb6 (Nat.le_refl _) hb7 (by simp)
  clear hbb6 hT6 hb7
  go_wp2_with fail
  refine (TI.all_ok _ _ _ w7 hT7 (by decide)).mono ?_
  rintro e w8 ⟨hb8, sv, rfl, hown⟩
  have hT8 := hT7.below hb8
  have hbb8 := Below_same hbb7 hb8
  have hel := Els_of_own (f := fun v : Int => [Value.int .i64 v]) (d := 0) (l := [7, 9]) hown (fun _ => rfl) (by omega)
  obtain ⟨A, c, rfl, _, _, hel⟩ := hel
  obtain ⟨b, off, rfl, hB, hc⟩ := hel.at_ (by decide)
  have c9 : w8.cell? ⟨b, off + 1, none⟩ = some (.int .i64 9) := hc 1 (by decide) 0 (by omega)
  clear hbb7 hT7 hb8 hown hel hc
  go_wp2_with (go_at_call 24; refine (TI.put_all _ _ _ [some 7, some 9] 2 1 1 w8 hT8 (by decide) rfl).mono ?_; rintro e w9 ⟨rfl, hb9, hT9⟩)
  go_ret
  exact ⟨rfl, Only.after hbb8 (Nat.le_refl _) hb9 (by simp)⟩

set_option maxRecDepth 100000 in
set_option maxHeartbeats 4000000 in
theorem nil_any (i n v : Int) (w : World) : Calls Try.prog 6 #[.int .i64 i, .int .i64 n, .int .i64 v] w fun e w' => e = .returned (.bool true) ∧ Below w.heap.size w w' := by
  by_cases hr : n < 0 ∨ 65536 < n
  · rcases hr with hr | hr
    all_goals
      try have hr2 : ¬ n < 0 := by omega
      try have hr3 : decide ((0 : Int) ≤ n) = false := decide_eq_false (by omega)
      try have hr4 : decide (n ≤ 65536) = false := decide_eq_false (by omega)
      go_enter Try.func6, Try.ntmps6
      go_wp2_with fail
      refine (TI.get_nil i w).mono ?_
      rintro e w1 ⟨rfl, h1⟩
      go_wp2_with fail
      refine (TI.all_nil w1).mono ?_
      rintro e w2 ⟨rfl, rfl⟩
      go_wp2_with fail
      refine (TI.new_arg n w1 (by omega)).mono ?_
      rintro e w2 ⟨rfl, rfl⟩
      go_wp2_with (first
        | (go_at_call 24; refine (TI.put_nil i v _).mono ?_; rintro e w5 ⟨rfl, h5⟩)
        | (go_at_call 25; refine (TI.size_nil _).mono ?_; rintro e w5 ⟨rfl, rfl⟩)
        | (go_at_call 26; refine (TI.left_nil _).mono ?_; rintro e w5 ⟨rfl, rfl⟩)
        | (go_at_call 8; refine (works_any _).mono ?_; rintro e w6 ⟨rfl, h6⟩))
      go_ret
      exact ⟨rfl, Below_same (Below_same h1 h5) h6⟩
  · obtain ⟨k, rfl⟩ : ∃ k : Nat, (k : Int) = n := ⟨n.toNat, by omega⟩
    have hk : k ≤ 65536 := by omega
    go_enter Try.func6, Try.ntmps6
    go_wp2_with fail
    refine (TI.get_nil i w).mono ?_
    rintro e w1 ⟨rfl, h1⟩
    go_wp2_with fail
    refine (TI.all_nil w1).mono ?_
    rintro e w2 ⟨rfl, rfl⟩
    go_wp2_with fail
    refine (TI.new_ok k w1 hk).mono ?_
    rintro e w3 ⟨rfl, h3, _⟩
    have h1 := Below_same h1 h3
    clear h3
    go_wp2_with (first
        | (go_at_call 24; refine (TI.put_nil i v _).mono ?_; rintro e w5 ⟨rfl, h5⟩)
        | (go_at_call 25; refine (TI.size_nil _).mono ?_; rintro e w5 ⟨rfl, rfl⟩)
        | (go_at_call 26; refine (TI.left_nil _).mono ?_; rintro e w5 ⟨rfl, rfl⟩)
        | (go_at_call 8; refine (works_any _).mono ?_; rintro e w6 ⟨rfl, h6⟩))
    go_ret
    exact ⟨rfl, Below_same (Below_same h1 h5) h6⟩
theorem nil_walk (W : World) {i n v : Int} (_hi : (Lit.int .i64 i).wf = true) (_hn : (Lit.int .i64 n).wf = true) (_hv : (Lit.int .i64 v).wf = true) : Calls Try.prog 6 #[.int .i64 i, .int .i64 n, .int .i64 v] W fun e w' => e = .returned (.bool true) ∧ Below W.heap.size W w' := nil_any i n v W
end Go.Proofs.Ytlbfjmdemljmhaa
