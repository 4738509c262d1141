/-
  Numbers of any size: short, Of. No condition.
-/
import Derived.Test.YtedlfkklkoihjaaL
set_option linter.unusedVariables false
set_option linter.unusedSimpArgs false
namespace Go.Proofs.Ytedlfkklkoihjaa
open Go.RowKit Go.BigFrame

/-- A value that is the number z, of at most K digits. -/
def BV (w : World) (v : Value) (z : Int) (K : Nat) : Prop := ∃ l sv, v = .agg #[.bool (decide (z < 0)), sv] ∧ BS w sv l ∧ bval l = z.natAbs ∧ l.length ≤ K
theorem BV.mono {w w' : World} {v : Value} {z : Int} {K : Nat} (h : BV w v z K) (hb : Below w.heap.size w w') : BV w' v z K := by
  obtain ⟨l, sv, rfl, h1, h2, h3⟩ := h
  exact ⟨l, sv, rfl, h1.mono hb, h2, h3⟩
theorem BV.le {w : World} {v : Value} {z : Int} {K K' : Nat} (h : BV w v z K) (hk : K ≤ K') : BV w v z K' := by
  obtain ⟨l, sv, rfl, h1, h2, h3⟩ := h
  exact ⟨l, sv, rfl, h1, h2, Nat.le_trans h3 hk⟩
/-- The first k digits, the others nought. -/
theorem bval_cut : ∀ (l : List Bool) (k : Nat), (∀ j, k ≤ j → l.getD j false = false) → bval (l.take k) = bval l
  | [], k, _ => by simp
  | b :: l, 0, h => by
    have h0 := h 0 (Nat.le_refl _)
    simp at h0
    have := bval_cut l 0 (fun j _ => by simpa using h (j + 1) (by omega))
    simp [bval] at this ⊢
    rw [h0, ← this]; simp [bit]
  | b :: l, k + 1, h => by
    simp only [List.take_succ_cons, bval]
    rw [bval_cut l k (fun j hj => by simpa using h (j + 1) (by omega))]
theorem bval_pos (l : List Bool) (k : Nat) (h : l.getD k false = true) : 0 < bval l := by
  have hk : k < l.length := by
    rcases Nat.lt_or_ge k l.length with h1 | h1
    · exact h1
    · rw [List.getD_eq_getElem?_getD, List.getElem?_eq_none h1] at h; cases h
  rcases Nat.eq_zero_or_pos (bval l) with h0 | h0
  · exfalso
    have h1 := drop_lt [] l k
    have h2 := bval_drop l k
    rw [h] at h2
    simp [bval, bit, h0] at h1
    rw [h1] at h2
    simp [bit] at h2
    omega
  · exact h0
theorem take_BS {w : World} {A : Option Addr} {n c k : Nat} {l : List Bool} (h : Bls w A n l) (hk : k ≤ n) (hc : n ≤ c) (hm : c ≤ maxLen) : BS w (.slice A k c) (l.take k) := by
  have h1 := h.len_eq
  have h2 := h.take hk
  have h3 := h2.len_eq
  exact ⟨A, c, by rw [h3], by rw [h3]; omega, hm, by rw [h3]; exact h2⟩
def sgn (m : Bool) (x : Nat) : Int := if m then -(x : Int) else (x : Int)
theorem BV_of {w : World} {sv : Value} {l lk : List Bool} {s : Bool} (m : Bool) {n : Nat} (h : BS w sv lk) (hv : bval lk = bval l) (hs : s = decide (sgn m (bval l) < 0)) (hn : lk.length ≤ n) : BV w (.agg #[.bool s, sv]) (sgn m (bval l)) n :=
  ⟨lk, sv, by rw [hs], h, by rw [hv]; unfold sgn; split <;> omega, hn⟩
set_option maxHeartbeats 2000000 in
theorem short_any2 (w : World) (m : Bool) {A : Option Addr} {n c : Nat} {l : List Bool} (h : BS w (.slice A n c) l) (hn : l.length ≤ 65536) :
    Calls Try.prog 52 #[.agg #[.bool m, .slice A n c]] w fun e w' => ∃ k s, e = .returned (.agg #[.bool s, .slice A k c]) ∧ BV w' (.agg #[.bool s, .slice A k c]) (sgn m (bval l)) l.length ∧ Below w.heap.size w w' ∧ (k = 0 ↔ bval l = 0) := by
  obtain ⟨A', c', hAe, h1, h2, h3⟩ := h
  injection hAe with e1 e2 e3
  subst e1; subst e2; subst e3
  obtain ⟨n, hle⟩ : ∃ n, l.length = n := ⟨_, rfl⟩
  rw [hle] at h1 h3 hn ⊢
  have hX := Blk_new w 56 #[.bool m, .slice A n c]
  go_enter Try.func52, Try.ntmps52
  go_wp2_with fail
  go_loopw [3, 7, 8, 9, 10, 11, 12, 13, 14, 15, 16, 17, 18, 19] (fun x _ _ _ _ _ _ _ _ _ _ _ _ _ wr => ∃ k : Nat, k ≤ n ∧ x = .int .i64 k ∧ (∀ j, k ≤ j → l.getD j false = false) ∧ ((w.alloc (.cells #[.bool m, .slice A n c] 56)).alloc (.cells #[.bool false, .slice none 0 0] 56)) = wr) (fun x _ _ _ _ _ _ _ _ _ _ _ _ _ _ => (intOf x).toNat)
  case atStart => exact ⟨n, Nat.le_refl _, rfl, fun j hj => by rw [List.getD_eq_getElem?_getD, List.getElem?_eq_none (by omega)]; rfl, rfl⟩
  case round =>
    obtain ⟨k, hk, rfl, hz, rfl⟩ := hrel
    cases k with
    | zero =>
      have hv := bval_cut l 0 hz
      rw [List.take_zero, bval_nil] at hv
      have hB := take_BS h3 (Nat.zero_le _) h1 h2
      have HV := Lib.hid hv
      clear hz hv
      cases m
      all_goals
        go_wp2_with fail
        refine bodyPost_ret (v := .agg #[.bool false, .slice A 0 c]) (by simp [results, Try.results52, go_sem]) rfl ⟨0, _, rfl, ?_, by (repeat' (first | (with_reducible exact Below.refl _ _) | (with_reducible assumption) | (with_reducible refine Below.alloc ?_ ?_ _) | (with_reducible refine Below.drew ?_) | (with_reducible refine Below_drewN ?_ _) | (with_reducible refine Below.setCell ?_ ?_ _) | go_size)), by simp [← HV.out]⟩
        exact BV_of _ (hB.mono (by (repeat' (first | (with_reducible exact Below.refl _ _) | (with_reducible assumption) | (with_reducible refine Below.alloc ?_ ?_ _) | (with_reducible refine Below.drew ?_) | (with_reducible refine Below_drewN ?_ _) | (with_reducible refine Below.setCell ?_ ?_ _) | go_size)))) (by rw [List.take_zero, ← HV.out]; rfl) (by rw [← HV.out]; rfl) (by simp)
    | succ j =>
      obtain ⟨b, off, rfl, hB, hc⟩ := h3.at_ (by omega)
      have cx : ((w.alloc (.cells #[.bool m, .slice (some ⟨b, off, none⟩) n c] 56)).alloc (.cells #[.bool false, .slice none 0 0] 56)).cell? ⟨b, off + j, none⟩ = some (.bool (l.getD j false)) :=
        ((((Below.refl _ _).alloc (Nat.le_refl _) _).alloc (by simp) _ : Below w.heap.size w _).cell hB).trans (hc j (by omega))
      by_cases hlj : l.getD j false = true
      · have hp := bval_pos l j hlj
        have hv := bval_cut l (j + 1) hz
        have hB2 := take_BS h3 hk h1 h2
        rw [hlj] at cx
        have HV := Lib.hid (And.intro hv hp)
        clear hz hv hp hlj hc
        cases m
        all_goals
          go_wp2_with fail
          obtain ⟨hv, hp⟩ := HV.out
          refine bodyPost_ret (v := .agg #[.bool _, .slice (some ⟨b, off, none⟩) (j + 1) c]) (by simp [results, Try.results52, go_sem] <;> rfl) rfl ⟨j + 1, _, rfl, ?_, by (repeat' (first | (with_reducible exact Below.refl _ _) | (with_reducible assumption) | (with_reducible refine Below.alloc ?_ ?_ _) | (with_reducible refine Below.drew ?_) | (with_reducible refine Below_drewN ?_ _) | (with_reducible refine Below.setCell ?_ ?_ _) | go_size)), by omega⟩
          exact BV_of _ (hB2.mono (by (repeat' (first | (with_reducible exact Below.refl _ _) | (with_reducible assumption) | (with_reducible refine Below.alloc ?_ ?_ _) | (with_reducible refine Below.drew ?_) | (with_reducible refine Below_drewN ?_ _) | (with_reducible refine Below.setCell ?_ ?_ _) | go_size)))) hv (by simp [sgn] <;> omega) (by rw [List.length_take]; omega)
      · rw [Bool.not_eq_true] at hlj
        have hz2 : ∀ i, j ≤ i → l.getD i false = false := fun i hi => by
          rcases Nat.eq_or_lt_of_le hi with e | e
          · rw [← e]; exact hlj
          · exact hz i e
        rw [hlj] at cx
        have HZ := Lib.hid hz2
        clear hz hz2 hlj hc
        go_wp2_with fail
        go_roundw
        case rel => exact ⟨j, by omega, by go_num, HZ.out, trivial⟩
        case measure => simp [intOf]
theorem short_any (w : World) (m : Bool) {sv : Value} {l : List Bool} (h : BS w sv l) (hn : l.length ≤ 65536) :
    Calls Try.prog 52 #[.agg #[.bool m, sv]] w fun e w' => ∃ v, e = .returned v ∧ BV w' v (sgn m (bval l)) l.length ∧ Below w.heap.size w w' := by
  have h' := h
  obtain ⟨A, c, rfl, _⟩ := h
  exact (short_any2 w m h' hn).mono fun e w' ⟨k, s, h1, h2, h3, _⟩ => ⟨_, h1, h2, h3⟩
theorem of_step {O k y : Nat} {X : Nat} (h : O + 2 ^ k * y = X) : O + 2 ^ k * (y % 2) + 2 ^ (k + 1) * (y / 2) = X := by
  rw [← h, Nat.pow_succ, Nat.add_assoc, Nat.mul_assoc, ← Nat.mul_add]
  congr 2
  omega
theorem of_short {O k y X : Nat} (h : O + 2 ^ k * y = X) (hX : X ≤ 9223372036854775808) (hy : 0 < y) : k < 64 := by
  rcases Nat.lt_or_ge k 64 with h1 | h1
  · exact h1
  · exfalso
    have h2 : 2 ^ 64 ≤ 2 ^ k := Nat.pow_le_pow_right (by omega) h1
    have h3 := Nat.mul_le_mul_left (2 ^ k) hy
    omega
set_option maxHeartbeats 2000000 in
theorem of_any (w : World) (x : Int) (hx : (Lit.int .i64 x).wf = true) :
    Calls Try.prog 26 #[.int .i64 x] w fun e w' => ∃ v, e = .returned v ∧ BV w' v x 64 ∧ Below w.heap.size w w' := by
  obtain ⟨i0, hi0, hz0, hz1, hz2⟩ := info_parts iB
  obtain ⟨h0, h1⟩ := i64_wf hx
  have hT2 := Blk_new w 56 #[.bool false, .slice none 0 0]
  by_cases hneg : x < 0
  · have e : loW (-loW x) = (x.natAbs : Nat) := by unfold loW; omega
    have hab : x.natAbs ≤ 9223372036854775808 := by omega
    have hd : decide (x < 0) = true := by simp [hneg]
    obtain ⟨X, hX⟩ : ∃ X, x.natAbs = X := ⟨_, rfl⟩
    rw [hX] at e hab
    have HX := Lib.hid hX
    have HE := Lib.hid e
    have HD := Lib.hid hd
    clear e hd hX
    go_enter Try.func26, Try.ntmps26
    go_wp2_with (simp only [wrap_u])
    go_loopw [3, 14, 15, 16, 17, 18, 19, 20, 21, 22, 23, 24, 25] (fun u _ _ _ _ _ _ _ _ _ _ _ _ wr => ∃ (k y : Nat) (out : List Bool) (v : Value), u = .int .u64 y ∧ bval out + 2 ^ k * y = X ∧ out.length = k ∧ k ≤ 64 ∧ Blk wr w.heap.size 56 #[.bool false, .slice none 0 0] ∧ Blk wr (w.heap.size + 1) 56 #[.bool true, v] ∧ wr.ownsRow (w.heap.size + 2) 4 1 v k (out.map Value.bool) ∧ w.heap.size + 2 ≤ wr.heap.size ∧ Below w.heap.size w wr) (fun u _ _ _ _ _ _ _ _ _ _ _ _ _ => (intOf u).toNat)
    case atStart =>
      exact ⟨0, X, [], .slice none 0 0, congrArg _ HE.out, by simp [bval], rfl, by omega, Blk_alloc hT2 _, by simpa using Blk_new (w.alloc (.cells #[.bool false, .slice none 0 0] 56)) 56 #[.bool true, .slice none 0 0], World.ownsRow_nil _ _ _ _, by simp, by (repeat' (first | (with_reducible exact Below.refl _ _) | (with_reducible assumption) | (with_reducible refine Below.alloc ?_ ?_ _) | (with_reducible refine Below.drew ?_) | (with_reducible refine Below_drewN ?_ _) | (with_reducible refine Below.setCell ?_ ?_ _) | go_size))⟩
    case round =>
      obtain ⟨k, y, out, v, rfl, he, hout, hk, hB2, hB4, hown, hsz, hbr⟩ := hrel
      have d0 := Blk_cell hB4 0
      have d1 := Blk_cell hB4 1
      have f1 := Blk_frozen hB4 1
      have hyX : y ≤ X := by have := Nat.le_mul_of_pos_left y (Nat.two_pow_pos k); omega
      by_cases hy : 0 < y
      · have hk2 := of_short he hab hy
        have hst := of_step he
        have HST := Lib.hid hst
        clear he hst
        go_wp2_with ((with_reducible refine at_op ⟨some 22, _, _, _, _, _⟩ ?_); (refine wpList_append_src _ rfl (.tmp 17) (.tmp 21) 54 rfl (w.heap.size + 2) 4 i0 _ 1 1 Try.underlying54 hi0 hz0 hz1 hz2 rfl (by omega) v k _ rfl (hown.alloc _) _ 1 1 [.bool ((y : Int) % 2 == 1)] rfl (Src_new _ 4 #[.bool ((y : Int) % 2 == 1)] 1 rfl) (by simp [Value.oneCell']) (by simp only [maxLen]; omega) (by omega) (by simp; omega) ?_); intro v3 w3 hown3 hg3 hat3; obtain ⟨D0, d0', rfl, _, _⟩ := own_slice hown3; have hne : ∀ g, g < w.heap.size + 2 → some g ≠ v.ownBlock := fun g hg he => (by have := (hown.lt g he.symm).1; omega); have hB4' := Blk_grown (Blk_alloc hB4 (.cells #[.bool ((y : Int) % 2 == 1)] 4)) hg3 (hne _ (by omega)); have hB2' := Blk_grown (Blk_alloc hB2 (.cells #[.bool ((y : Int) % 2 == 1)] 4)) hg3 (hne _ (by omega)); have f1' := Blk_frozen hB4' 1; have d1' := Blk_cell hB4' 1)
        have hs3 := hg3.size
        simp only [World.size_alloc] at hs3
        have hne3 : ∀ g, g < w.heap.size + 2 → some g ≠ (Value.slice D0 (k + 1) d0').ownBlock := fun g hg he => by have := (hown3.lt g he.symm).1; omega
        have hb3 : Below w.heap.size w w3 := (hbr.alloc hbr.size _).grown hg3 (by simp; omega) (fun q hq => by have := (hown.lt q hq).1; omega)
        go_roundw
        case rel =>
          exact ⟨k + 1, y / 2, out ++ [((y : Int) % 2 == 1)], _, by go_num, by rw [bval_snoc, hout, bit_mod y _ (mod_beq y)]; exact HST.out, by simp [hout], by omega, Blk_far hB2' (by simp) _, Blk_upd hB4' 1 _ (by simp), own_far (by rw [List.map_append]; exact hown3) (hne3 _ (by simp)) _, by simp; omega, hb3.setCell (by simp) _⟩
        case measure => simp [intOf]; omega
      · obtain rfl : y = 0 := by omega
        have hv : bval out = X := by simpa using he
        have HV := Lib.hid hv
        have f0 := Blk_frozen hB2 0
        have f01 := Blk_frozen hB2 1
        have d00 := Blk_cell hB2 0
        have d01 := Blk_cell hB2 1
        have hne : ∀ g, g < w.heap.size + 2 → some g ≠ v.ownBlock := fun g hg he => by have := (hown.lt g he.symm).1; omega
        obtain ⟨D0, d0', rfl, hd1, hd2⟩ := own_slice hown
        clear he hv
        go_wp2_with fail
        have hBf := Blk_set (Blk_set hB2 0 (.bool true)) 1 (.slice D0 k d0')
        have e0 := Blk_cell hBf 0
        have e1 := Blk_cell hBf 1
        refine bodyPost_ret (v := .agg #[.bool true, .slice D0 k d0']) (by simp at e0 e1; simp [results, Try.results26, go_sem, e0, e1]) rfl ⟨_, rfl, ?_, (hbr.setCell (by simp) _).setCell (by simp) _⟩
        exact ⟨out, _, by rw [HD.out], BS_own (own_far (own_far hown (hne _ (by simp)) _) (hne _ (by simp)) _), by rw [HV.out, HX.out], by omega⟩
  · have e : x = (x.natAbs : Nat) := by omega
    have hab : x.natAbs ≤ 9223372036854775808 := by omega
    have hd : decide (x < 0) = false := by simp [hneg]
    obtain ⟨X, hX⟩ : ∃ X, x.natAbs = X := ⟨_, rfl⟩
    rw [hX] at e hab
    have HX := Lib.hid hX
    have HE := Lib.hid e
    have HD := Lib.hid hd
    clear e hd hX
    go_enter Try.func26, Try.ntmps26
    go_wp2_with (simp only [wrap_u])
    go_loopw [3, 14, 15, 16, 17, 18, 19, 20, 21, 22, 23, 24, 25] (fun u _ _ _ _ _ _ _ _ _ _ _ _ wr => ∃ (k y : Nat) (out : List Bool) (v : Value), u = .int .u64 y ∧ bval out + 2 ^ k * y = X ∧ out.length = k ∧ k ≤ 64 ∧ Blk wr w.heap.size 56 #[.bool false, .slice none 0 0] ∧ Blk wr (w.heap.size + 1) 56 #[.bool false, v] ∧ wr.ownsRow (w.heap.size + 2) 4 1 v k (out.map Value.bool) ∧ w.heap.size + 2 ≤ wr.heap.size ∧ Below w.heap.size w wr) (fun u _ _ _ _ _ _ _ _ _ _ _ _ _ => (intOf u).toNat)
    case atStart =>
      exact ⟨0, X, [], .slice none 0 0, congrArg _ HE.out, by simp [bval], rfl, by omega, Blk_alloc hT2 _, by simpa using Blk_new (w.alloc (.cells #[.bool false, .slice none 0 0] 56)) 56 #[.bool false, .slice none 0 0], World.ownsRow_nil _ _ _ _, by simp, by (repeat' (first | (with_reducible exact Below.refl _ _) | (with_reducible assumption) | (with_reducible refine Below.alloc ?_ ?_ _) | (with_reducible refine Below.drew ?_) | (with_reducible refine Below_drewN ?_ _) | (with_reducible refine Below.setCell ?_ ?_ _) | go_size))⟩
    case round =>
      obtain ⟨k, y, out, v, rfl, he, hout, hk, hB2, hB4, hown, hsz, hbr⟩ := hrel
      have d0 := Blk_cell hB4 0
      have d1 := Blk_cell hB4 1
      have f1 := Blk_frozen hB4 1
      have hyX : y ≤ X := by have := Nat.le_mul_of_pos_left y (Nat.two_pow_pos k); omega
      by_cases hy : 0 < y
      · have hk2 := of_short he hab hy
        have hst := of_step he
        have HST := Lib.hid hst
        clear he hst
        go_wp2_with ((with_reducible refine at_op ⟨some 22, _, _, _, _, _⟩ ?_); (refine wpList_append_src _ rfl (.tmp 17) (.tmp 21) 54 rfl (w.heap.size + 2) 4 i0 _ 1 1 Try.underlying54 hi0 hz0 hz1 hz2 rfl (by omega) v k _ rfl (hown.alloc _) _ 1 1 [.bool ((y : Int) % 2 == 1)] rfl (Src_new _ 4 #[.bool ((y : Int) % 2 == 1)] 1 rfl) (by simp [Value.oneCell']) (by simp only [maxLen]; omega) (by omega) (by simp; omega) ?_); intro v3 w3 hown3 hg3 hat3; obtain ⟨D0, d0', rfl, _, _⟩ := own_slice hown3; have hne : ∀ g, g < w.heap.size + 2 → some g ≠ v.ownBlock := fun g hg he => (by have := (hown.lt g he.symm).1; omega); have hB4' := Blk_grown (Blk_alloc hB4 (.cells #[.bool ((y : Int) % 2 == 1)] 4)) hg3 (hne _ (by omega)); have hB2' := Blk_grown (Blk_alloc hB2 (.cells #[.bool ((y : Int) % 2 == 1)] 4)) hg3 (hne _ (by omega)); have f1' := Blk_frozen hB4' 1; have d1' := Blk_cell hB4' 1)
        have hs3 := hg3.size
        simp only [World.size_alloc] at hs3
        have hne3 : ∀ g, g < w.heap.size + 2 → some g ≠ (Value.slice D0 (k + 1) d0').ownBlock := fun g hg he => by have := (hown3.lt g he.symm).1; omega
        have hb3 : Below w.heap.size w w3 := (hbr.alloc hbr.size _).grown hg3 (by simp; omega) (fun q hq => by have := (hown.lt q hq).1; omega)
        go_roundw
        case rel =>
          exact ⟨k + 1, y / 2, out ++ [((y : Int) % 2 == 1)], _, by go_num, by rw [bval_snoc, hout, bit_mod y _ (mod_beq y)]; exact HST.out, by simp [hout], by omega, Blk_far hB2' (by simp) _, Blk_upd hB4' 1 _ (by simp), own_far (by rw [List.map_append]; exact hown3) (hne3 _ (by simp)) _, by simp; omega, hb3.setCell (by simp) _⟩
        case measure => simp [intOf]; omega
      · obtain rfl : y = 0 := by omega
        have hv : bval out = X := by simpa using he
        have HV := Lib.hid hv
        have f0 := Blk_frozen hB2 0
        have f01 := Blk_frozen hB2 1
        have d00 := Blk_cell hB2 0
        have d01 := Blk_cell hB2 1
        have hne : ∀ g, g < w.heap.size + 2 → some g ≠ v.ownBlock := fun g hg he => by have := (hown.lt g he.symm).1; omega
        obtain ⟨D0, d0', rfl, hd1, hd2⟩ := own_slice hown
        clear he hv
        go_wp2_with fail
        have hBf := Blk_set (Blk_set hB2 0 (.bool false)) 1 (.slice D0 k d0')
        have e0 := Blk_cell hBf 0
        have e1 := Blk_cell hBf 1
        refine bodyPost_ret (v := .agg #[.bool false, .slice D0 k d0']) (by simp at e0 e1; simp [results, Try.results26, go_sem, e0, e1]) rfl ⟨_, rfl, ?_, (hbr.setCell (by simp) _).setCell (by simp) _⟩
        exact ⟨out, _, by rw [HD.out], BS_own (own_far (own_far hown (hne _ (by simp)) _) (hne _ (by simp)) _), by rw [HV.out, HX.out], by omega⟩
end Go.Proofs.Ytedlfkklkoihjaa
