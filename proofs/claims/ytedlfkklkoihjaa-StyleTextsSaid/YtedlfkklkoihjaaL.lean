/-
  The sum and the difference of digits (jambref01's plus, minus). No condition.
-/
import Derived.Test.YtedlfkklkoihjaaK
set_option linter.unusedVariables false
set_option linter.unusedSimpArgs false
namespace Go.Proofs.Ytedlfkklkoihjaa
open Go.RowKit Go.BigFrame

theorem iB : (Try.prog.info? 4).map (fun i => (i.zero, i.size, i.bytes)) = some (some (.bool false), 1, 1) := by kernel_rfl
/-- A value that is a slice of such digits. -/
def BS (w : World) (v : Value) (l : List Bool) : Prop := ∃ A c, v = .slice A l.length c ∧ l.length ≤ c ∧ c ≤ maxLen ∧ Bls w A l.length l
theorem BS.mono {w w' : World} {v : Value} {l : List Bool} (h : BS w v l) (hb : Below w.heap.size w w') : BS w' v l := by
  obtain ⟨A, c, rfl, h1, h2, h3⟩ := h
  exact ⟨A, c, rfl, h1, h2, h3.mono hb⟩
theorem BS.far {w : World} {v : Value} {g : Nat} {l : List Bool} {t : TypeId} {cs : Array Value} (h : BS w v l) (hg : Blk w g t cs) (ht : t ≠ 4) (i : Nat) (u : Value) : BS (w.setCell ⟨g, i, none⟩ u) v l := by
  obtain ⟨A, c, rfl, h1, h2, h3⟩ := h
  exact ⟨A, c, rfl, h1, h2, h3.far hg ht i u⟩
theorem BS_own {w : World} {base : Nat} {v : Value} {n : Nat} {l : List Bool} (h : w.ownsRow base 4 1 v n (l.map Value.bool)) : BS w v l := by
  obtain ⟨A, c, rfl, h1, h2⟩ := own_slice h
  have hb := Bls_of_own h
  have := hb.len_eq
  subst this
  exact ⟨A, c, rfl, h1, h2, hb⟩
theorem BS_nil (w : World) : BS w (.slice none 0 0) [] := ⟨none, 0, rfl, Nat.le_refl _, by unfold maxLen; omega, Bls_none w⟩
theorem at_op {P : Program} {ops : Array Oper} {Q : Exit → Act → World → Prop} {rest : List Oper} (o : Oper) {a : Act} {w : World} (h : wpList P ops Q (o :: rest) a w) : wpList P ops Q (o :: rest) a w := h

theorem plus_step {va vb k x y mo S Va Vb Va' Vb' O : Nat} (h : O + 2 ^ k * (mo + Va + Vb) = va + vb) (h1 : Va = x + 2 * Va') (h2 : Vb = y + 2 * Vb') (hS : x + y + mo = S) :
    O + 2 ^ k * (S % 2) + 2 ^ (k + 1) * (S / 2 + Va' + Vb') = va + vb := by
  rw [← h, Nat.pow_succ, Nat.add_assoc, Nat.mul_assoc, ← Nat.mul_add]
  congr 2
  omega
theorem bit_mod (S : Nat) (b : Bool) (h : b = (S % 2 == 1)) : bit b = S % 2 := by
  subst h
  rcases Nat.mod_two_eq_zero_or_one S with h | h <;> rw [h] <;> rfl
theorem mod_beq (S : Nat) : (((S : Int) % 2 == 1) : Bool) = (S % 2 == 1) := by
  rcases Nat.mod_two_eq_zero_or_one S with h | h
  · rw [show (S : Int) % 2 = 0 by omega, h]; rfl
  · rw [show (S : Int) % 2 = 1 by omega, h]; rfl
set_option maxHeartbeats 2000000 in
theorem rplus_any (w : World) {A D : Option Addr} {n c m d : Nat} {a b : List Bool} (h : Bls w A n a) (k1 : Bls w D m b) (hn : n ≤ 65536) (hm : m ≤ 65536) :
    Calls Try.prog 55 #[.slice A n c, .slice D m d] w fun e w' => ∃ v out, e = .returned v ∧ BS w' v out ∧ bval out = bval a + bval b ∧ out.length = max n m + 1 ∧ Below w.heap.size w w' := by
  obtain ⟨i0, hi0, hz0, hz1, hz2⟩ := info_parts iB
  have h1 := h.len_eq
  have h2 := k1.len_eq
  by_cases hnm : m ≤ n
  · rw [Nat.max_eq_left hnm]
    go_enter Try.func55, Try.ntmps55
    go_wp2_with fail
    go_loopw [5, 6, 7, 8, 9, 10, 11, 12, 13, 14, 15, 16, 17, 18, 19, 20, 21, 22, 23, 24, 25, 26, 27, 28, 29, 30, 31, 32, 33, 34] (fun v u i _ _ _ _ _ _ _ _ _ _ _ _ _ _ _ _ _ _ _ _ _ _ _ _ _ _ _ wr => ∃ (k mo : Nat) (out : List Bool), k ≤ n + 1 ∧ i = .int .i64 k ∧ u = .int .i64 mo ∧ mo ≤ 1 ∧ out.length = k ∧ (n < k → mo = 0) ∧ bval out + 2 ^ k * (mo + bval (a.drop k) + bval (b.drop k)) = bval a + bval b ∧ wr.ownsRow w.heap.size 4 1 v k (out.map Value.bool) ∧ Below w.heap.size w wr) (fun _ _ i _ _ _ _ _ _ _ _ _ _ _ _ _ _ _ _ _ _ _ _ _ _ _ _ _ _ _ _ => n + 1 - (intOf i).toNat)
    case atStart => exact ⟨0, 0, [], Nat.zero_le _, rfl, rfl, by omega, rfl, fun h => absurd h (Nat.not_lt_zero _), by simp [bval], World.ownsRow_nil _ _ _ _, Below.refl _ _⟩
    case round =>
      obtain ⟨k, mo, out, hk, rfl, rfl, hmo, hout, hmz, he, hown, hbr⟩ := hrel
      have hbs := hbr.size
      by_cases hlt : k ≤ n
      · have ha := at_any (c := c) wr (h.mono hbr) k hn
        have hb := at_any (c := d) wr (k1.mono hbr) k hm
        have q1 := bval_drop a k
        have q2 := bval_drop b k
        have l1 := bit_le (a.getD k false)
        have l2 := bit_le (b.getD k false)
        have z1 : n ≤ k → bit (a.getD k false) = 0 := fun hh => by rw [List.getD_eq_getElem?_getD, List.getElem?_eq_none (by omega)]; rfl
        have z2 : n ≤ k → bit (b.getD k false) = 0 := fun hh => by rw [List.getD_eq_getElem?_getD, List.getElem?_eq_none (by omega)]; rfl
        generalize bit (a.getD k false) = x at *
        generalize bit (b.getD k false) = y at *
        obtain ⟨S, hS⟩ : ∃ S, x + y + mo = S := ⟨_, rfl⟩
        have hSI : (x : Int) + (y : Int) + (mo : Int) = (S : Int) := by omega
        have hst := plus_step he q1 q2 hS
        have hzz : n < k + 1 → S / 2 = 0 := fun hh => by have := z1 (by omega); have := z2 (by omega); omega
        have hS3 : S ≤ 3 := by omega
        have HST := Lib.hid (And.intro hst hzz)
        clear he q1 q2 hst hzz z1 z2 hmz hS
        go_wp2_with (first | ((go_at_call 45; (with_reducible refine (ha).mono ?_)); rintro e w1 ⟨rfl, hq⟩; subst hq) | ((go_at_call 45; (with_reducible refine (hb).mono ?_)); rintro e w1 ⟨rfl, hq⟩; subst hq) | ((with_reducible refine at_op ⟨some 32, _, _, _, _, _⟩ ?_); (refine wpList_append_src _ rfl (.tmp 27) (.tmp 31) 54 rfl w.heap.size 4 i0 _ 1 1 Try.underlying54 hi0 hz0 hz1 hz2 rfl (by omega) u5 k _ rfl (hown.alloc _) _ 1 1 [.bool ((S : Int) % 2 == 1)] rfl (Src_new _ 4 #[.bool ((S : Int) % 2 == 1)] 1 rfl) (by simp [Value.oneCell']) (by simp only [maxLen]; omega) (by omega) (by simp; omega) ?_); intro v3 w3 hown3 hg3 hat3))
        have hb3 : Below w.heap.size w w3 := (hbr.alloc hbr.size _).grown hg3 (by simp; omega) (fun q hq => (hown.lt q hq).1)
        go_roundw
        case rel =>
          refine ⟨k + 1, S / 2, out ++ [((S : Int) % 2 == 1)], by omega, by go_num, by go_num, by omega, by simp [hout], HST.out.2, ?_, by rw [List.map_append]; exact hown3, hb3⟩
          rw [bval_snoc, hout, bit_mod S _ (mod_beq S)]
          exact HST.out.1
        case measure => simp [intOf]; omega
      · obtain rfl : k = n + 1 := by omega
        have hv : bval out = bval a + bval b := by
          rw [hmz (by omega), List.drop_eq_nil_of_le (by omega), List.drop_eq_nil_of_le (by omega)] at he
          simpa [bval] using he
        have HV := Lib.hid hv
        clear he hv hmz
        go_wp2_with fail
        go_ret
        exact ⟨_, out, rfl, BS_own hown, HV.out, hout, hbr⟩
  · rw [Nat.max_eq_right (by omega)]
    have hmn : n < m := by omega
    clear hnm
    go_enter Try.func55, Try.ntmps55
    go_wp2_with fail
    go_loopw [5, 6, 7, 8, 9, 10, 11, 12, 13, 14, 15, 16, 17, 18, 19, 20, 21, 22, 23, 24, 25, 26, 27, 28, 29, 30, 31, 32, 33, 34] (fun v u i _ _ _ _ _ _ _ _ _ _ _ _ _ _ _ _ _ _ _ _ _ _ _ _ _ _ _ wr => ∃ (k mo : Nat) (out : List Bool), k ≤ m + 1 ∧ i = .int .i64 k ∧ u = .int .i64 mo ∧ mo ≤ 1 ∧ out.length = k ∧ (m < k → mo = 0) ∧ bval out + 2 ^ k * (mo + bval (a.drop k) + bval (b.drop k)) = bval a + bval b ∧ wr.ownsRow w.heap.size 4 1 v k (out.map Value.bool) ∧ Below w.heap.size w wr) (fun _ _ i _ _ _ _ _ _ _ _ _ _ _ _ _ _ _ _ _ _ _ _ _ _ _ _ _ _ _ _ => m + 1 - (intOf i).toNat)
    case atStart => exact ⟨0, 0, [], Nat.zero_le _, rfl, rfl, by omega, rfl, fun h => absurd h (Nat.not_lt_zero _), by simp [bval], World.ownsRow_nil _ _ _ _, Below.refl _ _⟩
    case round =>
      obtain ⟨k, mo, out, hk, rfl, rfl, hmo, hout, hmz, he, hown, hbr⟩ := hrel
      have hbs := hbr.size
      by_cases hlt : k ≤ m
      · have ha := at_any (c := c) wr (h.mono hbr) k hn
        have hb := at_any (c := d) wr (k1.mono hbr) k hm
        have q1 := bval_drop a k
        have q2 := bval_drop b k
        have l1 := bit_le (a.getD k false)
        have l2 := bit_le (b.getD k false)
        have z1 : m ≤ k → bit (a.getD k false) = 0 := fun hh => by rw [List.getD_eq_getElem?_getD, List.getElem?_eq_none (by omega)]; rfl
        have z2 : m ≤ k → bit (b.getD k false) = 0 := fun hh => by rw [List.getD_eq_getElem?_getD, List.getElem?_eq_none (by omega)]; rfl
        generalize bit (a.getD k false) = x at *
        generalize bit (b.getD k false) = y at *
        obtain ⟨S, hS⟩ : ∃ S, x + y + mo = S := ⟨_, rfl⟩
        have hSI : (x : Int) + (y : Int) + (mo : Int) = (S : Int) := by omega
        have hst := plus_step he q1 q2 hS
        have hzz : m < k + 1 → S / 2 = 0 := fun hh => by have := z1 (by omega); have := z2 (by omega); omega
        have hS3 : S ≤ 3 := by omega
        have HST := Lib.hid (And.intro hst hzz)
        clear he q1 q2 hst hzz z1 z2 hmz hS
        go_wp2_with (first | ((go_at_call 45; (with_reducible refine (ha).mono ?_)); rintro e w1 ⟨rfl, hq⟩; subst hq) | ((go_at_call 45; (with_reducible refine (hb).mono ?_)); rintro e w1 ⟨rfl, hq⟩; subst hq) | ((with_reducible refine at_op ⟨some 32, _, _, _, _, _⟩ ?_); (refine wpList_append_src _ rfl (.tmp 27) (.tmp 31) 54 rfl w.heap.size 4 i0 _ 1 1 Try.underlying54 hi0 hz0 hz1 hz2 rfl (by omega) u5 k _ rfl (hown.alloc _) _ 1 1 [.bool ((S : Int) % 2 == 1)] rfl (Src_new _ 4 #[.bool ((S : Int) % 2 == 1)] 1 rfl) (by simp [Value.oneCell']) (by simp only [maxLen]; omega) (by omega) (by simp; omega) ?_); intro v3 w3 hown3 hg3 hat3))
        have hb3 : Below w.heap.size w w3 := (hbr.alloc hbr.size _).grown hg3 (by simp; omega) (fun q hq => (hown.lt q hq).1)
        go_roundw
        case rel =>
          refine ⟨k + 1, S / 2, out ++ [((S : Int) % 2 == 1)], by omega, by go_num, by go_num, by omega, by simp [hout], HST.out.2, ?_, by rw [List.map_append]; exact hown3, hb3⟩
          rw [bval_snoc, hout, bit_mod S _ (mod_beq S)]
          exact HST.out.1
        case measure => simp [intOf]; omega
      · obtain rfl : k = m + 1 := by omega
        have hv : bval out = bval a + bval b := by
          rw [hmz (by omega), List.drop_eq_nil_of_le (by omega), List.drop_eq_nil_of_le (by omega)] at he
          simpa [bval] using he
        have HV := Lib.hid hv
        clear he hv hmz
        go_wp2_with fail
        go_ret
        exact ⟨_, out, rfl, BS_own hown, HV.out, hout, hbr⟩

theorem minus_step {va vb x y le d le' Va Vb Va' Vb' O p : Nat} (h : O + vb + p * Va = va + p * (Vb + le)) (h1 : Va = x + 2 * Va') (h2 : Vb = y + 2 * Vb') (hS : x + 2 * le' = y + le + d) :
    O + p * d + vb + 2 * p * Va' = va + 2 * p * (Vb' + le') := by
  have e1 : p * Va = p * x + 2 * p * Va' := by rw [h1, Nat.mul_add, ← Nat.mul_assoc, Nat.mul_comm p 2]
  have e2 : p * (Vb + le) + p * d = p * x + 2 * p * (Vb' + le') := by
    rw [← Nat.mul_add, h2, show y + 2 * Vb' + le + d = x + 2 * (Vb' + le') by omega, Nat.mul_add, ← Nat.mul_assoc, Nat.mul_comm p 2]
  omega
theorem bit_eq (S : Nat) (h : S ≤ 1) : bit ((S : Int) == 1) = S := by
  rcases (by omega : S = 0 ∨ S = 1) with h | h <;> rw [h] <;> rfl
set_option maxHeartbeats 2000000 in
theorem rminus_any2 (w : World) {A D : Option Addr} {n c m d : Nat} {a b : List Bool} (h : Bls w A n a) (k1 : Bls w D m b) (hn : n ≤ 65536) (hm : m ≤ 65536) (hge : bval b ≤ bval a) :
    Calls Try.prog 53 #[.slice A n c, .slice D m d] w fun e w' => ∃ v out, e = .returned v ∧ BS w' v out ∧ bval out = bval a - bval b ∧ out.length = n ∧ Below w.heap.size w w' ∧ ∀ b, v.ownBlock = some b → w.heap.size ≤ b := by
  obtain ⟨i0, hi0, hz0, hz1, hz2⟩ := info_parts iB
  have h1 := h.len_eq
  have h2 := k1.len_eq
  have HGE := Lib.hid hge
  clear hge
  go_enter Try.func53, Try.ntmps53
  go_wp2_with fail
  go_loopw [5, 6, 7, 8, 9, 10, 11, 12, 13, 14, 15, 16, 17, 18, 19, 20, 21, 22, 23, 24, 25, 26, 27, 28, 29, 30, 31, 32] (fun v u i _ _ _ _ _ _ _ _ _ _ _ _ _ _ _ _ _ _ _ _ _ _ _ _ _ wr => ∃ (k mo : Nat) (out : List Bool), k ≤ n ∧ i = .int .i64 k ∧ u = .int .i64 mo ∧ mo ≤ 1 ∧ out.length = k ∧ bval out + bval b + 2 ^ k * bval (a.drop k) = bval a + 2 ^ k * (bval (b.drop k) + mo) ∧ wr.ownsRow w.heap.size 4 1 v k (out.map Value.bool) ∧ Below w.heap.size w wr) (fun _ _ i _ _ _ _ _ _ _ _ _ _ _ _ _ _ _ _ _ _ _ _ _ _ _ _ _ _ => n - (intOf i).toNat)
  case atStart => exact ⟨0, 0, [], Nat.zero_le _, rfl, rfl, by omega, rfl, by simp [bval, Nat.add_comm], World.ownsRow_nil _ _ _ _, Below.refl _ _⟩
  case round =>
    obtain ⟨k, mo, out, hk, rfl, rfl, hmo, hout, he, hown, hbr⟩ := hrel
    have hbs := hbr.size
    by_cases hlt : k < n
    · have ha := at_any (c := c) wr (h.mono hbr) k hn
      have hb := at_any (c := d) wr (k1.mono hbr) k hm
      have q1 := bval_drop a k
      have q2 := bval_drop b k
      have l1 := bit_le (a.getD k false)
      have l2 := bit_le (b.getD k false)
      generalize bit (a.getD k false) = x at *
      generalize bit (b.getD k false) = y at *
      by_cases hneg : x < y + mo
      · have hst := minus_step (d := x + 2 - y - mo) (le' := 1) he q1 q2 (by omega)
        obtain ⟨S, hS⟩ : ∃ S, x + 2 - y - mo = S := ⟨_, rfl⟩
        rw [hS] at hst
        have hSI : (x : Int) - (y : Int) - (mo : Int) = (S : Int) - 2 := by omega
        have hS2 : S ≤ 1 := by omega
        have HST := Lib.hid hst
        clear he q1 q2 hst hS
        go_wp2_with (first | ((go_at_call 45; (with_reducible refine (ha).mono ?_)); rintro e w1 ⟨rfl, hq⟩; subst hq) | ((go_at_call 45; (with_reducible refine (hb).mono ?_)); rintro e w1 ⟨rfl, hq⟩; subst hq) | ((with_reducible refine at_op ⟨some 32, _, _, _, _, _⟩ ?_); (refine wpList_append_src _ rfl (.tmp 28) (.tmp 31) 54 rfl w.heap.size 4 i0 _ 1 1 Try.underlying54 hi0 hz0 hz1 hz2 rfl (by omega) u5 k _ rfl (hown.alloc _) _ 1 1 [.bool ((S : Int) == 1)] rfl (Src_new _ 4 #[.bool ((S : Int) == 1)] 1 rfl) (by simp [Value.oneCell']) (by simp only [maxLen]; omega) (by omega) (by simp; omega) ?_); intro v3 w3 hown3 hg3 hat3))
        have hb3 : Below w.heap.size w w3 := (hbr.alloc hbr.size _).grown hg3 (by simp; omega) (fun q hq => (hown.lt q hq).1)
        go_roundw
        case rel =>
          refine ⟨k + 1, 1, out ++ [((S : Int) == 1)], by omega, by go_num, rfl, by omega, by simp [hout], ?_, by rw [List.map_append]; exact hown3, hb3⟩
          rw [bval_snoc, hout, bit_eq S hS2, Nat.pow_succ, Nat.mul_comm (2 ^ k) 2]
          exact HST.out
        case measure => simp [intOf]; omega
      · have hst := minus_step (d := x - y - mo) (le' := 0) he q1 q2 (by omega)
        obtain ⟨S, hS⟩ : ∃ S, x - y - mo = S := ⟨_, rfl⟩
        rw [hS] at hst
        have hSI : (x : Int) - (y : Int) - (mo : Int) = (S : Int) := by omega
        have hS2 : S ≤ 1 := by omega
        have HST := Lib.hid hst
        clear he q1 q2 hst hS
        go_wp2_with (first | ((go_at_call 45; (with_reducible refine (ha).mono ?_)); rintro e w1 ⟨rfl, hq⟩; subst hq) | ((go_at_call 45; (with_reducible refine (hb).mono ?_)); rintro e w1 ⟨rfl, hq⟩; subst hq) | ((with_reducible refine at_op ⟨some 32, _, _, _, _, _⟩ ?_); (refine wpList_append_src _ rfl (.tmp 28) (.tmp 31) 54 rfl w.heap.size 4 i0 _ 1 1 Try.underlying54 hi0 hz0 hz1 hz2 rfl (by omega) u5 k _ rfl (hown.alloc _) _ 1 1 [.bool ((S : Int) == 1)] rfl (Src_new _ 4 #[.bool ((S : Int) == 1)] 1 rfl) (by simp [Value.oneCell']) (by simp only [maxLen]; omega) (by omega) (by simp; omega) ?_); intro v3 w3 hown3 hg3 hat3))
        have hb3 : Below w.heap.size w w3 := (hbr.alloc hbr.size _).grown hg3 (by simp; omega) (fun q hq => (hown.lt q hq).1)
        go_roundw
        case rel =>
          refine ⟨k + 1, 0, out ++ [((S : Int) == 1)], by omega, by go_num, rfl, by omega, by simp [hout], ?_, by rw [List.map_append]; exact hown3, hb3⟩
          rw [bval_snoc, hout, bit_eq S hS2, Nat.pow_succ, Nat.mul_comm (2 ^ k) 2]
          exact HST.out
        case measure => simp [intOf]; omega
    · obtain rfl : k = n := by omega
      have hv : bval out = bval a - bval b := by
        have hlt2 := bval_lt out
        have hge := HGE.out
        rw [show a.drop k = [] from List.drop_eq_nil_of_le (by omega)] at he
        rw [hout] at hlt2
        simp only [bval, Nat.mul_zero, Nat.add_zero] at he
        rcases Nat.eq_zero_or_pos (bval (b.drop k) + mo) with h0 | h0
        · rw [h0] at he; omega
        · have := Nat.mul_le_mul_left (2 ^ k) h0
          omega
      have HV := Lib.hid hv
      clear he hv
      go_wp2_with fail
      go_ret
      exact ⟨_, out, rfl, BS_own hown, HV.out, hout, hbr, fun b hb => (hown.lt b hb).1⟩
theorem rminus_any (w : World) {A D : Option Addr} {n c m d : Nat} {a b : List Bool} (h : Bls w A n a) (k1 : Bls w D m b) (hn : n ≤ 65536) (hm : m ≤ 65536) (hge : bval b ≤ bval a) :
    Calls Try.prog 53 #[.slice A n c, .slice D m d] w fun e w' => ∃ v out, e = .returned v ∧ BS w' v out ∧ bval out = bval a - bval b ∧ out.length = n ∧ Below w.heap.size w w' :=
  (rminus_any2 w h k1 hn hm hge).mono fun e w' ⟨v, out, h1, h2, h3, h4, h5, _⟩ => ⟨v, out, h1, h2, h3, h4, h5⟩
end Go.Proofs.Ytedlfkklkoihjaa
