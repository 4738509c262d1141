/-
  Rows of digits of base 2; at, less. No condition.
-/
import Derived.Test.YtedlfkklkoihjaaA
import Derived.Test.YtedlfkklkoihjaaCom11
import Derived.Test.YtedlfkklkoihjaaCom7
import Derived.Deep.DeepCutAuto
set_option linter.unusedVariables false
set_option linter.unusedSimpArgs false
namespace Go.Proofs.Ytedlfkklkoihjaa
open Go.RowKit Go.BigFrame

/-! ### What the digits come to -/
def bit (b : Bool) : Nat := if b then 1 else 0
def bval : List Bool → Nat
  | [] => 0
  | b :: l => bit b + 2 * bval l
theorem bit_le (b : Bool) : bit b ≤ 1 := by cases b <;> simp [bit]
theorem bval_nil : bval [] = 0 := rfl
theorem bval_lt : ∀ l : List Bool, bval l < 2 ^ l.length
  | [] => by simp [bval]
  | b :: l => by have := bval_lt l; have := bit_le b; simp only [bval, List.length_cons, Nat.pow_succ]; omega
theorem bval_snoc : ∀ (l : List Bool) (b : Bool), bval (l ++ [b]) = bval l + 2 ^ l.length * bit b
  | [], b => by simp [bval]
  | c :: l, b => by
    simp only [List.cons_append, bval, bval_snoc l b, List.length_cons, Nat.pow_succ, Nat.mul_add]
    rw [show 2 * (2 ^ l.length * bit b) = 2 ^ l.length * 2 * bit b by rw [← Nat.mul_assoc, Nat.mul_comm 2]]
    omega
theorem bval_drop (l : List Bool) (i : Nat) : bval (l.drop i) = bit (l.getD i false) + 2 * bval (l.drop (i + 1)) := by
  by_cases h : i < l.length
  · rw [List.drop_eq_getElem_cons h]; simp [bval, List.getD, h]
  · rw [List.drop_eq_nil_of_le (by omega), List.drop_eq_nil_of_le (by omega), List.getD_eq_getElem?_getD, List.getElem?_eq_none (by omega)]
    simp [bval, bit]
theorem drop_lt (a b : List Bool) : ∀ j, bval (a.drop j) < bval (b.drop j) → bval a < bval b
  | 0, h => by simpa using h
  | j + 1, h => drop_lt a b j (by
      have h1 := bval_drop a j
      have h2 := bval_drop b j
      have := bit_le (a.getD j false)
      have := bit_le (b.getD j false)
      omega)
theorem bval_zeros : ∀ n, bval (List.replicate n false) = 0
  | 0 => rfl
  | n + 1 => by rw [List.replicate_succ]; simp [bval, bit, bval_zeros n]
theorem bval_shift (b : List Bool) : ∀ i, bval (List.replicate i false ++ b) = 2 ^ i * bval b
  | 0 => by simp
  | i + 1 => by
    rw [List.replicate_succ, List.cons_append]
    simp only [bval, bval_shift b i, bit, Nat.pow_succ]
    rw [show 2 * (2 ^ i * bval b) = 2 ^ i * 2 * bval b by rw [← Nat.mul_assoc, Nat.mul_comm 2]]
    simp
theorem bval_take (l : List Bool) (k : Nat) (h : k < l.length) : bval (l.take (k + 1)) = bval (l.take k) + 2 ^ k * bit (l.getD k false) := by
  rw [List.take_succ_eq_append_getElem h, bval_snoc, List.length_take]
  simp [List.getD, h, Nat.min_eq_left (Nat.le_of_lt h)]

/-! ### Slices of digits -/
structure Bls (w : World) (A : Option Addr) (n : Nat) (l : List Bool) : Prop where
  len_eq : l.length = n
  at_ : 0 < n → ∃ b off, A = some ⟨b, off, none⟩ ∧ b < w.heap.size ∧ ∀ k, k < n → w.cell? ⟨b, off + k, none⟩ = some (.bool (l.getD k false))
  typ : 0 < n → ∃ b off cs, A = some ⟨b, off, none⟩ ∧ Blk w b 4 cs
theorem Bls.mono {w w' : World} {A : Option Addr} {n : Nat} {l : List Bool} (h : Bls w A n l) (hb : Below w.heap.size w w') : Bls w' A n l :=
  ⟨h.len_eq, fun h0 => let ⟨b, off, e, hB, hc⟩ := h.at_ h0; ⟨b, off, e, Nat.lt_of_lt_of_le hB hb.size, fun k hk => (hb.cell (p := ⟨b, off + k, none⟩) hB).trans (hc k hk)⟩,
    fun h0 => let ⟨b, off, cs, e, hB⟩ := h.typ h0; ⟨b, off, cs, e, Blk_below hB hb (Blk_lt hB)⟩⟩
theorem Bls.take {w : World} {A : Option Addr} {n : Nat} {l : List Bool} (h : Bls w A n l) {k : Nat} (hk : k ≤ n) : Bls w A k (l.take k) := by
  have h1 := h.len_eq
  refine ⟨by rw [List.length_take]; omega, fun h0 => ?_, fun h0 => h.typ (by omega)⟩
  obtain ⟨b, off, e, hB, hc⟩ := h.at_ (by omega)
  refine ⟨b, off, e, hB, fun j hj => ?_⟩
  rw [hc j (by omega)]
  simp [List.getD, hj]
theorem Bls_none (w : World) : Bls w none 0 [] := ⟨rfl, fun h => absurd h (Nat.lt_irrefl 0), fun h => absurd h (Nat.lt_irrefl 0)⟩
/-- A store into a block of another type. -/
theorem Bls.far {w : World} {A : Option Addr} {n g : Nat} {l : List Bool} {t : TypeId} {cs : Array Value} (h : Bls w A n l) (hg : Blk w g t cs) (ht : t ≠ 4) (i : Nat) (u : Value) : Bls (w.setCell ⟨g, i, none⟩ u) A n l := by
  refine ⟨h.len_eq, fun h0 => ?_, fun h0 => ?_⟩
  · obtain ⟨b, off, e, hB, hc⟩ := h.at_ h0
    obtain ⟨b2, off2, cs2, e2, hB2⟩ := h.typ h0
    rw [e] at e2
    injection e2 with e2
    injection e2 with e3 e4
    subst e3
    have hne : b ≠ g := blk_neq hB2 hg (fun x => ht x.symm)
    refine ⟨b, off, e, by simpa using hB, fun k hk => ?_⟩
    rw [← hc k hk]
    have := Below.heap_setCell w ⟨g, i, none⟩ u b hne
    simp only [World.cell?, this]
  · obtain ⟨b2, off2, cs2, e2, hB2⟩ := h.typ h0
    exact ⟨b2, off2, cs2, e2, Blk_far hB2 (blk_neq hB2 hg (fun x => ht x.symm)) u⟩
theorem Bls.src {w : World} {A : Option Addr} {n : Nat} {l : List Bool} (h : Bls w A n l) : Src w A n (l.map Value.bool) := by
  have h1 := h.len_eq
  refine ⟨by simpa using h1, fun h0 => ?_⟩
  obtain ⟨b, off, rfl, _, hc⟩ := h.at_ h0
  refine ⟨_, rfl, fun j u hu => ?_⟩
  have hj : j < l.length := by
    rcases Nat.lt_or_ge j l.length with h | h
    · exact h
    · rw [List.getElem?_eq_none (by simpa using h)] at hu; cases hu
  rw [add_off, hc j (by omega)]
  simp [hj] at hu
  simp [List.getD, hj, hu]
theorem Bls_of_own {w : World} {base : Nat} {A : Option Addr} {n c : Nat} {l : List Bool} (h : w.ownsRow base 4 1 (.slice A n c) n (l.map Value.bool)) : Bls w A n l := by
  have hl : l.length = n := by have := h.1; simpa using this
  refine ⟨hl, fun h0 => ?_, fun h0 => ?_⟩
  · rcases h.2 with ⟨_, rfl⟩ | ⟨g, cap, cur, hv, _, hg, hnc, _, hcs, htake⟩
    · omega
    · injection hv with hA hn hc
      subst hA; subst hc
      have hlt : g < w.heap.size := by
        rcases Nat.lt_or_ge g w.heap.size with hlt | hge
        · exact hlt
        · rw [Array.getElem?_eq_none hge] at hg; cases hg
      refine ⟨g, 0, rfl, hlt, fun k hk => ?_⟩
      rw [Nat.zero_add, h.cellAt k (by omega)]
      have hk' : k < l.length := by omega
      simp [List.getD, hk']
  · rcases h.2 with ⟨_, rfl⟩ | ⟨g, cap, cur, hv, _, hg, hnc, _, hcs, htake⟩
    · omega
    · injection hv with hA hn hc
      subst hA; subst hc
      exact ⟨g, 0, cur, rfl, hg⟩
theorem Bls.of_blk {w : World} {g : Nat} {l : List Bool} (h : Blk w g 4 (l.map Value.bool).toArray) : Bls w (some ⟨g, 0, none⟩) l.length l :=
  ⟨rfl, fun _ => ⟨g, 0, rfl, Blk_lt h, fun k hk => by rw [Nat.zero_add, Blk_cell h k]; simp [hk]⟩, fun _ => ⟨g, 0, _, rfl, h⟩⟩
theorem one_bools (l : List Bool) : ∀ u ∈ l.map Value.bool, u.oneCell' = true := by
  intro u hu
  obtain ⟨x, _, rfl⟩ := List.mem_map.1 hu
  rfl

set_option maxHeartbeats 400000 in
theorem at_any (w : World) {A : Option Addr} {n c : Nat} {l : List Bool} (h : Bls w A n l) (i : Nat) (hn : n ≤ 65536) :
    Calls Try.prog 45 #[.slice A n c, .int .i64 i] w fun e w' => e = .returned (.int .i64 (bit (l.getD i false) : Nat)) ∧ w = w' := by
  have hl := h.len_eq
  by_cases hi : i < n
  · obtain ⟨b, off, rfl, hB, hc⟩ := h.at_ (by omega)
    have cx := hc i hi
    generalize l.getD i false = x at cx ⊢
    clear hc
    cases x
    · go_enter Try.func45, Try.ntmps45
      go_wp2
      go_ret
      exact ⟨rfl, rfl⟩
    · go_enter Try.func45, Try.ntmps45
      go_wp2
      go_ret
      exact ⟨rfl, rfl⟩
  · have e : l.getD i false = false := by rw [List.getD_eq_getElem?_getD, List.getElem?_eq_none (by omega)]; rfl
    rw [e]
    go_enter Try.func45, Try.ntmps45
    go_wp2
    go_ret
    exact ⟨rfl, rfl⟩
set_option maxHeartbeats 1000000 in
theorem less_any (w : World) {A D : Option Addr} {n c m d : Nat} {a b : List Bool} (h : Bls w A n a) (k1 : Bls w D m b) (hn : n ≤ 65536) (hm : m ≤ 65536) :
    Calls Try.prog 44 #[.slice A n c, .slice D m d] w fun e w' => e = .returned (.bool (decide (bval a < bval b))) ∧ w = w' := by
  have h1 := h.len_eq
  have h2 := k1.len_eq
  by_cases hnm : m ≤ n
  · have e0 : bval (a.drop n) = bval (b.drop n) := by rw [List.drop_eq_nil_of_le (by omega), List.drop_eq_nil_of_le (by omega)]
    have E0 := Lib.hid e0
    clear e0
    go_enter Try.func44, Try.ntmps44
    go_wp2_with fail
    go_loopw [5, 12, 13, 14, 15, 16, 17, 18, 19, 20, 21, 22, 23, 24, 25, 26, 27, 28, 29] (fun i _ _ _ _ _ _ _ _ _ _ _ _ _ _ _ _ _ _ wr => ∃ (k : Nat) (z : Int), k ≤ n ∧ i = .int .i64 z ∧ z = (k : Int) - 1 ∧ bval (a.drop k) = bval (b.drop k) ∧ w = wr) (fun i _ _ _ _ _ _ _ _ _ _ _ _ _ _ _ _ _ _ _ => (intOf i + 1).toNat)
    case atStart => exact ⟨n, _, Nat.le_refl _, rfl, rfl, E0.out, rfl⟩
    case round =>
      obtain ⟨k, z, hk, rfl, hz, he, rfl⟩ := hrel
      have HZ := Lib.hid hz
      have HE := Lib.hid he
      cases k with
      | zero =>
        have hz1 : z = -1 := by omega
        subst hz1
        have hd : decide (bval a < bval b) = false := by have := HE.out; simp at this; simp [this]
        have HD := Lib.hid hd
        clear hz he hd
        go_wp2_with fail
        go_ret
        exact ⟨by rw [HD.out]; rfl, rfl⟩
      | succ j =>
        have hzj : z = (j : Int) := by omega
        subst hzj
        have ha := at_any (c := c) w h j hn
        have hb := at_any (c := d) w k1 j hm
        have q1 := bval_drop a j
        have q2 := bval_drop b j
        have l1 := bit_le (a.getD j false)
        have l2 := bit_le (b.getD j false)
        generalize bit (a.getD j false) = x at *
        generalize bit (b.getD j false) = y at *
        clear hz
        by_cases hxy : x = y
        · have hj2 : bval (a.drop j) = bval (b.drop j) := by omega
          have HJ := Lib.hid hj2
          subst hxy
          clear he q1 q2 hj2
          go_wp2_with (first | ((go_at_call 45; (with_reducible refine (ha).mono ?_)); rintro e w1 ⟨rfl, hq⟩; subst hq) | ((go_at_call 45; (with_reducible refine (hb).mono ?_)); rintro e w1 ⟨rfl, hq⟩; subst hq))
          go_roundw
          case rel => exact ⟨j, _, by omega, rfl, rfl, HJ.out, trivial⟩
          case measure => simp [intOf]
        · have hd : decide (bval a < bval b) = decide (x < y) := by
            apply decide_eq_decide.2
            constructor
            · intro hlt
              rcases Nat.lt_or_ge x y with h3 | h3
              · omega
              · have := drop_lt b a j (by omega)
                omega
            · intro hlt
              exact drop_lt a b j (by omega)
          have HD := Lib.hid hd
          clear he q1 q2 hd
          have hxi : ¬ (x : Int) = (y : Int) := by omega
          go_wp2_with (first | ((go_at_call 45; (with_reducible refine (ha).mono ?_)); rintro e w1 ⟨rfl, hq⟩; subst hq) | ((go_at_call 45; (with_reducible refine (hb).mono ?_)); rintro e w1 ⟨rfl, hq⟩; subst hq))
          go_ret
          exact ⟨by rw [HD.out]; rfl, rfl⟩
  · have e0 : bval (a.drop m) = bval (b.drop m) := by rw [List.drop_eq_nil_of_le (by omega), List.drop_eq_nil_of_le (by omega)]
    have E0 := Lib.hid e0
    have hmn : n < m := by omega
    clear e0 hnm
    go_enter Try.func44, Try.ntmps44
    go_wp2_with fail
    go_loopw [5, 12, 13, 14, 15, 16, 17, 18, 19, 20, 21, 22, 23, 24, 25, 26, 27, 28, 29] (fun i _ _ _ _ _ _ _ _ _ _ _ _ _ _ _ _ _ _ wr => ∃ (k : Nat) (z : Int), k ≤ m ∧ i = .int .i64 z ∧ z = (k : Int) - 1 ∧ bval (a.drop k) = bval (b.drop k) ∧ w = wr) (fun i _ _ _ _ _ _ _ _ _ _ _ _ _ _ _ _ _ _ _ => (intOf i + 1).toNat)
    case atStart => exact ⟨m, _, Nat.le_refl _, rfl, rfl, E0.out, rfl⟩
    case round =>
      obtain ⟨k, z, hk, rfl, hz, he, rfl⟩ := hrel
      have HZ := Lib.hid hz
      have HE := Lib.hid he
      cases k with
      | zero =>
        have hz1 : z = -1 := by omega
        subst hz1
        have hd : decide (bval a < bval b) = false := by have := HE.out; simp at this; simp [this]
        have HD := Lib.hid hd
        clear hz he hd
        go_wp2_with fail
        go_ret
        exact ⟨by rw [HD.out]; rfl, rfl⟩
      | succ j =>
        have hzj : z = (j : Int) := by omega
        subst hzj
        have ha := at_any (c := c) w h j hn
        have hb := at_any (c := d) w k1 j hm
        have q1 := bval_drop a j
        have q2 := bval_drop b j
        have l1 := bit_le (a.getD j false)
        have l2 := bit_le (b.getD j false)
        generalize bit (a.getD j false) = x at *
        generalize bit (b.getD j false) = y at *
        clear hz
        by_cases hxy : x = y
        · have hj2 : bval (a.drop j) = bval (b.drop j) := by omega
          have HJ := Lib.hid hj2
          subst hxy
          clear he q1 q2 hj2
          go_wp2_with (first | ((go_at_call 45; (with_reducible refine (ha).mono ?_)); rintro e w1 ⟨rfl, hq⟩; subst hq) | ((go_at_call 45; (with_reducible refine (hb).mono ?_)); rintro e w1 ⟨rfl, hq⟩; subst hq))
          go_roundw
          case rel => exact ⟨j, _, by omega, rfl, rfl, HJ.out, trivial⟩
          case measure => simp [intOf]
        · have hd : decide (bval a < bval b) = decide (x < y) := by
            apply decide_eq_decide.2
            constructor
            · intro hlt
              rcases Nat.lt_or_ge x y with h3 | h3
              · omega
              · have := drop_lt b a j (by omega)
                omega
            · intro hlt
              exact drop_lt a b j (by omega)
          have HD := Lib.hid hd
          clear he q1 q2 hd
          have hxi : ¬ (x : Int) = (y : Int) := by omega
          go_wp2_with (first | ((go_at_call 45; (with_reducible refine (ha).mono ?_)); rintro e w1 ⟨rfl, hq⟩; subst hq) | ((go_at_call 45; (with_reducible refine (hb).mono ?_)); rintro e w1 ⟨rfl, hq⟩; subst hq))
          go_ret
          exact ⟨by rw [HD.out]; rfl, rfl⟩
end Go.Proofs.Ytedlfkklkoihjaa
