import Derived.Test.YtappccoomljiaaaP
namespace Go.Proofs.Ytappccoomljiaaa
open Go.RowKit

theorem fo_bd (l : List Int) (lo hi : Int) (h0 : lo ≤ 0) (h1 : 0 ≤ hi) (h : ∀ x ∈ l, lo ≤ x ∧ x ≤ hi) : (fo l).1 ≤ hi ∧ lo ≤ (fo l).2 := by
  have key : ∀ (l : List Int) (p : Int × Int), p.1 ≤ hi → lo ≤ p.2 → (∀ x ∈ l, lo ≤ x ∧ x ≤ hi) → (l.foldl put p).1 ≤ hi ∧ lo ≤ (l.foldl put p).2 := by
    intro l
    induction l with
    | nil => intro p h1 h2 _; exact ⟨h1, h2⟩
    | cons x l ih =>
      intro p h1 h2 h3
      have hx := h3 x (by simp)
      exact ih _ (by unfold put; simp; omega) (by unfold put; simp; omega) (fun y hy => h3 y (by simp [hy]))
  exact key l (0, 0) h1 h0 h
theorem fo4_eq {a1 a2 b1 b2 : Int} (h1 : 0 ≤ a1) (h2 : a2 ≤ 0) (h3 : 0 ≤ b1) (h4 : b2 ≤ 0) : fo [a1, a2, b1, b2] = (max a1 b1, min a2 b2) := by
  show put (put (put (put (0, 0) a1) a2) b1) b2 = _
  unfold put
  ext <;> simp <;> omega

/-- Behind the loop: the three struts and what is asked of them. -/
def FarCase (a1 a2 b1 b2 c1 c2 : Int) : Prop := (b1 ≤ a1 ∧ a2 ≤ b2 ∧ a1 = c1 ∧ a2 = c2) ∨ (b1 ≤ a1 ∧ b2 < a2 ∧ a1 = c1 ∧ b2 = c2) ∨ (a1 < b1 ∧ a2 ≤ b2 ∧ b1 = c1 ∧ a2 = c2) ∨ (a1 < b1 ∧ b2 < a2 ∧ b1 = c1 ∧ b2 = c2)
theorem farCase (a1 a2 b1 b2 : Int) : FarCase a1 a2 b1 b2 (max a1 b1) (min a2 b2) := by unfold FarCase; omega

set_option maxHeartbeats 2000000 in
theorem far_any (xs ys : List Int) (A D : Option Addr) (c d : Nat) (w : World) (hI : Ints .i64 w A xs.length xs) (hJ : Ints .i64 w D ys.length ys)
    (hx : ∀ x ∈ xs, (Lit.int .i64 x).wf = true) (hy : ∀ x ∈ ys, (Lit.int .i64 x).wf = true) (hm1 : xs.length ≤ maxLen) (hm2 : ys.length ≤ maxLen) :
    Calls Try.prog 6 #[.slice A xs.length c, .slice D ys.length d] w fun e w' => e = .returned (.bool true) ∧ Below w.heap.size w w' := by
  unfold maxLen at hm1 hm2
  by_cases hbig : 100 < xs.length
  · go_enter Try.func6, Try.ntmps6
    go_wp2_with (go_at_call 9; refine (works_any _).mono ?_; rintro e w1 ⟨rfl, h1⟩)
    go_ret
    exact ⟨rfl, h1⟩
  by_cases hbig2 : 100 < ys.length
  · go_enter Try.func6, Try.ntmps6
    go_wp2_with (go_at_call 9; refine (works_any _).mono ?_; rintro e w1 ⟨rfl, h1⟩)
    go_ret
    exact ⟨rfl, h1⟩
  go_enter Try.func6, Try.ntmps6
  go_wp2_with fail
  go_loop [5, 6, 19, 20, 21, 22, 23, 24, 25, 26, 27, 28, 29, 30, 31, 32, 33, 34, 35, 36, 37, 38, 39, 40, 41, 42, 43, 44, 45, 46, 47, 48] (fun i _ _ _ _ _ _ _ _ _ _ _ _ _ _ _ _ _ _ _ _ _ _ _ _ _ _ _ _ _ _ _ => ∃ k : Nat, k ≤ xs.length + ys.length ∧ i = .int .i64 k) (fun i _ _ _ _ _ _ _ _ _ _ _ _ _ _ _ _ _ _ _ _ _ _ _ _ _ _ _ _ _ _ _ => xs.length + ys.length - (intOf i).toNat)
  case atStart => exact ⟨0, by omega, rfl⟩
  case round =>
    obtain ⟨k, hk, rfl⟩ := hrel
    by_cases hlt : k < xs.length + ys.length
    · by_cases hl2 : k < xs.length
      · obtain ⟨b, off, rfl, hB, hc⟩ := hI.at_ (by omega)
        have cx := hc k hl2
        obtain ⟨v, hv⟩ : ∃ v, v = xs.getD k 0 := ⟨_, rfl⟩
        rw [← hv] at cx
        clear hc hv
        by_cases t1 : 1125899906842624 < v ∨ v < -1125899906842624
        · rcases t1 with t1 | t1
          all_goals
            go_wp2_with (go_at_call 9; refine (works_any _).mono ?_; rintro e w1 ⟨rfl, h1⟩)
            go_ret
            exact ⟨rfl, h1⟩
        · have t2 : ¬ 1125899906842624 < v := by omega
          have t3 : ¬ v < -1125899906842624 := by omega
          clear t1
          go_wp2_with fail
          go_round
          case rel => exact ⟨k + 1, by omega, by go_num⟩
          case measure => simp [intOf]; omega
      · obtain ⟨b, off, rfl, hB, hc⟩ := hJ.at_ (by omega)
        have cx := hc (k - xs.length) (by omega)
        obtain ⟨v, hv⟩ : ∃ v, v = ys.getD (k - xs.length) 0 := ⟨_, rfl⟩
        rw [← hv] at cx
        clear hc hv
        by_cases t1 : 1125899906842624 < v ∨ v < -1125899906842624
        · rcases t1 with t1 | t1
          all_goals
            go_wp2_with (go_at_call 9; refine (works_any _).mono ?_; rintro e w1 ⟨rfl, h1⟩)
            go_ret
            exact ⟨rfl, h1⟩
        · have t2 : ¬ 1125899906842624 < v := by omega
          have t3 : ¬ v < -1125899906842624 := by omega
          clear t1
          go_wp2_with fail
          go_round
          case rel => exact ⟨k + 1, by omega, by go_num⟩
          case measure => simp [intOf]; omega
    · have sa := fo_sign xs
      have sb := fo_sign ys
      obtain ⟨u1, u2⟩ := fo_bd xs _ 9223372036854775807 (by omega) (by omega) (fun x h => bounds_i64 (hx x h))
      obtain ⟨u3, u4⟩ := fo_bd ys _ 9223372036854775807 (by omega) (by omega) (fun x h => bounds_i64 (hy x h))
      obtain ⟨⟨a1, a2⟩, hfa⟩ : ∃ f, fo xs = f := ⟨_, rfl⟩
      obtain ⟨⟨b1, b2⟩, hfb⟩ : ∃ f, fo ys = f := ⟨_, rfl⟩
      rw [hfa] at sa u1 u2
      rw [hfb] at sb u3 u4
      have e1 := fo4_eq sa.1 sa.2 sb.1 sb.2
      have e2 := fo4_eq sb.1 sb.2 sa.1 sa.2
      have hcase := farCase a1 a2 b1 b2
      obtain ⟨c1, hc1⟩ : ∃ c, max a1 b1 = c := ⟨_, rfl⟩
      obtain ⟨c2, hc2⟩ : ∃ c, min a2 b2 = c := ⟨_, rfl⟩
      have e2' : fo [b1, b2, a1, a2] = (c1, c2) := by rw [e2]; simp only [] at *; ext <;> simp only [] <;> omega
      have e3 : fo [c1, c2, a1, a2] = (c1, c2) := by
        simp only [] at *
        rw [fo4_eq (by omega) (by omega) sa.1 sa.2]; ext <;> simp only [] <;> omega
      simp only [] at e1 hcase sa sb u1 u2 u3 u4
      rw [hc1, hc2] at e1 hcase
      clear e2 hc1 hc2
      have HA := Lib.hid hfa
      have HB := Lib.hid hfb
      have H1 := Lib.hid e1
      have H2 := Lib.hid e2'
      have H3 := Lib.hid e3
      clear hfa hfb e1 e2' e3
      obtain ⟨sa1, sa2⟩ := sa
      obtain ⟨sb1, sb2⟩ := sb
      have H4 := Lib.hid (show wrap64 (a1 + 0) = a1 by rw [Int.add_zero]; exact IntWalk.wrap64_in a1 ⟨by omega, by omega⟩)
      go_wp2_with fail
      refine (joined_eq xs (a1, a2) HA.out A _ c _ hI (by omega)).mono ?_
      rintro e w1 ⟨rfl, h1⟩
      have z1 := h1.size
      go_wp2_with fail
      refine (joined_eq ys (b1, b2) HB.out D _ d _ (hJ.mono (by (repeat' (first | (with_reducible exact Below.refl _ _) | (with_reducible assumption) | (with_reducible refine Below.alloc ?_ ?_ _) | (with_reducible refine Below.drew ?_) | (with_reducible refine Below_drewN ?_ _) | (with_reducible refine Below.setCell ?_ ?_ _) | go_size)))) (by omega)).mono ?_
      rintro e w2 ⟨rfl, h2⟩
      have B7 : Blk w2 w1.heap.size 24 #[.int .i64 a1, .int .i64 a2] := Blk_below (Blk_new w1 24 _) h2 (by simp)
      have b1' : Below w.heap.size w w2 := Below_same h1 (Below_al h2)
      clear h1 h2
      have k0 := Blk_cell B7 0
      have z7 := Blk_lt B7
      have k1 := Blk_cell B7 1
      go_wp2_with fail
      refine (both_eq (a1, a2) (b1, b2) (c1, c2) H1.out _).mono ?_
      rintro e w3 ⟨rfl, h3⟩
      have B8 : Blk w3 w2.heap.size 24 #[.int .i64 b1, .int .i64 b2] := Blk_below (Blk_new w2 24 _) h3 (by simp)
      have B7' : Blk w3 w1.heap.size 24 #[.int .i64 a1, .int .i64 a2] := Blk_below (Blk_alloc B7 _) h3 (by have := Blk_lt B7; simp; omega)
      have b3 : Below w.heap.size w w3 := Below_same b1' (Below_al h3)
      clear h3 b1' B7 k0 k1
      have z8 := Blk_lt B8
      have z7 := Blk_lt B7'
      have z3 := b3.size
      have k0 := Blk_cell B7' 0
      have k1 := Blk_cell B7' 1
      have k2 := Blk_cell B8 0
      have k3 := Blk_cell B8 1
      clear hI hJ hx hy hbig hbig2 HA HB
      rcases hcase with ⟨g1, g2, rfl, rfl⟩ | ⟨g1, g2, rfl, rfl⟩ | ⟨g1, g2, rfl, rfl⟩ | ⟨g1, g2, rfl, rfl⟩
      · go_wp2_with (fail)
        clear k0 k1 k2 k3
        have B9 := Blk_new w3 24 #[.int .i64 a1, .int .i64 a2]
        have B8' := Blk_alloc B8 (.cells #[.int .i64 a1, .int .i64 a2] 24)
        have B7 := Blk_alloc B7' (.cells #[.int .i64 a1, .int .i64 a2] 24)
        have b4 : Below w.heap.size w (w3.alloc (.cells #[.int .i64 a1, .int .i64 a2] 24)) := by (repeat' (first | (with_reducible exact Below.refl _ _) | (with_reducible assumption) | (with_reducible refine Below.alloc ?_ ?_ _) | (with_reducible refine Below.drew ?_) | (with_reducible refine Below_drewN ?_ _) | (with_reducible refine Below.setCell ?_ ?_ _) | go_size))
        generalize w3.alloc (.cells #[.int .i64 a1, .int .i64 a2] 24) = w4 at *
        have hS : ∀ w', Below w4.heap.size w4 w' → Below w4.heap.size w4 w' ∧ w'.cell? ⟨w1.heap.size, 0, none⟩ = some (.int .i64 a1) ∧ w'.cell? ⟨w1.heap.size, 1, none⟩ = some (.int .i64 a2) ∧ w'.cell? ⟨w2.heap.size, 0, none⟩ = some (.int .i64 b1) ∧ w'.cell? ⟨w2.heap.size, 1, none⟩ = some (.int .i64 b2) ∧ w'.cell? ⟨w3.heap.size, 0, none⟩ = some (.int .i64 a1) ∧ w'.cell? ⟨w3.heap.size, 1, none⟩ = some (.int .i64 a2) :=
          fun w' h => ⟨h, Blk_cell (Blk_below B7 h (Blk_lt B7)) 0, Blk_cell (Blk_below B7 h (Blk_lt B7)) 1, Blk_cell (Blk_below B8' h (Blk_lt B8')) 0, Blk_cell (Blk_below B8' h (Blk_lt B8')) 1, Blk_cell (Blk_below B9 h (Blk_lt B9)) 0, Blk_cell (Blk_below B9 h (Blk_lt B9)) 1⟩
        have HH := Lib.hid hS
        clear hS
        go_region_held3 (fun w' => Below w4.heap.size w4 w' ∧ w'.cell? ⟨w1.heap.size, 0, none⟩ = some (.int .i64 a1) ∧ w'.cell? ⟨w1.heap.size, 1, none⟩ = some (.int .i64 a2) ∧ w'.cell? ⟨w2.heap.size, 0, none⟩ = some (.int .i64 b1) ∧ w'.cell? ⟨w2.heap.size, 1, none⟩ = some (.int .i64 b2) ∧ w'.cell? ⟨w3.heap.size, 0, none⟩ = some (.int .i64 a1) ∧ w'.cell? ⟨w3.heap.size, 1, none⟩ = some (.int .i64 a2))
          ((first
            | (with_reducible assumption)
            | exact (HH).out _ (Below.refl _ _).drew
            | exact (HH).out _ (Below_same hh hw)
            | exact (HH).out _ ((‹Below _ _ _ ∧ _›).1.alloc (‹Below _ _ _ ∧ _›).1.size _)))
          (first
            | (go_at_call 11; have hh := (‹Below _ _ _ ∧ _›).1; (with_reducible refine (both_eq (b1, b2) (a1, a2) (a1, a2) H2.out _).mono ?_); rintro e w' ⟨rfl, hw⟩)
            | (go_at_call 11; have hh := (‹Below _ _ _ ∧ _›).1; (with_reducible refine (both_eq (a1, a2) (a1, a2) (a1, a2) H3.out _).mono ?_); rintro e w' ⟨rfl, hw⟩)
            | (go_at_call 7; have hh := (‹Below _ _ _ ∧ _›).1; (with_reducible refine (sum_any (a1, 0) a1 H4.out _).mono ?_); rintro e w' ⟨rfl, hw⟩)
            | (go_at_call 9; have hh := (‹Below _ _ _ ∧ _›).1; (with_reducible refine (works_any _).mono ?_); rintro e w' ⟨rfl, hw⟩))
        have b5 := (‹Below w4.heap.size w4 _ ∧ _›).1
        go_wp2_with fail
        go_ret
        exact ⟨rfl, Below_same b4 b5⟩
      · go_wp2_with (fail)
        clear k0 k1 k2 k3
        have B9 := Blk_new w3 24 #[.int .i64 a1, .int .i64 b2]
        have B8' := Blk_alloc B8 (.cells #[.int .i64 a1, .int .i64 b2] 24)
        have B7 := Blk_alloc B7' (.cells #[.int .i64 a1, .int .i64 b2] 24)
        have b4 : Below w.heap.size w (w3.alloc (.cells #[.int .i64 a1, .int .i64 b2] 24)) := by (repeat' (first | (with_reducible exact Below.refl _ _) | (with_reducible assumption) | (with_reducible refine Below.alloc ?_ ?_ _) | (with_reducible refine Below.drew ?_) | (with_reducible refine Below_drewN ?_ _) | (with_reducible refine Below.setCell ?_ ?_ _) | go_size))
        generalize w3.alloc (.cells #[.int .i64 a1, .int .i64 b2] 24) = w4 at *
        have hS : ∀ w', Below w4.heap.size w4 w' → Below w4.heap.size w4 w' ∧ w'.cell? ⟨w1.heap.size, 0, none⟩ = some (.int .i64 a1) ∧ w'.cell? ⟨w1.heap.size, 1, none⟩ = some (.int .i64 a2) ∧ w'.cell? ⟨w2.heap.size, 0, none⟩ = some (.int .i64 b1) ∧ w'.cell? ⟨w2.heap.size, 1, none⟩ = some (.int .i64 b2) ∧ w'.cell? ⟨w3.heap.size, 0, none⟩ = some (.int .i64 a1) ∧ w'.cell? ⟨w3.heap.size, 1, none⟩ = some (.int .i64 b2) :=
          fun w' h => ⟨h, Blk_cell (Blk_below B7 h (Blk_lt B7)) 0, Blk_cell (Blk_below B7 h (Blk_lt B7)) 1, Blk_cell (Blk_below B8' h (Blk_lt B8')) 0, Blk_cell (Blk_below B8' h (Blk_lt B8')) 1, Blk_cell (Blk_below B9 h (Blk_lt B9)) 0, Blk_cell (Blk_below B9 h (Blk_lt B9)) 1⟩
        have HH := Lib.hid hS
        clear hS
        go_region_held3 (fun w' => Below w4.heap.size w4 w' ∧ w'.cell? ⟨w1.heap.size, 0, none⟩ = some (.int .i64 a1) ∧ w'.cell? ⟨w1.heap.size, 1, none⟩ = some (.int .i64 a2) ∧ w'.cell? ⟨w2.heap.size, 0, none⟩ = some (.int .i64 b1) ∧ w'.cell? ⟨w2.heap.size, 1, none⟩ = some (.int .i64 b2) ∧ w'.cell? ⟨w3.heap.size, 0, none⟩ = some (.int .i64 a1) ∧ w'.cell? ⟨w3.heap.size, 1, none⟩ = some (.int .i64 b2))
          ((first
            | (with_reducible assumption)
            | exact (HH).out _ (Below.refl _ _).drew
            | exact (HH).out _ (Below_same hh hw)
            | exact (HH).out _ ((‹Below _ _ _ ∧ _›).1.alloc (‹Below _ _ _ ∧ _›).1.size _)))
          (first
            | (go_at_call 11; have hh := (‹Below _ _ _ ∧ _›).1; (with_reducible refine (both_eq (b1, b2) (a1, a2) (a1, b2) H2.out _).mono ?_); rintro e w' ⟨rfl, hw⟩)
            | (go_at_call 11; have hh := (‹Below _ _ _ ∧ _›).1; (with_reducible refine (both_eq (a1, b2) (a1, a2) (a1, b2) H3.out _).mono ?_); rintro e w' ⟨rfl, hw⟩)
            | (go_at_call 7; have hh := (‹Below _ _ _ ∧ _›).1; (with_reducible refine (sum_any (a1, 0) a1 H4.out _).mono ?_); rintro e w' ⟨rfl, hw⟩)
            | (go_at_call 9; have hh := (‹Below _ _ _ ∧ _›).1; (with_reducible refine (works_any _).mono ?_); rintro e w' ⟨rfl, hw⟩))
        have b5 := (‹Below w4.heap.size w4 _ ∧ _›).1
        go_wp2_with fail
        go_ret
        exact ⟨rfl, Below_same b4 b5⟩
      · go_wp2_with (fail)
        clear k0 k1 k2 k3
        have B9 := Blk_new w3 24 #[.int .i64 b1, .int .i64 a2]
        have B8' := Blk_alloc B8 (.cells #[.int .i64 b1, .int .i64 a2] 24)
        have B7 := Blk_alloc B7' (.cells #[.int .i64 b1, .int .i64 a2] 24)
        have b4 : Below w.heap.size w (w3.alloc (.cells #[.int .i64 b1, .int .i64 a2] 24)) := by (repeat' (first | (with_reducible exact Below.refl _ _) | (with_reducible assumption) | (with_reducible refine Below.alloc ?_ ?_ _) | (with_reducible refine Below.drew ?_) | (with_reducible refine Below_drewN ?_ _) | (with_reducible refine Below.setCell ?_ ?_ _) | go_size))
        generalize w3.alloc (.cells #[.int .i64 b1, .int .i64 a2] 24) = w4 at *
        have hS : ∀ w', Below w4.heap.size w4 w' → Below w4.heap.size w4 w' ∧ w'.cell? ⟨w1.heap.size, 0, none⟩ = some (.int .i64 a1) ∧ w'.cell? ⟨w1.heap.size, 1, none⟩ = some (.int .i64 a2) ∧ w'.cell? ⟨w2.heap.size, 0, none⟩ = some (.int .i64 b1) ∧ w'.cell? ⟨w2.heap.size, 1, none⟩ = some (.int .i64 b2) ∧ w'.cell? ⟨w3.heap.size, 0, none⟩ = some (.int .i64 b1) ∧ w'.cell? ⟨w3.heap.size, 1, none⟩ = some (.int .i64 a2) :=
          fun w' h => ⟨h, Blk_cell (Blk_below B7 h (Blk_lt B7)) 0, Blk_cell (Blk_below B7 h (Blk_lt B7)) 1, Blk_cell (Blk_below B8' h (Blk_lt B8')) 0, Blk_cell (Blk_below B8' h (Blk_lt B8')) 1, Blk_cell (Blk_below B9 h (Blk_lt B9)) 0, Blk_cell (Blk_below B9 h (Blk_lt B9)) 1⟩
        have HH := Lib.hid hS
        clear hS
        go_region_held3 (fun w' => Below w4.heap.size w4 w' ∧ w'.cell? ⟨w1.heap.size, 0, none⟩ = some (.int .i64 a1) ∧ w'.cell? ⟨w1.heap.size, 1, none⟩ = some (.int .i64 a2) ∧ w'.cell? ⟨w2.heap.size, 0, none⟩ = some (.int .i64 b1) ∧ w'.cell? ⟨w2.heap.size, 1, none⟩ = some (.int .i64 b2) ∧ w'.cell? ⟨w3.heap.size, 0, none⟩ = some (.int .i64 b1) ∧ w'.cell? ⟨w3.heap.size, 1, none⟩ = some (.int .i64 a2))
          ((first
            | (with_reducible assumption)
            | exact (HH).out _ (Below.refl _ _).drew
            | exact (HH).out _ (Below_same hh hw)
            | exact (HH).out _ ((‹Below _ _ _ ∧ _›).1.alloc (‹Below _ _ _ ∧ _›).1.size _)))
          (first
            | (go_at_call 11; have hh := (‹Below _ _ _ ∧ _›).1; (with_reducible refine (both_eq (b1, b2) (a1, a2) (b1, a2) H2.out _).mono ?_); rintro e w' ⟨rfl, hw⟩)
            | (go_at_call 11; have hh := (‹Below _ _ _ ∧ _›).1; (with_reducible refine (both_eq (b1, a2) (a1, a2) (b1, a2) H3.out _).mono ?_); rintro e w' ⟨rfl, hw⟩)
            | (go_at_call 7; have hh := (‹Below _ _ _ ∧ _›).1; (with_reducible refine (sum_any (a1, 0) a1 H4.out _).mono ?_); rintro e w' ⟨rfl, hw⟩)
            | (go_at_call 9; have hh := (‹Below _ _ _ ∧ _›).1; (with_reducible refine (works_any _).mono ?_); rintro e w' ⟨rfl, hw⟩))
        have b5 := (‹Below w4.heap.size w4 _ ∧ _›).1
        go_wp2_with fail
        go_ret
        exact ⟨rfl, Below_same b4 b5⟩
      · go_wp2_with (fail)
        clear k0 k1 k2 k3
        have B9 := Blk_new w3 24 #[.int .i64 b1, .int .i64 b2]
        have B8' := Blk_alloc B8 (.cells #[.int .i64 b1, .int .i64 b2] 24)
        have B7 := Blk_alloc B7' (.cells #[.int .i64 b1, .int .i64 b2] 24)
        have b4 : Below w.heap.size w (w3.alloc (.cells #[.int .i64 b1, .int .i64 b2] 24)) := by (repeat' (first | (with_reducible exact Below.refl _ _) | (with_reducible assumption) | (with_reducible refine Below.alloc ?_ ?_ _) | (with_reducible refine Below.drew ?_) | (with_reducible refine Below_drewN ?_ _) | (with_reducible refine Below.setCell ?_ ?_ _) | go_size))
        generalize w3.alloc (.cells #[.int .i64 b1, .int .i64 b2] 24) = w4 at *
        have hS : ∀ w', Below w4.heap.size w4 w' → Below w4.heap.size w4 w' ∧ w'.cell? ⟨w1.heap.size, 0, none⟩ = some (.int .i64 a1) ∧ w'.cell? ⟨w1.heap.size, 1, none⟩ = some (.int .i64 a2) ∧ w'.cell? ⟨w2.heap.size, 0, none⟩ = some (.int .i64 b1) ∧ w'.cell? ⟨w2.heap.size, 1, none⟩ = some (.int .i64 b2) ∧ w'.cell? ⟨w3.heap.size, 0, none⟩ = some (.int .i64 b1) ∧ w'.cell? ⟨w3.heap.size, 1, none⟩ = some (.int .i64 b2) :=
          fun w' h => ⟨h, Blk_cell (Blk_below B7 h (Blk_lt B7)) 0, Blk_cell (Blk_below B7 h (Blk_lt B7)) 1, Blk_cell (Blk_below B8' h (Blk_lt B8')) 0, Blk_cell (Blk_below B8' h (Blk_lt B8')) 1, Blk_cell (Blk_below B9 h (Blk_lt B9)) 0, Blk_cell (Blk_below B9 h (Blk_lt B9)) 1⟩
        have HH := Lib.hid hS
        clear hS
        go_region_held3 (fun w' => Below w4.heap.size w4 w' ∧ w'.cell? ⟨w1.heap.size, 0, none⟩ = some (.int .i64 a1) ∧ w'.cell? ⟨w1.heap.size, 1, none⟩ = some (.int .i64 a2) ∧ w'.cell? ⟨w2.heap.size, 0, none⟩ = some (.int .i64 b1) ∧ w'.cell? ⟨w2.heap.size, 1, none⟩ = some (.int .i64 b2) ∧ w'.cell? ⟨w3.heap.size, 0, none⟩ = some (.int .i64 b1) ∧ w'.cell? ⟨w3.heap.size, 1, none⟩ = some (.int .i64 b2))
          ((first
            | (with_reducible assumption)
            | exact (HH).out _ (Below.refl _ _).drew
            | exact (HH).out _ (Below_same hh hw)
            | exact (HH).out _ ((‹Below _ _ _ ∧ _›).1.alloc (‹Below _ _ _ ∧ _›).1.size _)))
          (first
            | (go_at_call 11; have hh := (‹Below _ _ _ ∧ _›).1; (with_reducible refine (both_eq (b1, b2) (a1, a2) (b1, b2) H2.out _).mono ?_); rintro e w' ⟨rfl, hw⟩)
            | (go_at_call 11; have hh := (‹Below _ _ _ ∧ _›).1; (with_reducible refine (both_eq (b1, b2) (a1, a2) (b1, b2) H3.out _).mono ?_); rintro e w' ⟨rfl, hw⟩)
            | (go_at_call 7; have hh := (‹Below _ _ _ ∧ _›).1; (with_reducible refine (sum_any (a1, 0) a1 H4.out _).mono ?_); rintro e w' ⟨rfl, hw⟩)
            | (go_at_call 9; have hh := (‹Below _ _ _ ∧ _›).1; (with_reducible refine (works_any _).mono ?_); rintro e w' ⟨rfl, hw⟩))
        have b5 := (‹Below w4.heap.size w4 _ ∧ _›).1
        go_wp2_with fail
        go_ret
        exact ⟨rfl, Below_same b4 b5⟩
end Go.Proofs.Ytappccoomljiaaa
