import Derived.Test.YtappccoomljiaaaR
import Derived.Test.YtappccoomljiaaaW
namespace Go.Proofs.Ytappccoomljiaaa
open Go.RowKit

theorem fo_app (l m : List Int) : fo (l ++ m) = m.foldl put (fo l) := by unfold fo; rw [List.foldl_append]
/-- What a fold comes to from another start that lies on both sides of 0. -/
theorem foldl_put (m : List Int) (p : Int × Int) (h1 : 0 ≤ p.1) (h2 : p.2 ≤ 0) : m.foldl put p = (max p.1 (fo m).1, min p.2 (fo m).2) := by
  have key : ∀ (m : List Int) (p q : Int × Int), m.foldl put (max p.1 q.1, min p.2 q.2) = (max p.1 (m.foldl put q).1, min p.2 (m.foldl put q).2) := by
    intro m
    induction m with
    | nil => intro p q; rfl
    | cons x m ih =>
      intro p q
      simp only [List.foldl_cons]
      rw [show put (max p.1 q.1, min p.2 q.2) x = (max p.1 (put q x).1, min p.2 (put q x).2) from by unfold put; ext <;> simp <;> omega]
      exact ih p (put q x)
  have := key m p (0, 0)
  rw [show ((max p.1 ((0, 0) : Int × Int).1, min p.2 ((0, 0) : Int × Int).2) : Int × Int) = p from by ext <;> simp <;> omega] at this
  exact this
theorem fo_two (l m : List Int) : fo [(fo l).1, (fo l).2, (fo m).1, (fo m).2] = fo (l ++ m) := by
  have hl := fo_sign l
  have hm := fo_sign m
  rw [fo_app, foldl_put m (fo l) hl.1 hl.2]
  show put (put (put (put (0, 0) (fo l).1) (fo l).2) (fo m).1) (fo m).2 = _
  unfold put
  ext <;> simp <;> omega
theorem joined_eq (xs : List Int) (f : Int × Int) (hf : fo xs = f) (A : Option Addr) (n c : Nat) (w : World) (hI : Ints .i64 w A n xs) (hl : n ≤ 1000) :
    Calls Try.prog 8 #[.slice A n c] w fun e w' => e = .returned (sv f) ∧ Below w.heap.size w w' := by
  have h := hI.len_eq
  subst h; subst hf
  exact joined_any xs A c w hI hl
theorem both_eq (p q f : Int × Int) (hf : fo [p.1, p.2, q.1, q.2] = f) (w : World) :
    Calls Try.prog 11 #[.agg #[.int .i64 p.1, .int .i64 p.2], .agg #[.int .i64 q.1, .int .i64 q.2]] w fun e w' => e = .returned (.agg #[.int .i64 f.1, .int .i64 f.2]) ∧ Below w.heap.size w w' := by
  subst hf
  exact both_any p q w

set_option maxHeartbeats 400000 in
theorem rboth_any (p q : Int × Int) (w : World) :
    Calls Try.prog 13 #[sv p, sv q] w fun e w' => e = .returned (sv (fo [p.1, p.2, q.1, q.2])) ∧ Below w.heap.size w w' := by
  unfold sv
  go_enter Try.func13, Try.ntmps13
  go_wp2_with fail
  have h3 := Blk_new (((w.alloc (.cells #[.int .i64 p.1, .int .i64 p.2] 24)).alloc (.cells #[.int .i64 q.1, .int .i64 q.2] 24)).alloc (.cells #[.int .i64 0, .int .i64 0] 24)) 2 #[.int .i64 p.1, .int .i64 p.2, .int .i64 q.1, .int .i64 q.2]
  simp only [World.size_alloc] at h3
  refine (rof_any [p.1, p.2, q.1, q.2] _ 4 _ (Ints.of_blk h3) (by simp)).mono ?_
  rintro e w' ⟨rfl, hw⟩
  have h2 := Blk_below (Blk_alloc (Blk_new ((w.alloc (.cells #[.int .i64 p.1, .int .i64 p.2] 24)).alloc (.cells #[.int .i64 q.1, .int .i64 q.2] 24)) 24 #[.int .i64 0, .int .i64 0]) _) hw (by simp)
  simp only [World.size_alloc] at h2
  have e0 := Blk_cell h2 0
  have e1 := Blk_cell h2 1
  have f0 := Blk_frozen h2 0
  have f1 := Blk_frozen h2 1
  have hb : Below w.heap.size w w' := Below.trans (by (repeat' (first | (with_reducible exact Below.refl _ _) | (with_reducible assumption) | (with_reducible refine Below.alloc ?_ ?_ _) | (with_reducible refine Below.drew ?_) | (with_reducible refine Below_drewN ?_ _) | (with_reducible refine Below.setCell ?_ ?_ _) | go_size))) (hw.mono (by simp; omega))
  clear h3 hw h2
  go_wp2_with fail
  refine bodyPost_ret (v := .agg #[.int .i64 (fo [p.1, p.2, q.1, q.2]).1, .int .i64 (fo [p.1, p.2, q.1, q.2]).2]) (by simp [results, Try.results13, go_sem, e0, e1]) rfl ⟨rfl, by (repeat' (first | (with_reducible exact Below.refl _ _) | (with_reducible assumption) | (with_reducible refine Below.alloc ?_ ?_ _) | (with_reducible refine Below.drew ?_) | (with_reducible refine Below_drewN ?_ _) | (with_reducible refine Below.setCell ?_ ?_ _) | go_size))⟩
theorem rboth_eq (p q f : Int × Int) (hf : fo [p.1, p.2, q.1, q.2] = f) (w : World) :
    Calls Try.prog 13 #[.agg #[.int .i64 p.1, .int .i64 p.2], .agg #[.int .i64 q.1, .int .i64 q.2]] w fun e w' => e = .returned (.agg #[.int .i64 f.1, .int .i64 f.2]) ∧ Below w.heap.size w w' := by
  subst hf
  exact rboth_any p q w

theorem i64_info : (Try.prog.info? 2).map (fun i => (i.zero, i.size, i.bytes)) = some (some (.int .i64 0), 1, 8) := by kernel_rfl
def InStrut (p : Int × Int) : Prop := -9223372036854775808 ≤ p.1 ∧ p.1 ≤ 9223372036854775807 ∧ -9223372036854775808 ≤ p.2 ∧ p.2 ≤ 9223372036854775807

set_option maxHeartbeats 1000000 in
theorem plays_any (xs : List Int) (A : Option Addr) (c : Nat) (cut : Int) (p q : Int × Int) (w : World) (hI : Ints .i64 w A xs.length xs) (hcap : xs.length ≤ c) (hmax : c ≤ maxLen) (hcut : 0 ≤ cut ∧ cut ≤ 255) :
    Calls Try.prog 4 #[.slice A xs.length c, .int .u8 cut, sv p, sv q] w fun e w' => e = .returned (.bool true) ∧ Below w.heap.size w w' := by
  unfold maxLen at hmax
  obtain ⟨hc0, hc1⟩ := hcut
  by_cases hbig : 200 < xs.length
  · unfold sv
    go_enter Try.func4, Try.ntmps4
    go_wp2_with (go_at_call 9; refine (works_any _).mono ?_; rintro e w1 ⟨rfl, h1⟩)
    go_ret
    exact ⟨rfl, Below.trans (by (repeat' (first | (with_reducible exact Below.refl _ _) | (with_reducible assumption) | (with_reducible refine Below.alloc ?_ ?_ _) | (with_reducible refine Below.drew ?_) | (with_reducible refine Below_drewN ?_ _) | (with_reducible refine Below.setCell ?_ ?_ _) | go_size))) (h1.mono (by simp; omega))⟩
  · unfold sv
    obtain ⟨k, hk, hkl⟩ : ∃ k : Nat, cut % ((xs.length : Int) + 1) = (k : Int) ∧ k ≤ xs.length := by
      have h1 := Int.emod_nonneg cut (show (xs.length : Int) + 1 ≠ 0 by omega)
      have h2 := Int.emod_lt_of_pos cut (show (0 : Int) < (xs.length : Int) + 1 by omega)
      exact ⟨(cut % ((xs.length : Int) + 1)).toNat, by omega, by omega⟩
    go_enter Try.func4, Try.ntmps4
    go_wp2_with fail
    refine (rof_any xs A c _ ?_ (by omega)).mono ?_
    · exact hI.mono (by (repeat' (first | (with_reducible exact Below.refl _ _) | (with_reducible assumption) | (with_reducible refine Below.alloc ?_ ?_ _) | (with_reducible refine Below.drew ?_) | (with_reducible refine Below_drewN ?_ _) | (with_reducible refine Below.setCell ?_ ?_ _) | go_size)))
    rintro e w1 ⟨rfl, h1⟩
    have b1 : Below w.heap.size w w1 := Below.trans (by (repeat' (first | (with_reducible exact Below.refl _ _) | (with_reducible assumption) | (with_reducible refine Below.alloc ?_ ?_ _) | (with_reducible refine Below.drew ?_) | (with_reducible refine Below_drewN ?_ _) | (with_reducible refine Below.setCell ?_ ?_ _) | go_size))) (h1.mono (by simp; omega))
    have B6 : Blk w1 w.heap.size 24 #[.int .i64 p.1, .int .i64 p.2] := Blk_below (w := (w.alloc (.cells #[.int .i64 p.1, .int .i64 p.2] 24)).alloc (.cells #[.int .i64 q.1, .int .i64 q.2] 24)) (by (repeat' (first | (with_reducible assumption) | (with_reducible exact Blk_new _ _ _) | (with_reducible refine Blk_drew ?_) | (with_reducible refine Blk_drewN ?_ _) | (with_reducible refine Blk_alloc ?_ _) | (with_reducible refine Blk_far ?_ ?_ _) | (simp; done) | (simp; omega)))) h1 (by simp; omega)
    have B7 : Blk w1 (w.heap.size + 1) 24 #[.int .i64 q.1, .int .i64 q.2] := Blk_below (w := (w.alloc (.cells #[.int .i64 p.1, .int .i64 p.2] 24)).alloc (.cells #[.int .i64 q.1, .int .i64 q.2] 24)) (by simpa using Blk_new (w.alloc (.cells #[.int .i64 p.1, .int .i64 p.2] 24)) 24 _) h1 (by simp)
    have hsz := h1.size
    simp only [World.size_alloc] at hsz
    clear h1
    have HS := Lib.hid (fo_two (xs.take k) (xs.drop k))
    rw [List.take_append_drop] at HS
    obtain ⟨f, hf⟩ : ∃ f, fo xs = f := ⟨_, rfl⟩
    obtain ⟨f1, hf1⟩ : ∃ f, fo (xs.take k) = f := ⟨_, rfl⟩
    obtain ⟨f2, hf2⟩ : ∃ f, fo (xs.drop k) = f := ⟨_, rfl⟩
    rw [hf, hf1, hf2] at HS
    rw [hf]
    have HF := Lib.hid hf
    have HF1 := Lib.hid hf1
    have HF2 := Lib.hid hf2
    clear hf hf1 hf2
    go_wp2_with fail
    have hI1 := hI.mono b1
    have B0 := Blk_new w1 24 #[.int .i64 f.1, .int .i64 f.2]
    have B6' := Blk_alloc B6 (.cells #[.int .i64 f.1, .int .i64 f.2] 24)
    have B7' := Blk_alloc B7 (.cells #[.int .i64 f.1, .int .i64 f.2] 24)
    have b2 : Below w1.heap.size w1 (w1.alloc (.cells #[.int .i64 f.1, .int .i64 f.2] 24)) := by (repeat' (first | (with_reducible exact Below.refl _ _) | (with_reducible assumption) | (with_reducible refine Below.alloc ?_ ?_ _) | (with_reducible refine Below.drew ?_) | (with_reducible refine Below_drewN ?_ _) | (with_reducible refine Below.setCell ?_ ?_ _) | go_size))
    generalize w1.alloc (.cells #[.int .i64 f.1, .int .i64 f.2] 24) = w2 at *
    have hI2 := hI1.mono b2
    have hS : ∀ w', Below w2.heap.size w2 w' → Below w2.heap.size w2 w' ∧ w'.cell? ⟨w1.heap.size, 0, none⟩ = some (.int .i64 f.1) ∧ w'.cell? ⟨w1.heap.size, 1, none⟩ = some (.int .i64 f.2) :=
      fun w' h => ⟨h, Blk_cell (Blk_below B0 h (Blk_lt B0)) 0, Blk_cell (Blk_below B0 h (Blk_lt B0)) 1⟩
    have HH := Lib.hid hS
    clear hS B6 B7 hI hI1
    have k0 : (0 : Int) ≤ (k : Int) := Int.natCast_nonneg _
    have k1 : (k : Int) ≤ (xs.length : Int) := by omega
    have k2 : (k : Int) ≤ (c : Int) := by omega
    obtain ⟨i0, hi, hz0, hz1, hz2⟩ := info_parts i64_info
    have hcut := fun w => run_from Try.underlying26 hi A xs.length c k hkl w
    rw [hz1] at hcut
    have hI3 := hI2.cut hkl hcap
    generalize cutAt A c k 1 = D at hcut hI3
    clear hi hz0 hz1 hz2
    go_region_held3 (fun w' => Below w2.heap.size w2 w' ∧ w'.cell? ⟨w1.heap.size, 0, none⟩ = some (.int .i64 f.1) ∧ w'.cell? ⟨w1.heap.size, 1, none⟩ = some (.int .i64 f.2))
      ((first
        | (with_reducible assumption)
        | exact (HH).out _ (Below.refl _ _).drew
        | exact (HH).out _ (Below_same hh hw)
        | exact (HH).out _ ((‹Below _ _ _ ∧ _›).1.alloc (‹Below _ _ _ ∧ _›).1.size _)))
      (first
        | (go_at_call 8; have hh := (‹Below _ _ _ ∧ _›).1; (with_reducible refine (joined_eq xs f HF.out A _ c _ (hI2.mono hh) (by omega)).mono ?_); rintro e w' ⟨rfl, hw⟩)
        | (go_at_call 8; have hh := (‹Below _ _ _ ∧ _›).1; (with_reducible refine (joined_eq (xs.take k) f1 HF1.out A _ _ _ ((hI2.mono hh).take hkl) (by omega)).mono ?_); rintro e w' ⟨rfl, hw⟩)
        | (go_at_call 8; have hh := (‹Below _ _ _ ∧ _›).1; (with_reducible refine (joined_eq (xs.drop k) f2 HF2.out _ _ _ _ (hI3.mono hh) (by omega)).mono ?_); rintro e w' ⟨rfl, hw⟩)
        | (go_at_call 11; have hh := (‹Below _ _ _ ∧ _›).1; (with_reducible refine (both_eq f1 f2 f HS.out _).mono ?_); rintro e w' ⟨rfl, hw⟩)
        | (go_at_call 7; have hh := (‹Below _ _ _ ∧ _›).1; (with_reducible refine (sum_any f _ rfl _).mono ?_); rintro e w' ⟨rfl, hw⟩)
        | (go_at_call 12; have hh := (‹Below _ _ _ ∧ _›).1; (with_reducible refine (rsum_any f _ rfl _).mono ?_); rintro e w' ⟨rfl, hw⟩))
    have b3 := (‹Below w2.heap.size w2 _ ∧ _›).1
    have C6 := Blk_below B6' b3 (Blk_lt B6')
    have C7 := Blk_below B7' b3 (Blk_lt B7')
    have bW : Below w.heap.size w w' := Below_same (Below_same b1 b2) b3
    have hw7 : w.heap.size + 1 < w'.heap.size := Blk_lt C7
    clear b3 hcut hI3 hI2 b2 b1 B6' B7' B0 HH hw hh
    have d0 := Blk_cell C6 0
    have d1 := Blk_cell C6 1
    have d2 := Blk_cell C7 0
    have d3 := Blk_cell C7 1
    by_cases hs : p.1 < 0 ∨ 0 < p.2 ∨ q.1 < 0 ∨ 0 < q.2
    · by_cases t1 : p.1 < 0
      · go_wp2_with (go_at_call 9; refine (works_any _).mono ?_; rintro e w5 ⟨rfl, h5⟩)
        go_ret
        exact ⟨rfl, Below_same bW h5⟩
      by_cases t2 : 0 < p.2
      · go_wp2_with (go_at_call 9; refine (works_any _).mono ?_; rintro e w5 ⟨rfl, h5⟩)
        go_ret
        exact ⟨rfl, Below_same bW h5⟩
      by_cases t3 : q.1 < 0
      · go_wp2_with (go_at_call 9; refine (works_any _).mono ?_; rintro e w5 ⟨rfl, h5⟩)
        go_ret
        exact ⟨rfl, Below_same bW h5⟩
      have t4 : 0 < q.2 := by omega
      go_wp2_with (go_at_call 9; refine (works_any _).mono ?_; rintro e w5 ⟨rfl, h5⟩)
      go_ret
      exact ⟨rfl, Below_same bW h5⟩
    · have t1 : ¬ p.1 < 0 := by omega
      have t2 : ¬ 0 < p.2 := by omega
      have t3 : ¬ q.1 < 0 := by omega
      have t4 : ¬ 0 < q.2 := by omega
      clear hs
      go_wp2_with fail
      obtain ⟨w3, hw3⟩ : ∃ w3, w3 = w' := ⟨_, rfl⟩
      subst hw3
      have hS : ∀ w', Below w3.heap.size w3 w' → Below w3.heap.size w3 w' ∧ w'.cell? ⟨w.heap.size, 0, none⟩ = some (.int .i64 p.1) ∧ w'.cell? ⟨w.heap.size, 1, none⟩ = some (.int .i64 p.2) ∧
          w'.cell? ⟨w.heap.size + 1, 0, none⟩ = some (.int .i64 q.1) ∧ w'.cell? ⟨w.heap.size + 1, 1, none⟩ = some (.int .i64 q.2) :=
        fun w' h => ⟨h, Blk_cell (Blk_below C6 h (Blk_lt C6)) 0, Blk_cell (Blk_below C6 h (Blk_lt C6)) 1, Blk_cell (Blk_below C7 h (Blk_lt C7)) 0, Blk_cell (Blk_below C7 h (Blk_lt C7)) 1⟩
      have HH := Lib.hid hS
      clear hS
      obtain ⟨f3, hf3⟩ : ∃ f, fo [p.1, p.2, q.1, q.2] = f := ⟨_, rfl⟩
      have HF3 := Lib.hid hf3
      clear hf3
      go_region_held3 (fun w' => Below w3.heap.size w3 w' ∧ w'.cell? ⟨w.heap.size, 0, none⟩ = some (.int .i64 p.1) ∧ w'.cell? ⟨w.heap.size, 1, none⟩ = some (.int .i64 p.2) ∧
          w'.cell? ⟨w.heap.size + 1, 0, none⟩ = some (.int .i64 q.1) ∧ w'.cell? ⟨w.heap.size + 1, 1, none⟩ = some (.int .i64 q.2))
        ((first
          | (with_reducible assumption)
          | exact (HH).out _ (Below.refl _ _).drew
          | exact (HH).out _ (Below_same hh hw)
          | exact (HH).out _ ((‹Below _ _ _ ∧ _›).1.alloc (‹Below _ _ _ ∧ _›).1.size _)))
        (first
          | (go_at_call 11; have hh := (‹Below _ _ _ ∧ _›).1; (with_reducible refine (both_eq p q f3 HF3.out _).mono ?_); rintro e w' ⟨rfl, hw⟩)
          | (go_at_call 13; have hh := (‹Below _ _ _ ∧ _›).1; (with_reducible refine (rboth_eq p q f3 HF3.out _).mono ?_); rintro e w' ⟨rfl, hw⟩)
          | (go_at_call 9; have hh := (‹Below _ _ _ ∧ _›).1; (with_reducible refine (works_any _).mono ?_); rintro e w' ⟨rfl, hw⟩))
      have b4 := (‹Below w3.heap.size w3 _ ∧ _›).1
      go_wp2_with fail
      go_ret
      exact ⟨rfl, Below_same bW b4⟩
end Go.Proofs.Ytappccoomljiaaa
