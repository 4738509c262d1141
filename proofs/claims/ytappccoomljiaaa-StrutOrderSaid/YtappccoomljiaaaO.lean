import Derived.Test.YtappccoomljiaaaF
import Derived.Test.YtappccoomljiaaaCom2
namespace Go.Proofs.Ytappccoomljiaaa
open Go.RowKit

theorem fo_le_iff (l : List Int) (h : Int) : (fo l).1 ≤ h ↔ 0 ≤ h ∧ ∀ x ∈ l, x ≤ h := by
  have key : ∀ (l : List Int) (p : Int × Int), (l.foldl put p).1 ≤ h ↔ p.1 ≤ h ∧ ∀ x ∈ l, x ≤ h := by
    intro l
    induction l with
    | nil => intro p; simp
    | cons x l ih =>
      intro p
      rw [List.foldl_cons, ih]
      unfold put
      simp only [List.mem_cons, forall_eq_or_imp]
      constructor
      · rintro ⟨h1, h2⟩; exact ⟨by omega, by omega, h2⟩
      · rintro ⟨h1, h2, h3⟩; exact ⟨by omega, h3⟩
  exact key l (0, 0)
theorem fo_ge_iff (l : List Int) (h : Int) : h ≤ (fo l).2 ↔ h ≤ 0 ∧ ∀ x ∈ l, h ≤ x := by
  have key : ∀ (l : List Int) (p : Int × Int), h ≤ (l.foldl put p).2 ↔ h ≤ p.2 ∧ ∀ x ∈ l, h ≤ x := by
    intro l
    induction l with
    | nil => intro p; simp
    | cons x l ih =>
      intro p
      rw [List.foldl_cons, ih]
      unfold put
      simp only [List.mem_cons, forall_eq_or_imp]
      constructor
      · rintro ⟨h1, h2⟩; exact ⟨by omega, by omega, h2⟩
      · rintro ⟨h1, h2, h3⟩; exact ⟨by omega, h3⟩
  exact key l (0, 0)
theorem fo_same {l m : List Int} (h : ∀ x, x ∈ l ↔ x ∈ m) : fo l = fo m := by
  have a1 := (fo_le_iff l (fo m).1).2 (by have := (fo_le_iff m (fo m).1).1 (Int.le_refl _); exact ⟨this.1, fun x hx => this.2 x ((h x).1 hx)⟩)
  have a2 := (fo_le_iff m (fo l).1).2 (by have := (fo_le_iff l (fo l).1).1 (Int.le_refl _); exact ⟨this.1, fun x hx => this.2 x ((h x).2 hx)⟩)
  have b1 := (fo_ge_iff l (fo m).2).2 (by have := (fo_ge_iff m (fo m).2).1 (Int.le_refl _); exact ⟨this.1, fun x hx => this.2 x ((h x).1 hx)⟩)
  have b2 := (fo_ge_iff m (fo l).2).2 (by have := (fo_ge_iff l (fo l).2).1 (Int.le_refl _); exact ⟨this.1, fun x hx => this.2 x ((h x).2 hx)⟩)
  ext <;> omega
/-- What the law appends: from the end on, and from the start on. -/
def bk (xs : List Int) : Nat → List Int
  | 0 => []
  | k + 1 => bk xs k ++ [xs.getD (xs.length - 1 - k) 0, xs.getD k 0]
theorem bk_len (xs : List Int) (k : Nat) : (bk xs k).length = 2 * k := by
  induction k with
  | zero => rfl
  | succ k ih => simp [bk, ih]; omega
theorem mem_bk (xs : List Int) (x : Int) : ∀ k, k ≤ xs.length → (x ∈ bk xs k → x ∈ xs) ∧ (∀ j, j < k → xs.getD j 0 ∈ bk xs k) := by
  have get : ∀ j, j < xs.length → xs.getD j 0 ∈ xs := fun j hj => by simp [List.getD, hj]
  intro k
  induction k with
  | zero => intro _; exact ⟨fun h => by simp [bk] at h, fun j hj => by omega⟩
  | succ k ih =>
    intro hk
    obtain ⟨i1, i2⟩ := ih (by omega)
    refine ⟨fun h => ?_, fun j hj => ?_⟩
    · simp only [bk, List.mem_append, List.mem_cons, List.not_mem_nil, or_false] at h
      rcases h with h | rfl | rfl
      · exact i1 h
      · exact get _ (by omega)
      · exact get _ (by omega)
    · simp only [bk, List.mem_append, List.mem_cons, List.not_mem_nil, or_false]
      rcases Nat.lt_succ_iff_lt_or_eq.1 hj with h | rfl
      · exact .inl (i2 j h)
      · exact .inr (.inr rfl)
theorem fo_bk (xs : List Int) : fo (bk xs xs.length) = fo xs := by
  apply fo_same
  intro x
  obtain ⟨h1, h2⟩ := mem_bk xs x xs.length (Nat.le_refl _)
  refine ⟨h1, fun h => ?_⟩
  obtain ⟨j, hj, rfl⟩ := List.mem_iff_getElem.1 h
  have := h2 j hj
  simpa [List.getD, hj] using this

set_option maxRecDepth 100000 in
set_option maxHeartbeats 2000000 in
theorem order_any (xs : List Int) (A : Option Addr) (c : Nat) (w : World) (hI : Ints .i64 w A xs.length xs) (hx : ∀ x ∈ xs, (Lit.int .i64 x).wf = true) (hm1 : xs.length ≤ maxLen) :
    Calls Try.prog 5 #[.slice A xs.length c] w fun e w' => e = .returned (.bool true) ∧ Below w.heap.size w w' := by
  unfold maxLen at hm1
  by_cases hbig : 200 < xs.length
  · go_enter Try.func5, Try.ntmps5
    go_wp2_with (go_at_call 9; refine (works_any _).mono ?_; rintro e w1 ⟨rfl, h1⟩)
    go_ret
    exact ⟨rfl, h1⟩
  obtain ⟨i0, hi0, hz0, hz1, hz2⟩ := info_parts i64_info
  go_enter Try.func5, Try.ntmps5
  go_wp2_with fail
  go_loopw [3, 4, 5, 6, 12, 13, 14, 15, 16, 17, 18, 19, 20, 21, 22, 23, 24, 25, 26, 27, 28, 29, 30, 31, 32, 33, 34, 35, 36, 37, 38, 39, 40, 41, 42, 43, 44, 45, 46, 47, 48, 49, 50, 51, 52, 53, 54, 55, 56, 57] (fun b lo hi i _ _ _ _ _ _ _ _ _ _ _ _ _ _ _ _ _ _ _ _ _ _ _ _ _ _ _ _ _ _ _ _ _ _ _ _ _ _ _ _ _ _ _ _ _ _ wr => ∃ k : Nat, k ≤ xs.length ∧ i = .int .i64 k ∧ lo = .int .i64 (fo (xs.take k)).2 ∧ hi = .int .i64 (fo (xs.take k)).1 ∧ Below w.heap.size w wr ∧ wr.ownsRow w.heap.size 2 1 b (2 * k) ((bk xs k).map (Value.int .i64))) (fun _ _ _ i _ _ _ _ _ _ _ _ _ _ _ _ _ _ _ _ _ _ _ _ _ _ _ _ _ _ _ _ _ _ _ _ _ _ _ _ _ _ _ _ _ _ _ _ _ _ _ => xs.length - (intOf i).toNat)
  case atStart => exact ⟨0, by omega, rfl, rfl, rfl, Below.refl _ _, World.ownsRow_nil _ _ _ _⟩
  case round =>
    obtain ⟨k, hk, rfl, rfl, rfl, hb, hown⟩ := hrel
    by_cases hlt : k < xs.length
    · obtain ⟨b, off, rfl, hB, hc⟩ := hI.at_ (by omega)
      have cx : wr.cell? ⟨b, off + k, none⟩ = some (.int .i64 (xs.getD k 0)) := (hb.cell hB).trans (hc k hlt)
      have cy : wr.cell? ⟨b, off + (xs.length - 1 - k), none⟩ = some (.int .i64 (xs.getD (xs.length - 1 - k) 0)) := (hb.cell hB).trans (hc (xs.length - 1 - k) (by omega))
      have hsn : fo (xs.take (k + 1)) = put (fo (xs.take k)) (xs.getD k 0) := by
        rw [List.take_succ_eq_append_getElem hlt, fo_snoc]; simp [hlt]
      have hbk : bk xs (k + 1) = bk xs k ++ [xs.getD (xs.length - 1 - k) 0, xs.getD k 0] := rfl
      obtain ⟨v, hv⟩ : ∃ v, v = xs.getD k 0 := ⟨_, rfl⟩
      obtain ⟨u, hu⟩ : ∃ u, u = xs.getD (xs.length - 1 - k) 0 := ⟨_, rfl⟩
      obtain ⟨q, hq⟩ : ∃ q, q = fo (xs.take k) := ⟨_, rfl⟩
      rw [← hv] at cx hsn hbk
      rw [← hu] at cy hbk
      have hsg := fo_sign (xs.take k)
      rw [← hq] at hsn hsg ⊢
      obtain ⟨sg1, sg2⟩ := hsg
      clear hv hu hc hq
      have HS := Lib.hid hsn
      have HB := Lib.hid hbk
      clear hsn hbk
      by_cases t1 : 1152921504606846976 < v ∨ v < -1152921504606846976
      · rcases t1 with t1 | t1
        all_goals
          go_wp2_with (go_at_call 9; refine (works_any _).mono ?_; rintro e w1 ⟨rfl, h1⟩)
          go_ret
          exact ⟨rfl, Below_same hb h1⟩
      · have t2 : ¬ 1152921504606846976 < v := by omega
        have t3 : ¬ v < -1152921504606846976 := by omega
        have k0 : (0 : Int) ≤ (k : Int) := Int.natCast_nonneg _
        have k1 : (k : Int) < (xs.length : Int) := by omega
        clear t1
        go_wp2_with fail
        have hz := hb.size
        obtain ⟨j, hj⟩ : ∃ j : Nat, xs.length - 1 - k = j := ⟨_, rfl⟩
        rw [hj] at cy
        have w1 : IntKind.i64.wrap ((xs.length : Int) - 1) = (xs.length : Int) - 1 := IntWalk.i64_in _ (by omega)
        have w2 : IntKind.i64.wrap ((xs.length : Int) - 1 - (k : Int)) = (j : Int) := by rw [IntWalk.i64_in _ (by omega)]; omega
        have j0 : (0 : Int) ≤ (j : Int) := Int.natCast_nonneg _
        have j1 : (j : Int) < (xs.length : Int) := by omega
        clear hj
        go_region_held3 (fun w' => w'.cell? ⟨b, off + j, none⟩ = some (.int .i64 u) ∧ w'.cell? ⟨b, off + k, none⟩ = some (.int .i64 v))
          (first
            | (with_reducible assumption)
            | exact ⟨cy, cx⟩
            | exact ⟨(World.cell?_alloc_lt _ _ _ (by simp; omega)).trans (‹_ ∧ _›).1, (World.cell?_alloc_lt _ _ _ (by simp; omega)).trans (‹_ ∧ _›).2⟩
            | exact ⟨(hgrow.cell_far _ (by simp; omega) (own_ne hown hB)).trans (‹_ ∧ _›).1, (hgrow.cell_far _ (by simp; omega) (own_ne hown hB)).trans (‹_ ∧ _›).2⟩)
          ((refine step_append_lies _ (by rfl) _ _ _ (by rfl) w.heap.size 2 i0 _ 1 8 Try.underlying26 hi0 hz0 hz1 hz2 rfl (by omega) u3 (2 * k) ((bk xs k).map (Value.int .i64)) (by rfl) ((hown.alloc _).drew)
             ⟨wr.heap.size, 0, none⟩ 2 2 [.int .i64 u, .int .i64 v] (by rfl) (by rfl) (World.news_of_block (cs := #[.int .i64 u, .int .i64 v]) (t := 2) (fr := (0, 0)) (heap_alloc_new wr _)) (by simp [Value.oneCell'])
             (by omega) (by simp only [maxLen]; omega) (by omega) (by simp; omega) (wr.heap.size + 1) (by simp) ?_; intro gg cap w9 hown1 hgrow hat hltg))
        clear w1 w2
        have cx' : w9.cell? ⟨b, off + k, none⟩ = some (.int .i64 v) := (‹_ ∧ _›).2
        have hb9 : Below w.heap.size w w9 := (hb.drew.alloc (by simpa using hz) _).grown hgrow (by simp; omega) (fun g hg => (hown.lt g hg).1)
        have hrow : w9.ownsRow w.heap.size 2 1 (.slice (some ⟨gg, 0, none⟩) (2 * k + 2) cap) (2 * (k + 1)) ((bk xs (k + 1)).map (Value.int .i64)) := by
          rw [HB.out, show 2 * (k + 1) = 2 * k + 2 from by omega]; simpa using hown1
        have HR := Lib.hid hrow
        clear hown1 hrow hown cx cy hgrow hat
        by_cases u1 : q.1 < v
        · have u2 : ¬ v < q.2 := by omega
          have HP := Lib.hid (put_gt u1 u2)
          go_wp2_with fail
          go_roundw
          case rel => exact ⟨k + 1, by omega, by go_num, by rw [HS.out, HP.out], by rw [HS.out, HP.out], by (repeat' (first | (with_reducible exact Below.refl _ _) | (with_reducible assumption) | (with_reducible refine Below.alloc ?_ ?_ _) | (with_reducible refine Below.drew ?_) | (with_reducible refine Below_drewN ?_ _) | (with_reducible refine Below.setCell ?_ ?_ _) | go_size)), HR.out⟩
          case measure => simp [intOf]; omega
        · by_cases u2 : v < q.2
          · have HP := Lib.hid (put_lt u1 u2)
            go_wp2_with fail
            go_roundw
            case rel => exact ⟨k + 1, by omega, by go_num, by rw [HS.out, HP.out], by rw [HS.out, HP.out], by (repeat' (first | (with_reducible exact Below.refl _ _) | (with_reducible assumption) | (with_reducible refine Below.alloc ?_ ?_ _) | (with_reducible refine Below.drew ?_) | (with_reducible refine Below_drewN ?_ _) | (with_reducible refine Below.setCell ?_ ?_ _) | go_size)), HR.out⟩
            case measure => simp [intOf]; omega
          · have HP := Lib.hid (put_in u1 u2)
            go_wp2_with fail
            go_roundw
            case rel => exact ⟨k + 1, by omega, by go_num, by rw [HS.out, HP.out], by rw [HS.out, HP.out], by (repeat' (first | (with_reducible exact Below.refl _ _) | (with_reducible assumption) | (with_reducible refine Below.alloc ?_ ?_ _) | (with_reducible refine Below.drew ?_) | (with_reducible refine Below_drewN ?_ _) | (with_reducible refine Below.setCell ?_ ?_ _) | go_size)), HR.out⟩
            case measure => simp [intOf]; omega
    · have hfin : fo (xs.take k) = fo xs := by rw [List.take_of_length_le (by omega)]
      obtain rfl : k = xs.length := by omega
      have hbkf := fo_bk xs
      rw [hfin]
      have sa := fo_sign xs
      obtain ⟨u1, u2⟩ := fo_bd xs _ 9223372036854775807 (by omega) (by omega) (fun x h => bounds_i64 (hx x h))
      obtain ⟨⟨a1, a2⟩, hfa⟩ : ∃ f, fo xs = f := ⟨_, rfl⟩
      rw [hfa] at sa u1 u2 hbkf ⊢
      obtain ⟨sa1, sa2⟩ := sa
      simp only [] at sa1 sa2 u1 u2
      have e1 : fo [a1, a2, a1, a2] = (a1, a2) := by rw [fo4_eq sa1 sa2 sa1 sa2]; simp
      have e2 : fo [a1, a2, 0, 0] = (a1, a2) := by rw [fo4_eq sa1 sa2 (by omega) (by omega)]; ext <;> simp <;> omega
      obtain ⟨D, d, rfl, _, _⟩ := own_slice hown
      have hJ := Ints_of_own hown
      have hI1 := hI.mono hb
      have H0 := Lib.hid hfa
      have H1 := Lib.hid e1
      have H2 := Lib.hid e2
      have H3 := Lib.hid hbkf
      have H4 := Lib.hid (show wrap64 (a1 + a2) = a2 + a1 by rw [Int.add_comm]; exact IntWalk.wrap64_in _ ⟨by omega, by omega⟩)
      have W5 : IntKind.i64.wrap (a2 + a1) = a2 + a1 := IntWalk.i64_in _ (by omega)
      clear hfin hfa e1 e2 hbkf hown hx hI u1 u2
      go_wp2_with fail
      refine (joined_eq xs (a1, a2) H0.out A _ c _ hI1 (by omega)).mono ?_
      rintro e w1 ⟨rfl, h1⟩
      have hJ1 := hJ.mono h1
      have b1 := Below_same hb h1
      clear hI1 hJ h1
      go_wp2_with fail
      have B7 := Blk_new w1 24 #[.int .i64 a1, .int .i64 a2]
      have b2 : Below w1.heap.size w1 (w1.alloc (.cells #[.int .i64 a1, .int .i64 a2] 24)) := by (repeat' (first | (with_reducible exact Below.refl _ _) | (with_reducible assumption) | (with_reducible refine Below.alloc ?_ ?_ _) | (with_reducible refine Below.drew ?_) | (with_reducible refine Below_drewN ?_ _) | (with_reducible refine Below.setCell ?_ ?_ _) | go_size))
      generalize w1.alloc (.cells #[.int .i64 a1, .int .i64 a2] 24) = w2 at *
      have hJ2 := hJ1.mono b2
      have b3 := Below_same b1 b2
      have hS : ∀ w', Below w2.heap.size w2 w' → Below w2.heap.size w2 w' ∧ w'.cell? ⟨w1.heap.size, 0, none⟩ = some (.int .i64 a1) ∧ w'.cell? ⟨w1.heap.size, 1, none⟩ = some (.int .i64 a2) :=
        fun w' h => ⟨h, Blk_cell (Blk_below B7 h (Blk_lt B7)) 0, Blk_cell (Blk_below B7 h (Blk_lt B7)) 1⟩
      have HH := Lib.hid hS
      clear hS hJ1 b1 b2
      go_region_held3 (fun w' => Below w2.heap.size w2 w' ∧ w'.cell? ⟨w1.heap.size, 0, none⟩ = some (.int .i64 a1) ∧ w'.cell? ⟨w1.heap.size, 1, none⟩ = some (.int .i64 a2))
        ((first
          | (with_reducible assumption)
          | exact (HH).out _ (Below.refl _ _).drew
          | exact (HH).out _ (Below_same hh hw)
          | exact (HH).out _ ((‹Below _ _ _ ∧ _›).1.alloc (‹Below _ _ _ ∧ _›).1.size _)))
        (first
          | (go_at_call 8; have hh := (‹Below _ _ _ ∧ _›).1; (with_reducible refine (joined_eq (bk xs xs.length) (a1, a2) H3.out D _ d _ (hJ2.mono hh) (by omega)).mono ?_); rintro e w' ⟨rfl, hw⟩)
          | (go_at_call 11; have hh := (‹Below _ _ _ ∧ _›).1; (with_reducible refine (both_eq (a1, a2) (a1, a2) (a1, a2) H1.out _).mono ?_); rintro e w' ⟨rfl, hw⟩)
          | (go_at_call 11; have hh := (‹Below _ _ _ ∧ _›).1; (with_reducible refine (both_eq (a1, a2) (0, 0) (a1, a2) H2.out _).mono ?_); rintro e w' ⟨rfl, hw⟩)
          | (go_at_call 7; have hh := (‹Below _ _ _ ∧ _›).1; (with_reducible refine (sum_any (a1, a2) (a2 + a1) H4.out _).mono ?_); rintro e w' ⟨rfl, hw⟩)
          | (go_at_call 9; have hh := (‹Below _ _ _ ∧ _›).1; (with_reducible refine (works_any _).mono ?_); rintro e w' ⟨rfl, hw⟩))
      have b5 := (‹Below w2.heap.size w2 _ ∧ _›).1
      go_wp2_with fail
      go_ret
      exact ⟨rfl, Below_same b3 b5⟩
end Go.Proofs.Ytappccoomljiaaa
