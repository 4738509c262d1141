import Derived.Test.YtginfglonakfpaaB
namespace Go.Proofs.Ytginfglonakfpaa
open Go.RowKit

theorem i28 : (Try.prog.info? 28).map (fun i => (i.zero, i.size, i.bytes)) = some (some (.agg #[.int .i64 0]), 1, 8) := by kernel_rfl
theorem i3 : (Try.prog.info? 3).map (fun i => (i.zero, i.size, i.bytes)) = some (some (.int .i64 0), 1, 8) := by kernel_rfl

/-- The reference's counters: the object, its list. -/
structure Rs (w : World) (B C : Nat) (v : Value) (l : List Int) : Prop where
  obj : Blk w C 64 #[v]
  row : w.ownsRow B 3 1 v l.length (l.map (Value.int .i64))
  le : B ≤ C

/-- What New comes to. -/
def NewPost (xs : List Int) (w : World) (e : Ending) (w' : World) : Prop :=
  Below w.heap.size w w' ∧
  (((∀ x ∈ xs, 0 ≤ x) ∧ ∃ C L, e = .returned (.tuple #[.pointer (some ⟨C, 0, none⟩), .int .i64 0]) ∧ Cs w' C L xs ∧ w.heap.size ≤ C ∧ w.heap.size ≤ L) ∨
   ((∃ x ∈ xs, x < 0) ∧ e = .returned (.tuple #[.pointer none, .int .i64 1])))
def RNewPost (xs : List Int) (w : World) (e : Ending) (w' : World) : Prop :=
  Below w.heap.size w w' ∧
  (((∀ x ∈ xs, 0 ≤ x) ∧ ∃ C v, e = .returned (.tuple #[.pointer (some ⟨C, 0, none⟩), .int .i64 0]) ∧ Rs w' w.heap.size C v xs) ∨
   ((∃ x ∈ xs, x < 0) ∧ e = .returned (.tuple #[.pointer none, .int .i64 1])))

theorem fill_step {xs : List Int} {k : Nat} (h : k < xs.length) : (xs.take k ++ List.replicate (xs.length - k) 0).set k (xs.getD k 0) = xs.take (k + 1) ++ List.replicate (xs.length - (k + 1)) 0 := by
  apply List.ext_getElem?
  intro j
  rw [List.getElem?_set]
  by_cases hj : k = j
  · subst hj
    rw [if_pos rfl, if_pos (by simp; omega)]
    rw [List.getElem?_append_left (by simp; omega)]
    simp [h]
  · rw [if_neg hj]
    by_cases hlt : j < k
    · rw [List.getElem?_append_left (by simp; omega), List.getElem?_append_left (by simp; omega)]
      simp [hlt, show j < k + 1 by omega]
    · rw [List.getElem?_append_right (by simp; omega), List.getElem?_append_right (by simp; omega)]
      simp only [List.length_take, List.getElem?_replicate]
      by_cases h2 : j < xs.length
      · rw [if_pos (by omega), if_pos (by omega)]
      · rw [if_neg (by omega), if_neg (by omega)]

set_option maxHeartbeats 1000000 in
theorem new_big (A : Option Addr) (n c : Nat) (w : World) (hn : 65536 < n) :
    Calls Try.prog 14 #[.slice A n c] w fun e w' => e = .returned (.tuple #[.pointer none, .int .i64 1]) ∧ w = w' := by
  go_enter Try.func14, Try.ntmps14
  go_wp2_with fail
  go_ret2
  exact ⟨rfl, rfl⟩
set_option maxHeartbeats 1000000 in
theorem new_any (xs : List Int) (A : Option Addr) (c : Nat) (w : World) (hI : Ints .i64 w A xs.length xs) (hn : xs.length ≤ 65536) :
    Calls Try.prog 14 #[.slice A xs.length c] w (NewPost xs w) := by
  obtain ⟨i0, hi0, hz0, hz1, hz2⟩ := info_parts i28
  have hmk := run_make_blk (P := Try.prog) Try.underlying59 hi0 hz0 (x := .int .i64 0) rfl hz1 .i64 .i64 xs.length (by rw [hz2]; omega) (by simp only [maxLen]; omega)
  have hsmall : ¬ 65536 < xs.length := by omega
  clear hz1 hz2 hz0 hi0
  go_enter Try.func14, Try.ntmps14
  go_wp2_with fail
  go_loopw [5, 6, 17, 18, 19, 20, 21, 22, 23, 24, 25, 26, 27, 28, 29, 30, 31, 32] (fun _ _ i _ _ _ _ _ _ _ _ _ _ _ _ _ _ _ wr => ∃ k : Nat, k ≤ xs.length ∧ i = .int .i64 k ∧ Below w.heap.size w wr ∧ Cs wr (w.heap.size + 1) w.heap.size (xs.take k ++ List.replicate (xs.length - k) 0) ∧ (∀ x ∈ xs.take k, 0 ≤ x)) (fun _ _ i _ _ _ _ _ _ _ _ _ _ _ _ _ _ _ _ => xs.length - (intOf i).toNat)
  case atStart =>
    refine ⟨0, Nat.zero_le _, rfl, by (repeat' (first | (with_reducible exact Below.refl _ _) | (with_reducible assumption) | (with_reducible refine Below.alloc ?_ ?_ _) | (with_reducible refine Below.drew ?_) | (with_reducible refine Below_drewN ?_ _) | (with_reducible refine Below.setCell ?_ ?_ _) | go_size)), ⟨?_, ?_, by omega⟩, by simp⟩
    · simpa using Blk_new (w.alloc _) 61 _
    · simpa using Blk_alloc (Blk_new w 28 _) _
  case round =>
    obtain ⟨k, hk, rfl, hb, hC, hpos⟩ := hrel
    clear hmk
    by_cases hlt : k < xs.length
    · obtain ⟨b, off, rfl, hB, hc⟩ := hI.at_ (by omega)
      have cx : wr.cell? ⟨b, off + k, none⟩ = some (.int .i64 (xs.getD k 0)) := (hb.cell hB).trans (hc k hlt)
      have hmem : xs.getD k 0 ∈ xs := by simp [List.getD, hlt]
      have hll : (xs.take k ++ List.replicate (xs.length - k) 0).length = xs.length := by simp; omega
      have o0 := Blk_cell hC.obj 0
      rw [hll] at o0
      have hset := hC.set k (xs.getD k 0)
      rw [fill_step hlt] at hset
      have x0 := hC.cell (i := k) (by omega)
      have f0 := Blk_frozen hC.row k
      have hpos' : 0 ≤ xs.getD k 0 → ∀ x ∈ xs.take (k + 1), 0 ≤ x := by
        intro h x hx
        rw [List.take_succ_eq_append_getElem hlt] at hx
        rcases List.mem_append.1 hx with h' | h'
        · exact hpos x h'
        · simp at h'; subst h'; simpa [List.getD, hlt] using h
      obtain ⟨v, hv⟩ : ∃ v, v = xs.getD k 0 := ⟨_, rfl⟩
      obtain ⟨u, hu⟩ : ∃ u, u = (xs.take k ++ List.replicate (xs.length - k) 0).getD k 0 := ⟨_, rfl⟩
      rw [← hv] at cx hset hmem hpos'
      rw [← hu] at x0
      have HM := Lib.hid hmem
      have HP := Lib.hid hpos'
      have HS := Lib.hid hset
      clear hv hu hc hmem hpos hpos' hset hC hll
      by_cases t : v < 0
      · go_wp2_with fail
        go_ret2
        exact ⟨by (repeat' (first | (with_reducible exact Below.refl _ _) | (with_reducible assumption) | (with_reducible refine Below.alloc ?_ ?_ _) | (with_reducible refine Below.drew ?_) | (with_reducible refine Below_drewN ?_ _) | (with_reducible refine Below.setCell ?_ ?_ _) | go_size)), .inr ⟨⟨v, HM.out, t⟩, rfl⟩⟩
      · go_wp2_with (go_at_call 22; refine (astore _ _ _ _ x0 f0).mono ?_; rintro e w' ⟨rfl, rfl⟩)
        go_roundw
        case rel => exact ⟨k + 1, by omega, by go_num, by (repeat' (first | (with_reducible exact Below.refl _ _) | (with_reducible assumption) | (with_reducible refine Below.alloc ?_ ?_ _) | (with_reducible refine Below.drew ?_) | (with_reducible refine Below_drewN ?_ _) | (with_reducible refine Below.setCell ?_ ?_ _) | go_size)), HS.out, HP.out (by omega)⟩
        case measure => simp [intOf]; omega
    · have hfin : xs.take k ++ List.replicate (xs.length - k) 0 = xs := by
        rw [List.take_of_length_le (by omega), show xs.length - k = 0 by omega]; simp
      rw [hfin] at hC
      rw [List.take_of_length_le (by omega)] at hpos
      have HP := Lib.hid hpos
      clear hfin hpos
      go_wp2_with fail
      go_ret2
      exact ⟨hb, .inl ⟨HP.out, _, _, rfl, hC, by omega, by omega⟩⟩
set_option maxHeartbeats 1000000 in
theorem rnew_big (A : Option Addr) (n c : Nat) (w : World) (hn : 65536 < n) :
    Calls Try.prog 15 #[.slice A n c] w fun e w' => e = .returned (.tuple #[.pointer none, .int .i64 1]) ∧ w = w' := by
  go_enter Try.func15, Try.ntmps15
  go_wp2_with fail
  go_ret2
  exact ⟨rfl, rfl⟩
set_option maxHeartbeats 1000000 in
theorem rnew_any (xs : List Int) (A : Option Addr) (c : Nat) (w : World) (hI : Ints .i64 w A xs.length xs) (hn : xs.length ≤ 65536) :
    Calls Try.prog 15 #[.slice A xs.length c] w (RNewPost xs w) := by
  obtain ⟨i0, hi0, hz0, hz1, hz2⟩ := info_parts i3
  have hsmall : ¬ 65536 < xs.length := by omega
  go_enter Try.func15, Try.ntmps15
  go_wp2_with fail
  go_loop [4, 8, 9, 10, 11, 12, 13, 14, 15, 16, 17, 18] (fun i _ _ _ _ _ _ _ _ _ _ _ => ∃ k : Nat, k ≤ xs.length ∧ i = .int .i64 k ∧ (∀ x ∈ xs.take k, 0 ≤ x)) (fun i _ _ _ _ _ _ _ _ _ _ _ => xs.length - (intOf i).toNat)
  case atStart => exact ⟨0, Nat.zero_le _, rfl, by simp⟩
  case round =>
    obtain ⟨k, hk, rfl, hpos⟩ := hrel
    by_cases hlt : k < xs.length
    · obtain ⟨b, off, rfl, hB, hc⟩ := hI.at_ (by omega)
      have cx : w.cell? ⟨b, off + k, none⟩ = some (.int .i64 (xs.getD k 0)) := hc k hlt
      have hmem : xs.getD k 0 ∈ xs := by simp [List.getD, hlt]
      have hpos' : 0 ≤ xs.getD k 0 → ∀ x ∈ xs.take (k + 1), 0 ≤ x := by
        intro h x hx
        rw [List.take_succ_eq_append_getElem hlt] at hx
        rcases List.mem_append.1 hx with h' | h'
        · exact hpos x h'
        · simp at h'; subst h'; simpa [List.getD, hlt] using h
      obtain ⟨v, hv⟩ : ∃ v, v = xs.getD k 0 := ⟨_, rfl⟩
      rw [← hv] at cx hmem hpos'
      have HM := Lib.hid hmem
      have HP := Lib.hid hpos'
      clear hv hc hmem hpos hpos' hi0 hz0 hz1 hz2
      by_cases t : v < 0
      · go_wp2_with fail
        go_ret2
        exact ⟨by (repeat' (first | (with_reducible exact Below.refl _ _) | (with_reducible assumption) | (with_reducible refine Below.alloc ?_ ?_ _) | (with_reducible refine Below.drew ?_) | (with_reducible refine Below_drewN ?_ _) | (with_reducible refine Below.setCell ?_ ?_ _) | go_size)), .inr ⟨⟨v, HM.out, t⟩, rfl⟩⟩
      · go_wp2_with fail
        go_round
        case rel => exact ⟨k + 1, by omega, by go_num, HP.out (by omega)⟩
        case measure => simp [intOf]; omega
    · rw [List.take_of_length_le (by omega)] at hpos
      have HP := Lib.hid hpos
      clear hpos
      go_wp2_with (at_builtin; go_must (refine wpList_append_src _ rfl (.tmp 19) (.tmp 20) 43 rfl w.heap.size 3 i0 _ 1 8 Try.underlying43 hi0 hz0 hz1 hz2 rfl (by omega) (.slice (some ⟨w.heap.size, 0, none⟩) 0 0) 0 [] rfl (World.ownsRow_lit w #[] 0 (Nat.le_refl _) (by simp) rfl) A xs.length c (xs.map (Value.int .i64)) rfl (by rw [Nat.mul_one]; exact (hI.mono (by (repeat' (first | (with_reducible exact Below.refl _ _) | (with_reducible assumption) | (with_reducible refine Below.alloc ?_ ?_ _) | (with_reducible refine Below.drew ?_) | (with_reducible refine Below_drewN ?_ _) | (with_reducible refine Below.setCell ?_ ?_ _) | go_size)))).src) (one_ints _ _) (by simp only [maxLen]; omega) (by omega) (by simp) ?_); intro v' w1 hown1 hg1 hat1; simp only [Nat.zero_add, List.nil_append] at hown1; obtain ⟨D, d, rfl, _, _⟩ := own_slice hown1)
      have hb1 : Below w.heap.size w w1 := Below.grown (w := w.alloc (.cells #[] 3)) (by (repeat' (first | (with_reducible exact Below.refl _ _) | (with_reducible assumption) | (with_reducible refine Below.alloc ?_ ?_ _) | (with_reducible refine Below.drew ?_) | (with_reducible refine Below_drewN ?_ _) | (with_reducible refine Below.setCell ?_ ?_ _) | go_size))) hg1 (by simp) (fun k hk => by simp [Value.ownBlock] at hk; omega)
      go_ret2
      refine ⟨hb1.alloc hb1.size _, .inl ⟨HP.out, _, _, rfl, ⟨Blk_new _ _ _, ?_, hb1.size⟩⟩⟩
      simpa using hown1.alloc _
end Go.Proofs.Ytginfglonakfpaa
