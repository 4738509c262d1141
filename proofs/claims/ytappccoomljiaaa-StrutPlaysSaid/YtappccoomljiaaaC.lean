import Derived.Test.YtappccoomljiaaaB
namespace Go.Proofs.Ytappccoomljiaaa
open Go.RowKit

theorem fo_sign (l : List Int) : 0 ≤ (fo l).1 ∧ (fo l).2 ≤ 0 := by
  have : ∀ (l : List Int) (p : Int × Int), 0 ≤ p.1 → p.2 ≤ 0 → 0 ≤ (l.foldl put p).1 ∧ (l.foldl put p).2 ≤ 0 := by
    intro l
    induction l with
    | nil => intro p h1 h2; exact ⟨h1, h2⟩
    | cons x l ih => intro p h1 h2; exact ih _ (by unfold put; simp; omega) (by unfold put; simp; omega)
  exact this l (0, 0) (by simp) (by simp)
theorem fo_snoc (l : List Int) (m : Int) : fo (l ++ [m]) = put (fo l) m := by unfold fo; rw [List.foldl_append]; rfl
theorem fo_join (l : List Int) (m : Int) : fo [(fo l).1, (fo l).2, m] = fo (l ++ [m]) := by
  have h := fo_sign l
  rw [fo_snoc]
  show put (put (put (0, 0) (fo l).1) (fo l).2) m = _
  unfold put
  ext <;> simp <;> omega
theorem fo_take (xs : List Int) (k : Nat) (h : k < xs.length) : fo [(fo (xs.take k)).1, (fo (xs.take k)).2, xs.getD k 0] = fo (xs.take (k + 1)) := by
  rw [fo_join, List.take_succ_eq_append_getElem h]; simp [h]

set_option maxHeartbeats 400000 in
theorem joined_any (xs : List Int) (A : Option Addr) (c : Nat) (w : World) (hI : Ints .i64 w A xs.length xs) (hl : xs.length ≤ 1000) :
    Calls Try.prog 8 #[.slice A xs.length c] w fun e w' => e = .returned (sv (fo xs)) ∧ Below w.heap.size w w' := by
  unfold sv
  go_enter Try.func8, Try.ntmps8
  go_wp2_with fail
  go_loopw [4, 5, 6, 7, 8, 9, 10, 11, 12, 13, 14, 15, 16] (fun i _ _ _ _ _ _ _ _ _ _ _ _ wr => ∃ k : Nat, k ≤ xs.length ∧ i = .int .i64 k ∧ Below w.heap.size w wr ∧
      Blk wr (w.heap.size + 1) 24 #[.int .i64 (fo (xs.take k)).1, .int .i64 (fo (xs.take k)).2] ∧ Blk wr w.heap.size 24 #[.int .i64 0, .int .i64 0]) (fun i _ _ _ _ _ _ _ _ _ _ _ _ _ => xs.length - (intOf i).toNat)
  case atStart =>
    refine ⟨0, Nat.zero_le _, rfl, ((Below.refl _ _).alloc (Nat.le_refl _) _).alloc (by simp) _, ?_, ?_⟩
    · simpa [fo] using Blk_new (w.alloc _) 24 _
    · exact Blk_alloc (Blk_new _ _ _) _
  case round =>
    obtain ⟨k, hk, rfl, hb, h1, h2⟩ := hrel
    have hsz := Blk_lt h1
    have c0 := Blk_cell h1 0
    have c1 := Blk_cell h1 1
    by_cases hlt : k < xs.length
    · obtain ⟨b, off, rfl, hB, hc⟩ := hI.at_ (by omega)
      have cx : wr.cell? ⟨b, off + k, none⟩ = some (.int .i64 (xs.getD k 0)) := (hb.cell hB).trans (hc k hlt)
      clear hc
      obtain ⟨v, hv⟩ : ∃ v, v = xs.getD k 0 := ⟨_, rfl⟩
      obtain ⟨q, hq⟩ : ∃ q, q = fo (xs.take k) := ⟨_, rfl⟩
      rw [← hv] at cx
      rw [← hq] at c0 c1 h1
      have HV := Lib.hid hv
      have HQ := Lib.hid hq
      clear hv hq
      go_wp2_with fail
      go_region_with (go_at_call 14; refine (join_any q v _).mono ?_; rintro e w' ⟨rfl, hw⟩; have h1' := Blk_below (w := wr.drew) (w' := w') h1 hw hsz; have f0 := Blk_frozen h1' 0; have f1 := Blk_frozen h1' 1; have d0 := Blk_cell h1' 0; have d1 := Blk_cell h1' 1)
      all_goals
        go_wp2_with fail
        go_roundw
        case rel =>
          have h2' := Blk_below (w := wr.drew) (w' := w') h2 hw (by simp; omega)
          refine ⟨k + 1, by omega, by go_num, ?_, ?_, ?_⟩
          · exact (((hb.drew.trans (hw.mono (by simp; omega))).setCell (by simp) _).setCell (by simp) _)
          · have := Blk_set (Blk_set h1' 0 (.int .i64 (fo [q.1, q.2, v]).1)) 1 (.int .i64 (fo [q.1, q.2, v]).2)
            rw [← fo_take xs k hlt, ← HV.out, ← HQ.out]; simpa using this
          · exact Blk_far (Blk_far h2' (by simp) _) (by simp) _
        case measure => simp [intOf]; omega
    · have e0 := Blk_cell h2 0
      have e1 := Blk_cell h2 1
      have f0 := Blk_frozen h2 0
      have f1 := Blk_frozen h2 1
      obtain ⟨q, hq⟩ : ∃ q, q = fo (xs.take k) := ⟨_, rfl⟩
      rw [← hq] at c0 c1 h1
      have HQ := Lib.hid hq
      clear hq
      go_wp2_with fail
      refine bodyPost_ret (v := .agg #[.int .i64 q.1, .int .i64 q.2]) (by simp [results, Try.results8, go_sem, e0, e1]) rfl ⟨by rw [HQ.out, List.take_of_length_le (by omega)], by go_grown⟩
end Go.Proofs.Ytappccoomljiaaa
