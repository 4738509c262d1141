import Derived.Test.YtappccoomljiaaaC
namespace Go.Proofs.Ytappccoomljiaaa
open Go.RowKit

/-- One round of the reference: two tests, one behind the other. -/
theorem put_gt {p : Int × Int} {v : Int} (h : p.1 < v) (h2 : ¬ v < p.2) : put p v = (v, p.2) := by unfold put; ext <;> simp <;> omega
theorem put_lt {p : Int × Int} {v : Int} (h : ¬ p.1 < v) (h2 : v < p.2) : put p v = (p.1, v) := by unfold put; ext <;> simp <;> omega
theorem put_in {p : Int × Int} {v : Int} (h : ¬ p.1 < v) (h2 : ¬ v < p.2) : put p v = p := by unfold put; ext <;> simp <;> omega

set_option maxHeartbeats 1000000 in
theorem rof_any (xs : List Int) (A : Option Addr) (c : Nat) (w : World) (hI : Ints .i64 w A xs.length xs) (hl : xs.length ≤ 1000) :
    Calls Try.prog 10 #[.slice A xs.length c] w fun e w' => e = .returned (sv (fo xs)) ∧ Below w.heap.size w w' := by
  unfold sv
  go_enter Try.func10, Try.ntmps10
  go_wp2_with fail
  go_loopw [4, 5, 6, 7, 8, 9, 10, 11, 12, 13, 14, 15, 16, 17, 18, 19, 20, 21, 22, 23, 24, 25, 26, 27, 28, 29, 30, 31, 32, 33, 34] (fun i _ _ _ _ _ _ _ _ _ _ _ _ _ _ _ _ _ _ _ _ _ _ _ _ _ _ _ _ _ _ wr => ∃ k : Nat, k ≤ xs.length ∧ i = .int .i64 k ∧ Below w.heap.size w wr ∧
      Blk wr (w.heap.size + 1) 24 #[.int .i64 (fo (xs.take k)).1, .int .i64 (fo (xs.take k)).2] ∧ Blk wr w.heap.size 24 #[.int .i64 0, .int .i64 0]) (fun i _ _ _ _ _ _ _ _ _ _ _ _ _ _ _ _ _ _ _ _ _ _ _ _ _ _ _ _ _ _ _ => xs.length - (intOf i).toNat)
  case atStart =>
    refine ⟨0, Nat.zero_le _, rfl, by (repeat' (first | (with_reducible exact Below.refl _ _) | (with_reducible assumption) | (with_reducible refine Below.alloc ?_ ?_ _) | (with_reducible refine Below.drew ?_) | (with_reducible refine Below_drewN ?_ _) | (with_reducible refine Below.setCell ?_ ?_ _) | go_size)), ?_, ?_⟩
    · simpa [fo] using Blk_new (w.alloc _) 24 _
    · exact Blk_alloc (Blk_new _ _ _) _
  case round =>
    obtain ⟨k, hk, rfl, hb, h1, h2⟩ := hrel
    have hsz := Blk_lt h1
    have hsg := fo_sign (xs.take k)
    have hsn : k < xs.length → fo (xs.take (k + 1)) = put (fo (xs.take k)) (xs.getD k 0) := fun h => by
      rw [List.take_succ_eq_append_getElem h, fo_snoc]; simp [h]
    have hfin : ¬ k < xs.length → fo (xs.take k) = fo xs := fun h => by rw [List.take_of_length_le (by omega)]
    obtain ⟨q, hq⟩ : ∃ q, q = fo (xs.take k) := ⟨_, rfl⟩
    rw [← hq] at h1 hsn hfin hsg
    clear hq
    have HS := Lib.hid hsn
    have HF := Lib.hid hfin
    clear hsn hfin
    have c0 := Blk_cell h1 0
    have c1 := Blk_cell h1 1
    have g0 := Blk_frozen h1 0
    have g1 := Blk_frozen h1 1
    by_cases hlt : k < xs.length
    · obtain ⟨b, off, rfl, hB, hc⟩ := hI.at_ (by omega)
      have cx : wr.cell? ⟨b, off + k, none⟩ = some (.int .i64 (xs.getD k 0)) := (hb.cell hB).trans (hc k hlt)
      have hsn := HS.out hlt
      clear hc HS HF
      obtain ⟨v, hv⟩ : ∃ v, v = xs.getD k 0 := ⟨_, rfl⟩
      rw [← hv] at cx hsn
      clear hv
      have HS := Lib.hid hsn
      clear hsn
      have hk0 : (0 : Int) ≤ (k : Int) := Int.natCast_nonneg _
      have hk1 : (k : Int) < (xs.length : Int) := by omega
      have hne : b ≠ w.heap.size + 1 := by omega
      by_cases t1 : q.1 < v
      · have t2 : ¬ v < q.2 := by omega
        have t2' : decide (v < q.2) = false := by simp [t2]
        have HP := Lib.hid (put_gt t1 t2)
        go_wp2_with fail
        go_quiet (fail)
        go_wp2_with fail
        go_quiet (fail)
        go_wp2_with fail
        go_roundw
        case rel =>
          refine ⟨k + 1, by omega, by go_num, by (repeat' (first | (with_reducible exact Below.refl _ _) | (with_reducible assumption) | (with_reducible refine Below.alloc ?_ ?_ _) | (with_reducible refine Below.drew ?_) | (with_reducible refine Below_drewN ?_ _) | (with_reducible refine Below.setCell ?_ ?_ _) | go_size)), ?_, by (repeat' (first | (with_reducible assumption) | (with_reducible exact Blk_new _ _ _) | (with_reducible refine Blk_drew ?_) | (with_reducible refine Blk_drewN ?_ _) | (with_reducible refine Blk_alloc ?_ _) | (with_reducible refine Blk_far ?_ ?_ _) | (simp; done) | (simp; omega)))⟩
          rw [HS.out, HP.out]
          exact Blk_drewN (Blk_upd (Blk_drewN h1 _) 0 _ (by simp)) _
        case measure => simp [intOf]; omega
      · by_cases t2 : v < q.2
        · have HP := Lib.hid (put_lt t1 t2)
          have t1' : decide (q.1 < v) = false := by simp [t1]
          go_wp2_with fail
          go_quiet (fail)
          go_wp2_with fail
          go_quiet (fail)
          go_wp2_with fail
          go_roundw
          case rel =>
            refine ⟨k + 1, by omega, by go_num, by (repeat' (first | (with_reducible exact Below.refl _ _) | (with_reducible assumption) | (with_reducible refine Below.alloc ?_ ?_ _) | (with_reducible refine Below.drew ?_) | (with_reducible refine Below_drewN ?_ _) | (with_reducible refine Below.setCell ?_ ?_ _) | go_size)), ?_, by (repeat' (first | (with_reducible assumption) | (with_reducible exact Blk_new _ _ _) | (with_reducible refine Blk_drew ?_) | (with_reducible refine Blk_drewN ?_ _) | (with_reducible refine Blk_alloc ?_ _) | (with_reducible refine Blk_far ?_ ?_ _) | (simp; done) | (simp; omega)))⟩
            rw [HS.out, HP.out]
            exact Blk_upd (Blk_drewN h1 _) 1 _ (by simp)
          case measure => simp [intOf]; omega
        · have HP := Lib.hid (put_in t1 t2)
          go_wp2_with fail
          go_quiet (fail)
          go_wp2_with fail
          go_quiet (fail)
          go_wp2_with fail
          go_roundw
          case rel =>
            refine ⟨k + 1, by omega, by go_num, by (repeat' (first | (with_reducible exact Below.refl _ _) | (with_reducible assumption) | (with_reducible refine Below.alloc ?_ ?_ _) | (with_reducible refine Below.drew ?_) | (with_reducible refine Below_drewN ?_ _) | (with_reducible refine Below.setCell ?_ ?_ _) | go_size)), ?_, by (repeat' (first | (with_reducible assumption) | (with_reducible exact Blk_new _ _ _) | (with_reducible refine Blk_drew ?_) | (with_reducible refine Blk_drewN ?_ _) | (with_reducible refine Blk_alloc ?_ _) | (with_reducible refine Blk_far ?_ ?_ _) | (simp; done) | (simp; omega)))⟩
            rw [HS.out, HP.out]
            exact Blk_drewN h1 _
          case measure => simp [intOf]; omega
    · have e0 := Blk_cell h2 0
      have e1 := Blk_cell h2 1
      have f0 := Blk_frozen h2 0
      have f1 := Blk_frozen h2 1
      go_wp2_with fail
      refine bodyPost_ret (v := .agg #[.int .i64 q.1, .int .i64 q.2]) (by simp [results, Try.results10, go_sem, e0, e1]) rfl ⟨by rw [HF.out hlt], by (repeat' (first | (with_reducible exact Below.refl _ _) | (with_reducible assumption) | (with_reducible refine Below.alloc ?_ ?_ _) | (with_reducible refine Below.drew ?_) | (with_reducible refine Below_drewN ?_ _) | (with_reducible refine Below.setCell ?_ ?_ _) | go_size))⟩
end Go.Proofs.Ytappccoomljiaaa
