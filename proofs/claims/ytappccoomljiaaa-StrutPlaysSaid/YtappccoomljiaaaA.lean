import Derived.Test.YtappccoomljiaaaCom
namespace Go.Proofs.Ytappccoomljiaaa
open Go.RowKit

abbrev sv (p : Int × Int) : Value := .agg #[.int .i64 p.1, .int .i64 p.2]
def put (p : Int × Int) (m : Int) : Int × Int := (max p.1 m, min p.2 m)

theorem foldl_snoc (p : Int × Int) (xs : List Int) (k : Nat) (h : k < xs.length) : (xs.take (k + 1)).foldl put p = put ((xs.take k).foldl put p) xs[k] := by
  rw [List.take_succ_eq_append_getElem h, List.foldl_append]; rfl

theorem put_1 {a b m : Int} (h1 : a < m) (h2 : m < b) : put (a, b) m = (m, m) := by unfold put; ext <;> simp <;> omega
theorem put_2 {a b m : Int} (h1 : a < m) (h2 : b ≤ m) : put (a, b) m = (m, b) := by unfold put; ext <;> simp <;> omega
theorem put_3 {a b m : Int} (h1 : m ≤ a) (h2 : m < b) : put (a, b) m = (a, m) := by unfold put; ext <;> simp <;> omega
theorem put_4 {a b m : Int} (h1 : m ≤ a) (h2 : b ≤ m) : put (a, b) m = (a, b) := by unfold put; ext <;> simp <;> omega

set_option maxHeartbeats 400000 in
theorem one_any (p : Int × Int) (m : Int) (w : World) :
    Calls Try.prog 17 #[sv p, .int .i64 m] w fun e w' => e = .returned (sv (put p m)) ∧ Below w.heap.size w w' := by
  obtain ⟨a, b⟩ := p
  unfold sv
  go_enter Try.func17, Try.ntmps17
  go_wp2
  · refine bodyPost_ret (v := .agg #[.int .i64 m, .int .i64 m]) (by simp [results, Try.results17, go_sem]) rfl ⟨by rw [put_1 ‹_› ‹_›], ?_⟩
    exact ((Below.refl _ _).alloc (Nat.le_refl _) _).alloc (by simp) _
  · refine bodyPost_ret (v := .agg #[.int .i64 m, .int .i64 b]) (by simp [results, Try.results17, go_sem]) rfl ⟨by rw [put_2 ‹_› ‹_›], ?_⟩
    exact ((Below.refl _ _).alloc (Nat.le_refl _) _).alloc (by simp) _
  · refine bodyPost_ret (v := .agg #[.int .i64 a, .int .i64 m]) (by simp [results, Try.results17, go_sem]) rfl ⟨by rw [put_3 ‹_› ‹_›], ?_⟩
    exact ((Below.refl _ _).alloc (Nat.le_refl _) _).alloc (by simp) _
  · refine bodyPost_ret (v := .agg #[.int .i64 a, .int .i64 b]) (by simp [results, Try.results17, go_sem]) rfl ⟨by rw [put_4 ‹_› ‹_›], ?_⟩
    exact ((Below.refl _ _).alloc (Nat.le_refl _) _).alloc (by simp) _


set_option maxHeartbeats 400000 in
theorem fold_any (p : Int × Int) (xs : List Int) (A : Option Addr) (c : Nat) (w : World) (hI : Ints .i64 w A xs.length xs) (hl : xs.length ≤ 1000) :
    Calls Try.prog 16 #[sv p, .slice A xs.length c, .func (.func 17) #[] #[]] w fun e w' => e = .returned (sv (xs.foldl put p)) ∧ Below w.heap.size w w' := by
  unfold sv
  go_enter Try.func16, Try.ntmps16
  go_wp2_with fail
  go_loopw [8, 11, 12, 13, 14, 15, 16, 17, 18, 19] (fun _ i _ _ _ _ _ _ _ _ wr => ∃ k : Nat, k ≤ xs.length ∧ i = .int .i64 k ∧ Below w.heap.size w wr ∧
      Blk wr w.heap.size 24 #[.int .i64 ((xs.take k).foldl put p).1, .int .i64 ((xs.take k).foldl put p).2] ∧ ∃ x y, Blk wr (w.heap.size + 1) 24 #[x, y]) (fun _ i _ _ _ _ _ _ _ _ _ => xs.length - (intOf i).toNat)
  case atStart =>
    refine ⟨0, Nat.zero_le _, rfl, ((Below.refl _ _).alloc (Nat.le_refl _) _).alloc (by simp) _, ?_, ?_⟩
    · exact Blk_alloc (Blk_new _ _ _) _
    · exact ⟨_, _, by simpa using Blk_new (w.alloc _) 24 _⟩
  case round =>
    obtain ⟨k, hk, rfl, hb, h1, x, y, h2⟩ := hrel
    have hsz := Blk_lt h2
    have c0 : wr.cell? ⟨w.heap.size, 0, none⟩ = some (.int .i64 ((xs.take k).foldl put p).1) := Blk_cell h1 0
    have c1 : wr.cell? ⟨w.heap.size, 1, none⟩ = some (.int .i64 ((xs.take k).foldl put p).2) := Blk_cell h1 1
    by_cases hlt : k < xs.length
    · obtain ⟨b, off, rfl, hB, hc⟩ := hI.at_ (by omega)
      have cx : wr.cell? ⟨b, off + k, none⟩ = some (.int .i64 (xs.getD k 0)) := (hb.cell hB).trans (hc k hlt)
      clear hc
      go_wp2_with fail
      refine (one_any _ _ _).mono ?_
      rintro e w' ⟨rfl, hw⟩
      have h1' := Blk_below h1 hw (by omega)
      have h2' := Blk_below h2 hw (by omega)
      have f0 := Blk_frozen h1' 0
      have f1 := Blk_frozen h1' 1
      have d0 := Blk_cell h1' 0
      have d1 := Blk_cell h1' 1
      go_wp2_with fail
      go_roundw
      case rel =>
        refine ⟨k + 1, by omega, by go_num, ?_, ?_, x, y, ?_⟩
        · exact (((hb.trans (hw.mono (by omega))).setCell (by simp) _).setCell (by simp) _)
        · have := Blk_set (Blk_set h1' 0 (.int .i64 (put ((xs.take k).foldl put p) xs[k]).1)) 1 (.int .i64 (put ((xs.take k).foldl put p) xs[k]).2)
          rw [foldl_snoc p xs k hlt]; simpa using this
        · exact Blk_far (Blk_far h2' (by simp) _) (by simp) _
      case measure => simp [intOf]; omega
    · have e0 := Blk_cell h2 0
      have e1 := Blk_cell h2 1
      have f0 := Blk_frozen h2 0
      have f1 := Blk_frozen h2 1
      have hbf : Below w.heap.size w ((wr.setCell { block := w.heap.size + 1, off := 0 } (.int .i64 ((xs.take k).foldl put p).1)).setCell { block := w.heap.size + 1, off := 1 } (.int .i64 ((xs.take k).foldl put p).2)) := (hb.setCell (by simp) _).setCell (by simp) _
      have hfin : (xs.take k).foldl put p = xs.foldl put p := by rw [List.take_of_length_le (by omega)]
      have HF := Lib.hid hfin
      clear hfin
      go_wp2_with fail
      refine bodyPost_ret (v := .agg #[.int .i64 ((xs.take k).foldl put p).1, .int .i64 ((xs.take k).foldl put p).2]) (by simp [results, Try.results16, go_sem, e0, e1]) rfl ⟨by rw [HF.out], hbf⟩
end Go.Proofs.Ytappccoomljiaaa
