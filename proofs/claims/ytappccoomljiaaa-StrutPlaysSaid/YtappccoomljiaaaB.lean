import Derived.Test.YtappccoomljiaaaA
namespace Go.Proofs.Ytappccoomljiaaa
open Go.RowKit

def fo (l : List Int) : Int × Int := l.foldl put (0, 0)

set_option maxHeartbeats 400000 in
theorem of_any (xs : List Int) (A : Option Addr) (c : Nat) (w : World) (hI : Ints .i64 w A xs.length xs) (hl : xs.length ≤ 1000) :
    Calls Try.prog 15 #[.slice A xs.length c] w fun e w' => e = .returned (sv (fo xs)) ∧ Below w.heap.size w w' := by
  unfold sv
  go_enter Try.func15, Try.ntmps15
  go_wp2_with fail
  refine (fold_any (0, 0) xs A c _ ?_ hl).mono ?_
  · exact hI.mono ((Below.refl _ _).alloc (Nat.le_refl _) _)
  rw [show xs.foldl put (0, 0) = fo xs from rfl]
  rintro e w' ⟨rfl, hw⟩
  have h2 := Blk_below (Blk_new w 24 #[.int .i64 0, .int .i64 0]) hw (by simp)
  have e0 := Blk_cell h2 0
  have e1 := Blk_cell h2 1
  have f0 := Blk_frozen h2 0
  have f1 := Blk_frozen h2 1
  have hb : Below w.heap.size w w' := ((Below.refl _ _).alloc (Nat.le_refl _) _).trans (hw.mono (by simp))
  go_wp2_with fail
  refine bodyPost_ret (v := .agg #[.int .i64 (fo xs).1, .int .i64 (fo xs).2]) (by simp [results, Try.results15, go_sem, e0, e1]) rfl ⟨rfl, by go_grown⟩

set_option maxHeartbeats 400000 in
theorem join_any (p : Int × Int) (m : Int) (w : World) :
    Calls Try.prog 14 #[sv p, .int .i64 m] w fun e w' => e = .returned (sv (fo [p.1, p.2, m])) ∧ Below w.heap.size w w' := by
  unfold sv
  go_enter Try.func14, Try.ntmps14
  go_wp2_with fail
  have h3 := Blk_new ((w.alloc (.cells #[.int .i64 p.1, .int .i64 p.2] 24)).alloc (.cells #[.int .i64 0, .int .i64 0] 24)) 2 #[.int .i64 p.1, .int .i64 p.2, .int .i64 m]
  simp only [World.size_alloc] at h3
  refine (of_any [p.1, p.2, m] _ 3 _ (Ints.of_blk h3) (by simp)).mono ?_
  rintro e w' ⟨rfl, hw⟩
  have h2 := Blk_below (Blk_alloc (Blk_new (w.alloc (.cells #[.int .i64 p.1, .int .i64 p.2] 24)) 24 #[.int .i64 0, .int .i64 0]) _) hw (by simp)
  simp only [World.size_alloc] at h2
  have e0 := Blk_cell h2 0
  have e1 := Blk_cell h2 1
  have f0 := Blk_frozen h2 0
  have f1 := Blk_frozen h2 1
  have hb : Below w.heap.size w w' := ((((Below.refl _ _).alloc (Nat.le_refl _) _).alloc (by simp) _).alloc (by simp; omega) _).trans (hw.mono (by simp; omega))
  clear h3 hw h2
  go_wp2_with fail
  refine bodyPost_ret (v := .agg #[.int .i64 (fo [p.1, p.2, m]).1, .int .i64 (fo [p.1, p.2, m]).2]) (by simp [results, Try.results14, go_sem, e0, e1]) rfl ⟨rfl, by go_grown⟩


set_option maxHeartbeats 400000 in
theorem both_any (p q : Int × Int) (w : World) :
    Calls Try.prog 11 #[sv p, sv q] w fun e w' => e = .returned (sv (fo [p.1, p.2, q.1, q.2])) ∧ Below w.heap.size w w' := by
  unfold sv
  go_enter Try.func11, Try.ntmps11
  go_wp2_with fail
  have h3 := Blk_new (((w.alloc (.cells #[.int .i64 p.1, .int .i64 p.2] 24)).alloc (.cells #[.int .i64 q.1, .int .i64 q.2] 24)).alloc (.cells #[.int .i64 0, .int .i64 0] 24)) 2 #[.int .i64 p.1, .int .i64 p.2, .int .i64 q.1, .int .i64 q.2]
  simp only [World.size_alloc] at h3
  refine (of_any [p.1, p.2, q.1, q.2] _ 4 _ (Ints.of_blk h3) (by simp)).mono ?_
  rintro e w' ⟨rfl, hw⟩
  have h2 := Blk_below (Blk_alloc (Blk_new ((w.alloc (.cells #[.int .i64 p.1, .int .i64 p.2] 24)).alloc (.cells #[.int .i64 q.1, .int .i64 q.2] 24)) 24 #[.int .i64 0, .int .i64 0]) _) hw (by simp)
  simp only [World.size_alloc] at h2
  have e0 := Blk_cell h2 0
  have e1 := Blk_cell h2 1
  have f0 := Blk_frozen h2 0
  have f1 := Blk_frozen h2 1
  have hb : Below w.heap.size w w' := (((((Below.refl _ _).alloc (Nat.le_refl _) _).alloc (by simp) _).alloc (by simp; omega) _).alloc (by simp +arith) _).trans (hw.mono (by simp; omega))
  clear h3 hw h2
  go_wp2_with fail
  refine bodyPost_ret (v := .agg #[.int .i64 (fo [p.1, p.2, q.1, q.2]).1, .int .i64 (fo [p.1, p.2, q.1, q.2]).2]) (by simp [results, Try.results11, go_sem, e0, e1]) rfl ⟨rfl, by go_grown⟩

set_option maxHeartbeats 400000 in
theorem sum_any (p : Int × Int) (s : Int) (hs : wrap64 (p.1 + p.2) = s) (w : World) :
    Calls Try.prog 7 #[sv p] w fun e w' => e = .returned (.int .i64 s) ∧ Below w.heap.size w w' := by
  subst hs
  unfold sv
  go_enter Try.func7, Try.ntmps7
  go_wp2_with fail
  go_ret
  exact ⟨rfl, (Below.refl _ _).alloc (Nat.le_refl _) _⟩

set_option maxHeartbeats 400000 in
theorem rsum_any (p : Int × Int) (s : Int) (hs : wrap64 (p.1 + p.2) = s) (w : World) :
    Calls Try.prog 12 #[sv p] w fun e w' => e = .returned (.int .i64 s) ∧ Below w.heap.size w w' := by
  subst hs
  unfold sv
  go_enter Try.func12, Try.ntmps12
  go_wp2_with fail
  go_ret
  exact ⟨rfl, (Below.refl _ _).alloc (Nat.le_refl _) _⟩



end Go.Proofs.Ytappccoomljiaaa
