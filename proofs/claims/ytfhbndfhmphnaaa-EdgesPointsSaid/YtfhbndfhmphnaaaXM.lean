/-
  Small rectangles and their points: jamblaw02.small, jamblaw02.has. No condition.
-/
import Derived.Test.YtfhbndfhmphnaaaXL
set_option linter.unusedVariables false
set_option linter.unusedSimpArgs false
namespace Go.Proofs.Ytfhbndfhmphnaaa
open Go.RowKit Go.BigFrame

def smQ (q : Q4) : Q4 := ⟨q.a.tmod 10, q.b.tmod 10, q.c.tmod 12, q.d.tmod 12⟩
theorem tmod_in (x : Int) (n : Int) (hn : 0 < n) : -n < x.tmod n ∧ x.tmod n < n := by
  refine ⟨?_, Int.tmod_lt_of_pos x hn⟩
  have := Int.tmod_lt_of_pos (-x) hn
  rw [Int.neg_tmod] at this
  omega
theorem smQ_sm (q : Q4) : Sm (smQ q) := by
  have h1 := tmod_in q.a 10 (by omega)
  have h2 := tmod_in q.b 10 (by omega)
  have h3 := tmod_in q.c 12 (by omega)
  have h4 := tmod_in q.d 12 (by omega)
  constructor <;> simp only [smQ] <;> omega
set_option maxRecDepth 20000 in
set_option maxHeartbeats 4000000 in
theorem small_any (q : Q4) (w : World) : Calls Try.prog 20 #[qv q] w fun e w' => e = .returned (qv (smQ q)) ∧ Below w.heap.size w w' := by
  have hs := smQ_sm q
  have e1 := wr64 (a := q.a.tmod 10) (by have := hs.a; simp only [smQ] at this; omega) (by have := hs.a; simp only [smQ] at this; omega)
  have e2 := wr64 (a := q.b.tmod 10) (by have := hs.b; simp only [smQ] at this; omega) (by have := hs.b; simp only [smQ] at this; omega)
  have e3 := wr64 (a := q.c.tmod 12) (by have := hs.c; simp only [smQ] at this; omega) (by have := hs.c; simp only [smQ] at this; omega)
  have e4 := wr64 (a := q.d.tmod 12) (by have := hs.d; simp only [smQ] at this; omega) (by have := hs.d; simp only [smQ] at this; omega)
  clear hs
  unfold qv smQ
  simp only []
  go_enter Try.func20, Try.ntmps20
  go_wp2_with fail
  refine bodyPost_ret (v := .agg #[.int .i64 (q.a.tmod 10), .int .i64 (q.b.tmod 10), .int .i64 (q.c.tmod 12), .int .i64 (q.d.tmod 12)]) (by simp [results, Try.results20, go_sem, e1, e2, e3, e4]) rfl ⟨rfl, by (repeat' (first | (with_reducible exact Below.refl _ _) | (with_reducible assumption) | (with_reducible refine Below.alloc ?_ ?_ _) | (with_reducible refine Below.drew ?_) | (with_reducible refine Below_drewN ?_ _) | (with_reducible refine Below.setCell ?_ ?_ _) | go_size))⟩
set_option maxRecDepth 20000 in
set_option maxHeartbeats 4000000 in
theorem has_any (q : Q4) (x y : Int) (hx : wrap64 (x - q.a) = x - q.a) (hy : wrap64 (y - q.b) = y - q.b) (w : World) : Calls Try.prog 22 #[qv q, .int .i64 x, .int .i64 y] w fun e w' => e = .returned (.bool (hasB q x y)) ∧ Below w.heap.size w w' := by
  unfold hasB
  by_cases h1 : q.a ≤ x
  · by_cases h2 : x - q.a < q.c
    · by_cases h3 : q.b ≤ y
      · rw [decide_eq_true h1, decide_eq_true h2, decide_eq_true h3]
        go_enter Try.func22, Try.ntmps22
        go_wp2_with fail
        go_ret
        exact ⟨rfl, by (repeat' (first | (with_reducible exact Below.refl _ _) | (with_reducible assumption) | (with_reducible refine Below.alloc ?_ ?_ _) | (with_reducible refine Below.drew ?_) | (with_reducible refine Below_drewN ?_ _) | (with_reducible refine Below.setCell ?_ ?_ _) | go_size))⟩
      · rw [decide_eq_true h1, decide_eq_true h2, decide_eq_false h3]
        go_enter Try.func22, Try.ntmps22
        go_wp2_with fail
        go_ret
        exact ⟨rfl, by (repeat' (first | (with_reducible exact Below.refl _ _) | (with_reducible assumption) | (with_reducible refine Below.alloc ?_ ?_ _) | (with_reducible refine Below.drew ?_) | (with_reducible refine Below_drewN ?_ _) | (with_reducible refine Below.setCell ?_ ?_ _) | go_size))⟩
    · rw [decide_eq_true h1, decide_eq_false h2]
      go_enter Try.func22, Try.ntmps22
      go_wp2_with fail
      go_ret
      exact ⟨rfl, by (repeat' (first | (with_reducible exact Below.refl _ _) | (with_reducible assumption) | (with_reducible refine Below.alloc ?_ ?_ _) | (with_reducible refine Below.drew ?_) | (with_reducible refine Below_drewN ?_ _) | (with_reducible refine Below.setCell ?_ ?_ _) | go_size))⟩
  · rw [decide_eq_false h1]
    go_enter Try.func22, Try.ntmps22
    go_wp2_with fail
    go_ret
    exact ⟨rfl, by (repeat' (first | (with_reducible exact Below.refl _ _) | (with_reducible assumption) | (with_reducible refine Below.alloc ?_ ?_ _) | (with_reducible refine Below.drew ?_) | (with_reducible refine Below_drewN ?_ _) | (with_reducible refine Below.setCell ?_ ?_ _) | go_size))⟩
end Go.Proofs.Ytfhbndfhmphnaaa
