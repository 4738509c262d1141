/-
  near and moved (jamblaw02). No condition.
-/
import Derived.Test.YtfhbndfhmphnaaaX9
import Derived.Deep.CutBlock
set_option linter.unusedVariables false
set_option linter.unusedSimpArgs false
namespace Go.Proofs.Ytfhbndfhmphnaaa
open Go.RowKit Go.BigFrame

def nb1 (x : Int) : Bool := decide (-1073741824 ≤ x ∧ x ≤ 1073741824)
def nearB (q : Q4) : Bool := nb1 q.a && nb1 q.b && nb1 q.c && nb1 q.d
theorem nearB_all (q : Q4) (h : ∀ j, j < 4 → nb1 (q.at j) = true) : nearB q = true := by
  have e0 := h 0 (by omega)
  have e1 := h 1 (by omega)
  have e2 := h 2 (by omega)
  have e3 := h 3 (by omega)
  simp only [Q4.at] at e0 e1 e2 e3
  unfold nearB
  rw [e0, e1, e2, e3]; rfl
theorem nearB_no (q : Q4) {j : Nat} (hj : j < 4) (h : nb1 (q.at j) = false) : nearB q = false := by
  unfold nearB
  obtain rfl | rfl | rfl | rfl : j = 0 ∨ j = 1 ∨ j = 2 ∨ j = 3 := by omega
  all_goals
    simp only [Q4.at] at h
    rw [h]
    simp
theorem nearB_of {q : Q4} (h : nearB q = true) : (-1073741824 ≤ q.a ∧ q.a ≤ 1073741824) ∧ (-1073741824 ≤ q.b ∧ q.b ≤ 1073741824) ∧ (-1073741824 ≤ q.c ∧ q.c ≤ 1073741824) ∧ (-1073741824 ≤ q.d ∧ q.d ≤ 1073741824) := by
  simp [nearB, nb1] at h
  omega
theorem wr64 {a : Int} (h1 : -9223372036854775808 ≤ a) (h2 : a ≤ 9223372036854775807) : wrap64 a = a := IntWalk.wrap64_in a ⟨h1, h2⟩
set_option maxRecDepth 20000 in
set_option maxHeartbeats 8000000 in
theorem near_any (q : Q4) (hq : q.ok) (w : World) : Calls Try.prog 23 #[qv q] w fun e w' => e = .returned (.bool (nearB q)) ∧ Below w.heap.size w w' := by
  have HY := Lib.hid (nearB_all q)
  have HN := Lib.hid (fun j => @nearB_no q j)
  have hL := Blk_new (w.alloc (.cells #[.int .i64 q.a, .int .i64 q.b, .int .i64 q.c, .int .i64 q.d] 33)) 2 #[.int .i64 q.a, .int .i64 q.b, .int .i64 q.c, .int .i64 q.d]
  have hb2 : Below w.heap.size w ((w.alloc (.cells #[.int .i64 q.a, .int .i64 q.b, .int .i64 q.c, .int .i64 q.d] 33)).alloc (.cells #[.int .i64 q.a, .int .i64 q.b, .int .i64 q.c, .int .i64 q.d] 2)) := by (repeat' (first | (with_reducible exact Below.refl _ _) | (with_reducible assumption) | (with_reducible refine Below.alloc ?_ ?_ _) | (with_reducible refine Below.drew ?_) | (with_reducible refine Below_drewN ?_ _) | (with_reducible refine Below.setCell ?_ ?_ _) | go_size))
  simp only [World.size_alloc] at hL
  unfold qv
  go_enter Try.func23, Try.ntmps23
  go_wp2_with fail
  go_loopw [4, 14, 15, 16, 17, 18, 19, 20, 21, 22, 23, 24, 25, 26, 27, 28, 29] (fun i _ _ _ _ _ _ _ _ _ _ _ _ _ _ _ _ wr => ∃ k : Nat, k ≤ 4 ∧ i = .int .i64 k ∧ wr = (w.alloc (.cells #[.int .i64 q.a, .int .i64 q.b, .int .i64 q.c, .int .i64 q.d] 33)).alloc (.cells #[.int .i64 q.a, .int .i64 q.b, .int .i64 q.c, .int .i64 q.d] 2) ∧ (∀ j, j < k → nb1 (q.at j) = true)) (fun i _ _ _ _ _ _ _ _ _ _ _ _ _ _ _ _ _ => 4 - (intOf i).toNat)
  case atStart => exact ⟨0, by omega, rfl, rfl, fun j hj => by omega⟩
  case round =>
    obtain ⟨k, hk, rfl, rfl, hall⟩ := hrel
    by_cases hlt : k < 4
    · have cz := (Blk_cell hL k).trans (qc_at q k hlt)
      have hbd := i64_wf (hq.at k)
      obtain ⟨x, hx⟩ : ∃ x, q.at k = x := ⟨_, rfl⟩
      rw [hx] at cz hbd
      have HA := Lib.hid (And.intro hall hx)
      clear hall hx
      by_cases h1 : 1073741824 < x
      · go_wp2_with fail
        go_ret
        refine ⟨?_, hb2⟩
        rw [HN.out k hlt (by rw [HA.out.2]; simp [nb1]; omega)]
        rfl
      · by_cases h2 : x < -1073741824
        · go_wp2_with fail
          go_ret
          refine ⟨?_, hb2⟩
          rw [HN.out k hlt (by rw [HA.out.2]; simp [nb1]; omega)]
          rfl
        · go_wp2_with fail
          go_roundw
          case rel =>
            refine ⟨k + 1, by omega, by go_num, trivial, fun j hj => ?_⟩
            by_cases e : j = k
            · rw [e, HA.out.2]; simp [nb1]; omega
            · exact HA.out.1 j (by omega)
          case measure => simp [intOf]; omega
    · obtain rfl : k = 4 := by omega
      have HE := Lib.hid (HY.out hall)
      clear hall
      go_wp2_with fail
      go_ret
      refine ⟨?_, hb2⟩
      rw [HE.out]
      rfl
def movQ (q : Q4) (dx dy : Int) : Q4 := ⟨q.a + dx, q.b + dy, q.c, q.d⟩
set_option maxRecDepth 20000 in
set_option maxHeartbeats 8000000 in
theorem moved_any (q : Q4) (dx dy : Int) (hx : -2147483648 ≤ dx ∧ dx ≤ 2147483647) (hy : -2147483648 ≤ dy ∧ dy ≤ 2147483647) (ha : -9223372036854775808 ≤ q.a + dx ∧ q.a + dx ≤ 9223372036854775807) (hb : -9223372036854775808 ≤ q.b + dy ∧ q.b + dy ≤ 9223372036854775807) (w : World) :
    Calls Try.prog 24 #[qv q, .int .i32 dx, .int .i32 dy] w fun e w' => e = .returned (qv (movQ q dx dy)) ∧ Below w.heap.size w w' := by
  have e1 := wr64 ha.1 ha.2
  have e2 := wr64 hb.1 hb.2
  have e3 := wr64 (a := dx) (by omega) (by omega)
  have e4 := wr64 (a := dy) (by omega) (by omega)
  have e5 : IntKind.i64.wrap dx = dx := by rw [IntKind.wrap_i64]; omega
  have e6 : IntKind.i64.wrap dy = dy := by rw [IntKind.wrap_i64]; omega
  unfold qv movQ
  simp only []
  go_enter Try.func24, Try.ntmps24
  go_wp2_with fail
  refine bodyPost_ret (v := .agg #[.int .i64 (q.a + dx), .int .i64 (q.b + dy), .int .i64 q.c, .int .i64 q.d]) (by simp [results, Try.results24, go_sem, e1, e2]) rfl ⟨rfl, by (repeat' (first | (with_reducible exact Below.refl _ _) | (with_reducible assumption) | (with_reducible refine Below.alloc ?_ ?_ _) | (with_reducible refine Below.drew ?_) | (with_reducible refine Below_drewN ?_ _) | (with_reducible refine Below.setCell ?_ ?_ _) | go_size))⟩
end Go.Proofs.Ytfhbndfhmphnaaa
