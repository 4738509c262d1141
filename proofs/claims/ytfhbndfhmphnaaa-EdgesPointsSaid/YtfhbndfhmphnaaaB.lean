/-
  Sums of lengths (au.Sum). No condition.
-/
import Derived.Test.YtfhbndfhmphnaaaA
import Derived.Test.YtfhbndfhmphnaaaCom7
set_option linter.unusedVariables false
set_option linter.unusedSimpArgs false
namespace Go.Proofs.Ytfhbndfhmphnaaa
open Go.RowKit

theorem sum_step (l : List Int) (k : Nat) (h : k < l.length) : (l.take (k + 1)).sum = (l.take k).sum + l.getD k 0 := by
  rw [List.take_succ_eq_append_getElem h, List.sum_append]; simp [List.getD, h]
theorem sum_bound : ∀ (l : List Int), (∀ x ∈ l, (Lit.int .i64 x).wf = true) → -9223372036854775808 * (l.length : Int) ≤ l.sum ∧ l.sum ≤ 9223372036854775808 * (l.length : Int)
  | [], _ => by simp
  | x :: l, h => by
    have ih := sum_bound l (fun y hy => h y (by simp [hy]))
    have := i64_wf (h x (by simp))
    simp only [List.sum_cons, List.length_cons]
    omega
theorem sum_hi (l : List Int) (k : Nat) (hk : k ≤ l.length) (h : ∀ x ∈ l, (Lit.int .i64 x).wf = true) (hl : l.length ≤ 4611686018427387904) :
    -4611686018427387904 ≤ hiW (l.take k).sum ∧ hiW (l.take k).sum ≤ 4611686018427387904 := by
  have := sum_bound (l.take k) (fun x hx => h x (List.mem_of_mem_take hx))
  rw [List.length_take] at this
  unfold hiW
  omega

set_option maxHeartbeats 400000 in
theorem put_any (x s : Int) (W : Nat) (w : World) (hx : (Lit.int .i64 x).wf = true) (hs : -4611686018427387904 ≤ hiW s) (hs' : hiW s ≤ 4611686018427387904) (hW : Blk w W 64 #[.int .i64 (hiW s), .int .u64 (loW s)]) :
    Calls Try.prog 41 #[.int .i64 x, .pointer (some ⟨W, 0, none⟩)] w fun e w' => e = .returned (.tuple #[]) ∧ Only [W] w w' ∧ Blk w' W 64 #[.int .i64 (hiW (s + x)), .int .u64 (loW (s + x))] := by
  have c0 := Blk_cell hW 0
  have c1 := Blk_cell hW 1
  have hlt := Blk_lt hW
  have hp := plus_any s x w hx hs hs'
  go_enter Try.func41, Try.ntmps41
  go_wp2_with ((go_at_call 42; (with_reducible refine (hp).mono ?_)); rintro e w1 ⟨rfl, h1⟩; have hW1 := Blk_below hW h1 hlt; have f0 := Blk_frozen hW1 0; have f1 := Blk_frozen hW1 1; have d0 := Blk_cell hW1 0; have d1 := Blk_cell hW1 1)
  go_end0
  refine ⟨rfl, ((Only.of_below h1).set (by simp) _).set (by simp) _, Blk_upd (Blk_set hW1 0 _) 1 _ (by simp)⟩
set_option maxHeartbeats 800000 in
theorem sum_any (w : World) {A : Option Addr} {n c : Nat} {l : List Int} (h : Ints .i64 w A n l) (hw : ∀ x ∈ l, (Lit.int .i64 x).wf = true) (hn : n ≤ 4611686018427387904) :
    Calls Try.prog 25 #[.slice A n c] w fun e w' => e = .returned (.tuple #[.int .i64 (cutV l.sum), .bool (cutB l.sum)]) ∧ Below w.heap.size w w' := by
  have hl := h.len_eq
  have HB := fun k hk => sum_hi l k hk hw (by omega)
  have HBH := Lib.hid HB
  clear HB
  go_enter Try.func25, Try.ntmps25
  go_wp2_with fail
  go_loopw [7, 11, 12, 13, 14, 15, 16, 17, 18] (fun _ i _ _ _ _ _ _ _ wr => ∃ k : Nat, k ≤ n ∧ i = .int .i64 k ∧ Below w.heap.size w wr ∧ Blk wr w.heap.size 64 #[.int .i64 (hiW (l.take k).sum), .int .u64 (loW (l.take k).sum)]) (fun _ i _ _ _ _ _ _ _ _ => n - (intOf i).toNat)
  case atStart => exact ⟨0, Nat.zero_le _, rfl, (Below.refl _ _).alloc (Nat.le_refl _) _, by simpa [hiW, loW] using Blk_new w _ _⟩
  case round =>
    obtain ⟨k, hk, rfl, hb, hW⟩ := hrel
    have c0 := Blk_cell hW 0
    have c1 := Blk_cell hW 1
    have hsz := Blk_lt hW
    have ⟨b0, b1⟩ := HBH.out k (by omega)
    by_cases hlt : k < n
    · obtain ⟨b, off, rfl, hB, hc⟩ := h.at_ (by omega)
      have cx : wr.cell? ⟨b, off + k, none⟩ = some (.int .i64 (l.getD k 0)) := (hb.cell hB).trans (hc k hlt)
      clear hc
      have HS := Lib.hid (sum_step l k (by omega))
      have hp := put_any (l.getD k 0) (l.take k).sum w.heap.size wr (wf_at hw (by omega)) b0 b1 hW
      generalize l.getD k 0 = x at cx hp HS
      go_wp2_with ((go_at_call 41; (with_reducible refine (hp).mono ?_)); rintro e w1 ⟨rfl, ho1, hW1⟩)
      go_roundw
      case rel =>
        exact ⟨k + 1, by omega, by go_num, hb.trans (ho1.below (by omega) (by simp)), by rw [HS.out]; exact hW1⟩
      case measure => simp [intOf]; omega
    · have hfin : l.take k = l := List.take_of_length_le (by omega)
      rw [hfin] at hW c0 c1 b0 b1
      have hp := wcut_any l.sum wr b0 b1
      clear hfin
      go_wp2_with ((go_at_call 43; (with_reducible refine (hp).mono ?_)); rintro e w1 ⟨rfl, h1⟩)
      go_ret2
      exact ⟨rfl, Below_then hb h1 (Nat.le_refl _)⟩
end Go.Proofs.Ytfhbndfhmphnaaa
