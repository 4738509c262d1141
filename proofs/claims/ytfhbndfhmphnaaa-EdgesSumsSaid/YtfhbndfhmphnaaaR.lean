/-
  The reference's sum (jambref01.Sum). No condition.
-/
import Derived.Test.YtfhbndfhmphnaaaQ
import Derived.Test.YtfhbndfhmphnaaaB
set_option linter.unusedVariables false
set_option linter.unusedSimpArgs false
namespace Go.Proofs.Ytfhbndfhmphnaaa
open Go.RowKit Go.BigFrame

theorem BV.parts {w : World} {v : Value} {z : Int} {K : Nat} (h : BV w v z K) : ∃ A n c l, v = .agg #[.bool (decide (z < 0)), .slice A n c] ∧ BS w (.slice A n c) l ∧ bval l = z.natAbs ∧ l.length ≤ K := by
  obtain ⟨l, sv, rfl, h1, h2, h3⟩ := h
  have h1' := h1
  obtain ⟨A, c, rfl, _⟩ := h1
  exact ⟨A, l.length, c, l, rfl, h1', h2, h3⟩
set_option maxRecDepth 20000 in
set_option maxHeartbeats 4000000 in
theorem rsum_any (w : World) {A : Option Addr} {n c : Nat} {l : List Int} (h : Ints .i64 w A n l) (hw : ∀ x ∈ l, (Lit.int .i64 x).wf = true) (hn : n ≤ 50000) :
    Calls Try.prog 26 #[.slice A n c] w fun e w' => e = .returned (.tuple #[.int .i64 (cutV l.sum), .bool (cutB l.sum)]) ∧ Below w.heap.size w w' := by
  have hl := h.len_eq
  have HWF := Lib.hid hw
  clear hw
  go_enter Try.func26, Try.ntmps26
  go_wp2_with fail
  go_loopw [5, 7, 8, 9, 10, 11, 12, 13, 14, 15, 16, 17, 18, 19] (fun i _ _ _ _ _ _ _ _ _ _ _ _ _ wr => ∃ (k : Nat) (s : Bool) (G : Option Addr) (m g : Nat), k ≤ n ∧ i = .int .i64 k ∧ Below w.heap.size w wr ∧ Blk wr w.heap.size 54 #[.bool s, .slice G m g] ∧ BV wr (.agg #[.bool s, .slice G m g]) (l.take k).sum (64 + k)) (fun i _ _ _ _ _ _ _ _ _ _ _ _ _ _ => n - (intOf i).toNat)
  case atStart => exact ⟨0, false, none, 0, 0, Nat.zero_le _, rfl, by (repeat' (first | (with_reducible exact Below.refl _ _) | (with_reducible assumption) | (with_reducible refine Below.alloc ?_ ?_ _) | (with_reducible refine Below.drew ?_) | (with_reducible refine Below_drewN ?_ _) | (with_reducible refine Below.setCell ?_ ?_ _) | go_size)), Blk_new _ _ _, ⟨[], _, by simp, BS_nil _, by simp [bval], by simp⟩⟩
  case round =>
    obtain ⟨k, s, G, m, g, hk, rfl, hb, hW, hBV⟩ := hrel
    have hsz := Blk_lt hW
    have c0 := Blk_cell hW 0
    have c1 := Blk_cell hW 1
    by_cases hlt : k < n
    · obtain ⟨b, off, rfl, hB, hc⟩ := h.at_ (by omega)
      have cx : wr.cell? ⟨b, off + k, none⟩ = some (.int .i64 (l.getD k 0)) := (hb.cell hB).trans (hc k hlt)
      have hwx := wf_at HWF.out (k := k) (by omega)
      have hst := sum_step l k (by omega)
      generalize l.getD k 0 = x at *
      have HST := Lib.hid hst
      have hof := fun w => of_any w x hwx
      have hbk : b < wr.heap.size := by omega
      clear hc hst h
      go_wp2_with fail
      go_region_with (first
        | (go_at_call 30; (with_reducible refine (hof _).mono ?_); rintro e w5 ⟨v5, rfl, hBV5, h5⟩; have hW5 := Blk_below (w := wr.drew) hW h5 hsz; have c05 := Blk_cell hW5 0; have c15 := Blk_cell hW5 1; have hBW5 := hBV.mono (Below_same (Below.refl wr.heap.size wr).drew h5))
        | (go_at_call 29; (with_reducible refine (add_any _ hBW5 hBV5 (by omega) (by omega)).mono ?_); rintro e w6 ⟨v6, rfl, hBV6, h6⟩; have hW6 := Blk_below hW5 h6 (Blk_lt hW5); have c06 := Blk_cell hW6 0; have c16 := Blk_cell hW6 1; have f06 := Blk_frozen hW6 0; have f16 := Blk_frozen hW6 1; obtain ⟨G6, m6, g6, l6, rfl, hBS6, hv6, hl6⟩ := hBV6.parts))
      all_goals
        have hb6 := Below_then hb (Below_same (Below_same (Below.refl wr.heap.size wr).drew h5) h6) (Nat.le_refl _)
        go_wp2_with fail
        go_roundw
        case rel =>
          refine ⟨k + 1, _, G6, m6, g6, by omega, by go_num, (hb6.setCell (by simp) _).setCell (by simp) _, Blk_upd (Blk_set hW6 0 _) 1 _ rfl, ?_⟩
          rw [HST.out]
          exact ⟨l6, _, rfl, (hBS6.far hW6 (by decide) _ _).far (Blk_set hW6 0 _) (by decide) _ _, hv6, by omega⟩
        case measure => simp [intOf]; omega
    · have hkn : k = n := by omega
      rw [List.take_of_length_le (by omega)] at hBV
      have hcut := rcut_any wr hBV (by omega)
      go_wp2_with ((go_at_call 28; (with_reducible refine (hcut).mono ?_)); rintro e w5 ⟨rfl, h5⟩)
      go_ret2
      exact ⟨rfl, Below_then hb h5 (Nat.le_refl _)⟩
end Go.Proofs.Ytfhbndfhmphnaaa
