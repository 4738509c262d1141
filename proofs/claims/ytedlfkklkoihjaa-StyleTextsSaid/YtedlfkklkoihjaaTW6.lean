/-
  A style is the same as its copy (jambref04.Same). No condition.
-/
import Derived.Test.YtedlfkklkoihjaaTW4
set_option linter.unusedVariables false
set_option linter.unusedSimpArgs false
namespace Go.Proofs.Ytedlfkklkoihjaa
open Go.RowKit Go.BigFrame

/-- A style whose units lie elsewhere. -/
abbrev St.moved (s : St) (A : Option Addr) (c : Nat) : St := { s with uA := A, uc := c }
theorem eq_i64s (a : Int) (w : World) : (Op.equalIn 9999 2 (.int .i64 a) (.int .i64 a)).run Try.prog w = .ok true w := by rw [eq_i64]; simp
theorem eq_lens (l : Int × Int) (w : World) : (Op.equalIn 9999 23 (.agg #[.int .u8 l.1, .int .i64 l.2]) (.agg #[.int .u8 l.1, .int .i64 l.2])).run Try.prog w = .ok true w := by
  rw [show (9999 : Nat) = 9998 + 1 from rfl]
  simp [go_sem]
theorem eqMs (s : St) (w : World) : (Op.equalIn 10000 24 (.agg #[.int .u8 s.m0.1, .int .i64 s.m0.2, .int .u8 s.m1.1, .int .i64 s.m1.2, .int .u8 s.m2.1, .int .i64 s.m2.2, .int .u8 s.m3.1, .int .i64 s.m3.2]) (.agg #[.int .u8 s.m0.1, .int .i64 s.m0.2, .int .u8 s.m1.1, .int .i64 s.m1.2, .int .u8 s.m2.1, .int .i64 s.m2.2, .int .u8 s.m3.1, .int .i64 s.m3.2])).run Try.prog w = .ok true w := by
  obtain ⟨i0, hi0⟩ := info_of_underlying (Try.underlying23)
  rw [show (10000 : Nat) = 9999 + 1 from rfl, run_equalIn_array w 9999 _ _ Try.underlying24 hi0]
  exact items_cons (r := true) (r' := true) (by kernel_rfl) (by kernel_rfl) (eq_lens s.m0 w) (items_cons (r := true) (r' := true) (by kernel_rfl) (by kernel_rfl) (eq_lens s.m1 w) (items_cons (r := true) (r' := true) (by kernel_rfl) (by kernel_rfl) (eq_lens s.m2 w) (items_cons (r := true) (r' := true) (by kernel_rfl) (by kernel_rfl) (eq_lens s.m3 w) (items_nil))))
theorem eqBs (s : St) (w : World) : (Op.equalIn 10000 25 (.agg #[.int .i64 s.b0, .int .i64 s.b1, .int .i64 s.b2, .int .i64 s.b3]) (.agg #[.int .i64 s.b0, .int .i64 s.b1, .int .i64 s.b2, .int .i64 s.b3])).run Try.prog w = .ok true w := by
  obtain ⟨i0, hi0⟩ := info_of_underlying (Try.underlying2)
  rw [show (10000 : Nat) = 9999 + 1 from rfl, run_equalIn_array w 9999 _ _ Try.underlying25 hi0]
  exact items_cons (r := true) (r' := true) (by kernel_rfl) (by kernel_rfl) (eq_i64s s.b0 w) (items_cons (r := true) (r' := true) (by kernel_rfl) (by kernel_rfl) (eq_i64s s.b1 w) (items_cons (r := true) (r' := true) (by kernel_rfl) (by kernel_rfl) (eq_i64s s.b2 w) (items_cons (r := true) (r' := true) (by kernel_rfl) (by kernel_rfl) (eq_i64s s.b3 w) (items_nil))))
theorem eqPs (s : St) (w : World) : (Op.equalIn 10000 25 (.agg #[.int .i64 s.p0, .int .i64 s.p1, .int .i64 s.p2, .int .i64 s.p3]) (.agg #[.int .i64 s.p0, .int .i64 s.p1, .int .i64 s.p2, .int .i64 s.p3])).run Try.prog w = .ok true w := by
  obtain ⟨i0, hi0⟩ := info_of_underlying (Try.underlying2)
  rw [show (10000 : Nat) = 9999 + 1 from rfl, run_equalIn_array w 9999 _ _ Try.underlying25 hi0]
  exact items_cons (r := true) (r' := true) (by kernel_rfl) (by kernel_rfl) (eq_i64s s.p0 w) (items_cons (r := true) (r' := true) (by kernel_rfl) (by kernel_rfl) (eq_i64s s.p1 w) (items_cons (r := true) (r' := true) (by kernel_rfl) (by kernel_rfl) (eq_i64s s.p2 w) (items_cons (r := true) (r' := true) (by kernel_rfl) (by kernel_rfl) (eq_i64s s.p3 w) (items_nil))))
set_option maxRecDepth 20000 in
set_option maxHeartbeats 8000000 in
theorem rsame_any (s : St) (A : Option Addr) (c : Nat) (w : World) (hI : Ints .u16 w s.uA s.units.length s.units) (hJ : Ints .u16 w A s.units.length s.units) (hu : s.units.length ≤ maxLen) :
    Calls Try.prog 12 #[.agg (scells (s.moved A c)).toArray, .agg (scells s).toArray] w fun e w' => e = .returned (.bool true) ∧ Below w.heap.size w w' := by
  have hX := Blk_alloc (Blk_new w 28 (scells (s.moved A c)).toArray) (.cells (scells s).toArray 28)
  have hY := Blk_new (w.alloc (.cells (scells (s.moved A c)).toArray 28)) 28 (scells s).toArray
  have hb0 : Below w.heap.size w ((w.alloc (.cells (scells (s.moved A c)).toArray 28)).alloc (.cells (scells s).toArray 28)) := by (repeat' (first | (with_reducible exact Below.refl _ _) | (with_reducible assumption) | (with_reducible refine Below.alloc ?_ ?_ _) | (with_reducible refine Below.drew ?_) | (with_reducible refine Below_drewN ?_ _) | (with_reducible refine Below.setCell ?_ ?_ _) | go_size))
  have hu' := hu
  unfold maxLen at hu'
  simp only [World.size_alloc] at hY
  have q3 := eqMs s
  have q4 := eqBs s
  have q5 := eqPs s
  have xu := St_cell (j := 42) (v := .slice A s.units.length c) hX rfl
  have yu := St_cell (j := 42) (v := .slice s.uA s.units.length s.uc) hY rfl
  go_enter Try.func12, Try.ntmps12
  go_upto_region 1 with fail
  generalize (w.alloc (.cells (scells (s.moved A c)).toArray 28)).alloc (.cells (scells s).toArray 28) = w1 at *
  obtain ⟨n, hn⟩ : ∃ n, s.units.length = n := ⟨_, rfl⟩
  rw [hn] at hI hJ hu' xu yu
  have HN := Lib.hid hn
  clear hn
  obtain ⟨A0, hA0⟩ : ∃ A0, s.uA = A0 := ⟨_, rfl⟩
  rw [hA0] at hI yu
  clear hA0
  go_wp2_with fail
  go_loopw [5, 15, 16, 17, 18, 19, 20, 21, 22, 23, 24, 25, 26, 27, 28, 29, 30, 31, 32] (fun i _ _ _ _ _ _ _ _ _ _ _ _ _ _ _ _ _ _ wr => ∃ k : Nat, k ≤ n ∧ i = .int .i64 k ∧ Below w1.heap.size w1 wr) (fun i _ _ _ _ _ _ _ _ _ _ _ _ _ _ _ _ _ _ _ => n - (intOf i).toNat)
  case atStart => exact ⟨0, Nat.zero_le _, rfl, Below.refl _ _⟩
  case round =>
    obtain ⟨k, hk, rfl, hb⟩ := hrel
    have hbw := Below_then hb0 hb (Nat.le_refl _)
    have xu := (hb.cell (cell_lt xu)).trans xu
    have yu := (hb.cell (cell_lt yu)).trans yu
    by_cases hlt : k < n
    · obtain ⟨b1, o1, rfl, hB1, hc1⟩ := hI.at_ (by omega)
      obtain ⟨b2, o2, rfl, hB2, hc2⟩ := hJ.at_ (by omega)
      have cx : wr.cell? ⟨b1, o1 + k, none⟩ = some (.int .u16 (s.units.getD k 0)) := (hbw.cell hB1).trans (hc1 k hlt)
      have cy : wr.cell? ⟨b2, o2 + k, none⟩ = some (.int .u16 (s.units.getD k 0)) := (hbw.cell hB2).trans (hc2 k hlt)
      generalize s.units.getD k 0 = x at *
      have z0 := fun z : Up wr => up_cell z cx
      have z1 := fun z : Up wr => up_cell z cy
      have z2 := fun z : Up wr => up_cell z xu
      have z3 := fun z : Up wr => up_cell z yu
      clear hc1 hc2 q3 q4 q5
      go_wp2_with fail
      refine wp_region_up (by kernel_rfl) (by kernel_rfl) ?_
      repeat (go_big_quiet_step (fail))
      refine wpQuiet_nil ?_
      intro w' hup
      clear z0 z1 z2 z3
      go_wp2_with fail
      go_roundw
      case rel => exact ⟨k + 1, by omega, by go_num, Below_then hb hup (Nat.le_refl _)⟩
      case measure => simp [intOf]; omega
    · obtain rfl : k = n := by omega
      have hX := Blk_below hX hb (Blk_lt hX)
      have hY := Blk_below hY hb (Blk_lt hY)
      clear hI hJ
      have x_kind := St_cell (j := 0) (v := .int .u8 s.kind) hX rfl
      have x_flow := St_cell (j := 1) (v := .bool s.flow) hX rfl
      have x_float := St_cell (j := 2) (v := .int .u8 s.float) hX rfl
      have x_clear := St_cell (j := 3) (v := .int .u8 s.clear) hX rfl
      have x_w0 := St_cell (j := 4) (v := .int .u8 s.w.1) hX rfl
      have x_w1 := St_cell (j := 5) (v := .int .i64 s.w.2) hX rfl
      have x_h0 := St_cell (j := 6) (v := .int .u8 s.h.1) hX rfl
      have x_h1 := St_cell (j := 7) (v := .int .i64 s.h.2) hX rfl
      have x_minw0 := St_cell (j := 8) (v := .int .u8 s.minw.1) hX rfl
      have x_minw1 := St_cell (j := 9) (v := .int .i64 s.minw.2) hX rfl
      have x_maxw0 := St_cell (j := 10) (v := .int .u8 s.maxw.1) hX rfl
      have x_maxw1 := St_cell (j := 11) (v := .int .i64 s.maxw.2) hX rfl
      have x_minh0 := St_cell (j := 12) (v := .int .u8 s.minh.1) hX rfl
      have x_minh1 := St_cell (j := 13) (v := .int .i64 s.minh.2) hX rfl
      have x_maxh0 := St_cell (j := 14) (v := .int .u8 s.maxh.1) hX rfl
      have x_maxh1 := St_cell (j := 15) (v := .int .i64 s.maxh.2) hX rfl
      have x_m00 := St_cell (j := 16) (v := .int .u8 s.m0.1) hX rfl
      have x_m01 := St_cell (j := 17) (v := .int .i64 s.m0.2) hX rfl
      have x_m10 := St_cell (j := 18) (v := .int .u8 s.m1.1) hX rfl
      have x_m11 := St_cell (j := 19) (v := .int .i64 s.m1.2) hX rfl
      have x_m20 := St_cell (j := 20) (v := .int .u8 s.m2.1) hX rfl
      have x_m21 := St_cell (j := 21) (v := .int .i64 s.m2.2) hX rfl
      have x_m30 := St_cell (j := 22) (v := .int .u8 s.m3.1) hX rfl
      have x_m31 := St_cell (j := 23) (v := .int .i64 s.m3.2) hX rfl
      have x_b0 := St_cell (j := 24) (v := .int .i64 s.b0) hX rfl
      have x_b1 := St_cell (j := 25) (v := .int .i64 s.b1) hX rfl
      have x_b2 := St_cell (j := 26) (v := .int .i64 s.b2) hX rfl
      have x_b3 := St_cell (j := 27) (v := .int .i64 s.b3) hX rfl
      have x_p0 := St_cell (j := 28) (v := .int .i64 s.p0) hX rfl
      have x_p1 := St_cell (j := 29) (v := .int .i64 s.p1) hX rfl
      have x_p2 := St_cell (j := 30) (v := .int .i64 s.p2) hX rfl
      have x_p3 := St_cell (j := 31) (v := .int .i64 s.p3) hX rfl
      have x_align := St_cell (j := 32) (v := .int .u8 s.align) hX rfl
      have x_line := St_cell (j := 33) (v := .int .i64 s.line) hX rfl
      have x_wrap := St_cell (j := 34) (v := .bool s.wrap) hX rfl
      have x_justify := St_cell (j := 35) (v := .int .u8 s.justify) hX rfl
      have x_items := St_cell (j := 36) (v := .int .u8 s.items) hX rfl
      have x_order := St_cell (j := 37) (v := .int .i64 s.order) hX rfl
      have x_grow := St_cell (j := 38) (v := .int .i64 s.grow) hX rfl
      have x_shrink := St_cell (j := 39) (v := .int .i64 s.shrink) hX rfl
      have x_basis0 := St_cell (j := 40) (v := .int .u8 s.basis.1) hX rfl
      have x_basis1 := St_cell (j := 41) (v := .int .i64 s.basis.2) hX rfl
      have y_kind := St_cell (j := 0) (v := .int .u8 s.kind) hY rfl
      have y_flow := St_cell (j := 1) (v := .bool s.flow) hY rfl
      have y_float := St_cell (j := 2) (v := .int .u8 s.float) hY rfl
      have y_clear := St_cell (j := 3) (v := .int .u8 s.clear) hY rfl
      have y_w0 := St_cell (j := 4) (v := .int .u8 s.w.1) hY rfl
      have y_w1 := St_cell (j := 5) (v := .int .i64 s.w.2) hY rfl
      have y_h0 := St_cell (j := 6) (v := .int .u8 s.h.1) hY rfl
      have y_h1 := St_cell (j := 7) (v := .int .i64 s.h.2) hY rfl
      have y_minw0 := St_cell (j := 8) (v := .int .u8 s.minw.1) hY rfl
      have y_minw1 := St_cell (j := 9) (v := .int .i64 s.minw.2) hY rfl
      have y_maxw0 := St_cell (j := 10) (v := .int .u8 s.maxw.1) hY rfl
      have y_maxw1 := St_cell (j := 11) (v := .int .i64 s.maxw.2) hY rfl
      have y_minh0 := St_cell (j := 12) (v := .int .u8 s.minh.1) hY rfl
      have y_minh1 := St_cell (j := 13) (v := .int .i64 s.minh.2) hY rfl
      have y_maxh0 := St_cell (j := 14) (v := .int .u8 s.maxh.1) hY rfl
      have y_maxh1 := St_cell (j := 15) (v := .int .i64 s.maxh.2) hY rfl
      have y_m00 := St_cell (j := 16) (v := .int .u8 s.m0.1) hY rfl
      have y_m01 := St_cell (j := 17) (v := .int .i64 s.m0.2) hY rfl
      have y_m10 := St_cell (j := 18) (v := .int .u8 s.m1.1) hY rfl
      have y_m11 := St_cell (j := 19) (v := .int .i64 s.m1.2) hY rfl
      have y_m20 := St_cell (j := 20) (v := .int .u8 s.m2.1) hY rfl
      have y_m21 := St_cell (j := 21) (v := .int .i64 s.m2.2) hY rfl
      have y_m30 := St_cell (j := 22) (v := .int .u8 s.m3.1) hY rfl
      have y_m31 := St_cell (j := 23) (v := .int .i64 s.m3.2) hY rfl
      have y_b0 := St_cell (j := 24) (v := .int .i64 s.b0) hY rfl
      have y_b1 := St_cell (j := 25) (v := .int .i64 s.b1) hY rfl
      have y_b2 := St_cell (j := 26) (v := .int .i64 s.b2) hY rfl
      have y_b3 := St_cell (j := 27) (v := .int .i64 s.b3) hY rfl
      have y_p0 := St_cell (j := 28) (v := .int .i64 s.p0) hY rfl
      have y_p1 := St_cell (j := 29) (v := .int .i64 s.p1) hY rfl
      have y_p2 := St_cell (j := 30) (v := .int .i64 s.p2) hY rfl
      have y_p3 := St_cell (j := 31) (v := .int .i64 s.p3) hY rfl
      have y_align := St_cell (j := 32) (v := .int .u8 s.align) hY rfl
      have y_line := St_cell (j := 33) (v := .int .i64 s.line) hY rfl
      have y_wrap := St_cell (j := 34) (v := .bool s.wrap) hY rfl
      have y_justify := St_cell (j := 35) (v := .int .u8 s.justify) hY rfl
      have y_items := St_cell (j := 36) (v := .int .u8 s.items) hY rfl
      have y_order := St_cell (j := 37) (v := .int .i64 s.order) hY rfl
      have y_grow := St_cell (j := 38) (v := .int .i64 s.grow) hY rfl
      have y_shrink := St_cell (j := 39) (v := .int .i64 s.shrink) hY rfl
      have y_basis0 := St_cell (j := 40) (v := .int .u8 s.basis.1) hY rfl
      have y_basis1 := St_cell (j := 41) (v := .int .i64 s.basis.2) hY rfl
      go_wp2_with fail
      go_ret
      exact ⟨rfl, hbw⟩
end Go.Proofs.Ytedlfkklkoihjaa
