/-
  Which styles say nothing (style.bare). No condition.
-/
import Derived.Test.YtedlfkklkoihjaaTW3
import Derived.ChangeKeysEq
set_option linter.unusedVariables false
set_option linter.unusedSimpArgs false
namespace Go.Proofs.Ytedlfkklkoihjaa
open Go.RowKit Go.BigFrame

def lz (l : Int × Int) : Bool := (l.1 == 0) && (l.2 == 0)
theorem lz_eq (l : Int × Int) : noneB l = lz l := by unfold noneB lz; rw [Bool.decide_and]; rfl
section
variable {P : Program} {w : World} {d c : Nat} {e : TypeId} {xs ys : Array Value}
theorem items_nil : (Op.eqItems d e c xs ys []).run P w = .ok true w := by simp [Op.eqItems]
theorem items_cons {i : Nat} {is : List Nat} {a b : Value} {r r' : Bool} (h1 : (Go.part e xs (i * c)).run P w = .ok a w) (h2 : (Go.part e ys (i * c)).run P w = .ok b w) (h3 : (Op.equalIn d e a b).run P w = .ok r w)
    (h4 : (Op.eqItems d e c xs ys is).run P w = .ok r' w) : (Op.eqItems d e c xs ys (i :: is)).run P w = .ok (r && r') w := by
  cases r <;> simp [Op.eqItems, h1, h2, h3, h4]
end
theorem eq_i64 (a b : Int) (w : World) : (Op.equalIn 9999 2 (.int .i64 a) (.int .i64 b)).run Try.prog w = .ok (a == b) w := run_equalIn_int w 9998 2 .i64 .i64 a b Try.underlying2
theorem eq_u8 (a b : Int) (w : World) : (Op.equalIn 9999 5 (.int .u8 a) (.int .u8 b)).run Try.prog w = .ok (a == b) w := run_equalIn_int w 9998 5 .u8 .u8 a b Try.underlying5
theorem eq_len (l : Int × Int) (w : World) : (Op.equalIn 9999 23 (.agg #[.int .u8 l.1, .int .i64 l.2]) (.agg #[.int .u8 0, .int .i64 0])).run Try.prog w = .ok (lz l) w := by
  rw [show (9999 : Nat) = 9998 + 1 from rfl]
  unfold lz
  cases h1 : l.1 == 0 <;> cases h2 : l.2 == 0 <;> simp [go_sem, h1, h2, -beq_iff_eq, -beq_eq_false_iff_ne]
theorem eqM (s : St) (w : World) : (Op.equalIn 10000 24 (.agg #[.int .u8 s.m0.1, .int .i64 s.m0.2, .int .u8 s.m1.1, .int .i64 s.m1.2, .int .u8 s.m2.1, .int .i64 s.m2.2, .int .u8 s.m3.1, .int .i64 s.m3.2]) (.agg #[.int .u8 0, .int .i64 0, .int .u8 0, .int .i64 0, .int .u8 0, .int .i64 0, .int .u8 0, .int .i64 0])).run Try.prog w = .ok (lz s.m0 && (lz s.m1 && (lz s.m2 && (lz s.m3 && (true))))) w := by
  obtain ⟨i0, hi0⟩ := info_of_underlying (Try.underlying23)
  rw [show (10000 : Nat) = 9999 + 1 from rfl, run_equalIn_array w 9999 _ _ Try.underlying24 hi0]
  exact items_cons (by kernel_rfl) (by kernel_rfl) (eq_len s.m0 w) (items_cons (by kernel_rfl) (by kernel_rfl) (eq_len s.m1 w) (items_cons (by kernel_rfl) (by kernel_rfl) (eq_len s.m2 w) (items_cons (by kernel_rfl) (by kernel_rfl) (eq_len s.m3 w) (items_nil))))
theorem eqL (s : St) (w : World) : (Op.equalIn 10000 60 (.agg #[.int .u8 s.w.1, .int .i64 s.w.2, .int .u8 s.h.1, .int .i64 s.h.2, .int .u8 s.minw.1, .int .i64 s.minw.2, .int .u8 s.maxw.1, .int .i64 s.maxw.2, .int .u8 s.minh.1, .int .i64 s.minh.2, .int .u8 s.maxh.1, .int .i64 s.maxh.2, .int .u8 s.basis.1, .int .i64 s.basis.2]) (.agg #[.int .u8 0, .int .i64 0, .int .u8 0, .int .i64 0, .int .u8 0, .int .i64 0, .int .u8 0, .int .i64 0, .int .u8 0, .int .i64 0, .int .u8 0, .int .i64 0, .int .u8 0, .int .i64 0])).run Try.prog w = .ok (lz s.w && (lz s.h && (lz s.minw && (lz s.maxw && (lz s.minh && (lz s.maxh && (lz s.basis && (true)))))))) w := by
  obtain ⟨i0, hi0⟩ := info_of_underlying (Try.underlying23)
  rw [show (10000 : Nat) = 9999 + 1 from rfl, run_equalIn_array w 9999 _ _ Try.underlying60 hi0]
  exact items_cons (by kernel_rfl) (by kernel_rfl) (eq_len s.w w) (items_cons (by kernel_rfl) (by kernel_rfl) (eq_len s.h w) (items_cons (by kernel_rfl) (by kernel_rfl) (eq_len s.minw w) (items_cons (by kernel_rfl) (by kernel_rfl) (eq_len s.maxw w) (items_cons (by kernel_rfl) (by kernel_rfl) (eq_len s.minh w) (items_cons (by kernel_rfl) (by kernel_rfl) (eq_len s.maxh w) (items_cons (by kernel_rfl) (by kernel_rfl) (eq_len s.basis w) (items_nil)))))))
theorem eqB (s : St) (w : World) : (Op.equalIn 10000 25 (.agg #[.int .i64 s.b0, .int .i64 s.b1, .int .i64 s.b2, .int .i64 s.b3]) (.agg #[.int .i64 0, .int .i64 0, .int .i64 0, .int .i64 0])).run Try.prog w = .ok ((s.b0 == 0) && ((s.b1 == 0) && ((s.b2 == 0) && ((s.b3 == 0) && (true))))) w := by
  obtain ⟨i0, hi0⟩ := info_of_underlying (Try.underlying2)
  rw [show (10000 : Nat) = 9999 + 1 from rfl, run_equalIn_array w 9999 _ _ Try.underlying25 hi0]
  exact items_cons (by kernel_rfl) (by kernel_rfl) (eq_i64 s.b0 0 w) (items_cons (by kernel_rfl) (by kernel_rfl) (eq_i64 s.b1 0 w) (items_cons (by kernel_rfl) (by kernel_rfl) (eq_i64 s.b2 0 w) (items_cons (by kernel_rfl) (by kernel_rfl) (eq_i64 s.b3 0 w) (items_nil))))
theorem eqP (s : St) (w : World) : (Op.equalIn 10000 25 (.agg #[.int .i64 s.p0, .int .i64 s.p1, .int .i64 s.p2, .int .i64 s.p3]) (.agg #[.int .i64 0, .int .i64 0, .int .i64 0, .int .i64 0])).run Try.prog w = .ok ((s.p0 == 0) && ((s.p1 == 0) && ((s.p2 == 0) && ((s.p3 == 0) && (true))))) w := by
  obtain ⟨i0, hi0⟩ := info_of_underlying (Try.underlying2)
  rw [show (10000 : Nat) = 9999 + 1 from rfl, run_equalIn_array w 9999 _ _ Try.underlying25 hi0]
  exact items_cons (by kernel_rfl) (by kernel_rfl) (eq_i64 s.p0 0 w) (items_cons (by kernel_rfl) (by kernel_rfl) (eq_i64 s.p1 0 w) (items_cons (by kernel_rfl) (by kernel_rfl) (eq_i64 s.p2 0 w) (items_cons (by kernel_rfl) (by kernel_rfl) (eq_i64 s.p3 0 w) (items_nil))))
theorem eqW (s : St) (w : World) : (Op.equalIn 10000 61 (.agg #[.int .u8 s.float, .int .u8 s.clear, .int .u8 s.align, .int .u8 s.justify, .int .u8 s.items]) (.agg #[.int .u8 0, .int .u8 0, .int .u8 0, .int .u8 0, .int .u8 0])).run Try.prog w = .ok ((s.float == 0) && ((s.clear == 0) && ((s.align == 0) && ((s.justify == 0) && ((s.items == 0) && (true)))))) w := by
  obtain ⟨i0, hi0⟩ := info_of_underlying (Try.underlying5)
  rw [show (10000 : Nat) = 9999 + 1 from rfl, run_equalIn_array w 9999 _ _ Try.underlying61 hi0]
  exact items_cons (by kernel_rfl) (by kernel_rfl) (eq_u8 s.float 0 w) (items_cons (by kernel_rfl) (by kernel_rfl) (eq_u8 s.clear 0 w) (items_cons (by kernel_rfl) (by kernel_rfl) (eq_u8 s.align 0 w) (items_cons (by kernel_rfl) (by kernel_rfl) (eq_u8 s.justify 0 w) (items_cons (by kernel_rfl) (by kernel_rfl) (eq_u8 s.items 0 w) (items_nil)))))
theorem eqN (s : St) (w : World) : (Op.equalIn 10000 25 (.agg #[.int .i64 s.line, .int .i64 s.order, .int .i64 s.grow, .int .i64 s.shrink]) (.agg #[.int .i64 0, .int .i64 0, .int .i64 0, .int .i64 0])).run Try.prog w = .ok ((s.line == 0) && ((s.order == 0) && ((s.grow == 0) && ((s.shrink == 0) && (true))))) w := by
  obtain ⟨i0, hi0⟩ := info_of_underlying (Try.underlying2)
  rw [show (10000 : Nat) = 9999 + 1 from rfl, run_equalIn_array w 9999 _ _ Try.underlying25 hi0]
  exact items_cons (by kernel_rfl) (by kernel_rfl) (eq_i64 s.line 0 w) (items_cons (by kernel_rfl) (by kernel_rfl) (eq_i64 s.order 0 w) (items_cons (by kernel_rfl) (by kernel_rfl) (eq_i64 s.grow 0 w) (items_cons (by kernel_rfl) (by kernel_rfl) (eq_i64 s.shrink 0 w) (items_nil))))
theorem empty_parts (s : St) : emptyB s = (!s.flow && (!s.wrap && ((lz s.m0 && (lz s.m1 && (lz s.m2 && (lz s.m3 && (true))))) && (((s.b0 == 0) && ((s.b1 == 0) && ((s.b2 == 0) && ((s.b3 == 0) && (true))))) && (((s.p0 == 0) && ((s.p1 == 0) && ((s.p2 == 0) && ((s.p3 == 0) && (true))))) && ((lz s.w && (lz s.h && (lz s.minw && (lz s.maxw && (lz s.minh && (lz s.maxh && (lz s.basis && (true)))))))) && (((s.float == 0) && ((s.clear == 0) && ((s.align == 0) && ((s.justify == 0) && ((s.items == 0) && (true)))))) && ((s.line == 0) && ((s.order == 0) && ((s.grow == 0) && ((s.shrink == 0) && (true)))))))))))) := by
  rw [Bool.eq_iff_iff]
  simp only [emptyB, lz_eq, Bool.and_eq_true, decide_eq_true_eq, Bool.not_eq_true', beq_iff_eq, and_true]
  constructor
  · rintro ⟨⟨h1, h2⟩, h3⟩
    simp only [h1, h2, h3, and_self]
  · rintro ⟨h1, h2, h3, h4, h5, h6, h7, h8⟩
    simp only [h1, h2, h3, h4, h5, h6, h7, h8, and_self]
set_option maxRecDepth 20000 in
set_option maxHeartbeats 8000000 in
theorem sbare_any (s : St) (w : World) : Calls Try.prog 19 #[.agg (scells s).toArray] w fun e w' => e = .returned (.bool (emptyB s)) ∧ Below w.heap.size w w' := by
  have hB := Blk_new w 28 (scells s).toArray
  have hb := (Below.refl w.heap.size w).alloc (Nat.le_refl _) (.cells (scells s).toArray 28)
  have c_kind := St_cell (j := 0) (v := .int .u8 s.kind) hB rfl
  have c_flow := St_cell (j := 1) (v := .bool s.flow) hB rfl
  have c_float := St_cell (j := 2) (v := .int .u8 s.float) hB rfl
  have c_clear := St_cell (j := 3) (v := .int .u8 s.clear) hB rfl
  have c_w0 := St_cell (j := 4) (v := .int .u8 s.w.1) hB rfl
  have c_w1 := St_cell (j := 5) (v := .int .i64 s.w.2) hB rfl
  have c_h0 := St_cell (j := 6) (v := .int .u8 s.h.1) hB rfl
  have c_h1 := St_cell (j := 7) (v := .int .i64 s.h.2) hB rfl
  have c_minw0 := St_cell (j := 8) (v := .int .u8 s.minw.1) hB rfl
  have c_minw1 := St_cell (j := 9) (v := .int .i64 s.minw.2) hB rfl
  have c_maxw0 := St_cell (j := 10) (v := .int .u8 s.maxw.1) hB rfl
  have c_maxw1 := St_cell (j := 11) (v := .int .i64 s.maxw.2) hB rfl
  have c_minh0 := St_cell (j := 12) (v := .int .u8 s.minh.1) hB rfl
  have c_minh1 := St_cell (j := 13) (v := .int .i64 s.minh.2) hB rfl
  have c_maxh0 := St_cell (j := 14) (v := .int .u8 s.maxh.1) hB rfl
  have c_maxh1 := St_cell (j := 15) (v := .int .i64 s.maxh.2) hB rfl
  have c_m00 := St_cell (j := 16) (v := .int .u8 s.m0.1) hB rfl
  have c_m01 := St_cell (j := 17) (v := .int .i64 s.m0.2) hB rfl
  have c_m10 := St_cell (j := 18) (v := .int .u8 s.m1.1) hB rfl
  have c_m11 := St_cell (j := 19) (v := .int .i64 s.m1.2) hB rfl
  have c_m20 := St_cell (j := 20) (v := .int .u8 s.m2.1) hB rfl
  have c_m21 := St_cell (j := 21) (v := .int .i64 s.m2.2) hB rfl
  have c_m30 := St_cell (j := 22) (v := .int .u8 s.m3.1) hB rfl
  have c_m31 := St_cell (j := 23) (v := .int .i64 s.m3.2) hB rfl
  have c_b0 := St_cell (j := 24) (v := .int .i64 s.b0) hB rfl
  have c_b1 := St_cell (j := 25) (v := .int .i64 s.b1) hB rfl
  have c_b2 := St_cell (j := 26) (v := .int .i64 s.b2) hB rfl
  have c_b3 := St_cell (j := 27) (v := .int .i64 s.b3) hB rfl
  have c_p0 := St_cell (j := 28) (v := .int .i64 s.p0) hB rfl
  have c_p1 := St_cell (j := 29) (v := .int .i64 s.p1) hB rfl
  have c_p2 := St_cell (j := 30) (v := .int .i64 s.p2) hB rfl
  have c_p3 := St_cell (j := 31) (v := .int .i64 s.p3) hB rfl
  have c_align := St_cell (j := 32) (v := .int .u8 s.align) hB rfl
  have c_line := St_cell (j := 33) (v := .int .i64 s.line) hB rfl
  have c_wrap := St_cell (j := 34) (v := .bool s.wrap) hB rfl
  have c_justify := St_cell (j := 35) (v := .int .u8 s.justify) hB rfl
  have c_items := St_cell (j := 36) (v := .int .u8 s.items) hB rfl
  have c_order := St_cell (j := 37) (v := .int .i64 s.order) hB rfl
  have c_grow := St_cell (j := 38) (v := .int .i64 s.grow) hB rfl
  have c_shrink := St_cell (j := 39) (v := .int .i64 s.shrink) hB rfl
  have c_basis0 := St_cell (j := 40) (v := .int .u8 s.basis.1) hB rfl
  have c_basis1 := St_cell (j := 41) (v := .int .i64 s.basis.2) hB rfl
  have q3 := eqM s
  have q4 := eqB s
  have q5 := eqP s
  have q6 := eqL s
  have q7 := eqW s
  have q8 := eqN s
  have HE := Lib.hid (empty_parts s)
  generalize (lz s.m0 && (lz s.m1 && (lz s.m2 && (lz s.m3 && (true))))) = b3 at *
  generalize ((s.b0 == 0) && ((s.b1 == 0) && ((s.b2 == 0) && ((s.b3 == 0) && (true))))) = b4 at *
  generalize ((s.p0 == 0) && ((s.p1 == 0) && ((s.p2 == 0) && ((s.p3 == 0) && (true))))) = b5 at *
  generalize (lz s.w && (lz s.h && (lz s.minw && (lz s.maxw && (lz s.minh && (lz s.maxh && (lz s.basis && (true)))))))) = b6 at *
  generalize ((s.float == 0) && ((s.clear == 0) && ((s.align == 0) && ((s.justify == 0) && ((s.items == 0) && (true)))))) = b7 at *
  generalize ((s.line == 0) && ((s.order == 0) && ((s.grow == 0) && ((s.shrink == 0) && (true))))) = b8 at *
  generalize s.flow = b1 at *
  generalize s.wrap = b2 at *
  have hsz := hb.size
  have hlt := Blk_lt hB
  go_enter Try.func19, Try.ntmps19
  go_upto_region 1 with fail
  generalize w.alloc (.cells (scells s).toArray 28) = w1 at *
  clear hB
  have l1 : w.heap.size < w1.heap.size + 1 := by omega
  have l2 : w.heap.size < w1.heap.size + 1 + 1 := by omega
  have l3 : w.heap.size < w1.heap.size + 1 + 1 + 1 := by omega
  have l4 : w.heap.size < w1.heap.size + 1 + 1 + 1 + 1 := by omega
  go_upto_region 6 with fail
  cases b1
  case true =>
    go_wp2_with fail
    go_ret
    exact ⟨bool_eq HE.out.symm, by (repeat' (first | (with_reducible exact Below.refl _ _) | (with_reducible assumption) | (with_reducible refine Below.alloc ?_ ?_ _) | (with_reducible refine Below.drew ?_) | (with_reducible refine Below_drewN ?_ _) | (with_reducible refine Below.setCell ?_ ?_ _) | go_size))⟩
  case false =>
    cases b2
    case true =>
      go_wp2_with fail
      go_ret
      exact ⟨bool_eq HE.out.symm, by (repeat' (first | (with_reducible exact Below.refl _ _) | (with_reducible assumption) | (with_reducible refine Below.alloc ?_ ?_ _) | (with_reducible refine Below.drew ?_) | (with_reducible refine Below_drewN ?_ _) | (with_reducible refine Below.setCell ?_ ?_ _) | go_size))⟩
    case false =>
      cases b3
      case false =>
        go_wp2_with fail
        go_ret
        exact ⟨bool_eq HE.out.symm, by (repeat' (first | (with_reducible exact Below.refl _ _) | (with_reducible assumption) | (with_reducible refine Below.alloc ?_ ?_ _) | (with_reducible refine Below.drew ?_) | (with_reducible refine Below_drewN ?_ _) | (with_reducible refine Below.setCell ?_ ?_ _) | go_size))⟩
      case true =>
        cases b4
        case false =>
          go_wp2_with fail
          go_ret
          exact ⟨bool_eq HE.out.symm, by (repeat' (first | (with_reducible exact Below.refl _ _) | (with_reducible assumption) | (with_reducible refine Below.alloc ?_ ?_ _) | (with_reducible refine Below.drew ?_) | (with_reducible refine Below_drewN ?_ _) | (with_reducible refine Below.setCell ?_ ?_ _) | go_size))⟩
        case true =>
          cases b5
          case false =>
            go_wp2_with fail
            go_ret
            exact ⟨bool_eq HE.out.symm, by (repeat' (first | (with_reducible exact Below.refl _ _) | (with_reducible assumption) | (with_reducible refine Below.alloc ?_ ?_ _) | (with_reducible refine Below.drew ?_) | (with_reducible refine Below_drewN ?_ _) | (with_reducible refine Below.setCell ?_ ?_ _) | go_size))⟩
          case true =>
            cases b6
            case false =>
              go_wp2_with fail
              go_ret
              exact ⟨bool_eq HE.out.symm, by (repeat' (first | (with_reducible exact Below.refl _ _) | (with_reducible assumption) | (with_reducible refine Below.alloc ?_ ?_ _) | (with_reducible refine Below.drew ?_) | (with_reducible refine Below_drewN ?_ _) | (with_reducible refine Below.setCell ?_ ?_ _) | go_size))⟩
            case true =>
              cases b7
              case false =>
                go_wp2_with fail
                go_ret
                exact ⟨bool_eq HE.out.symm, by (repeat' (first | (with_reducible exact Below.refl _ _) | (with_reducible assumption) | (with_reducible refine Below.alloc ?_ ?_ _) | (with_reducible refine Below.drew ?_) | (with_reducible refine Below_drewN ?_ _) | (with_reducible refine Below.setCell ?_ ?_ _) | go_size))⟩
              case true =>
                go_wp2_with fail
                go_ret
                exact ⟨bool_eq HE.out.symm, by (repeat' (first | (with_reducible exact Below.refl _ _) | (with_reducible assumption) | (with_reducible refine Below.alloc ?_ ?_ _) | (with_reducible refine Below.drew ?_) | (with_reducible refine Below_drewN ?_ _) | (with_reducible refine Below.setCell ?_ ?_ _) | go_size))⟩
end Go.Proofs.Ytedlfkklkoihjaa
