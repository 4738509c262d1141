/-
  What is asked of a box's style, one by one (style.box's functions). No condition.
-/
import Derived.Test.YtedlfkklkoihjaaTW1
set_option linter.unusedVariables false
set_option linter.unusedSimpArgs false
namespace Go.Proofs.Ytedlfkklkoihjaa
open Go.RowKit Go.BigFrame

def so1 (s : St) : Bool := decide (s.float ≤ 2) && decide (s.clear ≤ 3)
def so2 (s : St) : Bool := mayB s.w 0 && mayB s.minw 0 && mayB s.maxw 0 && mayB s.basis 0
def so3 (s : St) : Bool := highB s.h && highB s.minh && highB s.maxh
def so4 (s : St) : Bool := edgeB s.m0 s.b0 s.p0 && edgeB s.m1 s.b1 s.p1 && edgeB s.m2 s.b2 s.p2 && edgeB s.m3 s.b3 s.p3
def so5 (s : St) : Bool := decide (s.align ≤ 2) && decide (s.justify ≤ 3) && decide (s.items ≤ 3)
def so6 (s : St) : Bool := inB s.line 0 1099511627776
def so7 (s : St) : Bool := inB s.order (-1048576) 1048576
def so8 (s : St) : Bool := inB s.grow 0 60 && inB s.shrink 0 60
def so9 (s : St) : Bool := decide (s.units.length = 0)
section
variable {w : World} {g : Nat} {s : St}
theorem so1_any (hB : Blk w g 28 (scells s).toArray) : Calls Try.prog 30 #[.pointer (some ⟨g, 0, none⟩)] w fun e w' => e = .returned (.bool (so1 s)) ∧ Below w.heap.size w w' := by
  have c_float := St_cell (j := 2) (v := .int .u8 s.float) hB rfl
  have c_clear := St_cell (j := 3) (v := .int .u8 s.clear) hB rfl
  unfold so1
  cases q : decide (s.float ≤ 2)
  all_goals
    go_enter Try.func30, Try.ntmps30
    go_wp2_with fail
    go_ret
    exact ⟨rfl, Below.refl _ _⟩
theorem so5_any (hB : Blk w g 28 (scells s).toArray) : Calls Try.prog 36 #[.pointer (some ⟨g, 0, none⟩)] w fun e w' => e = .returned (.bool (so5 s)) ∧ Below w.heap.size w w' := by
  have c_align := St_cell (j := 32) (v := .int .u8 s.align) hB rfl
  have c_justify := St_cell (j := 35) (v := .int .u8 s.justify) hB rfl
  have c_items := St_cell (j := 36) (v := .int .u8 s.items) hB rfl
  unfold so5
  cases q : decide (s.align ≤ 2)
  · go_enter Try.func36, Try.ntmps36
    go_wp2_with fail
    go_ret
    exact ⟨rfl, Below.refl _ _⟩
  · cases q2 : decide (s.justify ≤ 3)
    all_goals
      go_enter Try.func36, Try.ntmps36
      go_wp2_with fail
      go_ret
      exact ⟨rfl, Below.refl _ _⟩
theorem so6_any (hB : Blk w g 28 (scells s).toArray) : Calls Try.prog 37 #[.pointer (some ⟨g, 0, none⟩)] w fun e w' => e = .returned (.bool (so6 s)) ∧ Below w.heap.size w w' := by
  have c_line := St_cell (j := 33) (v := .int .i64 s.line) hB rfl
  have hi := swithin_any s.line 0 1099511627776
  unfold so6
  go_enter Try.func37, Try.ntmps37
  go_wp2_with ((go_at_call 38; (with_reducible refine (hi _).mono ?_)); rintro e w1 ⟨rfl, rfl⟩)
  go_ret
  exact ⟨rfl, Below.refl _ _⟩
theorem so7_any (hB : Blk w g 28 (scells s).toArray) (hw : s.Wf) : Calls Try.prog 39 #[.pointer (some ⟨g, 0, none⟩)] w fun e w' => e = .returned (.bool (so7 s)) ∧ Below w.heap.size w w' := by
  have c_order := St_cell (j := 37) (v := .int .i64 s.order) hB rfl
  have hi := swithin_any s.order (-1048576) 1048576
  unfold so7
  go_enter Try.func39, Try.ntmps39
  go_wp2_with ((go_at_call 38; (with_reducible refine (hi _).mono ?_)); rintro e w1 ⟨rfl, rfl⟩)
  go_ret
  exact ⟨rfl, Below.refl _ _⟩
theorem so8_any (hB : Blk w g 28 (scells s).toArray) : Calls Try.prog 40 #[.pointer (some ⟨g, 0, none⟩)] w fun e w' => e = .returned (.bool (so8 s)) ∧ Below w.heap.size w w' := by
  have c_grow := St_cell (j := 38) (v := .int .i64 s.grow) hB rfl
  have c_shrink := St_cell (j := 39) (v := .int .i64 s.shrink) hB rfl
  have h1 := swithin_any s.grow 0 60
  have h2 := swithin_any s.shrink 0 60
  unfold so8
  cases q : inB s.grow 0 60
  all_goals
    rw [q] at h1
    go_enter Try.func40, Try.ntmps40
    go_wp2_with (first | ((go_at_call 38; (with_reducible refine (h1 _).mono ?_)); rintro e w1 ⟨rfl, rfl⟩) | ((go_at_call 38; (with_reducible refine (h2 _).mono ?_)); rintro e w1 ⟨rfl, rfl⟩))
    go_ret
    exact ⟨rfl, Below.refl _ _⟩
theorem so9_any (hB : Blk w g 28 (scells s).toArray) : Calls Try.prog 41 #[.pointer (some ⟨g, 0, none⟩)] w fun e w' => e = .returned (.bool (so9 s)) ∧ Below w.heap.size w w' := by
  have c_units := St_cell (j := 42) (v := .slice s.uA s.units.length s.uc) hB rfl
  have HE := Lib.hid (show so9 s = ((s.units.length : Int) == 0) by unfold so9; cases s.units <;> simp <;> omega)
  go_enter Try.func41, Try.ntmps41
  go_wp2_with fail
  go_ret
  exact ⟨bool_eq HE.out.symm, Below.refl _ _⟩
set_option maxHeartbeats 1000000 in
theorem so2_any (hB : Blk w g 28 (scells s).toArray) : Calls Try.prog 31 #[.pointer (some ⟨g, 0, none⟩)] w fun e w' => e = .returned (.bool (so2 s)) ∧ Below w.heap.size w w' := by
  have c_w0 := St_cell (j := 4) (v := .int .u8 s.w.1) hB rfl
  have c_w1 := St_cell (j := 5) (v := .int .i64 s.w.2) hB rfl
  have c_minw0 := St_cell (j := 8) (v := .int .u8 s.minw.1) hB rfl
  have c_minw1 := St_cell (j := 9) (v := .int .i64 s.minw.2) hB rfl
  have c_maxw0 := St_cell (j := 10) (v := .int .u8 s.maxw.1) hB rfl
  have c_maxw1 := St_cell (j := 11) (v := .int .i64 s.maxw.2) hB rfl
  have c_basis0 := St_cell (j := 40) (v := .int .u8 s.basis.1) hB rfl
  have c_basis1 := St_cell (j := 41) (v := .int .i64 s.basis.2) hB rfl
  have hb := Below.refl w.heap.size w
  have h1 := fun w => smay_any s.w.1 s.w.2 0 (.inl rfl) w
  have h2 := fun w => smay_any s.minw.1 s.minw.2 0 (.inl rfl) w
  have h3 := fun w => smay_any s.maxw.1 s.maxw.2 0 (.inl rfl) w
  have h4 := fun w => smay_any s.basis.1 s.basis.2 0 (.inl rfl) w
  have HE := Lib.hid (show so2 s = (mayB (s.w.1, s.w.2) 0 && mayB (s.minw.1, s.minw.2) 0 && mayB (s.maxw.1, s.maxw.2) 0 && mayB (s.basis.1, s.basis.2) 0) from rfl)
  generalize mayB (s.w.1, s.w.2) 0 = b1 at *
  generalize mayB (s.minw.1, s.minw.2) 0 = b2 at *
  generalize mayB (s.maxw.1, s.maxw.2) 0 = b3 at *
  generalize mayB (s.basis.1, s.basis.2) 0 = b4 at *
  cases b1
  · go_enter Try.func31, Try.ntmps31
    go_wp2_with ((go_at_call 32; (with_reducible refine (h1 _).mono ?_)); rintro e w' ⟨rfl, h⟩; (have hB := Blk_below hB h (Blk_lt hB); have hb := Below_then hb h (Nat.le_refl _); have c_w0 := St_cell (j := 4) (v := .int .u8 s.w.1) hB rfl; have c_w1 := St_cell (j := 5) (v := .int .i64 s.w.2) hB rfl; have c_minw0 := St_cell (j := 8) (v := .int .u8 s.minw.1) hB rfl; have c_minw1 := St_cell (j := 9) (v := .int .i64 s.minw.2) hB rfl; have c_maxw0 := St_cell (j := 10) (v := .int .u8 s.maxw.1) hB rfl; have c_maxw1 := St_cell (j := 11) (v := .int .i64 s.maxw.2) hB rfl; have c_basis0 := St_cell (j := 40) (v := .int .u8 s.basis.1) hB rfl; have c_basis1 := St_cell (j := 41) (v := .int .i64 s.basis.2) hB rfl))
    go_ret
    exact ⟨bool_eq HE.out.symm, hb⟩
  · cases b2
    · go_enter Try.func31, Try.ntmps31
      go_wp2_with (first | ((go_at_call 32; (with_reducible refine (h1 _).mono ?_)); rintro e w' ⟨rfl, h⟩; (have hB := Blk_below hB h (Blk_lt hB); have hb := Below_then hb h (Nat.le_refl _); have c_w0 := St_cell (j := 4) (v := .int .u8 s.w.1) hB rfl; have c_w1 := St_cell (j := 5) (v := .int .i64 s.w.2) hB rfl; have c_minw0 := St_cell (j := 8) (v := .int .u8 s.minw.1) hB rfl; have c_minw1 := St_cell (j := 9) (v := .int .i64 s.minw.2) hB rfl; have c_maxw0 := St_cell (j := 10) (v := .int .u8 s.maxw.1) hB rfl; have c_maxw1 := St_cell (j := 11) (v := .int .i64 s.maxw.2) hB rfl; have c_basis0 := St_cell (j := 40) (v := .int .u8 s.basis.1) hB rfl; have c_basis1 := St_cell (j := 41) (v := .int .i64 s.basis.2) hB rfl)) | ((go_at_call 32; (with_reducible refine (h2 _).mono ?_)); rintro e w' ⟨rfl, h⟩; (have hB := Blk_below hB h (Blk_lt hB); have hb := Below_then hb h (Nat.le_refl _); have c_w0 := St_cell (j := 4) (v := .int .u8 s.w.1) hB rfl; have c_w1 := St_cell (j := 5) (v := .int .i64 s.w.2) hB rfl; have c_minw0 := St_cell (j := 8) (v := .int .u8 s.minw.1) hB rfl; have c_minw1 := St_cell (j := 9) (v := .int .i64 s.minw.2) hB rfl; have c_maxw0 := St_cell (j := 10) (v := .int .u8 s.maxw.1) hB rfl; have c_maxw1 := St_cell (j := 11) (v := .int .i64 s.maxw.2) hB rfl; have c_basis0 := St_cell (j := 40) (v := .int .u8 s.basis.1) hB rfl; have c_basis1 := St_cell (j := 41) (v := .int .i64 s.basis.2) hB rfl)))
      go_ret
      exact ⟨bool_eq HE.out.symm, hb⟩
    · cases b3
      all_goals
        go_enter Try.func31, Try.ntmps31
        go_wp2_with (first | ((go_at_call 32; (with_reducible refine (h1 _).mono ?_)); rintro e w' ⟨rfl, h⟩; (have hB := Blk_below hB h (Blk_lt hB); have hb := Below_then hb h (Nat.le_refl _); have c_w0 := St_cell (j := 4) (v := .int .u8 s.w.1) hB rfl; have c_w1 := St_cell (j := 5) (v := .int .i64 s.w.2) hB rfl; have c_minw0 := St_cell (j := 8) (v := .int .u8 s.minw.1) hB rfl; have c_minw1 := St_cell (j := 9) (v := .int .i64 s.minw.2) hB rfl; have c_maxw0 := St_cell (j := 10) (v := .int .u8 s.maxw.1) hB rfl; have c_maxw1 := St_cell (j := 11) (v := .int .i64 s.maxw.2) hB rfl; have c_basis0 := St_cell (j := 40) (v := .int .u8 s.basis.1) hB rfl; have c_basis1 := St_cell (j := 41) (v := .int .i64 s.basis.2) hB rfl)) | ((go_at_call 32; (with_reducible refine (h2 _).mono ?_)); rintro e w' ⟨rfl, h⟩; (have hB := Blk_below hB h (Blk_lt hB); have hb := Below_then hb h (Nat.le_refl _); have c_w0 := St_cell (j := 4) (v := .int .u8 s.w.1) hB rfl; have c_w1 := St_cell (j := 5) (v := .int .i64 s.w.2) hB rfl; have c_minw0 := St_cell (j := 8) (v := .int .u8 s.minw.1) hB rfl; have c_minw1 := St_cell (j := 9) (v := .int .i64 s.minw.2) hB rfl; have c_maxw0 := St_cell (j := 10) (v := .int .u8 s.maxw.1) hB rfl; have c_maxw1 := St_cell (j := 11) (v := .int .i64 s.maxw.2) hB rfl; have c_basis0 := St_cell (j := 40) (v := .int .u8 s.basis.1) hB rfl; have c_basis1 := St_cell (j := 41) (v := .int .i64 s.basis.2) hB rfl)) | ((go_at_call 32; (with_reducible refine (h3 _).mono ?_)); rintro e w' ⟨rfl, h⟩; (have hB := Blk_below hB h (Blk_lt hB); have hb := Below_then hb h (Nat.le_refl _); have c_w0 := St_cell (j := 4) (v := .int .u8 s.w.1) hB rfl; have c_w1 := St_cell (j := 5) (v := .int .i64 s.w.2) hB rfl; have c_minw0 := St_cell (j := 8) (v := .int .u8 s.minw.1) hB rfl; have c_minw1 := St_cell (j := 9) (v := .int .i64 s.minw.2) hB rfl; have c_maxw0 := St_cell (j := 10) (v := .int .u8 s.maxw.1) hB rfl; have c_maxw1 := St_cell (j := 11) (v := .int .i64 s.maxw.2) hB rfl; have c_basis0 := St_cell (j := 40) (v := .int .u8 s.basis.1) hB rfl; have c_basis1 := St_cell (j := 41) (v := .int .i64 s.basis.2) hB rfl)) | ((go_at_call 32; (with_reducible refine (h4 _).mono ?_)); rintro e w' ⟨rfl, h⟩; (have hB := Blk_below hB h (Blk_lt hB); have hb := Below_then hb h (Nat.le_refl _); have c_w0 := St_cell (j := 4) (v := .int .u8 s.w.1) hB rfl; have c_w1 := St_cell (j := 5) (v := .int .i64 s.w.2) hB rfl; have c_minw0 := St_cell (j := 8) (v := .int .u8 s.minw.1) hB rfl; have c_minw1 := St_cell (j := 9) (v := .int .i64 s.minw.2) hB rfl; have c_maxw0 := St_cell (j := 10) (v := .int .u8 s.maxw.1) hB rfl; have c_maxw1 := St_cell (j := 11) (v := .int .i64 s.maxw.2) hB rfl; have c_basis0 := St_cell (j := 40) (v := .int .u8 s.basis.1) hB rfl; have c_basis1 := St_cell (j := 41) (v := .int .i64 s.basis.2) hB rfl)))
        go_ret
        exact ⟨bool_eq HE.out.symm, hb⟩
set_option maxHeartbeats 1000000 in
theorem so3_any (hB : Blk w g 28 (scells s).toArray) : Calls Try.prog 33 #[.pointer (some ⟨g, 0, none⟩)] w fun e w' => e = .returned (.bool (so3 s)) ∧ Below w.heap.size w w' := by
  have c_h0 := St_cell (j := 6) (v := .int .u8 s.h.1) hB rfl
  have c_h1 := St_cell (j := 7) (v := .int .i64 s.h.2) hB rfl
  have c_minh0 := St_cell (j := 12) (v := .int .u8 s.minh.1) hB rfl
  have c_minh1 := St_cell (j := 13) (v := .int .i64 s.minh.2) hB rfl
  have c_maxh0 := St_cell (j := 14) (v := .int .u8 s.maxh.1) hB rfl
  have c_maxh1 := St_cell (j := 15) (v := .int .i64 s.maxh.2) hB rfl
  have hb := Below.refl w.heap.size w
  have h1 := fun w => sfixed_any s.h.1 s.h.2 w
  have h2 := fun w => sfixed_any s.minh.1 s.minh.2 w
  have h3 := fun w => sfixed_any s.maxh.1 s.maxh.2 w
  have HE := Lib.hid (show so3 s = (highB (s.h.1, s.h.2) && highB (s.minh.1, s.minh.2) && highB (s.maxh.1, s.maxh.2)) from rfl)
  generalize highB (s.h.1, s.h.2) = b1 at *
  generalize highB (s.minh.1, s.minh.2) = b2 at *
  generalize highB (s.maxh.1, s.maxh.2) = b3 at *
  cases b1
  · go_enter Try.func33, Try.ntmps33
    go_wp2_with ((go_at_call 34; (with_reducible refine (h1 _).mono ?_)); rintro e w' ⟨rfl, h⟩; (have hB := Blk_below hB h (Blk_lt hB); have hb := Below_then hb h (Nat.le_refl _); have c_h0 := St_cell (j := 6) (v := .int .u8 s.h.1) hB rfl; have c_h1 := St_cell (j := 7) (v := .int .i64 s.h.2) hB rfl; have c_minh0 := St_cell (j := 12) (v := .int .u8 s.minh.1) hB rfl; have c_minh1 := St_cell (j := 13) (v := .int .i64 s.minh.2) hB rfl; have c_maxh0 := St_cell (j := 14) (v := .int .u8 s.maxh.1) hB rfl; have c_maxh1 := St_cell (j := 15) (v := .int .i64 s.maxh.2) hB rfl))
    go_ret
    exact ⟨bool_eq HE.out.symm, hb⟩
  · cases b2
    all_goals
      go_enter Try.func33, Try.ntmps33
      go_wp2_with (first | ((go_at_call 34; (with_reducible refine (h1 _).mono ?_)); rintro e w' ⟨rfl, h⟩; (have hB := Blk_below hB h (Blk_lt hB); have hb := Below_then hb h (Nat.le_refl _); have c_h0 := St_cell (j := 6) (v := .int .u8 s.h.1) hB rfl; have c_h1 := St_cell (j := 7) (v := .int .i64 s.h.2) hB rfl; have c_minh0 := St_cell (j := 12) (v := .int .u8 s.minh.1) hB rfl; have c_minh1 := St_cell (j := 13) (v := .int .i64 s.minh.2) hB rfl; have c_maxh0 := St_cell (j := 14) (v := .int .u8 s.maxh.1) hB rfl; have c_maxh1 := St_cell (j := 15) (v := .int .i64 s.maxh.2) hB rfl)) | ((go_at_call 34; (with_reducible refine (h2 _).mono ?_)); rintro e w' ⟨rfl, h⟩; (have hB := Blk_below hB h (Blk_lt hB); have hb := Below_then hb h (Nat.le_refl _); have c_h0 := St_cell (j := 6) (v := .int .u8 s.h.1) hB rfl; have c_h1 := St_cell (j := 7) (v := .int .i64 s.h.2) hB rfl; have c_minh0 := St_cell (j := 12) (v := .int .u8 s.minh.1) hB rfl; have c_minh1 := St_cell (j := 13) (v := .int .i64 s.minh.2) hB rfl; have c_maxh0 := St_cell (j := 14) (v := .int .u8 s.maxh.1) hB rfl; have c_maxh1 := St_cell (j := 15) (v := .int .i64 s.maxh.2) hB rfl)) | ((go_at_call 34; (with_reducible refine (h3 _).mono ?_)); rintro e w' ⟨rfl, h⟩; (have hB := Blk_below hB h (Blk_lt hB); have hb := Below_then hb h (Nat.le_refl _); have c_h0 := St_cell (j := 6) (v := .int .u8 s.h.1) hB rfl; have c_h1 := St_cell (j := 7) (v := .int .i64 s.h.2) hB rfl; have c_minh0 := St_cell (j := 12) (v := .int .u8 s.minh.1) hB rfl; have c_minh1 := St_cell (j := 13) (v := .int .i64 s.minh.2) hB rfl; have c_maxh0 := St_cell (j := 14) (v := .int .u8 s.maxh.1) hB rfl; have c_maxh1 := St_cell (j := 15) (v := .int .i64 s.maxh.2) hB rfl)))
      go_ret
      exact ⟨bool_eq HE.out.symm, hb⟩
end
end Go.Proofs.Ytedlfkklkoihjaa
