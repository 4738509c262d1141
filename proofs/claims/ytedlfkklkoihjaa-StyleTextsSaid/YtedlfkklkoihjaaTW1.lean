/-
  Which lengths may be (style.within, style.may, style.fixed). No condition.
-/
import Derived.Test.YtedlfkklkoihjaaTR3
set_option linter.unusedVariables false
set_option linter.unusedSimpArgs false
namespace Go.Proofs.Ytedlfkklkoihjaa
open Go.RowKit Go.BigFrame

theorem inB_lo {n a b : Int} (h : ¬ a ≤ n) : inB n a b = false := decide_eq_false (fun h' => h h'.1)
theorem inB_hi {n a b : Int} (h : a ≤ n) : inB n a b = decide (n ≤ b) := decide_eq_decide.2 ⟨fun h' => h'.2, fun h' => ⟨h, h'⟩⟩
theorem swithin_any (n a b : Int) (w : World) : Calls Try.prog 38 #[.int .i64 n, .int .i64 a, .int .i64 b] w fun e w' => e = .returned (.bool (inB n a b)) ∧ w = w' := by
  by_cases h : a ≤ n
  · rw [inB_hi h]
    go_enter Try.func38, Try.ntmps38
    go_wp2_with fail
    go_ret
    exact ⟨rfl, rfl⟩
  · rw [inB_lo h]
    go_enter Try.func38, Try.ntmps38
    go_wp2_with fail
    go_ret
    exact ⟨rfl, rfl⟩
theorem mayB_1 (z l : Int) : mayB (1, z) l = inB z (l * 1099511627776) 1099511627776 := rfl
theorem mayB_2 (z l : Int) : mayB (2, z) l = inB z (l * 100000) 100000 := rfl
set_option maxHeartbeats 1000000 in
theorem smay_any (k z l : Int) (hl : l = 0 ∨ l = -1) (w : World) : Calls Try.prog 32 #[.agg #[.int .u8 k, .int .i64 z], .int .i64 l] w fun e w' => e = .returned (.bool (mayB (k, z) l)) ∧ Below w.heap.size w w' := by
  have hw1 : wrap64 (l * 1099511627776) = l * 1099511627776 := IntWalk.wrap64_in _ (by omega)
  have hw2 : wrap64 (l * 100000) = l * 100000 := IntWalk.wrap64_in _ (by omega)
  by_cases h0 : k = 0
  · subst h0
    have HE := Lib.hid (may_0 z l)
    go_enter Try.func32, Try.ntmps32
    go_wp2_with fail
    go_ret
    exact ⟨bool_eq HE.out, by (repeat' (first | (with_reducible exact Below.refl _ _) | (with_reducible assumption) | (with_reducible refine Below.alloc ?_ ?_ _) | (with_reducible refine Below.drew ?_) | (with_reducible refine Below_drewN ?_ _) | (with_reducible refine Below.setCell ?_ ?_ _) | go_size))⟩
  have b0 : (k == 0) = false := by simpa using h0
  by_cases h1 : k = 1
  · subst h1
    have hi := swithin_any z (l * 1099511627776) 1099511627776
    rw [mayB_1]
    go_enter Try.func32, Try.ntmps32
    go_wp2_with ((go_at_call 38; (with_reducible refine (hi _).mono ?_)); rintro e w1 ⟨rfl, rfl⟩)
    go_ret
    exact ⟨rfl, by (repeat' (first | (with_reducible exact Below.refl _ _) | (with_reducible assumption) | (with_reducible refine Below.alloc ?_ ?_ _) | (with_reducible refine Below.drew ?_) | (with_reducible refine Below_drewN ?_ _) | (with_reducible refine Below.setCell ?_ ?_ _) | go_size))⟩
  have b1 : (k == 1) = false := by simpa using h1
  by_cases h2 : k = 2
  · subst h2
    have hi := swithin_any z (l * 100000) 100000
    rw [mayB_2]
    go_enter Try.func32, Try.ntmps32
    go_wp2_with ((go_at_call 38; (with_reducible refine (hi _).mono ?_)); rintro e w1 ⟨rfl, rfl⟩)
    go_ret
    exact ⟨rfl, by (repeat' (first | (with_reducible exact Below.refl _ _) | (with_reducible assumption) | (with_reducible refine Below.alloc ?_ ?_ _) | (with_reducible refine Below.drew ?_) | (with_reducible refine Below_drewN ?_ _) | (with_reducible refine Below.setCell ?_ ?_ _) | go_size))⟩
  have b2 : (k == 2) = false := by simpa using h2
  have HE := Lib.hid (may_3 k z l h0 h1 h2)
  clear h0 h1 h2
  go_enter Try.func32, Try.ntmps32
  go_wp2_with fail
  go_ret
  exact ⟨bool_eq HE.out, by (repeat' (first | (with_reducible exact Below.refl _ _) | (with_reducible assumption) | (with_reducible refine Below.alloc ?_ ?_ _) | (with_reducible refine Below.drew ?_) | (with_reducible refine Below_drewN ?_ _) | (with_reducible refine Below.setCell ?_ ?_ _) | go_size))⟩
theorem sfixed_any (k z : Int) (w : World) : Calls Try.prog 34 #[.agg #[.int .u8 k, .int .i64 z]] w fun e w' => e = .returned (.bool (highB (k, z))) ∧ Below w.heap.size w w' := by
  have hm := fun w => smay_any k z 0 (.inl rfl) w
  by_cases h : k = 2
  · subst h
    have HE := Lib.hid (show highB (2, z) = false by simp [highB])
    go_enter Try.func34, Try.ntmps34
    go_wp2_with fail
    go_ret
    exact ⟨bool_eq HE.out.symm, by (repeat' (first | (with_reducible exact Below.refl _ _) | (with_reducible assumption) | (with_reducible refine Below.alloc ?_ ?_ _) | (with_reducible refine Below.drew ?_) | (with_reducible refine Below_drewN ?_ _) | (with_reducible refine Below.setCell ?_ ?_ _) | go_size))⟩
  · have b : (k == 2) = false := by simpa using h
    have HE := Lib.hid (show highB (k, z) = (k != 2 && mayB (k, z) 0) by simp [highB, h])
    go_enter Try.func34, Try.ntmps34
    go_wp2_with ((go_at_call 32; (with_reducible refine (hm _).mono ?_)); rintro e w1 ⟨rfl, g1⟩)
    go_ret
    exact ⟨bool_eq HE.out.symm, Below_al g1⟩
end Go.Proofs.Ytedlfkklkoihjaa
