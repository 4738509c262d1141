/-
  The reference's MulDiv; the statement AuParts. No condition.
-/
import Derived.Test.YtelinfnhihmjeaaV
import Derived.Test.YtelinfnhihmjeaaH
set_option linter.unusedVariables false
set_option linter.unusedSimpArgs false
namespace Go.Proofs.Ytelinfnhihmjeaa
open Go.RowKit Go.BigFrame

set_option maxHeartbeats 1000000 in
theorem rmuldiv_any (a b c : Int) (w : World) (ha : (Lit.int .i64 a).wf = true) (hb : (Lit.int .i64 b).wf = true) (hc : (Lit.int .i64 c).wf = true) :
    Calls Try.prog 19 #[.int .i64 a, .int .i64 b, .int .i64 c] w fun e w' => e = .returned (.tuple #[.int .i64 (mdV (a * b) c), .bool (mdB (a * b) c)]) ∧ Below w.heap.size w w' := by
  unfold mdV mdB
  by_cases h : c = 0
  · subst h
    go_enter Try.func19, Try.ntmps19
    go_wp2
    go_ret2
    exact ⟨rfl, Below.refl _ _⟩
  · rw [if_neg h, if_neg h]
    have oa := fun w => of_any w a ha
    have ob := fun w => of_any w b hb
    have oc := fun w => of_any w c hc
    go_enter Try.func19, Try.ntmps19
    go_wp2_with (first | ((go_at_call 12; (with_reducible refine ((oa _)).mono ?_)); rintro e w1 ⟨v1, rfl, b1, g1⟩) | ((go_at_call 12; (with_reducible refine ((ob _)).mono ?_)); rintro e w2 ⟨v2, rfl, b2, g2⟩; have b12 := b1.mono g2) | ((go_at_call 32; (with_reducible refine ((mul_any _ b12 b2 (by omega) (by omega))).mono ?_)); rintro e w3 ⟨v3, rfl, b3, g3⟩) | ((go_at_call 12; (with_reducible refine ((oc _)).mono ?_)); rintro e w4 ⟨v4, rfl, b4, g4⟩; have b34 := b3.mono g4) | ((go_at_call 31; (with_reducible refine ((div_any _ b34 b4 (by omega) (by omega) h)).mono ?_)); rintro e w5 ⟨v5, rfl, b5, g5⟩) | ((go_at_call 11; (with_reducible refine ((rcut_any _ b5 (by omega))).mono ?_)); rintro e w6 ⟨rfl, g6⟩))
    go_ret2
    exact ⟨rfl, Below_same (Below_same (Below_same (Below_same (Below_same g1 g2) g3) g4) g5) g6⟩
set_option maxHeartbeats 1000000 in
theorem parts_any (a b c : Int) (w : World) (ha : (Lit.int .i64 a).wf = true) (hb : (Lit.int .i64 b).wf = true) (hc : (Lit.int .i64 c).wf = true) :
    Calls Try.prog 5 #[.int .i64 a, .int .i64 b, .int .i64 c] w fun e w' => e = .returned (.bool true) ∧ Below w.heap.size w w' := by
  have m1 := md_any a b c w ha hb hc
  have m2 := fun w => rmuldiv_any a b c w ha hb hc
  have m3 := fun w => part_any a b w ha hb
  have m4 := fun w => rmuldiv_any a b 10000 w ha hb (by decide)
  have e1 : mdV (a * b) 10000 = cutV (fl (a * b) 10000) := rfl
  have e2 : mdB (a * b) 10000 = cutB (fl (a * b) 10000) := rfl
  rw [e1, e2] at m4
  have hk := works_any
  generalize mdV (a * b) c = V1 at *
  generalize mdB (a * b) c = B1 at *
  generalize cutV (fl (a * b) 10000) = V2 at *
  generalize cutB (fl (a * b) 10000) = B2 at *
  clear e1 e2
  cases B1 <;> cases B2
  all_goals
    go_enter Try.func5, Try.ntmps5
    go_wp2_with (first | ((go_at_call 18; (with_reducible refine (m1).mono ?_)); rintro e w1 ⟨rfl, g1⟩) | ((go_at_call 19; (with_reducible refine ((m2 _)).mono ?_)); rintro e w2 ⟨rfl, g2⟩) | ((go_at_call 20; (with_reducible refine ((m3 _)).mono ?_)); rintro e w3 ⟨rfl, g3⟩) | ((go_at_call 19; (with_reducible refine ((m4 _)).mono ?_)); rintro e w4 ⟨rfl, g4⟩) | ((go_at_call 15; (with_reducible refine ((hk _)).mono ?_)); rintro e w5 ⟨rfl, g5⟩))
    go_ret
    exact ⟨rfl, Below_same (Below_same (Below_same (Below_same g1 g2) g3) g4) g5⟩
theorem parts_walk (w : World) {x a b : Int} (h0 : (Lit.int .i64 x).wf = true) (h1 : (Lit.int .i64 a).wf = true) (h2 : (Lit.int .i64 b).wf = true) :
    Calls Try.prog 5 #[.int .i64 x, .int .i64 a, .int .i64 b] w fun e w' => e = .returned (.bool true) ∧ Below w.heap.size w w' := parts_any x a b w h0 h1 h2
end Go.Proofs.Ytelinfnhihmjeaa
