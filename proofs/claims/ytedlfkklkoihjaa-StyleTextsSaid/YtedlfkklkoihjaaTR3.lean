/-
  Which styles may be (jambref04.Right). No condition.
-/
import Derived.Test.YtedlfkklkoihjaaTR2
set_option linter.unusedVariables false
set_option linter.unusedSimpArgs false
namespace Go.Proofs.Ytedlfkklkoihjaa
open Go.RowKit Go.BigFrame

theorem info_st : (Try.prog.info? 28).map (·.size) = some 43 := by kernel_rfl
theorem range_st {w : World} {g : Nat} {t : TypeId} {s : St} (h : Blk w g t (scells s).toArray) : w.rangeAt g 0 (scells s) := fun j v hv => by rw [Nat.zero_add]; exact St_cell h (by simpa using hv)
set_option maxRecDepth 100000 in
set_option maxHeartbeats 4000000 in
theorem right_any (s : St) (hw : s.Wf) (hu : s.units.length ≤ maxLen) (w : World) :
    Calls Try.prog 11 #[.agg (scells s).toArray] w fun e w' => e = .returned (.bool (rightB s)) ∧ Below w.heap.size w w' := by
  have hbk := Blk_new w 28 (scells s).toArray
  have hb0 := (Below.refl w.heap.size w).alloc (Nat.le_refl _) (.cells (scells s).toArray 28)
  have c0 := St_cell (j := 0) (v := .int .u8 s.kind) hbk rfl
  have cu := St_cell (j := 42) (v := .slice s.uA s.units.length s.uc) hbk rfl
  have hu' := hu
  unfold maxLen at hu'
  have hbx := box_any s hw hu
  have hem := empty_any s
  by_cases h1 : s.kind = 1 ∨ s.kind = 2
  · have HE := Lib.hid (show rightB s = boxB s by unfold rightB; rw [if_pos h1])
    rcases h1 with h1 | h1
    all_goals
      rw [h1] at c0
      clear h1
      go_enter Try.func11, Try.ntmps11
      go_wp2_with (first | (refine wpList_load_mid (op := ⟨some 8, _, _, _, _, _⟩) rfl 28 (.tmp 1) rfl _ 0 rfl (scells s) _ (range_st hbk) Try.underlying28 rfl info_st ?_) | go_at_call 21; refine (hbx _).mono ?_; rintro e w1 ⟨rfl, h1⟩)
      go_ret
      exact ⟨bool_eq HE.out.symm, Below_al h1⟩
  · obtain ⟨n1, n2⟩ := not_or.1 h1
    have b1 : (s.kind == 1) = false := by simpa using n1
    have b2 : (s.kind == 2) = false := by simpa using n2
    by_cases h3 : s.kind = 3
    · have HE := Lib.hid (show rightB s = (emptyB s && decide (s.units.length ≤ 65536)) by unfold rightB; rw [if_neg h1, if_pos h3])
      rw [h3] at c0
      clear h1 n1 n2 b1 b2 h3
      cases q : emptyB s
      all_goals
        have HQ := Lib.hid q
        rw [q] at hem
        clear q
        go_enter Try.func11, Try.ntmps11
        go_wp2_with (first | (refine wpList_load_mid (op := ⟨some 12, _, _, _, _, _⟩) rfl 28 (.tmp 1) rfl _ 0 rfl (scells s) _ (range_st hbk) Try.underlying28 rfl info_st ?_) | go_at_call 22; refine (hem _).mono ?_; rintro e w1 ⟨rfl, h1⟩; have cu1 := (h1.cell (cell_lt cu)).trans cu)
        go_ret
        refine ⟨bool_eq ?_, Below_al h1⟩
        rw [HE.out, HQ.out]
        first | (simp; done) | (simp; omega) | (rw [Bool.true_and]; apply decide_eq_decide.2; omega)
    · have HE := Lib.hid (show rightB s = false by unfold rightB; rw [if_neg h1, if_neg h3])
      have b3 : (s.kind == 3) = false := by simpa using h3
      clear h1 n1 n2 h3 hbx hem
      go_enter Try.func11, Try.ntmps11
      go_wp2_with fail
      go_ret
      exact ⟨bool_eq HE.out.symm, hb0⟩
end Go.Proofs.Ytedlfkklkoihjaa
