/-
  StyleAutos: a right style stays so, if a length of it becomes auto. No condition.
-/
import Derived.Test.YtedlfkklkoihjaaY5
set_option linter.unusedVariables false
set_option linter.unusedSimpArgs false
namespace Go.Proofs.Ytedlfkklkoihjaa
open Go.RowKit Go.BigFrame

def setL (s : St) (k : Nat) (l : Int × Int) : St :=
  match k with
  | 0 => { s with w := l }
  | 1 => { s with h := l }
  | 2 => { s with minw := l }
  | 3 => { s with maxw := l }
  | 4 => { s with minh := l }
  | 5 => { s with maxh := l }
  | 6 => { s with basis := l }
  | 7 => { s with m0 := l }
  | 8 => { s with m1 := l }
  | 9 => { s with m2 := l }
  | _ => { s with m3 := l }
def lensP (g : Nat) : Array Value := #[.pointer (some ⟨g, 4, none⟩), .pointer (some ⟨g, 6, none⟩), .pointer (some ⟨g, 8, none⟩), .pointer (some ⟨g, 10, none⟩), .pointer (some ⟨g, 12, none⟩), .pointer (some ⟨g, 14, none⟩), .pointer (some ⟨g, 40, none⟩), .pointer (some ⟨g, 16, none⟩), .pointer (some ⟨g, 18, none⟩), .pointer (some ⟨g, 20, none⟩), .pointer (some ⟨g, 22, none⟩)]
theorem slens2_any (g : Nat) (w : World) : Calls Try.prog 17 #[.pointer (some ⟨g, 0, none⟩)] w fun e w' => e = .returned (.slice (some ⟨w.heap.size, 0, none⟩) 11 11) ∧ Blk w' w.heap.size 38 (lensP g) ∧ Below w.heap.size w w' := by
  go_enter Try.func17, Try.ntmps17
  go_wp2_with fail
  go_region
  go_wp2_with fail
  go_ret
  exact ⟨rfl, Blk_drew (Blk_new w _ _), by (repeat' (first | (with_reducible exact Below.refl _ _) | (with_reducible assumption) | (with_reducible refine Below.alloc ?_ ?_ _) | (with_reducible refine Below.drew ?_) | (with_reducible refine Below_drewN ?_ _) | (with_reducible refine Below.setCell ?_ ?_ _) | go_size))⟩
theorem setL_len (s : St) (k : Nat) (l : Int × Int) : (setL s k l).units.length = s.units.length := by unfold setL; split <;> rfl
theorem setL_wf {s : St} (h : s.Wf) (k : Nat) {l : Int × Int} (h1 : (Lit.int .u8 l.1).wf = true) (h2 : (Lit.int .i64 l.2).wf = true) : (setL s k l).Wf := by
  cases h
  unfold setL
  split <;> (constructor <;> assumption)
theorem mayB_auto (z : Int) : mayB (0, 0) z = true := by simp [mayB]
theorem mayB_odd {k n z : Int} (h : 3 ≤ k) : mayB (k, n) z = false := by
  unfold mayB
  rw [if_neg (by simp only []; omega), if_neg (by simp only []; omega), if_neg (by simp only []; omega)]
theorem mayB_px {n z : Int} (hz : z = 0 ∨ z = -1) (h : mayB (1, n) z = true) : -1099511627776 ≤ n ∧ n ≤ 1099511627776 ∧ (z = 0 → 0 ≤ n) := by
  have := of_decide_eq_true (show decide (z * 1099511627776 ≤ n ∧ n ≤ 1099511627776) = true from h)
  omega
theorem lz_auto : noneB (0, 0) = true := by simp [noneB]
theorem lz_odd {k n : Int} (h : ¬ k = 0) : noneB (k, n) = false := by simp [noneB, h]
theorem set_auto {s : St} (k : Nat) (hk : k < 11) (h : rightB s = true) : rightB (setL s k (0, 0)) = true := by
  obtain rfl | rfl | rfl | rfl | rfl | rfl | rfl | rfl | rfl | rfl | rfl : k = 0 ∨ k = 1 ∨ k = 2 ∨ k = 3 ∨ k = 4 ∨ k = 5 ∨ k = 6 ∨ k = 7 ∨ k = 8 ∨ k = 9 ∨ k = 10 := by omega
  all_goals
    unfold rightB at h ⊢
    simp only [setL] at h ⊢
    split at h
    · rename_i hk
      rw [if_pos hk]
      simp only [boxB, edgeB, highB, Bool.and_eq_true, decide_eq_true_eq] at h ⊢
      simp_all [mayB_auto]
    · rename_i hk
      rw [if_neg hk]
      split at h
      · rename_i h3
        rw [if_pos h3]
        simp only [emptyB, Bool.and_eq_true, decide_eq_true_eq] at h ⊢
        simp_all [lz_auto]
      · cases h
theorem set_odd (s : St) (k : Nat) (hk : k < 11) {q : Int} (hq : 3 ≤ q) (n : Int) : rightB (setL s k (q, n)) = false := by
  have hq0 : ¬ q = 0 := by omega
  obtain rfl | rfl | rfl | rfl | rfl | rfl | rfl | rfl | rfl | rfl | rfl : k = 0 ∨ k = 1 ∨ k = 2 ∨ k = 3 ∨ k = 4 ∨ k = 5 ∨ k = 6 ∨ k = 7 ∨ k = 8 ∨ k = 9 ∨ k = 10 := by omega
  all_goals
    unfold rightB
    simp only [setL]
    split
    · simp [boxB, edgeB, highB, mayB_odd hq]
    · split
      · simp [emptyB, lz_odd hq0]
      · rfl
theorem set_px {s : St} (k : Nat) (hk : k < 11) {n : Int} (h : rightB (setL s k (1, n)) = true) : -1099511627776 ≤ n ∧ n ≤ 1099511627776 ∧ (0 ≤ n ∨ 6 < k) := by
  obtain rfl | rfl | rfl | rfl | rfl | rfl | rfl | rfl | rfl | rfl | rfl : k = 0 ∨ k = 1 ∨ k = 2 ∨ k = 3 ∨ k = 4 ∨ k = 5 ∨ k = 6 ∨ k = 7 ∨ k = 8 ∨ k = 9 ∨ k = 10 := by omega
  · unfold rightB at h
    simp only [setL] at h
    split at h
    · simp only [boxB, edgeB, highB, Bool.and_eq_true, decide_eq_true_eq] at h
      have hm : mayB (1, n) 0 = true := by simp_all
      have := mayB_px (n := n) (.inl rfl) hm
      omega
    · split at h
      · simp [emptyB, noneB] at h
      · cases h
  · unfold rightB at h
    simp only [setL] at h
    split at h
    · simp only [boxB, edgeB, highB, Bool.and_eq_true, decide_eq_true_eq] at h
      have hm : mayB (1, n) 0 = true := by simp_all
      have := mayB_px (n := n) (.inl rfl) hm
      omega
    · split at h
      · simp [emptyB, noneB] at h
      · cases h
  · unfold rightB at h
    simp only [setL] at h
    split at h
    · simp only [boxB, edgeB, highB, Bool.and_eq_true, decide_eq_true_eq] at h
      have hm : mayB (1, n) 0 = true := by simp_all
      have := mayB_px (n := n) (.inl rfl) hm
      omega
    · split at h
      · simp [emptyB, noneB] at h
      · cases h
  · unfold rightB at h
    simp only [setL] at h
    split at h
    · simp only [boxB, edgeB, highB, Bool.and_eq_true, decide_eq_true_eq] at h
      have hm : mayB (1, n) 0 = true := by simp_all
      have := mayB_px (n := n) (.inl rfl) hm
      omega
    · split at h
      · simp [emptyB, noneB] at h
      · cases h
  · unfold rightB at h
    simp only [setL] at h
    split at h
    · simp only [boxB, edgeB, highB, Bool.and_eq_true, decide_eq_true_eq] at h
      have hm : mayB (1, n) 0 = true := by simp_all
      have := mayB_px (n := n) (.inl rfl) hm
      omega
    · split at h
      · simp [emptyB, noneB] at h
      · cases h
  · unfold rightB at h
    simp only [setL] at h
    split at h
    · simp only [boxB, edgeB, highB, Bool.and_eq_true, decide_eq_true_eq] at h
      have hm : mayB (1, n) 0 = true := by simp_all
      have := mayB_px (n := n) (.inl rfl) hm
      omega
    · split at h
      · simp [emptyB, noneB] at h
      · cases h
  · unfold rightB at h
    simp only [setL] at h
    split at h
    · simp only [boxB, edgeB, highB, Bool.and_eq_true, decide_eq_true_eq] at h
      have hm : mayB (1, n) 0 = true := by simp_all
      have := mayB_px (n := n) (.inl rfl) hm
      omega
    · split at h
      · simp [emptyB, noneB] at h
      · cases h
  · unfold rightB at h
    simp only [setL] at h
    split at h
    · simp only [boxB, edgeB, highB, Bool.and_eq_true, decide_eq_true_eq] at h
      have hm : mayB (1, n) (-1) = true := by simp_all
      have := mayB_px (n := n) (.inr rfl) hm
      omega
    · split at h
      · simp [emptyB, noneB] at h
      · cases h
  · unfold rightB at h
    simp only [setL] at h
    split at h
    · simp only [boxB, edgeB, highB, Bool.and_eq_true, decide_eq_true_eq] at h
      have hm : mayB (1, n) (-1) = true := by simp_all
      have := mayB_px (n := n) (.inr rfl) hm
      omega
    · split at h
      · simp [emptyB, noneB] at h
      · cases h
  · unfold rightB at h
    simp only [setL] at h
    split at h
    · simp only [boxB, edgeB, highB, Bool.and_eq_true, decide_eq_true_eq] at h
      have hm : mayB (1, n) (-1) = true := by simp_all
      have := mayB_px (n := n) (.inr rfl) hm
      omega
    · split at h
      · simp [emptyB, noneB] at h
      · cases h
  · unfold rightB at h
    simp only [setL] at h
    split at h
    · simp only [boxB, edgeB, highB, Bool.and_eq_true, decide_eq_true_eq] at h
      have hm : mayB (1, n) (-1) = true := by simp_all
      have := mayB_px (n := n) (.inr rfl) hm
      omega
    · split at h
      · simp [emptyB, noneB] at h
      · cases h
end Go.Proofs.Ytedlfkklkoihjaa
