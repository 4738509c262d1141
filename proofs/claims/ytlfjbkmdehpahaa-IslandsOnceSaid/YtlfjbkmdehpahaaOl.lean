/-
  IslandsOnce, the plain law. No condition.
-/
import Derived.Test.YtlfjbkmdehpahaaP
set_option linter.unusedVariables false
set_option linter.unusedSimpArgs false
namespace Go.Proofs.Ytlfjbkmdehpahaa
open Go.RowKit Go.BigFrame

/-- In which island a node lies. -/
def home (L : List Nd) (j : Nat) : Nat := island L (parOf L j).toNat
theorem island_rooted {L : List Nd} (hf : Fine L) (i : Nat) : i < L.length → rootB L (island L i) = true := by
  induction i using Nat.strongRecOn with
  | _ i ih =>
    intro hi
    cases hr : rootB L i
    · obtain ⟨h0, hp, hp0, hp1⟩ := hf.up hi hr
      rw [island_up hr hp]
      exact ih _ (par_lt hp) (by omega)
    · rw [island_root hr]; exact hr
theorem Fine.home {L : List Nd} (hf : Fine L) {j : Nat} (hj : j < L.length) (h0 : 0 < j) : rootB L (Go.Proofs.Ytlfjbkmdehpahaa.home L j) = true ∧ Go.Proofs.Ytlfjbkmdehpahaa.home L j < j := by
  have h1 := hf.par hj h0
  have h2 := island_le L (parOf L j).toNat
  exact ⟨island_rooted hf _ (by omega), by unfold Go.Proofs.Ytlfjbkmdehpahaa.home; omega⟩
theorem rootsL_mem {L : List Nd} {n r : Nat} : r ∈ rootsL L n ↔ r < n ∧ rootB L r = true := by simp [rootsL]
theorem inL_mem {L : List Nd} {r n j : Nat} : j ∈ inL L r n ↔ 1 ≤ j ∧ j < n ∧ ¬ kindOf L j = 3 ∧ home L j = r := by
  unfold inL
  rw [List.mem_filter, List.mem_range'_1]
  unfold inAt home
  simp only [Bool.and_eq_true, Bool.not_eq_true', decide_eq_false_iff_not, decide_eq_true_eq]
  constructor
  · rintro ⟨⟨h1, h2⟩, h3, h4⟩; exact ⟨h1, by omega, h3, by omega⟩
  · rintro ⟨h1, h2, h3, h4⟩; exact ⟨⟨h1, by omega⟩, h3, by omega⟩
theorem inL_sorted (L : List Nd) (r : Int) (n : Nat) : (inL L r n).Pairwise (· < ·) := List.Pairwise.filter _ List.pairwise_lt_range'
/-- How often a node has been seen: of the islands of the first q roots, and of the first k of an island's nodes. -/
structure Seen (L : List Nd) (n : Nat) (rs ks : List Nat) (S : List Int) : Prop where
  len : S.length = n
  at_ : ∀ j, j < n → S.getD j 0 = if (1 ≤ j ∧ ¬ kindOf L j = 3 ∧ home L j ∈ rs) ∨ j ∈ ks then 1 else 0
theorem Seen.start (L : List Nd) (n : Nat) : Seen L n [] [] (List.replicate n 0) :=
  ⟨by simp, fun j hj => by simp [List.getD, hj]⟩
theorem Seen.next {L : List Nd} {n r k : Nat} {rs : List Nat} {S : List Int} (h : Seen L n rs ((inL L r n).take k) S) (hr : r ∉ rs) (hk : k < (inL L r n).length) :
    S.getD ((inL L r n).getD k 0) 0 = 0 ∧ Seen L n rs ((inL L r n).take (k + 1)) (S.set ((inL L r n).getD k 0) 1) := by
  have hm : (inL L r n).getD k 0 ∈ inL L r n := by
    have e : (inL L r n)[k] = (inL L r n).getD k 0 := by simp [List.getD, hk]
    exact e ▸ List.getElem_mem hk
  obtain ⟨h1, h2, h3, h4⟩ := inL_mem.1 hm
  have ht : (inL L r n).take (k + 1) = (inL L r n).take k ++ [(inL L r n).getD k 0] := by
    rw [List.take_succ_eq_append_getElem hk]; simp [hk]
  have hnd : ((inL L r n).take (k + 1)).Pairwise (· < ·) := (inL_sorted L r n).sublist (List.take_sublist _ _)
  have hnt : (inL L r n).getD k 0 ∉ (inL L r n).take k := by
    intro hx
    rw [ht, List.pairwise_append] at hnd
    have := hnd.2.2 _ hx _ (List.mem_singleton.2 rfl)
    omega
  have h0 : S.getD ((inL L r n).getD k 0) 0 = 0 := by
    rw [h.at_ _ h2, if_neg]
    rintro (⟨_, _, h5⟩ | h5)
    · rw [h4] at h5; exact hr h5
    · exact hnt h5
  refine ⟨h0, by simp [h.len], fun j hj => ?_⟩
  rw [getD_set (by rw [h.len]; exact h2), ht]
  by_cases e : j = (inL L r n).getD k 0
  · subst e; rw [if_pos rfl, if_pos (.inr (by simp))]
  · rw [if_neg e, h.at_ j hj]
    have : j ∈ (inL L r n).take k ++ [(inL L r n).getD k 0] ↔ j ∈ (inL L r n).take k := by
      rw [List.mem_append, List.mem_singleton]
      exact ⟨fun x => x.resolve_right e, .inl⟩
    simp only [this]
theorem Seen.done {L : List Nd} {n r : Nat} {rs : List Nat} {S : List Int} {k : Nat} (h : Seen L n rs ((inL L r n).take k) S) (hk : (inL L r n).length ≤ k) : Seen L n (rs ++ [r]) [] S := by
  refine ⟨h.len, fun j hj => ?_⟩
  rw [h.at_ j hj, List.take_of_length_le hk]
  have : ((1 ≤ j ∧ ¬ kindOf L j = 3 ∧ home L j ∈ rs) ∨ j ∈ inL L r n) ↔ ((1 ≤ j ∧ ¬ kindOf L j = 3 ∧ home L j ∈ rs ++ [r]) ∨ j ∈ ([] : List Nat)) := by
    rw [inL_mem, List.mem_append, List.mem_singleton]
    constructor
    · rintro (⟨a, b, c⟩ | ⟨a, _, b, c⟩)
      · exact .inl ⟨a, b, .inl c⟩
      · exact .inl ⟨a, b, .inr c⟩
    · rintro (⟨a, b, c | c⟩ | h)
      · exact .inl ⟨a, b, c⟩
      · exact .inr ⟨a, hj, b, c⟩
      · cases h
  simp only [this]
theorem Seen.all {L : List Nd} (hf : Fine L) {n : Nat} {S : List Int} (hl : L.length = n) (h : Seen L n (rootsL L n) [] S) {j : Nat} (hj : j < n) :
    S.getD j 0 = if 1 ≤ j ∧ ¬ kindOf L j = 3 then 1 else 0 := by
  rw [h.at_ j hj]
  have : ((1 ≤ j ∧ ¬ kindOf L j = 3 ∧ home L j ∈ rootsL L n) ∨ j ∈ ([] : List Nat)) ↔ (1 ≤ j ∧ ¬ kindOf L j = 3) := by
    constructor
    · rintro (⟨a, b, _⟩ | h)
      · exact ⟨a, b⟩
      · cases h
    · rintro ⟨a, b⟩
      have := hf.home (by omega) (by omega : 0 < j)
      exact .inl ⟨a, b, rootsL_mem.2 ⟨by omega, this.1⟩⟩
  simp only [this]
theorem rootsL_head {L : List Nd} (hf : Fine L) {n : Nat} (hn : 0 < n) : (rootsL L n).getD 0 0 = 0 ∧ 0 < (rootsL L n).length := by
  obtain ⟨m, rfl⟩ : ∃ m, n = m + 1 := ⟨n - 1, by omega⟩
  have : rootsL L (m + 1) = 0 :: (rootsL L (m + 1)).tail := by
    unfold rootsL
    rw [List.range_succ_eq_map, List.filter_cons]
    rw [if_pos (by exact hf.root0)]
    rfl
  rw [this]
  exact ⟨rfl, by simp⟩
theorem int_get (os : List Nat) (i : Nat) : (os.map Int.ofNat).getD i 0 = ((os.getD i 0 : Nat) : Int) := by
  simp only [List.getD, List.getElem?_map]
  cases os[i]? <;> rfl
theorem Ints.get {kd : IntKind} {w : World} {b off n k : Nat} {l : List Int} (h : Ints kd w (some ⟨b, off, none⟩) n l) (hk : k < n) : w.cell? ⟨b, off + k, none⟩ = some (.int kd (l.getD k 0)) := by
  obtain ⟨b', off', e, _, hc⟩ := h.at_ (by omega)
  simp only [Option.some.injEq, Addr.mk.injEq, and_true] at e
  obtain ⟨rfl, rfl⟩ := e
  exact hc k hk
theorem getD_mem {l : List Nat} {k : Nat} (hk : k < l.length) : l.getD k 0 ∈ l := by
  have e : l[k] = l.getD k 0 := by simp [List.getD, hk]
  exact e ▸ List.getElem_mem hk
theorem take_next' {l : List Nat} {k : Nat} (hk : k < l.length) : l.take (k + 1) = l.take k ++ [l.getD k 0] := by
  rw [List.take_succ_eq_append_getElem hk]; simp [hk]
theorem sorted_lt {l : List Nat} (h : l.Pairwise (· < ·)) {i j : Nat} (hij : i < j) (hj : j < l.length) : l.getD i 0 < l.getD j 0 := by
  have h1 := List.pairwise_iff_getElem.1 h i j (by omega) hj hij
  simpa [List.getD, hj, (show i < l.length by omega)] using h1
theorem sorted_fresh {l : List Nat} (h : l.Pairwise (· < ·)) {k : Nat} (hk : k < l.length) : l.getD k 0 ∉ l.take k := by
  have h1 : (l.take (k + 1)).Pairwise (· < ·) := h.sublist (List.take_sublist _ _)
  rw [take_next' hk, List.pairwise_append] at h1
  intro hx
  have := h1.2.2 _ hx _ (List.mem_singleton.2 rfl)
  omega
theorem rootsL_sorted (L : List Nd) (n : Nat) : (rootsL L n).Pairwise (· < ·) := List.Pairwise.filter _ List.pairwise_lt_range
end Go.Proofs.Ytlfjbkmdehpahaa
