import Derived.Test.YtginfglonakfpaaD
namespace Go.Proofs.Ytginfglonakfpaa

instance (f : Int × Int) : Decidable (okF f) := by unfold okF; exact inferInstance
/-- One offer. -/
def offer (n : Int) (f : Int × Int) : Int := if okF f then held n (code f) else n
def H (l : List (Int × Int)) : Int := l.foldl offer 0
theorem code_pos {f : Int × Int} (h : okF f) : 256 < code f ∧ code f ≤ 16777471 := by unfold okF at h; unfold code; omega
theorem H_snoc (l : List (Int × Int)) (f : Int × Int) : H (l ++ [f]) = offer (H l) f := by unfold H; rw [List.foldl_append]; rfl
/-- What is held: 0 if nothing may be, else the least number. -/
def IsLeast (n : Int) (l : List (Int × Int)) : Prop := (n = 0 ∧ ∀ f ∈ l, ¬ okF f) ∨ (∃ f ∈ l, okF f ∧ code f = n) ∧ ∀ f ∈ l, okF f → n ≤ code f
theorem isLeast_step {n : Int} {l : List (Int × Int)} (h : IsLeast n l) (f : Int × Int) : IsLeast (offer n f) (l ++ [f]) := by
  unfold offer
  by_cases hf : okF f
  · rw [if_pos hf]
    have hp := code_pos hf
    rcases h with ⟨rfl, h⟩ | ⟨⟨g, hg, hg1, rfl⟩, h⟩
    · have e : held 0 (code f) = code f := by unfold held; rw [if_neg (by omega)]
      rw [e]
      refine .inr ⟨⟨f, by simp, hf, rfl⟩, fun x hx hxo => ?_⟩
      rcases List.mem_append.1 hx with hx | hx
      · exact absurd hxo (h x hx)
      · simp at hx; subst hx; exact Int.le_refl _
    · have hp' := code_pos hg1
      by_cases hle : code g ≤ code f
      · have e : held (code g) (code f) = code g := by unfold held; rw [if_pos ⟨by omega, hle⟩]
        rw [e]
        refine .inr ⟨⟨g, by simp [hg], hg1, rfl⟩, fun x hx hxo => ?_⟩
        rcases List.mem_append.1 hx with hx | hx
        · exact h x hx hxo
        · simp at hx; subst hx; exact hle
      · have e : held (code g) (code f) = code f := by unfold held; rw [if_neg (by omega)]
        rw [e]
        refine .inr ⟨⟨f, by simp, hf, rfl⟩, fun x hx hxo => ?_⟩
        rcases List.mem_append.1 hx with hx | hx
        · have := h x hx hxo; omega
        · simp at hx; subst hx; exact Int.le_refl _
  · rw [if_neg hf]
    rcases h with ⟨rfl, h⟩ | ⟨⟨g, hg, hg1, rfl⟩, h⟩
    · refine .inl ⟨rfl, fun x hx => ?_⟩
      rcases List.mem_append.1 hx with hx | hx
      · exact h x hx
      · simp at hx; subst hx; exact hf
    · refine .inr ⟨⟨g, by simp [hg], hg1, rfl⟩, fun x hx hxo => ?_⟩
      rcases List.mem_append.1 hx with hx | hx
      · exact h x hx hxo
      · simp at hx; subst hx; exact absurd hxo hf
theorem isLeast_H (l : List (Int × Int)) : IsLeast (H l) l := by
  have key : ∀ (m l : List (Int × Int)), IsLeast (H l) l → IsLeast (H (l ++ m)) (l ++ m) := by
    intro m
    induction m with
    | nil => intro l h; simpa using h
    | cons f m ih =>
      intro l h
      have := ih (l ++ [f]) (by rw [H_snoc]; exact isLeast_step h f)
      simpa using this
  have := key l [] (.inl ⟨rfl, by simp⟩)
  simpa using this
theorem H_same {l m : List (Int × Int)} (h : ∀ x, x ∈ l ↔ x ∈ m) : H l = H m := by
  rcases isLeast_H l with ⟨e, hl⟩ | ⟨⟨f, hf, hfo, e⟩, hl⟩
  · rcases isLeast_H m with ⟨e', hm⟩ | ⟨⟨g, hg, hgo, e'⟩, hm⟩
    · rw [e, e']
    · exact absurd hgo (hl g ((h g).2 hg))
  · rcases isLeast_H m with ⟨e', hm⟩ | ⟨⟨g, hg, hgo, e'⟩, hm⟩
    · exact absurd hfo (hm f ((h f).1 hf))
    · have h1 := hl g ((h g).2 hg) hgo
      have h2 := hm f ((h f).1 hf) hfo
      omega
theorem H_bd (l : List (Int × Int)) : 0 ≤ H l ∧ H l ≤ 16777471 := by
  rcases isLeast_H l with ⟨e, _⟩ | ⟨⟨f, hf, hfo, e⟩, _⟩
  · omega
  · have := code_pos hfo; omega
/-- The reference's step and what it comes to. -/
def rstep (out f : Int × Int) : Int × Int := if okF f ∧ (out.2 = 0 ∨ f.1 < out.1 ∨ f.1 = out.1 ∧ f.2 < out.2) then f else out
/-- A failure that was held, as a number. -/
def cd (out : Int × Int) : Int := if out.2 = 0 then 0 else code out
def Fine (out : Int × Int) : Prop := out = (0, 0) ∨ okF out
theorem rstep_fine {out : Int × Int} (h : Fine out) (f : Int × Int) : Fine (rstep out f) ∧ cd (rstep out f) = offer (cd out) f := by
  unfold rstep offer
  by_cases hf : okF f
  · rw [if_pos hf]
    have hp := code_pos hf
    have hcf : cd f = code f := by unfold cd; rw [if_neg (by unfold okF at hf; omega)]
    rcases h with rfl | ho
    · rw [if_pos ⟨hf, .inl rfl⟩]
      refine ⟨.inr hf, ?_⟩
      rw [hcf]
      unfold held cd; simp
    · have hco : cd out = code out := by unfold cd; rw [if_neg (by unfold okF at ho; omega)]
      have hpo := code_pos ho
      rw [hco]
      by_cases hlt : f.1 < out.1 ∨ f.1 = out.1 ∧ f.2 < out.2
      · rw [if_pos ⟨hf, .inr hlt⟩]
        refine ⟨.inr hf, ?_⟩
        rw [hcf]
        unfold held
        rw [if_neg]
        unfold code okF at *
        omega
      · rw [if_neg (by unfold okF at *; omega)]
        refine ⟨.inr ho, ?_⟩
        rw [hco]
        unfold held
        rw [if_pos]
        unfold code okF at *
        omega
  · rw [if_neg hf, if_neg (fun h => hf h.1)]
    exact ⟨h, rfl⟩
def lst (l : List (Int × Int)) : Int × Int := l.foldl rstep (0, 0)
theorem lst_snoc (l : List (Int × Int)) (f : Int × Int) : lst (l ++ [f]) = rstep (lst l) f := by unfold lst; rw [List.foldl_append]; rfl
theorem lst_H (l : List (Int × Int)) : Fine (lst l) ∧ cd (lst l) = H l := by
  have key : ∀ (m l : List (Int × Int)), (Fine (lst l) ∧ cd (lst l) = H l) → Fine (lst (l ++ m)) ∧ cd (lst (l ++ m)) = H (l ++ m) := by
    intro m
    induction m with
    | nil => intro l h; simpa using h
    | cons f m ih =>
      intro l h
      have := ih (l ++ [f]) (by rw [lst_snoc, H_snoc]; obtain ⟨a, b⟩ := rstep_fine h.1 f; exact ⟨a, by rw [b, h.2]⟩)
      simpa using this
  have := key l [] ⟨.inl rfl, rfl⟩
  simpa using this
theorem told_cd {out : Int × Int} (h : Fine out) : told (cd out) = out := by
  rcases h with rfl | h
  · rfl
  · have hp := code_pos h
    have hco : cd out = code out := by unfold cd; rw [if_neg (by unfold okF at h; omega)]
    rw [hco]
    unfold told
    rw [if_neg (by omega)]
    unfold code okF at *
    ext <;> simp only [] <;> omega
theorem told_H (l : List (Int × Int)) : told (H l) = lst l := by
  obtain ⟨a, b⟩ := lst_H l
  rw [← b, told_cd a]
theorem told_down (l : List (Int × Int)) (f : Int × Int) (h : (told (H l)).2 ≠ 0) : (told (H (l ++ [f]))).1 ≤ (told (H l)).1 := by
  rw [told_H] at h
  rw [told_H, told_H, lst_snoc]
  unfold rstep
  split
  · rename_i hh; omega
  · exact Int.le_refl _
end Go.Proofs.Ytginfglonakfpaa
