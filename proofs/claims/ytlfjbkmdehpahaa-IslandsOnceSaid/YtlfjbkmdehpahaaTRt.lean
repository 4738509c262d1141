/-
  Which box is a root (jambref05.Root, tree.Root). No condition.
-/
import Derived.Test.YtlfjbkmdehpahaaTC
set_option linter.unusedVariables false
set_option linter.unusedSimpArgs false
namespace Go.Proofs.Ytlfjbkmdehpahaa
open Go.RowKit Go.BigFrame

section
variable {A D : Option Addr} {n c m d : Nat} {v : Int} {L : List Nd} {adv : List Int}
theorem root_out {i : Int} (h : i < 0 ∨ (L.length : Int) ≤ i) : rootB L i = false := by unfold rootB; rw [if_pos]; exact h.elim .inl (fun h => .inr (.inl h))
theorem root_text {i : Nat} (h : kindOf L i = 3) : rootB L i = false := by
  unfold rootB; rw [if_pos]; exact .inr (.inr (by rw [Int.toNat_natCast]; exact h))
theorem root_in {i : Nat} (hi : i < L.length) (h : ¬ kindOf L i = 3) : rootB L i = (decide (i = 0) || decide (kindOf L i = 2) || (L.getD i nd0).st.flow || !decide ((L.getD i nd0).st.float = 0) ||
    match par L i with
    | none => false
    | some p => decide (kindOf L p = 2)) := by
  unfold rootB
  rw [if_neg, Int.toNat_natCast]
  · have : decide ((i : Int) = 0) = decide (i = 0) := by apply decide_eq_decide.2; omega
    rw [this]
    rfl
  · rw [Int.toNat_natCast]; omega
theorem Trd.range_st {w w' : World} (h : Trd w A n D m L adv) (hb : Below w.heap.size w w') {i : Nat} (hi : i < n) {b off : Nat} (e : A = some ⟨b, off, none⟩) : w'.rangeAt b (off + i * 44 + 1) (scells (L.getD i nd0).st) := fun j u hu => by
  have := h.range hb hi e (j + 1) u (by unfold ncells; rw [List.getElem?_cons_succ]; exact hu)
  rw [Nat.add_assoc, Nat.add_comm 1 j]
  exact this
set_option maxRecDepth 100000 in
set_option maxHeartbeats 4000000 in
theorem root_any (i : Int) (w : World) (h : Trd w A n D m L adv) (hn : n ≤ maxLen) :
    Calls Try.prog 17 #[.agg #[.slice A n c, .slice D m d, .int .i64 v], .int .i64 i] w fun e w' => e = .returned (.bool (rootB L i)) ∧ Below w.heap.size w w' := by
  have hl := h.len
  have hn' := hn
  unfold maxLen at hn'
  have hb0 := (Below.refl w.heap.size w).alloc (Nat.le_refl _) (.cells #[.slice A n c, .slice D m d, .int .i64 v] 25)
  by_cases q1 : i < 0 ∨ (n : Int) ≤ i
  · have HE := Lib.hid (root_out (L := L) (i := i) (by omega))
    clear hl
    rcases (show i < 0 ∨ 0 ≤ i ∧ (n : Int) ≤ i by omega) with g1 | ⟨g1, g2⟩
    all_goals
      clear q1
      go_enter Try.func17, Try.ntmps17
      go_wp2_with fail
      go_ret
      exact ⟨bool_eq HE.out.symm, hb0⟩
  obtain ⟨k, rfl⟩ : ∃ k : Nat, i = (k : Int) := ⟨i.toNat, by omega⟩
  have hk : k < n := by omega
  have hk0 : 0 ≤ (k : Int) := by omega
  obtain ⟨b, off, rfl, hB, hc⟩ := h.at_ (by omega)
  have ck : _ = some (Value.int .u8 (kindOf L k)) := hc k hk 1 (by omega)
  rw [← Nat.add_assoc] at ck
  by_cases q3 : kindOf L k = 3
  · have HE := Lib.hid (root_text q3)
    rw [q3] at ck
    clear q3 q1 hl hc
    go_enter Try.func17, Try.ntmps17
    go_wp2_with fail
    go_ret
    exact ⟨bool_eq HE.out.symm, hb0⟩
  have hE := root_in (by omega) q3
  have ck3 : (kindOf L k == 3) = false := by simpa using q3
  have hr := fun (w' : World) (hb : Below w.heap.size w w') => h.range_st hb hk rfl
  have hkx : kindOf L k = (L.getD k nd0).st.kind := rfl
  rw [hkx] at ck ck3 hE
  have hpar : ∀ p, par L k = some p → w.cell? ⟨b, off + p * 44 + 1, none⟩ = some (.int .u8 (kindOf L p)) := fun p hp => by
    have := par_lt hp
    rw [Nat.add_assoc]
    exact hc p (by omega) 1 (by omega)
  have hpa := fun (w' : World) (hb : Below w.heap.size w w') => parent_any (c := c) (d := d) (v := v) k w' (h.mono hb) hk hn
  obtain ⟨x, hx⟩ : ∃ x, L.getD k nd0 = x := ⟨_, rfl⟩
  rw [hx] at ck ck3 hE hr
  have HR := Lib.hid hr
  have HE := Lib.hid hE
  have HPA := Lib.hid hpa
  have hS := Blk_new (w.alloc (.cells #[.slice (some ⟨b, off, none⟩) n c, .slice D m d, .int .i64 v] 25)) 40 (scells x.st).toArray
  have hbT := Blk_alloc (Blk_new w 25 #[.slice (some ⟨b, off, none⟩) n c, .slice D m d, .int .i64 v]) (.cells (scells x.st).toArray 40)
  have hb1 := hb0.alloc (by simp) (.cells (scells x.st).toArray 40)
  rw [World.size_alloc] at hS
  have t0 := Blk_cell hbT 0
  have t1 := Blk_cell hbT 1
  have t2 := Blk_cell hbT 2
  clear hc q3 q1 hr hE hkx hx hpa hl
  go_enter Try.func17, Try.ntmps17
  go_upto_region 4 with (first
    | ((with_reducible refine at_op ⟨some 31, _, _, _, _, _⟩ ?_); refine wpList_load_mid rfl 40 (.tmp 30) rfl _ _ rfl (scells x.st) _ (HR.out _ (by (repeat' (first | (with_reducible exact Below.refl _ _) | (with_reducible assumption) | (with_reducible refine Below.alloc ?_ ?_ _) | (with_reducible refine Below.drew ?_) | (with_reducible refine Below_drewN ?_ _) | (with_reducible refine Below.setCell ?_ ?_ _) | go_size)))) Try.underlying40 rfl info_st ?_)
    | ((with_reducible refine at_op ⟨none, .store 40 (.tmp 5) (.tmp 31), _, _, _, _⟩ ?_); refine wpList_store_new rfl 40 (.tmp 5) (.tmp 31) rfl _ ?_ _ (scells x.st).toArray rfl rfl info_st rfl (one_st x.st) ?_; · (simp; done)))
  have hpc := HPA.out _ hb1
  have ckb := (hb1.cell (cell_lt ck)).trans ck
  clear ck
  cases hp : par L k with
  | none =>
    rw [hp] at HE hpc
    rw [show optI none = -1 from rfl] at hpc
    clear hpar hp
    go_wp2_with (go_at_call 25; refine hpc.mono ?_; rintro e w1 ⟨rfl, h1⟩; have hS1 := Blk_below hS h1 (by simp); have s0 := St_cell (j := 0) (v := .int .u8 x.st.kind) hS1 rfl; have s1 := St_cell (j := 1) (v := .bool x.st.flow) hS1 rfl; have s2 := St_cell (j := 2) (v := .int .u8 x.st.float) hS1 rfl)
    all_goals
      go_ret
      refine ⟨bool_eq ?_, Below_same hb1 h1⟩
      rw [HE.out]
      clear HE HR HPA
      first | (simp_all; done) | (simp_all; omega)
  | some p =>
    rw [hp] at HE hpc
    rw [show optI (some p) = (p : Int) from rfl] at hpc
    have cp := hpar p hp
    have cpb := (hb1.cell (cell_lt cp)).trans cp
    have hpn : p < n := by have := par_lt hp; omega
    have hp0 : 0 < k := by have := par_lt hp; omega
    obtain ⟨kp, hkp⟩ : ∃ q, kindOf L p = q := ⟨_, rfl⟩
    dsimp only at HE
    rw [hkp] at cp cpb HE
    clear hpar hp hkp cp
    go_wp2_with (go_at_call 25; refine hpc.mono ?_; rintro e w1 ⟨rfl, h1⟩; have hS1 := Blk_below hS h1 (by simp); have s0 := St_cell (j := 0) (v := .int .u8 x.st.kind) hS1 rfl; have s1 := St_cell (j := 1) (v := .bool x.st.flow) hS1 rfl; have s2 := St_cell (j := 2) (v := .int .u8 x.st.float) hS1 rfl; have u0 := (h1.cell (cell_lt t0)).trans t0; have u1 := (h1.cell (cell_lt cpb)).trans cpb)
    all_goals
      go_ret
      refine ⟨bool_eq ?_, Below_same hb1 h1⟩
      rw [HE.out]
      clear HE HR HPA
      have ka : ((k : Int) == 0) = false := by simp; omega
      have kb : (x.st.kind == 2) = decide (x.st.kind = 2) := rfl
      have kc : (kp == 2) = decide (kp = 2) := rfl
      clear s0 s1 s2 u0 u1 hS hbT t0 t1 t2 ckb cpb hpc h1 hb1 hb0 h hS1
      first | (simp_all; done) | (simp_all; rfl)
end
end Go.Proofs.Ytlfjbkmdehpahaa
