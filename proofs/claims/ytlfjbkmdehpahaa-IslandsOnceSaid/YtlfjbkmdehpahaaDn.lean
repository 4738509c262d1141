/-
  The program's way down a tree (islands.Of's own function). No condition.
-/
import Derived.Test.YtlfjbkmdehpahaaIs
set_option linter.unusedVariables false
set_option linter.unusedSimpArgs false
namespace Go.Proofs.Ytlfjbkmdehpahaa
open Go.RowKit Go.BigFrame

/-! ### The plain law -/
/-- Is a node in the tree below another one, or that? -/
def sub (L : List Nd) (i j : Nat) : Prop := i = j ∨ i ∈ chain L j
theorem chain_kid {L : List Nd} {i : Nat} : ∀ j, i ∈ chain L j ↔ ∃ k, par L k = some i ∧ sub L k j := by
  intro j
  induction j using Nat.strongRecOn with
  | _ j ih =>
    cases hp : par L j with
    | none =>
      rw [chain_none hp]
      refine ⟨fun h => (by cases h), fun ⟨k, hk, hs⟩ => ?_⟩
      rcases hs with rfl | hs
      · rw [hp] at hk; cases hk
      · rw [chain_none hp] at hs; cases hs
    | some p =>
      have hlt := par_lt hp
      rw [chain_some hp]
      constructor
      · intro h
        rcases List.mem_cons.1 h with rfl | h
        · exact ⟨j, hp, .inl rfl⟩
        · obtain ⟨k, hk, hs⟩ := (ih p hlt).1 h
          refine ⟨k, hk, .inr ?_⟩
          rw [chain_some hp]
          rcases hs with rfl | hs
          · exact List.mem_cons_self ..
          · exact List.mem_cons_of_mem _ hs
      · rintro ⟨k, hk, hs⟩
        rcases hs with rfl | hs
        · rw [hp] at hk; injection hk with hk; subst hk; exact List.mem_cons_self ..
        · rw [chain_some hp] at hs
          rcases List.mem_cons.1 hs with rfl | hs
          · exact List.mem_cons_of_mem _ ((ih k hlt).2 ⟨k, hk, .inl rfl⟩)
          · exact List.mem_cons_of_mem _ ((ih p hlt).2 ⟨k, hk, .inr hs⟩)
theorem sub_lt {L : List Nd} {i j : Nat} (h : sub L i j) : i ≤ j := by
  rcases h with rfl | h
  · exact Nat.le_refl _
  · exact Nat.le_of_lt (chain_lt L j i h)
theorem sub_zero {L : List Nd} (hf : Fine L) : ∀ j, j < L.length → sub L 0 j := by
  intro j
  induction j using Nat.strongRecOn with
  | _ j ih =>
    intro hj
    rcases Nat.eq_zero_or_pos j with rfl | h0
    · exact .inl rfl
    · obtain ⟨hp, hp0, hp1⟩ := hf.par hj h0
      have hlt := par_lt hp
      right
      rw [chain_some hp]
      rcases ih _ hlt (by omega) with h | h
      · rw [← h]; exact List.mem_cons_self ..
      · exact List.mem_cons_of_mem _ h
def kidsN (L : List Nd) (n p : Nat) : List Nat := (List.range n).filter fun i => decide (par L i = some p)
theorem kids_N (L : List Nd) (n p : Nat) : kidsAt L n p = (kidsN L n p).map Int.ofNat := rfl
theorem kidsN_mem {L : List Nd} {n p k : Nat} : k ∈ kidsN L n p ↔ k < n ∧ par L k = some p := by simp [kidsN]
/-- How far the row has been filled below a node, when its first q children have been gone down. -/
structure Went (L : List Nd) (n i q : Nat) (out o : List Int) : Prop where
  len : o.length = n
  yes : ∀ j, j < n → (j = i ∨ ∃ k ∈ (kidsN L n i).take q, sub L k j) → o.getD j 0 = ofAt L j
  no : ∀ j, j < n → ¬ (j = i ∨ ∃ k ∈ (kidsN L n i).take q, sub L k j) → o.getD j 0 = out.getD j 0
/-- All of it. -/
structure Gone (L : List Nd) (n i : Nat) (out o : List Int) : Prop where
  len : o.length = n
  yes : ∀ j, j < n → sub L i j → o.getD j 0 = ofAt L j
  no : ∀ j, j < n → ¬ sub L i j → o.getD j 0 = out.getD j 0
theorem getD_set {o : List Int} {i j : Nat} {x : Int} (hi : i < o.length) : (o.set i x).getD j 0 = if j = i then x else o.getD j 0 := by
  by_cases e : j = i
  · subst e; simp [List.getD, hi]
  · have e' : ¬ i = j := fun h => e h.symm
    rw [if_neg e]; simp [List.getD, e']
theorem Went.start {L : List Nd} {n i : Nat} {out : List Int} (hl : out.length = n) (hi : i < n) : Went L n i 0 out (out.set i (ofAt L i)) := by
  refine ⟨by simp [hl], fun j hj h => ?_, fun j hj h => ?_⟩
  · rw [getD_set (by omega)]
    rcases h with rfl | ⟨k, hk, _⟩
    · rw [if_pos rfl]
    · simp at hk
  · rw [getD_set (by omega), if_neg (fun e => h (.inl e))]
theorem Went.next {L : List Nd} {n i q : Nat} {out o o' : List Int} (h : Went L n i q out o) (hq : q < (kidsN L n i).length) (hg : Gone L n ((kidsN L n i).getD q 0) o o') : Went L n i (q + 1) out o' := by
  have ht : (kidsN L n i).take (q + 1) = (kidsN L n i).take q ++ [(kidsN L n i).getD q 0] := by
    rw [List.take_succ_eq_append_getElem hq]; simp [hq]
  refine ⟨hg.len, fun j hj hs => ?_, fun j hj hs => ?_⟩
  · rw [ht] at hs
    by_cases hk : sub L ((kidsN L n i).getD q 0) j
    · exact hg.yes j hj hk
    · rw [hg.no j hj hk]
      refine h.yes j hj ?_
      rcases hs with hs | ⟨k, hk2, hs⟩
      · exact .inl hs
      · rcases List.mem_append.1 hk2 with hk2 | hk2
        · exact .inr ⟨k, hk2, hs⟩
        · simp only [List.mem_singleton] at hk2; subst hk2; exact absurd hs hk
  · rw [ht] at hs
    have hk : ¬ sub L ((kidsN L n i).getD q 0) j := fun hk => hs (.inr ⟨_, by simp, hk⟩)
    rw [hg.no j hj hk]
    exact h.no j hj (fun h2 => hs (h2.imp id (fun ⟨k, h3, h4⟩ => ⟨k, List.mem_append_left _ h3, h4⟩)))
theorem Went.done {L : List Nd} {n i q : Nat} {out o : List Int} (h : Went L n i q out o) (hq : (kidsN L n i).length ≤ q) : Gone L n i out o := by
  have key : ∀ j, j < n → ((j = i ∨ ∃ k ∈ (kidsN L n i).take q, sub L k j) ↔ sub L i j) := fun j hj => by
    rw [List.take_of_length_le hq]
    unfold sub
    rw [chain_kid j]
    constructor
    · rintro (rfl | ⟨k, hk, hs⟩)
      · exact .inl rfl
      · exact .inr ⟨k, (kidsN_mem.1 hk).2, hs⟩
    · rintro (rfl | ⟨k, hk, hs⟩)
      · exact .inl rfl
      · exact .inr ⟨k, kidsN_mem.2 ⟨by have := sub_lt hs; omega, hk⟩, hs⟩
  exact ⟨h.len, fun j hj hs => h.yes j hj ((key j hj).2 hs), fun j hj hs => h.no j hj (fun h2 => hs ((key j hj).1 h2))⟩
theorem Gone.all {L : List Nd} {n : Nat} {out o : List Int} (h : Gone L n 0 out o) (hf : Fine L) (hl : L.length = n) : o = ofL L n := by
  apply List.ext_getElem (by rw [h.len]; simp [ofL])
  intro j h1 h2
  have hj : j < n := by rw [h.len] at h1; exact h1
  have := h.yes j hj (sub_zero hf j (by omega))
  simp [List.getD, h1] at this
  rw [this]; simp [ofL]


/-! ### The walk -/
section
variable {A D : Option Addr} {n c m d : Nat} {v : Int} {L : List Nd} {adv : List Int}
structure Env (A D : Option Addr) (n c m d : Nat) (v : Int) (L : List Nd) (adv : List Int) (w0 w : World) (T0 O R K0 g B F : Nat) (vs : List Value) : Prop where
  trd : Trd w0 A n D m L adv
  old : Below w0.heap.size w0 w
  t : Blk w T0 25 #[.slice A n c, .slice D m d, .int .i64 v]
  o : Blk w O 29 #[.slice (some ⟨R, 0, none⟩) n n]
  k : Blk w K0 49 #[.slice (some ⟨g, 0, none⟩) n n]
  f : Blk w F 51 #[.func (.func 22) #[] #[.pointer (some ⟨T0, 0, none⟩), .pointer (some ⟨O, 0, none⟩), .pointer (some ⟨K0, 0, none⟩), .pointer (some ⟨F, 0, none⟩)]]
  mat : Mat w B g 29 3 vs (kidsM L n n)
  lo : w0.heap.size ≤ R
  ne : T0 ≠ R ∧ O ≠ R ∧ K0 ≠ R ∧ F ≠ R ∧ g ≠ R ∧ R < B
theorem Env.only {w0 w w' : World} {T0 O R K0 g B F : Nat} {vs : List Value} (h : Env A D n c m d v L adv w0 w T0 O R K0 g B F vs) (ho : Only [R] w w') : Env A D n c m d v L adv w0 w' T0 O R K0 g B F vs := by
  obtain ⟨e1, e2, e3, e4, e5, e6⟩ := h.ne
  exact ⟨h.trd, Only.after h.old (Nat.le_refl _) ho (by simpa using h.lo), ho.blk h.t (by simpa using e1), ho.blk h.o (by simpa using e2), ho.blk h.k (by simpa using e3), ho.blk h.f (by simpa using e4), h.mat.only ho (by simpa using e5) (by simpa using e6), h.lo, h.ne⟩
theorem Env.now {w0 w : World} {T0 O R K0 g B F : Nat} {vs : List Value} (h : Env A D n c m d v L adv w0 w T0 O R K0 g B F vs) : Trd w A n D m L adv := h.trd.mono h.old
set_option maxRecDepth 100000 in
set_option maxHeartbeats 4000000 in
theorem down_any (w0 : World) (T0 O R K0 g B F : Nat) (vs : List Value) (hf : Fine L) : ∀ (N i : Nat), n - i ≤ N → i < n → ∀ (isl : Int) (w : World) (out : List Int),
    Env A D n c m d v L adv w0 w T0 O R K0 g B F vs → Row w 3 R out → out.length = n → (rootB L i = false → ¬ kindOf L i = 3 → isl = (island L i : Nat)) →
    Calls Try.prog 22 #[.int .i64 i, .int .i64 isl, .pointer (some ⟨T0, 0, none⟩), .pointer (some ⟨O, 0, none⟩), .pointer (some ⟨K0, 0, none⟩), .pointer (some ⟨F, 0, none⟩)] w
      fun e w' => e = .returned (.tuple #[]) ∧ Only [R] w w' ∧ ∃ o, Row w' 3 R o ∧ Gone L n i out o := by
  intro N
  induction N with
  | zero => intro i h1 h2; omega
  | succ N ih =>
    intro i hN hi isl w out hE hR hl hisl
    have hsm := hf.small
    have hln := hE.trd.len
    rw [hln] at hsm
    have hm : n ≤ maxLen := by unfold maxLen; omega
    have t0 := Blk_cell hE.t 0
    have t1 := Blk_cell hE.t 1
    have t2 := Blk_cell hE.t 2
    have hrc := troot_any (c := c) (d := d) (v := v) i w hE.now hm
    obtain ⟨b, off, rfl, hB, hc⟩ := hE.trd.at_ (by omega)
    have ck : w0.cell? ⟨b, off + i * 44 + 1, none⟩ = some (.int .u8 (kindOf L i)) := by rw [Nat.add_assoc]; exact hc i hi 1 (by omega)
    have hws := Went.start (L := L) hl hi
    have hi0 : 0 ≤ (i : Int) := Int.natCast_nonneg i
    have HST := Lib.hid (fun (w1 : World) (h1 : Below w.heap.size w w1) (x : Int) => (And.intro (hE.only ((Only.of_below h1).set (p := ⟨R, i, none⟩) (by simp) (.int .i64 x))) (And.intro ((hR.below h1).set i x) ((Only.of_below (gs := [R]) h1).set (p := ⟨R, i, none⟩) (by simp) (.int .i64 x)))))
    have HC := Lib.hid (fun (w1 : World) (h1 : Below w.heap.size w w1) => (And.intro (Blk_cell (hE.only (Only.of_below h1)).t 0) (And.intro (Blk_cell (hE.only (Only.of_below h1)).o 0) (And.intro ((hR.below h1).cell (i := i) (by omega)) (Blk_frozen (hR.below h1) i)))))
    have HCK := Lib.hid (fun (w1 : World) (h1 : Below w0.heap.size w0 w1) => (h1.cell (cell_lt ck)).trans ck)
    clear hc
    cases hr : rootB L i
    · by_cases hk : kindOf L i = 3
      · have hv : ofAt L i = -1 := by unfold ofAt; rw [if_pos hk]
        rw [hv] at hws
        have HV := Lib.hid (fun (h : ¬ kindOf L i = 3) => (absurd hk h : isl = (island L i : Nat)))
        have HWS := Lib.hid hws
        rw [hk] at HCK
        rw [hr] at hrc
        clear hr hk hv hws hisl ck
        go_enter Try.func22, Try.ntmps22
        go_upto_region 4 with (go_at_call 20; refine hrc.mono ?_; rintro e w1 ⟨rfl, h1⟩; obtain ⟨x0, x1, x2, x3⟩ := HC.out w1 h1; have x4 := Blk_cell (HST.out w1 h1 isl).1.t 0; have x5 := HCK.out _ (HST.out w1 h1 isl).1.old)
        obtain ⟨hE1, hR1, ho1⟩ := HST.out w1 h1 isl
        have y1 := Blk_cell hE1.o 0
        have y2 := hR1.cell (i := i) (by rw [List.length_set]; omega)
        have y3 := Blk_frozen hR1 i
        clear t0 t1 t2 x0 x1 x2 x3 x4 x5 hrc h1 HST HC
        have ho2 := ho1.set (p := ⟨R, i, none⟩) (by simp) (.int .i64 (-1))
        have hE2 := hE.only ho2
        have hR2 := hR1.set i (-1)
        rw [List.set_set] at hR2
        have hW := HWS.out
        go_upto_region 5 with fail
        clear y1 y2 y3 hE1 hR1 ho1
        have hsl := own_slice (hE2.mat.row i (by rw [kidsM_len]; exact hi))
        obtain ⟨Ak, ck, hvk, hk1, hk2⟩ := hsl
        have hkc := hE2.mat.cell (p := i) (by rw [kidsM_len]; exact hi)
        rw [hvk] at hkc
        rw [kidsM_get hi, kids_N, List.length_map] at hkc hk1 hvk
        have k0 := Blk_cell hE2.k 0
        have HVK := Lib.hid hvk
        unfold maxLen at hk2
        have hkl : (kidsN L n i).length ≤ 65536 := Nat.le_trans (List.length_filter_le _ _) (by rw [List.length_range]; exact hsm)
        clear hvk
        go_wp2_with fail
        clear hkc k0
        go_loopw [9, 34, 35, 36, 37, 38, 39, 40, 41, 42] (fun _ k _ _ _ _ _ _ _ _ wr => ∃ (q : Nat) (o : List Int), q ≤ (kidsN L n i).length ∧ k = .int .i64 q ∧ Row wr 3 R o ∧ Went L n i q out o ∧ Only [R] w wr) (fun _ k _ _ _ _ _ _ _ _ _ => (kidsN L n i).length - (intOf k).toNat)
        case atStart => exact ⟨0, _, Nat.zero_le _, rfl, hR2, hW, ho2⟩
        case round =>
          clear hR2 hW ho2 hE2
          obtain ⟨q, o, hq, rfl, hR2, hW, ho2⟩ := hrel
          have hE2 := hE.only ho2
          have HW := Lib.hid hW
          clear hW
          by_cases hlt : q < (kidsN L n i).length
          · have hrow := hE2.mat.row i (by rw [kidsM_len]; exact hi)
            rw [kidsM_get hi, kids_N, List.length_map, HVK.out] at hrow
            obtain ⟨kb, koff, hka, hKB, hKC⟩ := (Ints_of_own hrow).at_ (by omega)
            have ckid := hKC q hlt
            have hmem : (kidsN L n i).getD q 0 ∈ kidsN L n i := by
              rw [List.getD_eq_getElem?_getD, List.getElem?_eq_getElem hlt]; exact List.getElem_mem _
            obtain ⟨hkn, hkp⟩ := kidsN_mem.1 hmem
            rw [show ((kidsN L n i).map Int.ofNat).getD q 0 = (((kidsN L n i).getD q 0 : Nat) : Int) by simp [List.getD, hlt]] at ckid
            have HNX := Lib.hid (fun (o' : List Int) h => HW.out.next (o' := o') hlt h)
            obtain ⟨kd, hkd⟩ : ∃ k, (kidsN L n i).getD q 0 = k := ⟨_, rfl⟩
            rw [hkd] at ckid hkn hkp HNX
            have hki := par_lt hkp
            have hpk : parOf L kd = (i : Int) := by
              have h1 := hf.par (by rw [hln]; exact hkn) (by omega : 0 < kd)
              rw [hkp] at h1
              have := h1.1
              injection this with this
              omega
            have hnt : ¬ kindOf L i = 3 := by
              have h1 := hf.not_text (by rw [hln]; exact hkn) (by omega : 0 < kd)
              rw [hpk, Int.toNat_natCast] at h1
              exact h1
            have hcall := ih kd (by omega) hkn isl wr o hE2 hR2 HW.out.len (fun h3 _ => by rw [HV.out hnt, island_up h3 hkp])
            subst hka
            have f0 := Blk_cell hE2.f 0
            clear hkd hmem hkp hpk hnt hKC hrow
            go_wp2_with (go_at_call 22; refine hcall.mono ?_; rintro e w5 ⟨rfl, ho5, o5, hR5, hG5⟩)
            have ho6 := ho2.trans ho5
            have hW5 := HNX.out _ hG5
            go_roundw
            case rel => exact ⟨q + 1, o5, by omega, by go_num, hR5, hW5, ho6⟩
            case measure => simp [intOf]; omega
          · have HG := Lib.hid (HW.out.done (by omega))
            clear HW
            go_wp2_with fail
            go_end0
            exact ⟨rfl, ho2, o, hR2, HG.out⟩
      · have hx := hisl hr hk
        have hv : ofAt L i = isl := by unfold ofAt; rw [if_neg hk, hx]
        rw [hv] at hws
        have HV := Lib.hid (fun (_ : ¬ kindOf L i = 3) => hx)
        have HWS := Lib.hid hws
        have hk3 : (kindOf L i == 3) = false := by simpa using hk
        rw [hr] at hrc
        clear hr hk hx hv hws hisl
        go_enter Try.func22, Try.ntmps22
        go_upto_region 3 with (go_at_call 20; refine hrc.mono ?_; rintro e w1 ⟨rfl, h1⟩; obtain ⟨x0, x1, x2, x3⟩ := HC.out w1 h1)
        obtain ⟨hE2, hR2, ho2⟩ := HST.out w1 h1 isl
        have hW := HWS.out
        have t3 := Blk_cell hE2.t 0
        have ck2 := HCK.out _ hE2.old
        clear t0 t1 t2 x0 x1 x2 x3 hrc h1 HST HC
        have hsl := own_slice (hE2.mat.row i (by rw [kidsM_len]; exact hi))
        obtain ⟨Ak, ck, hvk, hk1, hk2⟩ := hsl
        have hkc := hE2.mat.cell (p := i) (by rw [kidsM_len]; exact hi)
        rw [hvk] at hkc
        rw [kidsM_get hi, kids_N, List.length_map] at hkc hk1 hvk
        have k0 := Blk_cell hE2.k 0
        have HVK := Lib.hid hvk
        unfold maxLen at hk2
        have hkl : (kidsN L n i).length ≤ 65536 := Nat.le_trans (List.length_filter_le _ _) (by rw [List.length_range]; exact hsm)
        clear hvk
        go_wp2_with fail
        clear hkc k0
        go_loopw [9, 34, 35, 36, 37, 38, 39, 40, 41, 42] (fun _ k _ _ _ _ _ _ _ _ wr => ∃ (q : Nat) (o : List Int), q ≤ (kidsN L n i).length ∧ k = .int .i64 q ∧ Row wr 3 R o ∧ Went L n i q out o ∧ Only [R] w wr) (fun _ k _ _ _ _ _ _ _ _ _ => (kidsN L n i).length - (intOf k).toNat)
        case atStart => exact ⟨0, _, Nat.zero_le _, rfl, hR2, hW, ho2⟩
        case round =>
          clear hR2 hW ho2 hE2
          obtain ⟨q, o, hq, rfl, hR2, hW, ho2⟩ := hrel
          have hE2 := hE.only ho2
          have HW := Lib.hid hW
          clear hW
          by_cases hlt : q < (kidsN L n i).length
          · have hrow := hE2.mat.row i (by rw [kidsM_len]; exact hi)
            rw [kidsM_get hi, kids_N, List.length_map, HVK.out] at hrow
            obtain ⟨kb, koff, hka, hKB, hKC⟩ := (Ints_of_own hrow).at_ (by omega)
            have ckid := hKC q hlt
            have hmem : (kidsN L n i).getD q 0 ∈ kidsN L n i := by
              rw [List.getD_eq_getElem?_getD, List.getElem?_eq_getElem hlt]; exact List.getElem_mem _
            obtain ⟨hkn, hkp⟩ := kidsN_mem.1 hmem
            rw [show ((kidsN L n i).map Int.ofNat).getD q 0 = (((kidsN L n i).getD q 0 : Nat) : Int) by simp [List.getD, hlt]] at ckid
            have HNX := Lib.hid (fun (o' : List Int) h => HW.out.next (o' := o') hlt h)
            obtain ⟨kd, hkd⟩ : ∃ k, (kidsN L n i).getD q 0 = k := ⟨_, rfl⟩
            rw [hkd] at ckid hkn hkp HNX
            have hki := par_lt hkp
            have hpk : parOf L kd = (i : Int) := by
              have h1 := hf.par (by rw [hln]; exact hkn) (by omega : 0 < kd)
              rw [hkp] at h1
              have := h1.1
              injection this with this
              omega
            have hnt : ¬ kindOf L i = 3 := by
              have h1 := hf.not_text (by rw [hln]; exact hkn) (by omega : 0 < kd)
              rw [hpk, Int.toNat_natCast] at h1
              exact h1
            have hcall := ih kd (by omega) hkn isl wr o hE2 hR2 HW.out.len (fun h3 _ => by rw [HV.out hnt, island_up h3 hkp])
            subst hka
            have f0 := Blk_cell hE2.f 0
            clear hkd hmem hkp hpk hnt hKC hrow
            go_wp2_with (go_at_call 22; refine hcall.mono ?_; rintro e w5 ⟨rfl, ho5, o5, hR5, hG5⟩)
            have ho6 := ho2.trans ho5
            have hW5 := HNX.out _ hG5
            go_roundw
            case rel => exact ⟨q + 1, o5, by omega, by go_num, hR5, hW5, ho6⟩
            case measure => simp [intOf]; omega
          · have HG := Lib.hid (HW.out.done (by omega))
            clear HW
            go_wp2_with fail
            go_end0
            exact ⟨rfl, ho2, o, hR2, HG.out⟩
    · have hk := (root_kind hr).2
      have hx := island_root hr
      have hv : ofAt L i = (i : Int) := by unfold ofAt; rw [if_neg hk, hx]
      rw [hv] at hws
      have HV := Lib.hid (fun (_ : ¬ kindOf L i = 3) => (by rw [hx] : (i : Int) = (island L i : Nat)))
      have HWS := Lib.hid hws
      have hk3 : (kindOf L i == 3) = false := by simpa using hk
      rw [hr] at hrc
      clear hr hk hx hv hws hisl
      go_enter Try.func22, Try.ntmps22
      go_upto_region 3 with (go_at_call 20; refine hrc.mono ?_; rintro e w1 ⟨rfl, h1⟩; obtain ⟨x0, x1, x2, x3⟩ := HC.out w1 h1)
      obtain ⟨hE2, hR2, ho2⟩ := HST.out w1 h1 (i : Int)
      have hW := HWS.out
      have t3 := Blk_cell hE2.t 0
      have ck2 := HCK.out _ hE2.old
      clear t0 t1 t2 x0 x1 x2 x3 hrc h1 HST HC
      have hsl := own_slice (hE2.mat.row i (by rw [kidsM_len]; exact hi))
      obtain ⟨Ak, ck, hvk, hk1, hk2⟩ := hsl
      have hkc := hE2.mat.cell (p := i) (by rw [kidsM_len]; exact hi)
      rw [hvk] at hkc
      rw [kidsM_get hi, kids_N, List.length_map] at hkc hk1 hvk
      have k0 := Blk_cell hE2.k 0
      have HVK := Lib.hid hvk
      unfold maxLen at hk2
      have hkl : (kidsN L n i).length ≤ 65536 := Nat.le_trans (List.length_filter_le _ _) (by rw [List.length_range]; exact hsm)
      clear hvk
      go_wp2_with fail
      clear hkc k0
      go_loopw [9, 34, 35, 36, 37, 38, 39, 40, 41, 42] (fun _ k _ _ _ _ _ _ _ _ wr => ∃ (q : Nat) (o : List Int), q ≤ (kidsN L n i).length ∧ k = .int .i64 q ∧ Row wr 3 R o ∧ Went L n i q out o ∧ Only [R] w wr) (fun _ k _ _ _ _ _ _ _ _ _ => (kidsN L n i).length - (intOf k).toNat)
      case atStart => exact ⟨0, _, Nat.zero_le _, rfl, hR2, hW, ho2⟩
      case round =>
        clear hR2 hW ho2 hE2
        obtain ⟨q, o, hq, rfl, hR2, hW, ho2⟩ := hrel
        have hE2 := hE.only ho2
        have HW := Lib.hid hW
        clear hW
        by_cases hlt : q < (kidsN L n i).length
        · have hrow := hE2.mat.row i (by rw [kidsM_len]; exact hi)
          rw [kidsM_get hi, kids_N, List.length_map, HVK.out] at hrow
          obtain ⟨kb, koff, hka, hKB, hKC⟩ := (Ints_of_own hrow).at_ (by omega)
          have ckid := hKC q hlt
          have hmem : (kidsN L n i).getD q 0 ∈ kidsN L n i := by
            rw [List.getD_eq_getElem?_getD, List.getElem?_eq_getElem hlt]; exact List.getElem_mem _
          obtain ⟨hkn, hkp⟩ := kidsN_mem.1 hmem
          rw [show ((kidsN L n i).map Int.ofNat).getD q 0 = (((kidsN L n i).getD q 0 : Nat) : Int) by simp [List.getD, hlt]] at ckid
          have HNX := Lib.hid (fun (o' : List Int) h => HW.out.next (o' := o') hlt h)
          obtain ⟨kd, hkd⟩ : ∃ k, (kidsN L n i).getD q 0 = k := ⟨_, rfl⟩
          rw [hkd] at ckid hkn hkp HNX
          have hki := par_lt hkp
          have hpk : parOf L kd = (i : Int) := by
            have h1 := hf.par (by rw [hln]; exact hkn) (by omega : 0 < kd)
            rw [hkp] at h1
            have := h1.1
            injection this with this
            omega
          have hnt : ¬ kindOf L i = 3 := by
            have h1 := hf.not_text (by rw [hln]; exact hkn) (by omega : 0 < kd)
            rw [hpk, Int.toNat_natCast] at h1
            exact h1
          have hcall := ih kd (by omega) hkn (i : Int) wr o hE2 hR2 HW.out.len (fun h3 _ => by rw [HV.out hnt, island_up h3 hkp])
          subst hka
          have f0 := Blk_cell hE2.f 0
          clear hkd hmem hkp hpk hnt hKC hrow
          go_wp2_with (go_at_call 22; refine hcall.mono ?_; rintro e w5 ⟨rfl, ho5, o5, hR5, hG5⟩)
          have ho6 := ho2.trans ho5
          have hW5 := HNX.out _ hG5
          go_roundw
          case rel => exact ⟨q + 1, o5, by omega, by go_num, hR5, hW5, ho6⟩
          case measure => simp [intOf]; omega
        · have HG := Lib.hid (HW.out.done (by omega))
          clear HW
          go_wp2_with fail
          go_end0
          exact ⟨rfl, ho2, o, hR2, HG.out⟩
end
end Go.Proofs.Ytlfjbkmdehpahaa
