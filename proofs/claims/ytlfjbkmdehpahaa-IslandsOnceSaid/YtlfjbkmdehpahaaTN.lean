/-
  What is wrong with a node (jambref05.node). No condition.
-/
import Derived.Test.YtlfjbkmdehpahaaTR3
import Derived.Deep.WholeRow
set_option linter.unusedVariables false
set_option linter.unusedSimpArgs false
namespace Go.Proofs.Ytlfjbkmdehpahaa
open Go.RowKit Go.BigFrame

theorem at_op {P : Program} {ops : Array Oper} {rest : List Oper} {a : Act} {w : World} {Q : Exit → Act → World → Prop} (o : Oper) (h : wpList P ops Q (o :: rest) a w) : wpList P ops Q (o :: rest) a w := h
theorem one_st (s : St) : (scells s).toArray.all (·.oneCell') = true := by simp [scells, Value.oneCell']
theorem one_nd (x : Nd) : (ncells x).toArray.all (·.oneCell') = true := by simp [ncells, scells, Value.oneCell']
theorem wpList_store_new {P : Program} {ops : Array Oper} {rest : List Oper} {op : Oper} {a : Act} {w : World} {Q : Exit → Act → World → Prop} (hgd : op.guard = none) (ty : TypeId) (x y : Operand) (ho : op.op = .store ty x y)
    {t : TypeId} (g : Nat) (hg : w.heap.size = g) (c c' : Array Value) (hx : a.eval x = .pointer (some ⟨g, 0, none⟩)) (hy : a.eval y = .agg c') (hi : (P.info? ty).map (·.size) = some c'.size) (hold : c.size = c'.size) (h1 : c'.all (·.oneCell') = true)
    (h : wpList P ops Q rest (a.put op.dst undef) (w.alloc (.cells c' t))) : wpList P ops Q (op :: rest) a (w.alloc (.cells c t)) := by
  subst hg
  refine wpList_store_row hgd ty x y ho w.heap.size c' hx hy t c (heap_alloc_last w _) hi hold h1 ?_
  rw [World.setRow_alloc_new]
  exact h
theorem Nd_cell {w : World} {g : Nat} {t : TypeId} {x : Nd} (h : Blk w g t (ncells x).toArray) {j : Nat} {v : Value} (e : (ncells x).toArray[j]? = some v) : w.cell? ⟨g, j, none⟩ = some v := (Blk_cell h j).trans e
theorem range_nd {w : World} {g : Nat} {t : TypeId} {x : Nd} (h : Blk w g t (ncells x).toArray) : w.rangeAt g 1 (scells x.st) := fun j v hv => by
  rw [Blk_cell h]
  simp only [List.getElem?_toArray, ncells, Nat.add_comm 1 j, List.getElem?_cons_succ]
  exact hv
section
variable {A D : Option Addr} {n c m d : Nat} {v : Int} {L : List Nd} {adv : List Int}
theorem Trd.range {w w' : World} (h : Trd w A n D m L adv) (hb : Below w.heap.size w w') {i : Nat} (hi : i < n) {b off : Nat} (e : A = some ⟨b, off, none⟩) : w'.rangeAt b (off + i * 44) (ncells (L.getD i nd0)) := fun j u hu => by
  obtain ⟨b', off', e', hB, hc⟩ := h.at_ (by omega)
  rw [e] at e'
  injection e' with e'
  injection e' with e1 e2
  subst e1; subst e2
  have hj : j < 44 := (List.getElem?_eq_some_iff.1 hu).1
  rw [Nat.add_assoc, hb.cell (p := ⟨b, off + (i * 44 + j), none⟩) hB, hc i hi j hj, hu]
theorem under_zero {L : List Nd} (h : parOf L 0 = -1) : underB L 0 = true := by unfold underB; rw [if_pos rfl]; exact decide_eq_true h
theorem under_zero' {L : List Nd} (h : ¬ parOf L 0 = -1) : underB L 0 = false := by unfold underB; rw [if_pos rfl]; exact decide_eq_false h
theorem under_prev {L : List Nd} {i : Nat} (h0 : ¬ i = 0) (h : parOf L i = (i : Int) - 1) : underB L i = true := by unfold underB; rw [if_neg h0, decide_eq_true h]; rfl
theorem under_out {L : List Nd} {i : Nat} (h0 : ¬ i = 0) (h : ¬ parOf L i = (i : Int) - 1) (h2 : ¬ (0 ≤ parOf L i ∧ parOf L i < i)) : underB L i = false := by
  unfold underB; rw [if_neg h0, decide_eq_false h, decide_eq_false h2]; rfl
theorem under_in {L : List Nd} {i : Nat} (h0 : ¬ i = 0) (h : ¬ parOf L i = (i : Int) - 1) (h2 : 0 ≤ parOf L i ∧ parOf L i < i) : underB L i = belowB L (i - 1) (parOf L i).toNat := by
  unfold underB; rw [if_neg h0, decide_eq_false h, decide_eq_true h2]; simp
theorem under_lt {L : List Nd} {i : Nat} (h0 : ¬ i = 0) (h : underB L i = true) : 0 ≤ parOf L i ∧ parOf L i < i := by
  unfold underB at h
  rw [if_neg h0] at h
  simp only [Bool.or_eq_true, decide_eq_true_eq, Bool.and_eq_true] at h
  rcases h with h | h
  · omega
  · exact h.1
theorem node_under {L : List Nd} {i : Nat} (h : underB L i = false) : nodeE L i = 6 := by unfold nodeE; rw [if_pos h]
theorem node_many {L : List Nd} {i : Nat} (h : underB L i = true) (h2 : 65536 < (L.getD i nd0).st.units.length) : nodeE L i = 7 := by
  unfold nodeE; rw [if_neg (by rw [h]; simp), if_pos h2]
theorem node_deep {L : List Nd} {i : Nat} (h : underB L i = true) (h2 : (L.getD i nd0).st.units.length ≤ 65536) (h3 : 512 < deep L i) : nodeE L i = 8 := by
  unfold nodeE; rw [if_neg (by rw [h]; simp), if_neg (by omega), if_pos h3]
def wrongB (s : St) (i : Nat) : Bool := !rightB s || (decide (i = 0) && (!decide (s.kind = 1) || looseB s))
theorem node_wrong {L : List Nd} {i : Nat} (h : underB L i = true) (h2 : (L.getD i nd0).st.units.length ≤ 65536) (h3 : deep L i ≤ 512) (h4 : wrongB (L.getD i nd0).st i = true) : nodeE L i = 6 := by
  unfold nodeE; rw [if_neg (by rw [h]; simp), if_neg (by omega), if_neg (by omega), if_pos]
  unfold wrongB at h4
  simpa [kindOf] using h4
theorem node_zero {L : List Nd} {i : Nat} (h : underB L i = true) (h2 : (L.getD i nd0).st.units.length ≤ 65536) (h3 : deep L i ≤ 512) (h4 : wrongB (L.getD i nd0).st i = false) (h5 : i = 0) : nodeE L i = 0 := by
  unfold nodeE; rw [if_neg (by rw [h]; simp), if_neg (by omega), if_neg (by omega), if_neg, if_pos h5]
  unfold wrongB at h4
  intro hx
  have : (!rightB (L.getD i nd0).st || (decide (i = 0) && (!decide ((L.getD i nd0).st.kind = 1) || looseB (L.getD i nd0).st))) = true := by simpa [kindOf] using hx
  rw [this] at h4; cases h4
theorem node_place {L : List Nd} {i : Nat} (h : underB L i = true) (h2 : (L.getD i nd0).st.units.length ≤ 65536) (h3 : deep L i ≤ 512) (h4 : wrongB (L.getD i nd0).st i = false) (h5 : ¬ i = 0) : nodeE L i = if placeB L i = false then 6 else 0 := by
  unfold nodeE; rw [if_neg (by rw [h]; simp), if_neg (by omega), if_neg (by omega), if_neg, if_neg h5]
  unfold wrongB at h4
  intro hx
  have : (!rightB (L.getD i nd0).st || (decide (i = 0) && (!decide ((L.getD i nd0).st.kind = 1) || looseB (L.getD i nd0).st))) = true := by simpa [kindOf] using hx
  rw [this] at h4; cases h4
theorem place_text {L : List Nd} {i p : Nat} (hp : (parOf L i).toNat = p) (h : kindOf L p = 3) : placeB L i = false := by unfold placeB; simp only [hp]; rw [if_pos h]
theorem place_flex {L : List Nd} {i p : Nat} (hp : (parOf L i).toNat = p) (h : kindOf L p = 2) : placeB L i = !(decide (kindOf L i = 3) || looseB (L.getD i nd0).st) := by
  unfold placeB; simp only [hp]; rw [if_neg (by omega), if_pos h]
theorem place_none {L : List Nd} {i p : Nat} (hp : (parOf L i).toNat = p) (h : ¬ kindOf L p = 3) (h2 : ¬ kindOf L p = 2) (h3 : firstK L p (p + 1) i = none) : placeB L i = true := by
  unfold placeB; simp only [hp]; rw [if_neg h, if_neg h2, h3]
theorem place_some {L : List Nd} {i p k : Nat} (hp : (parOf L i).toNat = p) (h : ¬ kindOf L p = 3) (h2 : ¬ kindOf L p = 2) (h3 : firstK L p (p + 1) i = some k) : placeB L i = (decide (kindOf L k = 3) == decide (kindOf L i = 3)) := by
  unfold placeB; simp only [hp]; rw [if_neg h, if_neg h2, h3]
set_option maxRecDepth 100000 in
set_option maxHeartbeats 4000000 in
theorem node_any (i : Nat) (w : World) (h : Trd w A n D m L adv) (hwf : TrWf n c m d L adv v) (hi : i < n) (hn : n ≤ maxLen) :
    Calls Try.prog 26 #[.agg #[.slice A n c, .slice D m d, .int .i64 v], .int .i64 i] w fun e w' => e = .returned (.int .i64 (nodeE L i)) ∧ Below w.heap.size w w' := by
  have hn' := hn
  unfold maxLen at hn'
  obtain ⟨b, off, rfl, hB, hc⟩ := h.at_ (by omega)
  have hr := fun (w' : World) (hb : Below w.heap.size w w') => h.range hb hi rfl
  have HR := Lib.hid hr
  obtain ⟨x, hx⟩ : ∃ x, L.getD i nd0 = x := ⟨_, rfl⟩
  rw [hx] at HR
  have HX := Lib.hid hx
  have hul := hwf.ulen i hi
  have hst := hwf.st i hi
  rw [hx] at hul hst
  clear hr hc hx hwf
  have hbT := Blk_new w 25 #[.slice (some ⟨b, off, none⟩) n c, .slice D m d, .int .i64 v]
  have hN := Blk_new (w.alloc (.cells #[.slice (some ⟨b, off, none⟩) n c, .slice D m d, .int .i64 v] 25)) 42 (ncells x).toArray
  have hS := Blk_new ((w.alloc (.cells #[.slice (some ⟨b, off, none⟩) n c, .slice D m d, .int .i64 v] 25)).alloc (.cells (ncells x).toArray 42)) 40 (scells x.st).toArray
  rw [World.size_alloc] at hN
  rw [World.size_alloc, World.size_alloc] at hS
  have hp0 := Nd_cell (j := 0) (v := .int .i64 x.parent) hN rfl
  go_enter Try.func26, Try.ntmps26
  go_upto_region 4 with (first
    | ((with_reducible refine at_op ⟨some 14, _, _, _, _, _⟩ ?_); refine wpList_load_mid rfl 42 (.tmp 13) rfl _ _ rfl (ncells x) _ (HR.out _ (by (repeat' (first | (with_reducible exact Below.refl _ _) | (with_reducible assumption) | (with_reducible refine Below.alloc ?_ ?_ _) | (with_reducible refine Below.drew ?_) | (with_reducible refine Below_drewN ?_ _) | (with_reducible refine Below.setCell ?_ ?_ _) | go_size)))) Try.underlying42 rfl info_nd ?_)
    | ((with_reducible refine at_op ⟨none, .store 42 (.tmp 5) (.tmp 14), _, _, _, _⟩ ?_); refine wpList_store_new rfl 42 (.tmp 5) (.tmp 14) rfl _ ?_ _ (ncells x).toArray rfl rfl info_nd rfl (one_nd x) ?_; · (simp; done))
    | ((with_reducible refine at_op ⟨some 16, _, _, _, _, _⟩ ?_); refine wpList_load_mid rfl 40 (.tmp 15) rfl _ 1 rfl (scells x.st) _ (range_nd hN) Try.underlying40 rfl info_st ?_)
    | ((with_reducible refine at_op ⟨none, .store 40 (.tmp 6) (.tmp 16), _, _, _, _⟩ ?_); refine wpList_store_new rfl 40 (.tmp 6) (.tmp 16) rfl _ ?_ _ (scells x.st).toArray rfl rfl info_st rfl (one_st x.st) ?_; · (simp; done)))
  have hb3 := (((Below.refl w.heap.size w).alloc (Nat.le_refl _) (.cells #[.slice (some ⟨b, off, none⟩) n c, .slice D m d, .int .i64 v] 25)).alloc (by simp) (.cells (ncells x).toArray 42)).alloc (by simp; omega) (.cells (scells x.st).toArray 40)
  have hbT3 := Blk_alloc (Blk_alloc hbT (.cells (ncells x).toArray 42)) (.cells (scells x.st).toArray 40)
  clear hN hp0 hbT
  have hpo : parOf L i = x.parent := by rw [← HX.out]
  have HPO := Lib.hid hpo
  clear hpo
  go_cut [51] (fun y wx => y = .bool (!underB L i) ∧ Below w.heap.size w wx ∧ Blk wx w.heap.size 25 #[.slice (some ⟨b, off, none⟩) n c, .slice D m d, .int .i64 v] ∧ Blk wx (w.heap.size + 1 + 1) 40 (scells x.st).toArray)
  case first =>
    have q0 := Blk_cell hbT3 0
    have q1 := Blk_cell hbT3 1
    have q2 := Blk_cell hbT3 2
    by_cases h0 : i = 0
    · subst h0
      by_cases h1 : x.parent = -1
      · have HU := Lib.hid (under_zero (HPO.out.trans h1))
        go_wp2_with fail
        go_meet
        exact ⟨by rw [HU.out]; rfl, hb3, hbT3, hS⟩
      · have HU := Lib.hid (under_zero' (by rw [HPO.out]; exact h1))
        have h2 : (x.parent == -1) = false := by simpa using h1
        go_wp2_with fail
        go_meet
        exact ⟨by rw [HU.out]; rfl, hb3, hbT3, hS⟩
    have hi0 : 0 < (i : Int) := by omega
    have hie : ((i : Int) == 0) = false := by simpa using h0
    by_cases h1 : x.parent = (i : Int) - 1
    · have HU := Lib.hid (under_prev h0 (HPO.out.trans h1))
      have hne : (x.parent != (i : Int) - 1) = false := by simp [h1]
      clear h1 h0
      go_wp2_with fail
      go_meet
      exact ⟨by rw [HU.out]; rfl, hb3, hbT3, hS⟩
    have hne : (x.parent != (i : Int) - 1) = true := by simpa using h1
    by_cases h2 : 0 ≤ x.parent ∧ x.parent < i
    · obtain ⟨h2, h3⟩ := h2
      have hu := under_in h0 (by rw [HPO.out]; exact h1) (by rw [HPO.out]; exact ⟨h2, h3⟩)
      rw [HPO.out] at hu
      have HU := Lib.hid hu
      have hcb := below_any (c := c) (d := d) (v := v) (i - 1) x.parent.toNat _ (h.mono hb3) (by omega) hn
      rw [show ((x.parent.toNat : Nat) : Int) = x.parent by omega, show ((i - 1 : Nat) : Int) = (i : Int) - 1 by omega] at hcb
      have h4 : decide (x.parent < 0) = false := decide_eq_false (by omega)
      have h5 : decide ((i : Int) ≤ x.parent) = false := decide_eq_false (by omega)
      obtain ⟨q, hq⟩ : ∃ q, belowB L (i - 1) x.parent.toNat = q := ⟨_, rfl⟩
      rw [hq] at hcb HU
      clear hq hu h0 h1
      cases q
      all_goals
        go_wp2_with (go_at_call 28; refine hcb.mono ?_; rintro e w1 ⟨rfl, h1⟩)
        go_meet
        exact ⟨by rw [HU.out]; rfl, Below_same hb3 h1, Blk_below hbT3 h1 (Blk_lt hbT3), Blk_below hS h1 (Blk_lt hS)⟩
    · have HU := Lib.hid (under_out h0 (by rw [HPO.out]; exact h1) (by rw [HPO.out]; exact h2))
      rcases (show x.parent < 0 ∨ (0 ≤ x.parent ∧ (i : Int) ≤ x.parent) by omega) with h3 | ⟨h3, h4⟩
      · go_wp2_with fail
        go_meet
        exact ⟨by rw [HU.out]; rfl, hb3, hbT3, hS⟩
      · have h5 : decide (x.parent < 0) = false := decide_eq_false (by omega)
        go_wp2_with fail
        go_meet
        exact ⟨by rw [HU.out]; rfl, hb3, hbT3, hS⟩
  case rest =>
    obtain ⟨rfl, hb, hbT, hbS⟩ := hcut
    clear hb3 hbT3 hS
    have hT := h.mono hb
    cases hu : underB L i
    · have HN := Lib.hid (node_under hu)
      go_wp2_with fail
      go_ret
      exact ⟨by rw [HN.out]; rfl, hb⟩
    have HU := Lib.hid hu
    have t0 := Blk_cell hbT 0
    have t1 := Blk_cell hbT 1
    have t2 := Blk_cell hbT 2
    have su := St_cell (j := 42) (v := .slice x.st.uA x.st.units.length x.st.uc) hbS rfl
    have hxl : (L.getD i nd0).st.units.length = x.st.units.length := by rw [HX.out]
    have hul' := hul.2
    unfold maxLen at hul'
    by_cases hlen : 65536 < x.st.units.length
    · have HN := Lib.hid (node_many hu (by rw [hxl]; exact hlen))
      have hlen' : 65536 < (x.st.units.length : Int) := by omega
      clear hu hxl
      go_wp2_with fail
      go_ret
      exact ⟨by rw [HN.out]; rfl, hb⟩
    have hlen2 : (L.getD i nd0).st.units.length ≤ 65536 := by rw [hxl]; omega
    have hlen' : (x.st.units.length : Int) ≤ 65536 := by omega
    have hdc := depth_any (c := c) (d := d) (v := v) i _ hT hi hn
    by_cases hdeep : 512 < deep L i
    · have HN := Lib.hid (node_deep hu hlen2 hdeep)
      have hdeep' : 512 < (deep L i : Int) := by omega
      clear hu hxl hlen2
      go_wp2_with (go_at_call 29; refine hdc.mono ?_; rintro e w1 ⟨rfl, h1⟩)
      go_ret
      exact ⟨by rw [HN.out]; rfl, Below_same hb h1⟩
    have hdeep2 : deep L i ≤ 512 := by omega
    have hdeep' : (deep L i : Int) ≤ 512 := by omega
    have HW := Lib.hid (fun h => node_wrong hu hlen2 hdeep2 h)
    have HZ := Lib.hid (fun h => node_zero hu hlen2 hdeep2 h)
    have HP := Lib.hid (fun h => node_place hu hlen2 hdeep2 h)
    rw [HX.out] at HW HZ HP
    clear hu hxl hlen2 hdeep2 hdeep hlen
    go_upto_region 10 with (go_at_call 29; refine hdc.mono ?_; rintro e w1 ⟨rfl, h1⟩)
    have hT1 := hT.mono h1
    have hbT1 := Blk_below hbT h1 (Blk_lt hbT)
    have hbS1 := Blk_below hbS h1 (Blk_lt hbS)
    have hb1 := Below_same hb h1
    clear hT hbT hbS hb h1 hdc t0 t1 t2 su hul' hlen' hdeep'
    have s0 := St_cell (j := 0) (v := .int .u8 x.st.kind) hbS1 rfl
    have s2 := St_cell (j := 2) (v := .int .u8 x.st.float) hbS1 rfl
    have s3 := St_cell (j := 3) (v := .int .u8 x.st.clear) hbS1 rfl
    go_cut [8] (fun y wx => y = .bool (looseB x.st) ∧ w1 = wx)
    case first =>
      by_cases f0 : x.st.float = 0
      · by_cases f1 : x.st.clear = 0
        · have HL := Lib.hid (show looseB x.st = false by unfold looseB; simp [f0, f1])
          rw [f0] at s2
          rw [f1] at s3
          clear f0 f1
          go_wp2_with fail
          go_meet
          exact ⟨by rw [HL.out], rfl⟩
        · have HL := Lib.hid (show looseB x.st = true by unfold looseB; simp [f1])
          have f2 : (x.st.clear != 0) = true := by simpa using f1
          rw [f0] at s2
          clear f0 f1
          go_wp2_with fail
          go_meet
          exact ⟨by rw [HL.out], rfl⟩
      · have HL := Lib.hid (show looseB x.st = true by unfold looseB; simp [f0])
        have f2 : (x.st.float != 0) = true := by simpa using f0
        clear f0
        go_wp2_with fail
        go_meet
        exact ⟨by rw [HL.out], rfl⟩
    case rest =>
    obtain ⟨rfl, rfl⟩ := hcut
    have hrt := right_any x.st hst (Nat.le_trans hul.1 hul.2) w1
    obtain ⟨rg, hrg⟩ : ∃ r, rightB x.st = r := ⟨_, rfl⟩
    obtain ⟨lo, hlo⟩ : ∃ r, looseB x.st = r := ⟨_, rfl⟩
    rw [hrg] at hrt
    rw [hlo]
    have hwr : wrongB x.st i = (!rg || (decide (i = 0) && (!decide (x.st.kind = 1) || lo))) := by unfold wrongB; rw [hrg, hlo]
    have HWR := Lib.hid hwr
    have HLO := Lib.hid hlo
    clear hrg hlo hwr
    go_upto_region 11 with fail
    go_cut [82] (fun y wx => y = .bool (wrongB x.st i) ∧ Below w1.heap.size w1 wx)
    case first =>
      cases rg
      · go_wp2_with (first | ((with_reducible refine at_op ⟨some 68, _, _, _, _, _⟩ ?_); refine wpList_load_mid rfl 40 (.tmp 6) rfl _ 0 rfl (scells x.st) _ (range_st hbS1) Try.underlying40 rfl info_st ?_) | go_at_call 30; refine hrt.mono ?_; rintro e w2 ⟨rfl, h1⟩)
        go_meet
        exact ⟨by rw [HWR.out]; rfl, h1⟩
      · by_cases h0 : i = 0
        · subst h0
          by_cases hk : x.st.kind = 1
          · rw [hk] at s0 HWR
            clear hk
            go_wp2_with (first | ((with_reducible refine at_op ⟨some 68, _, _, _, _, _⟩ ?_); refine wpList_load_mid rfl 40 (.tmp 6) rfl _ 0 rfl (scells x.st) _ (range_st hbS1) Try.underlying40 rfl info_st ?_) | go_at_call 30; refine hrt.mono ?_; rintro e w2 ⟨rfl, h1⟩; have s1 := (h1.cell (cell_lt s0)).trans s0)
            go_meet
            exact ⟨by rw [HWR.out]; cases lo <;> rfl, h1⟩
          · have hk1 : (x.st.kind != 1) = true := by simpa using hk
            have HK := Lib.hid (show decide (x.st.kind = 1) = false from decide_eq_false hk)
            clear hk
            go_wp2_with (first | ((with_reducible refine at_op ⟨some 68, _, _, _, _, _⟩ ?_); refine wpList_load_mid rfl 40 (.tmp 6) rfl _ 0 rfl (scells x.st) _ (range_st hbS1) Try.underlying40 rfl info_st ?_) | go_at_call 30; refine hrt.mono ?_; rintro e w2 ⟨rfl, h1⟩; have s1 := (h1.cell (cell_lt s0)).trans s0)
            go_meet
            exact ⟨by rw [HWR.out, HK.out]; cases lo <;> rfl, h1⟩
        · have h0' : ((i : Int) == 0) = false := by simpa using h0
          have HI := Lib.hid (show decide (i = 0) = false from decide_eq_false h0)
          clear h0
          go_wp2_with (first | ((with_reducible refine at_op ⟨some 68, _, _, _, _, _⟩ ?_); refine wpList_load_mid rfl 40 (.tmp 6) rfl _ 0 rfl (scells x.st) _ (range_st hbS1) Try.underlying40 rfl info_st ?_) | go_at_call 30; refine hrt.mono ?_; rintro e w2 ⟨rfl, h1⟩)
          go_meet
          exact ⟨by rw [HWR.out, HI.out]; rfl, h1⟩
    case rest =>
    obtain ⟨rfl, h2⟩ := hcut
    have hT2 := hT1.mono h2
    have hbT2 := Blk_below hbT1 h2 (Blk_lt hbT1)
    have hbS2 := Blk_below hbS1 h2 (Blk_lt hbS1)
    have hb2 := Below_same hb1 h2
    clear hT1 hbT1 hbS1 hb1 h2 hrt HWR s0 s2 s3
    cases hw : wrongB x.st i
    rotate_left
    · have HN := Lib.hid (HW.out hw)
      clear hw
      go_wp2_with fail
      go_ret
      exact ⟨by rw [HN.out]; rfl, hb2⟩
    by_cases h0 : i = 0
    · have HN := Lib.hid (HZ.out hw h0)
      subst h0
      clear hw
      go_wp2_with fail
      go_ret
      exact ⟨by rw [HN.out]; rfl, hb2⟩
    have hlt := under_lt h0 HU.out
    rw [HPO.out] at hlt
    have HN := Lib.hid (HP.out hw h0)
    have h0' : ((i : Int) == 0) = false := by simpa using h0
    obtain ⟨p, hp⟩ : ∃ p : Nat, x.parent = (p : Int) := ⟨x.parent.toNat, by omega⟩
    have HPP := Lib.hid (show (parOf L i).toNat = p by rw [HPO.out, hp]; omega)
    have hpi : p < i := by omega
    rw [hp]
    clear hw h0 hlt hp HW HZ HP
    have t0 := Blk_cell hbT2 0
    have t1 := Blk_cell hbT2 1
    have t2 := Blk_cell hbT2 2
    have s0 := St_cell (j := 0) (v := .int .u8 x.st.kind) hbS2 rfl
    obtain ⟨b', off', hbo, hB2, hc2⟩ := hT2.at_ (by omega)
    simp only [Option.some.injEq, Addr.mk.injEq, and_true] at hbo
    obtain ⟨rfl, rfl⟩ := hbo
    have ck : _ = some (Value.int .u8 (kindOf L p)) := hc2 p (by omega) 1 (by omega)
    rw [← Nat.add_assoc] at ck
    have HCK := Lib.hid (fun (q : Nat) (hq : q < n) => (show _ = some (Value.int .u8 (kindOf L q)) from (hc2 q hq 1 (by omega))))
    have hki : kindOf L i = x.st.kind := by show (L.getD i nd0).st.kind = _; rw [HX.out]
    have HKI := Lib.hid hki
    clear hc2 hki
    obtain ⟨kp, hkp⟩ : ∃ q, kindOf L p = q := ⟨_, rfl⟩
    rw [hkp] at ck
    have HKP := Lib.hid hkp
    clear hkp
    by_cases k3 : kp = 3
    · have HE := Lib.hid (place_text HPP.out (HKP.out.trans k3))
      rw [k3] at ck
      clear k3
      go_wp2_with fail
      go_ret
      exact ⟨by rw [HN.out, HE.out]; rfl, hb2⟩
    by_cases k2 : kp = 2
    · have HE := Lib.hid (place_flex HPP.out (HKP.out.trans k2))
      rw [k2] at ck
      clear k2 k3
      by_cases k3 : x.st.kind = 3
      · have HK := Lib.hid k3
        rw [k3] at s0
        clear k3
        go_wp2_with fail
        go_ret
        exact ⟨by rw [HN.out, HE.out, HKI.out, HK.out]; rfl, hb2⟩
      · have HK := Lib.hid k3
        have k3' : (x.st.kind == 3) = false := by simpa using k3
        have HLX := Lib.hid (show looseB (L.getD i nd0).st = lo by rw [HX.out, HLO.out])
        clear k3
        cases lo
        all_goals
          go_wp2_with fail
          go_ret
          exact ⟨by rw [HN.out, HE.out, HKI.out, HLX.out, decide_eq_false HK.out]; rfl, hb2⟩
    have k3' : (kp == 3) = false := by simpa using k3
    have k2' : (kp == 2) = false := by simpa using k2
    have hfc := first_any (c := c) (d := d) (v := v) p i _ hT2 hi hpi hn
    cases hf : firstK L p (p + 1) i with
    | none =>
      rw [hf, show optI none = -1 from rfl] at hfc
      have HE := Lib.hid (place_none HPP.out (by rw [HKP.out]; exact k3) (by rw [HKP.out]; exact k2) hf)
      clear hf k2 k3
      go_wp2_with (go_at_call 31; refine hfc.mono ?_; rintro e w3 ⟨rfl, h3⟩)
      refine wp_region_up (by kernel_rfl) (by kernel_rfl) ?_
      repeat (go_big_quiet_step (fail))
      refine wpQuiet_nil ?_
      intro w' hup
      go_wp2_with fail
      go_ret
      exact ⟨by rw [HN.out, HE.out]; rfl, by have := Below_same (Below_same hb2 h3) hup; (repeat' (first | (with_reducible exact Below.refl _ _) | (with_reducible assumption) | (with_reducible refine Below.alloc ?_ ?_ _) | (with_reducible refine Below.drew ?_) | (with_reducible refine Below_drewN ?_ _) | (with_reducible refine Below.setCell ?_ ?_ _) | go_size))⟩
    | some k =>
      rw [hf, show optI (some k) = (k : Int) from rfl] at hfc
      have hE := place_some HPP.out (by rw [HKP.out]; exact k3) (by rw [HKP.out]; exact k2) hf
      rw [HKI.out] at hE
      have hkl := firstK_some hf
      have hkn : k < n := by omega
      have cq := HCK.out k hkn
      rw [← Nat.add_assoc] at cq
      obtain ⟨kk, hkk⟩ : ∃ q, kindOf L k = q := ⟨_, rfl⟩
      rw [hkk] at cq hE
      have HE := Lib.hid hE
      clear hf k2 k3 hE hkk hkl
      have e1 : decide (kk = 3) = (kk == 3) := rfl
      have e2 : decide (x.st.kind = 3) = (x.st.kind == 3) := rfl
      rw [e1, e2] at HE
      cases g1 : (kk == 3)
      all_goals
        cases g2 : (x.st.kind == 3)
        all_goals
          have HG := Lib.hid g1
          have HG2 := Lib.hid g2
          go_wp2_with (go_at_call 31; refine hfc.mono ?_; rintro e w3 ⟨rfl, h3⟩)
          have r0 := fun y : Up w3 => up_cell y ((h3.cell (cell_lt t0)).trans t0)
          have r1 := fun y : Up w3 => up_cell y ((h3.cell (cell_lt cq)).trans cq)
          have r2 := fun y : Up w3 => up_cell y ((h3.cell (cell_lt s0)).trans s0)
          refine wp_region_up (by kernel_rfl) (by kernel_rfl) ?_
          repeat (go_big_quiet_step (fail))
          refine wpQuiet_nil ?_
          intro w' hup
          go_wp2_with fail
          go_ret
          exact ⟨by rw [HN.out, HE.out, HG.out, HG2.out]; rfl, by have := Below_same (Below_same hb2 h3) hup; (repeat' (first | (with_reducible exact Below.refl _ _) | (with_reducible assumption) | (with_reducible refine Below.alloc ?_ ?_ _) | (with_reducible refine Below.drew ?_) | (with_reducible refine Below_drewN ?_ _) | (with_reducible refine Below.setCell ?_ ?_ _) | go_size))⟩
end
end Go.Proofs.Ytlfjbkmdehpahaa
