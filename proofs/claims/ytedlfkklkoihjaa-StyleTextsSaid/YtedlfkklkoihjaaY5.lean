/-
  StyleRights: whether any style may be. No condition.
-/
import Derived.Test.YtedlfkklkoihjaaY3
import Derived.Test.YtedlfkklkoihjaaTW6
set_option linter.unusedVariables false
set_option linter.unusedSimpArgs false
namespace Go.Proofs.Ytedlfkklkoihjaa
open Go.RowKit Go.BigFrame

section
variable {P : Program} {a : Act} {w : World}
theorem at_q {C : World → Prop} {K : Act → Prop} (o : Oper) (h : o.quiet P a C K) : o.quiet P a C K := h
theorem one_st (s : St) : (scells s).toArray.all (·.oneCell') = true := by simp [scells, Value.oneCell']
theorem wpList_store_new {ops : Array Oper} {rest : List Oper} {op : Oper} {Q : Exit → Act → World → Prop} (hgd : op.guard = none) (ty : TypeId) (x y : Operand) (ho : op.op = .store ty x y)
    {t : TypeId} (g : Nat) (hg : w.heap.size = g) (c c' : Array Value) (hx : a.eval x = .pointer (some ⟨g, 0, none⟩)) (hy : a.eval y = .agg c') (hi : (P.info? ty).map (·.size) = some c'.size) (hold : c.size = c'.size) (h1 : c'.all (·.oneCell') = true)
    (h : wpList P ops Q rest (a.put op.dst undef) (w.alloc (.cells c' t))) : wpList P ops Q (op :: rest) a (w.alloc (.cells c t)) := by
  subst hg
  refine wpList_store_row hgd ty x y ho w.heap.size c' hx hy t c (heap_alloc_last w _) hi hold h1 ?_
  rw [World.setRow_alloc_new]
  exact h
theorem quiet_load_row {C : World → Prop} {o : Oper} {K : Act → Prop} (ty : TypeId) (x : Operand) (ho : o.op = .load ty x) (b off : Nat) (hx : a.eval x = .pointer (some ⟨b, off, none⟩)) (cs : List Value) (d : TypeDesc)
    (hc : ∀ w, C w → w.rangeAt b off cs) (hu : P.underlying ty = some d) (hd : d.isRow = true) (hi : (P.info? ty).map (·.size) = some cs.length) (hk : K (a.put o.dst (.agg cs.toArray))) : o.quiet P a C K :=
  ⟨_, fun w hw => by
    unfold Oper.quietAt execOp
    simp only [ho, hx, Instr.loadAt, Instr.sureAddr, Sem.run_bind, Sem.run_pure, Result.andThen_ok, run_loadVar_mid w b off ty cs d (hc w hw) hu hd hi]
    exact ⟨rfl, rfl⟩, hk⟩
end
theorem up_range {w0 : World} {g : Nat} {t : TypeId} {s : St} (h : Blk w0 g t (scells s).toArray) : ∀ w, (∃ x : Up w0, w = x.w) → w.rangeAt g 0 (scells s) := fun _ ⟨x, e⟩ => e ▸ range_st (Blk_below h x.ok (Blk_lt h))
theorem iU : (Try.prog.info? 36).map (fun i => (i.zero, i.size, i.bytes)) = some (some (.int .u16 0), 1, 2) := by kernel_rfl
theorem vast_any (s : St) (w : World) : Calls Try.prog 8 #[.agg (scells s).toArray] w fun e w' => e = .returned (.bool (decide (131072 < s.units.length))) ∧ Below w.heap.size w w' := by
  have hbk := Blk_new w 28 (scells s).toArray
  have cu := St_cell (j := 42) (v := .slice s.uA s.units.length s.uc) hbk rfl
  have HE := Lib.hid (show decide (131072 < s.units.length) = decide ((131072 : Int) < (s.units.length : Int)) from decide_eq_decide.2 (by omega))
  go_enter Try.func8, Try.ntmps8
  go_wp2_with fail
  go_ret
  exact ⟨bool_eq HE.out.symm, by (repeat' (first | (with_reducible exact Below.refl _ _) | (with_reducible assumption) | (with_reducible refine Below.alloc ?_ ?_ _) | (with_reducible refine Below.drew ?_) | (with_reducible refine Below_drewN ?_ _) | (with_reducible refine Below.setCell ?_ ?_ _) | go_size))⟩
theorem St.Wf.moved {s : St} (h : s.Wf) (A : Option Addr) (c : Nat) : (s.moved A c).Wf := ⟨h.w0, h.w1, h.w2, h.w3, h.w4, h.w5, h.w6, h.w7, h.w8, h.w9, h.w10, h.w11, h.w12, h.w13, h.w14, h.w15, h.w16, h.w17, h.w18, h.w19, h.w20, h.w21, h.w22, h.w23, h.w24, h.w25, h.w26, h.w27, h.w28, h.w29, h.w30, h.w31, h.w32, h.w33, h.w34, h.w35, h.w36, h.w37, h.w38, h.w39⟩
set_option maxRecDepth 20000 in
set_option maxHeartbeats 8000000 in
theorem srights_any (s : St) (hw : s.Wf) (hul : s.units.length ≤ maxLen) (w : World) (hI : Ints .u16 w s.uA s.units.length s.units) :
    Calls Try.prog 3 #[.agg (scells s).toArray] w fun e w' => e = .returned (.bool true) ∧ Below w.heap.size w w' := by
  obtain ⟨i0, hi0, hz0, hz1, hz2⟩ := info_parts iU
  have hX := Blk_new w 28 (scells s).toArray
  have hb0 : Below w.heap.size w (w.alloc (.cells (scells s).toArray 28)) := by (repeat' (first | (with_reducible exact Below.refl _ _) | (with_reducible assumption) | (with_reducible refine Below.alloc ?_ ?_ _) | (with_reducible refine Below.drew ?_) | (with_reducible refine Below_drewN ?_ _) | (with_reducible refine Below.setCell ?_ ?_ _) | go_size))
  have hv := vast_any s
  have hkw := works_any
  have hul' := hul
  unfold maxLen at hul'
  by_cases hbig : 131072 < s.units.length
  · rw [decide_eq_true hbig] at hv
    go_enter Try.func3, Try.ntmps3
    go_wp2_with (first | ((with_reducible refine at_op ⟨some 4, .load 28 (.tmp 1), _, _, _, _⟩ ?_); refine wpList_load_mid rfl 28 (.tmp 1) rfl _ 0 rfl (scells s) _ (range_st hX) Try.underlying28 rfl info_st ?_) | ((go_at_call 8; (with_reducible refine (hv _).mono ?_)); rintro e w' ⟨rfl, h⟩) | ((go_at_call 9; (with_reducible refine (hkw _).mono ?_)); rintro e w2 ⟨rfl, h2⟩))
    go_ret
    exact ⟨rfl, Below_then hb0 (Below_same h h2) (Nat.le_refl _)⟩
  · rw [decide_eq_false hbig] at hv
    go_enter Try.func3, Try.ntmps3
    go_upto_region 3 with (first | ((with_reducible refine at_op ⟨some 4, .load 28 (.tmp 1), _, _, _, _⟩ ?_); refine wpList_load_mid rfl 28 (.tmp 1) rfl _ 0 rfl (scells s) _ (range_st hX) Try.underlying28 rfl info_st ?_) | ((go_at_call 8; (with_reducible refine (hv _).mono ?_)); rintro e w' ⟨rfl, h⟩))
    have hX := Blk_below hX h (Blk_lt hX)
    have hb := Below_then hb0 h (Nat.le_refl _)
    clear hv h hb0
    go_upto_region 4 with (first | ((with_reducible refine at_op ⟨some 7, .load 28 (.tmp 1), _, _, _, _⟩ ?_); refine wpList_load_mid rfl 28 (.tmp 1) rfl _ 0 rfl (scells s) _ (range_st hX) Try.underlying28 rfl info_st ?_) | ((with_reducible refine at_op ⟨none, .store 28 (.tmp 3) (.tmp 7), _, _, _, _⟩ ?_); refine wpList_store_new rfl 28 (.tmp 3) (.tmp 7) rfl _ ?_ _ (scells s).toArray rfl rfl info_st rfl (one_st s) ?_; · (simp; done)))
    have hO := Blk_new w' 28 (scells s).toArray
    have hX0 := hX
    have hX := Blk_alloc hX (.cells (scells s).toArray 28)
    have hwl := Blk_lt hX0
    have hb := hb.alloc hb.size (.cells (scells s).toArray 28)
    obtain ⟨gO, hgO⟩ : ∃ g, w'.heap.size = g := ⟨_, rfl⟩
    rw [hgO] at hwl
    simp only [hgO] at hO ⊢
    generalize hw3 : w'.alloc (.cells (scells s).toArray 28) = w3 at *
    clear hw3
    have cu := St_cell (j := 42) (v := .slice s.uA s.units.length s.uc) hX rfl
    have co := St_cell (j := 42) (v := .slice s.uA s.units.length s.uc) hO rfl
    have hs3 := hb.size
    have hgw : w.heap.size ≤ gO := by omega
    have hne : gO ≠ w.heap.size := by omega
    have l1 := Blk_lt hX
    have l2 := Blk_lt hO
    have hI3 := hI.mono hb
    have hpos : 0 < 1 := by omega
    go_upto_region 5 with ((with_reducible refine at_op ⟨some 11, _, _, _, _, _⟩ ?_); (refine wpList_append_src _ rfl (.tmp 8) (.tmp 10) 26 rfl w3.heap.size 36 i0 _ 1 2 Try.underlying26 hi0 hz0 hz1 hz2 rfl hpos (.slice (some ⟨w3.heap.size, 0, none⟩) 0 0) 0 [] rfl (World.ownsRow_lit w3 #[] 0 (Nat.le_refl _) (by simp) rfl) s.uA s.units.length s.uc (s.units.map (Value.int .u16)) rfl (by rw [Nat.mul_one]; exact (hI3.mono (by (repeat' (first | (with_reducible exact Below.refl _ _) | (with_reducible assumption) | (with_reducible refine Below.alloc ?_ ?_ _) | (with_reducible refine Below.drew ?_) | (with_reducible refine Below_drewN ?_ _) | (with_reducible refine Below.setCell ?_ ?_ _) | go_size)))).src) (one_ints _ _) (by simp only [maxLen]; omega) (by omega) (by simp) ?_); intro v4 w4 hown4 hg4 hat4; simp only [Nat.zero_add, List.nil_append] at hown4; have hb4 : Below w3.heap.size w3 w4 := Below.grown (w := w3.alloc (.cells #[] 36)) (by (repeat' (first | (with_reducible exact Below.refl _ _) | (with_reducible assumption) | (with_reducible refine Below.alloc ?_ ?_ _) | (with_reducible refine Below.drew ?_) | (with_reducible refine Below_drewN ?_ _) | (with_reducible refine Below.setCell ?_ ?_ _) | go_size))) hg4 (by simp) (fun k hk => by simp [Value.ownBlock] at hk; omega); have hO4 := Blk_below hO hb4 (Blk_lt hO); have fO := Blk_frozen hO4 42; have co4 := St_cell (j := 42) (v := .slice s.uA s.units.length s.uc) hO4 rfl; obtain ⟨E4, e4, rfl, _, _⟩ := own_slice hown4)
    have hO5 : Blk (w4.setCell ⟨gO, 42, none⟩ (.slice E4 s.units.length e4)) gO 28 (scells (s.moved E4 e4)).toArray := Blk_upd hO4 42 _ (by simp [scells])
    have hX4 := Blk_below hX hb4 (Blk_lt hX)
    have hX5 : Blk (w4.setCell ⟨gO, 42, none⟩ (.slice E4 s.units.length e4)) w.heap.size 28 (scells s).toArray := Blk_far hX4 hne.symm _
    have hJ5 := Ints_of_own (own_far (p := ⟨gO, 42, none⟩) hown4 (own_blk_ne hown4 hO4 (by decide)) (.slice E4 s.units.length e4))
    have hb5 : Below w.heap.size w (w4.setCell ⟨gO, 42, none⟩ (.slice E4 s.units.length e4)) := (Below_then hb hb4 (Nat.le_refl _)).setCell hgw _
    have hI5 := hI.mono hb5
    generalize hw5 : w4.setCell ⟨gO, 42, none⟩ (.slice E4 s.units.length e4) = w5 at *
    clear hw5 hown4 hg4 hat4 fO co4 hO4 hX4 hO hX cu co hI3 hb4
    have r1 := fun w => sright_any (s.moved E4 e4) (hw.moved E4 e4) hul w
    rw [show rightB (s.moved E4 e4) = rightB s from rfl] at r1
    have r2 := fun w => right_any s hw hul w
    generalize rightB s = B at *
    refine wp_region_up (by kernel_rfl) (by kernel_rfl) ?_
    repeat (first
      | go_big_quiet_skip
      | (go_big_quiet_want; first | ((first | ((with_reducible refine at_q ⟨some 13, .load 28 (.tmp 3), _, _, _, _⟩ ?_); refine quiet_load_row 28 (.tmp 3) rfl gO 0 rfl (scells (s.moved E4 e4)) _ (up_range hO5) Try.underlying28 rfl info_st ?_) | ((with_reducible refine at_q ⟨some 15, .load 28 (.tmp 1), _, _, _, _⟩ ?_); refine quiet_load_row 28 (.tmp 1) rfl w.heap.size 0 rfl (scells s) _ (up_range hX5) Try.underlying28 rfl info_st ?_) | ((with_reducible refine at_q ⟨some 19, .load 28 (.tmp 3), _, _, _, _⟩ ?_); refine quiet_load_row 28 (.tmp 3) rfl gO 0 rfl (scells (s.moved E4 e4)) _ (up_range hO5) Try.underlying28 rfl info_st ?_) | ((with_reducible refine at_q ⟨some 20, .load 28 (.tmp 1), _, _, _, _⟩ ?_); refine quiet_load_row 28 (.tmp 1) rfl w.heap.size 0 rfl (scells s) _ (up_range hX5) Try.underlying28 rfl info_st ?_)); (try simp only [Act.put, List.setIfInBounds_toArray, List.set_cons_zero, List.set_cons_succ]); go_big_quiet_on) | (go_big_quiet_op; first | go_big_quiet_on | go_big_quiet_call ((first | (go_at_call 10; (with_reducible refine up_call (r1 _))) | (go_at_call 11; (with_reducible refine up_call (r2 _))) | (go_at_call 12; (with_reducible refine up_call ((rsame_any s E4 e4 _ (hI5.up _) (hJ5.up _) hul)))) | (go_at_call 9; (with_reducible refine up_call (hkw _))))))))
    refine wpQuiet_nil ?_
    intro w' hup
    go_wp2_with fail
    go_ret
    exact ⟨rfl, Below_then hb5 hup (Nat.le_refl _)⟩
theorem style_of {w : World} {cs : Array Value} {a} (h : E28 w (Value.agg cs).cells.toList a) : ∃ s : St, Value.agg cs = .agg (scells s).toArray ∧ s.Wf ∧ s.units.length ≤ maxLen ∧ Ints .u16 w s.uA s.units.length s.units := by
  obtain ⟨s, h1, h2, h3⟩ := st_of h
  refine ⟨s, ?_, h2, Nat.le_trans h3.le h3.le_max, h3.ints⟩
  simp only [Value.cells] at h1
  congr 1
  exact Array.toList_inj.1 h1
theorem srights_walk (w : World) {cs : Array Value} {a} (h0 : E28 w (Value.agg cs).cells.toList a) :
    Calls Try.prog 3 #[.agg cs] w fun e w' => e = .returned (.bool true) ∧ Below w.heap.size w w' := by
  obtain ⟨s, e, h1, h2, h3⟩ := style_of h0
  rw [e]
  exact srights_any s h1 h2 w h3
end Go.Proofs.Ytedlfkklkoihjaa
