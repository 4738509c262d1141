/-
  The product of numbers of any size (jambref01.Mul). No condition.
-/
import Derived.Test.YtedlfkklkoihjaaR
import Derived.Deep.RegionLaw
set_option linter.unusedVariables false
set_option linter.unusedSimpArgs false
namespace Go.Proofs.Ytedlfkklkoihjaa
open Go.RowKit Go.BigFrame

section
variable {P : Program} (w : World)
theorem step_append_src {ops : Array Oper} {o : Oper} {a : Act} {K : Act → World → Prop} {Q : Exit → Act → World → Prop} {E : Prop} (hgd : o.guard = none) (s x : Operand) (t : TypeId)
    (ho : o.op = .call { callee := .builtin .append, args := #[s, x], argTypes := #[t, t] })
    (base : Nat) (e : TypeId) (i : TypeInfo) (z : Value) (size bytes : Nat) (ht : P.underlying t = some (.slice e)) (hi : P.info? e = some i) (hz : i.zero = some z)
    (hsize : i.size = size) (hby : i.bytes = bytes) (hzs : z.cells.size = size) (hsz : 0 < size) (v : Value) (n : Nat) (xs : List Value) (hs : a.eval s = v) (hown : w.ownsRow base e size v n xs)
    (A : Option Addr) (m c : Nat) (news : List Value) (hx : a.eval x = .slice A m c) (hr : Src w A (m * size) news) (h1 : ∀ u ∈ news, u.oneCell' = true)
    (h63 : n + m ≤ maxLen) (hbytes : (n + m) * bytes ≤ 140737488355328) (hbase : base ≤ w.heap.size) (hty : o.type = t)
    (h : ∀ v' w', w'.ownsRow base e size v' (n + m) (xs ++ news) → w.grownBy w' v.ownBlock → (v'.ownBlock = v.ownBlock ∨ v'.ownBlock = some w.heap.size) → K (a.put o.dst v') w') :
    if Region.wanted o (yielded ops a.tmps) = true then Oper.wp P o a w K Q else E := by
  have hw : Region.wanted o (yielded ops a.tmps) = true := by simp [Region.wanted, hgd]
  rw [if_pos hw]
  obtain ⟨v', w', hrun, h2, h3, h4⟩ := run_append_src (P := P) w base t o.type e i z size bytes ht hi hz hsize hby hzs hsz v n xs hown A m c news hr h1 h63 hbytes hbase
  unfold Oper.wp execOp
  simp only [ho, resolve, invoke, builtin, Sem.run_bind, Sem.run_pure, Result.andThen_ok, List.map_toArray, List.map_cons, List.map_nil, hs, hx, hrun]
  exact h v' w' h2 h3 h4
end
theorem made_own (w : World) (k : Nat) (hk : k ≤ maxLen) : (w.alloc (.cells (Array.replicate k (.bool false)) 4)).drew.ownsRow w.heap.size 4 1 (.slice (some ⟨w.heap.size, 0, none⟩) k k) k (List.replicate k (.bool false)) := by
  have h := World.ownsRow_lit (base := w.heap.size) (e := 4) (size := 1) w (Array.replicate k (.bool false)) k (Nat.le_refl _) hk (by simp)
  rw [Array.toList_replicate] at h
  exact h
theorem mul_step (a b : List Bool) (k : Nat) (h : k < a.length) : bval (a.take (k + 1)) * bval b = bval (a.take k) * bval b + (if a.getD k false then 2 ^ k * bval b else 0) := by
  rw [bval_take a k h, Nat.add_mul]
  cases a.getD k false <;> simp [bit]
theorem sgn_mul (s t : Bool) (x y : Nat) : sgn (s != t) (x * y) = sgn s x * sgn t y := by
  cases s <;> cases t <;> simp [sgn, Int.neg_mul, Int.mul_neg]
set_option maxRecDepth 20000 in
set_option maxHeartbeats 4000000 in
theorem mul_any (w : World) {va vb : Value} {za zb : Int} {Ka Kb : Nat} (ha : BV w va za Ka) (hb : BV w vb zb Kb) (hKa : Ka ≤ 20000) (hKb : Kb ≤ 20000) :
    Calls Try.prog 47 #[va, vb] w fun e w' => ∃ v, e = .returned v ∧ BV w' v (za * zb) (Ka + Ka + Kb) ∧ Below w.heap.size w w' := by
  obtain ⟨la, sva, rfl, ⟨A, c, rfl, ha1, ha2, hA⟩, ha4, ha5⟩ := ha
  obtain ⟨lb, svb, rfl, ⟨D, d, rfl, hb1, hb2, hB⟩, hb4, hb5⟩ := hb
  obtain ⟨n, hn⟩ : ∃ n, la.length = n := ⟨_, rfl⟩
  obtain ⟨m, hm⟩ : ∃ n, lb.length = n := ⟨_, rfl⟩
  rw [hn] at ha1 hA ha5 ⊢
  rw [hm] at hb1 hB hb5 ⊢
  obtain ⟨sa, hsa⟩ : ∃ s, decide (za < 0) = s := ⟨_, rfl⟩
  obtain ⟨sb, hsb⟩ : ∃ s, decide (zb < 0) = s := ⟨_, rfl⟩
  rw [hsa, hsb]
  have q1 := sg_eq hsa
  have q2 := sg_eq hsb
  rw [← ha4] at q1
  rw [← hb4] at q2
  have HS := Lib.hid (And.intro q1 q2)
  have HN := Lib.hid (And.intro hn hm)
  clear q1 q2 ha4 hb4 hsa hsb hn hm
  obtain ⟨i0, hi0, hz0, hz1, hz2⟩ := info_parts iB
  go_enter Try.func47, Try.ntmps47
  go_wp2_with fail
  go_loopw [6, 8, 9, 10, 11, 12, 13, 14, 15, 16, 17, 18, 19, 20, 21, 22, 23, 24, 25, 26, 27, 28] (fun i _ _ _ _ _ _ _ _ _ _ _ _ _ _ _ _ _ _ _ _ _ wr => ∃ (k o g : Nat) (G : Option Addr) (l' : List Bool), k ≤ n ∧ i = .int .i64 k ∧ Below w.heap.size w wr ∧ w.heap.size + 3 < wr.heap.size ∧ Blk wr w.heap.size 56 #[.bool sa, .slice A n c] ∧ Blk wr (w.heap.size + 1) 56 #[.bool sb, .slice D m d] ∧ Blk wr (w.heap.size + 1 + 1) 56 #[.bool false, .slice none 0 0] ∧ Blk wr (w.heap.size + 1 + 1 + 1) 56 #[.bool false, .slice G o g] ∧ BS wr (.slice G o g) l' ∧ l'.length = o ∧ bval l' = bval (la.take k) * bval lb ∧ o ≤ 2 * k + m) (fun i _ _ _ _ _ _ _ _ _ _ _ _ _ _ _ _ _ _ _ _ _ _ => n - (intOf i).toNat)
  case atStart =>
    refine ⟨0, 0, 0, none, [], Nat.zero_le _, rfl, by (repeat' (first | (with_reducible exact Below.refl _ _) | (with_reducible assumption) | (with_reducible refine Below.alloc ?_ ?_ _) | (with_reducible refine Below.drew ?_) | (with_reducible refine Below_drewN ?_ _) | (with_reducible refine Below.setCell ?_ ?_ _) | go_size)), by simp, ?_, ?_, ?_, ?_, BS_nil _, rfl, by simp [bval], by omega⟩
    · exact Blk_alloc (Blk_alloc (Blk_alloc (Blk_new w _ _) _) _) _
    · exact Blk_alloc (Blk_alloc (by simpa using Blk_new (w.alloc (.cells #[.bool sa, .slice A n c] 56)) 56 #[.bool sb, .slice D m d]) _) _
    · exact Blk_alloc (by simpa using Blk_new ((w.alloc (.cells #[.bool sa, .slice A n c] 56)).alloc (.cells #[.bool sb, .slice D m d] 56)) 56 #[.bool false, .slice none 0 0]) _
    · simpa using Blk_new (((w.alloc (.cells #[.bool sa, .slice A n c] 56)).alloc (.cells #[.bool sb, .slice D m d] 56)).alloc (.cells #[.bool false, .slice none 0 0] 56)) 56 #[.bool false, .slice none 0 0]
  case round =>
    obtain ⟨k, o, g, G, l', hk, rfl, hbr, hsz, hX, hY, hR, hP, hBS, hlo, hval, hol⟩ := hrel
    have x1 := Blk_cell hX 1
    have y1 := Blk_cell hY 1
    have p1 := Blk_cell hP 1
    by_cases hlt : k < n
    · obtain ⟨b, off, hAe, hBb, hc⟩ := hA.at_ (by omega)
      have cx : wr.cell? ⟨b, off + k, none⟩ = some (.bool (la.getD k false)) := (hbr.cell hBb).trans (hc k hlt)
      have hst := mul_step la lb k (by rw [HN.out.1]; exact hlt)
      subst hAe
      generalize la.getD k false = bt at *
      cases bt
      · have HST := Lib.hid hst
        have HV := Lib.hid hval
        clear hst hc hval
        go_wp2_with fail
        go_roundw
        case rel => exact ⟨k + 1, o, g, G, l', by omega, by go_num, hbr, hsz, hX, hY, hR, hP, hBS, hlo, by rw [HV.out, HST.out]; simp, by omega⟩
        case measure => simp [intOf]; omega
      · have HST := Lib.hid hst
        have HV := Lib.hid hval
        have hmk := run_make_blk (P := Try.prog) Try.underlying54 hi0 hz0 (x := .bool false) rfl hz1 .i64 .i64 k (by rw [hz2]; omega) (by unfold maxLen; omega)
        have hBB := hB.mono hbr
        obtain ⟨_, _, hBe, hog, hgm, hBl⟩ := hBS
        rw [hlo] at hBe hog hBl
        injection hBe with e1 e2 e3
        subst e1; subst e3
        have HBL := Lib.hid hBl
        have HLO := Lib.hid hlo
        clear hst hc hval hBl hlo e2
        have hbz : m ≤ 20000 := by omega
        have y1a := fun o => Blk_cell (Blk_alloc hY o) 1
        have p1a := fun o => Blk_cell (Blk_alloc hP o) 1
        go_wp2_with fail
        go_region_law (first
          | ((refine step_append_src _ rfl (.tmp 23) (.tmp 25) 54 rfl wr.heap.size 4 i0 _ 1 1 Try.underlying54 hi0 hz0 hz1 hz2 rfl (by omega) (.slice (some ⟨wr.heap.size, 0, none⟩) k k) k (List.replicate k (.bool false)) rfl (made_own wr k (by unfold maxLen; omega)) D m d (lb.map Value.bool) rfl (by rw [Nat.mul_one]; exact (hBB.mono ((Below.refl _ wr).alloc (Nat.le_refl _) _).drew).src) (one_bools _) (by simp only [maxLen]; omega) (by omega) (by simp) rfl ?_); intro v5 w5 hown5 hg5 hat5; have hb5 : Below wr.heap.size wr w5 := ((Below.refl _ wr).alloc (Nat.le_refl _) (.cells (Array.replicate k (.bool false)) 4)).drew.grown hg5 (by simp) (fun q hq => by simp [Value.ownBlock] at hq; omega); have hP5 := Blk_below hP hb5 (by omega); have hY5 := Blk_below hY hb5 (by omega); have p15 := Blk_cell hP5 1; have y15 := Blk_cell hY5 1; obtain ⟨E5, e5, rfl, _, _⟩ := own_slice hown5)
          | (go_simp; go_at_call 55; (with_reducible refine (rplus_any _ (HBL.out.mono hb5) (Bls_of_own (l := List.replicate k false ++ lb) (by simpa using hown5)) (by omega) (by omega)).mono ?_); rintro e w6 ⟨v6, out6, rfl, hBS6, hv6, hl6, h6⟩; have hP6 := Blk_below hP5 h6 (Blk_lt hP5); have f06 := Blk_frozen hP6 1; have p16 := Blk_cell hP6 1; have HO6 := Lib.hid (And.intro hv6 hl6); clear hv6 hl6; obtain ⟨G6, g6, rfl, hg6, hgm6, hBl6⟩ := hBS6; have HB6 := Lib.hid hBl6; clear hBl6))
        all_goals
          have hb6 := Below_same hb5 h6
          have hX6 := Blk_below hX hb6 (by omega)
          have hY6 := Blk_below hY hb6 (by omega)
          have hR6 := Blk_below hR hb6 (by omega)
          have hs6 := hb6.size
          clear y1a p1a hmk
          go_wp2_with fail
          go_roundw
          case rel =>
            have hv := HO6.out.1
            have hl6 := HO6.out.2
            rw [bval_shift, HV.out] at hv
            exact ⟨k + 1, _, g6, G6, out6, by omega, by go_num, (Below_then hbr hb6 (Nat.le_refl _)).setCell (by simp <;> omega) _, by simp <;> omega, Blk_far hX6 (by simp <;> omega) _, Blk_far hY6 (by simp <;> omega) _, Blk_far hR6 (by simp) _, Blk_upd hP6 1 _ rfl, ⟨G6, g6, rfl, hg6, hgm6, HB6.out.far hP6 (by decide) _ _⟩, rfl, by rw [HST.out, hv]; simp, by omega⟩
          case measure => simp [intOf]; omega
    · have hkn : k = n := by omega
      rw [List.take_of_length_le (by rw [HN.out.1]; omega)] at hval
      have hBS2 := hBS
      have HV := Lib.hid (And.intro hval hlo)
      have x0 := Blk_cell hX 0
      have y0 := Blk_cell hY 0
      have p0 := Blk_cell hP 0
      have f0 := Blk_frozen hP 0
      clear hval hlo
      subst hkn
      go_upto_region 8 with fail
      have e : (!(sa == sb)) = (sa != sb) := rfl
      rw [e]
      have hP2 := Blk_set hP 0 (.bool (sa != sb))
      have hR2 := Blk_far hR (p := ⟨w.heap.size + 1 + 1 + 1, 0, none⟩) (by simp) (.bool (sa != sb))
      have hBS3 := hBS.far hP (by decide) 0 (.bool (sa != sb))
      have hsh := short_any _ (sa != sb) hBS3 (by have := HV.out.2; omega)
      have hb2 : Below w.heap.size w (wr.setCell ⟨w.heap.size + 1 + 1 + 1, 0, none⟩ (.bool (sa != sb))) := hbr.setCell (by simp; omega) _
      have p02 := Blk_cell hP2 0
      have p12 := Blk_cell hP2 1
      simp at p02 p12
      generalize wr.setCell ⟨w.heap.size + 1 + 1 + 1, 0, none⟩ (.bool (sa != sb)) = w2 at *
      go_wp2_with ((go_at_call 52; (with_reducible refine (hsh).mono ?_)); rintro e w3 ⟨v3, rfl, hBV3, h3⟩; have hR3 := Blk_below hR2 h3 (Blk_lt hR2); have f0 := Blk_frozen hR3 0; have f1 := Blk_frozen hR3 1; have d0 := Blk_cell hR3 0; have d1 := Blk_cell hR3 1; obtain ⟨G3, m3, g3, l3, rfl, hBS4, hv3, hl3⟩ := hBV3.parts)
      have hz : sgn (sa != sb) (bval l') = za * zb := by
        obtain ⟨q1, q2⟩ := HS.out
        rw [HV.out.1, sgn_mul, ← q1, ← q2]
      rw [hz] at hv3 ⊢
      obtain ⟨sz, hsz2⟩ : ∃ s, decide (za * zb < 0) = s := ⟨_, rfl⟩
      rw [hsz2]
      have hBf := Blk_set (Blk_set hR3 0 (.bool sz)) 1 (.slice G3 m3 g3)
      have e0 := Blk_cell hBf 0
      have e1 := Blk_cell hBf 1
      refine bodyPost_ret (v := .agg #[.bool sz, .slice G3 m3 g3]) (by simp at e0 e1; simp [results, Try.results47, go_sem, e0, e1]) rfl ⟨_, rfl, ?_, ?_⟩
      · exact ⟨l3, _, by rw [hsz2], (hBS4.far hR3 (by decide) _ _).far (Blk_set hR3 0 _) (by decide) _ _, hv3, by have := HV.out.2; omega⟩
      · exact ((Below_then hb2 h3 (Nat.le_refl _)).setCell (by simp; omega) _).setCell (by simp; omega) _
end Go.Proofs.Ytedlfkklkoihjaa
