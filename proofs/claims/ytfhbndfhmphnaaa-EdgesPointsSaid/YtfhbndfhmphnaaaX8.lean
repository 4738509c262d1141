/-
  The statement EdgesTurns. No condition.
-/
import Derived.Test.YtfhbndfhmphnaaaX7
set_option linter.unusedVariables false
set_option linter.unusedSimpArgs false
namespace Go.Proofs.Ytfhbndfhmphnaaa
open Go.RowKit Go.BigFrame

theorem meetB_comm (a m b n : Int) (hm : 0 < m) (hn : 0 < n) : meetB a m b n = meetB b n a m := by
  unfold meetB
  by_cases h : a ≤ b
  · by_cases h2 : b ≤ a
    · rw [if_pos h, if_pos h2]; apply decide_eq_decide.2; omega
    · rw [if_pos h, if_neg h2]
  · rw [if_neg h, if_pos (by omega)]
theorem MeetB_comm (p q : Q4) : MeetB p q = MeetB q p := by
  unfold MeetB
  cases h1 : someB p
  · simp
  · cases h2 : someB q
    · simp
    · obtain ⟨a1, a2⟩ := someB_pos h1
      obtain ⟨b1, b2⟩ := someB_pos h2
      rw [meetB_comm p.a _ _ _ a1 b1, meetB_comm p.b _ _ _ a2 b2]
theorem MeetB_self (p : Q4) : MeetB p p = someB p := by
  unfold MeetB
  cases h1 : someB p
  · rfl
  · obtain ⟨a1, a2⟩ := someB_pos h1
    simp [meetB, a1, a2]
theorem InB_self (p : Q4) : InB p p = true := by
  unfold InB
  cases h1 : someB p
  · rfl
  · simp [insB]
theorem InB_Meet (p q : Q4) (h : InB p q = true) (hs : someB p = true) : MeetB p q = true := by
  unfold InB at h
  unfold MeetB
  rw [hs] at h ⊢
  cases h2 : someB q
  · rw [h2] at h; simp at h
  · rw [h2] at h
    obtain ⟨a1, a2⟩ := someB_pos hs
    simp [insB, meetB] at h ⊢
    obtain ⟨⟨h3, h4, h5⟩, h6, h7, h8⟩ := h
    refine ⟨?_, ?_⟩
    · by_cases e : p.a ≤ q.a
      · rw [if_pos e]; first | omega | (simp; omega)
      · rw [if_neg e]; first | omega | (simp; omega)
    · by_cases e : p.b ≤ q.b
      · rw [if_pos e]; first | omega | (simp; omega)
      · rw [if_neg e]; first | omega | (simp; omega)
theorem cutV_in (s : Int) : -1099511627776 ≤ cutV s ∧ cutV s ≤ 1099511627776 := by unfold cutV; omega
theorem cutB_no {s : Int} (h : cutB s = false) : cutV s = s := by
  unfold cutB at h
  simpa using (bne_eq_false_iff_eq.1 h).symm
theorem growV_ok (r s : Q4) : (growV r s).ok := by
  have h := fun s => cutV_in s
  exact ⟨by have := h (r.a - s.d); unfold growV; simp only []; omega, by have := h (r.b - s.a); unfold growV; simp only []; omega, by have := h (r.c + s.d + s.b); unfold growV; simp only []; omega, by have := h (r.d + s.a + s.c); unfold growV; simp only []; omega⟩
def neg4 (s : Q4) : Q4 := ⟨-s.a, -s.b, -s.c, -s.d⟩
theorem grow_back (r s : Q4) (h : growB r s = false) : growV (growV r s) (neg4 s) = growV r ⟨0, 0, 0, 0⟩ ∧ growB (growV r s) (neg4 s) = growB r ⟨0, 0, 0, 0⟩ := by
  unfold growB at h
  simp only [Bool.or_eq_false_iff] at h
  obtain ⟨⟨⟨h1, h2⟩, h3⟩, h4⟩ := h
  have e1 := cutB_no h1
  have e2 := cutB_no h2
  have e3 := cutB_no h3
  have e4 := cutB_no h4
  unfold growB growV neg4
  simp only [e1, e2, e3, e4]
  have q1 : r.a - s.d - -s.d = r.a - 0 := by omega
  have q2 : r.b - s.a - -s.a = r.b - 0 := by omega
  have q3 : r.c + s.d + s.b + -s.d + -s.b = r.c + 0 + 0 := by omega
  have q4 : r.d + s.a + s.c + -s.a + -s.c = r.d + 0 + 0 := by omega
  rw [q1, q2, q3, q4]
  exact ⟨rfl, rfl⟩
def bk (s : Q4) (k i : Nat) : Int := if i < k then -(s.at i) else 0
def bkCells (s : Q4) (k : Nat) : Array Value := #[.int .i64 (bk s k 0), .int .i64 (bk s k 1), .int .i64 (bk s k 2), .int .i64 (bk s k 3)]
theorem bk_set (s : Q4) (k : Nat) (hk : k < 4) : (bkCells s k).setIfInBounds k (.int .i64 (-(s.at k))) = bkCells s (k + 1) := by
  obtain rfl | rfl | rfl | rfl : k = 0 ∨ k = 1 ∨ k = 2 ∨ k = 3 := by omega
  all_goals simp [bkCells, bk]
theorem bk_get (s : Q4) (k : Nat) (hk : k < 4) : (bkCells s k)[k]? = some (.int .i64 (bk s k k)) := by
  obtain rfl | rfl | rfl | rfl : k = 0 ∨ k = 1 ∨ k = 2 ∨ k = 3 := by omega
  all_goals rfl
set_option maxRecDepth 20000 in
set_option maxHeartbeats 8000000 in
theorem turns_any (r q s : Q4) (hr : r.ok) (hq : q.ok) (hs : s.ok) (w : World) : Calls Try.prog 6 #[qv r, qv q, qv s] w fun e w' => e = .returned (.bool true) ∧ Below w.heap.size w w' := by
  have hX := Blk_alloc (Blk_alloc (Blk_new w 33 #[.int .i64 r.a, .int .i64 r.b, .int .i64 r.c, .int .i64 r.d]) (.cells #[.int .i64 q.a, .int .i64 q.b, .int .i64 q.c, .int .i64 q.d] 33)) (.cells #[.int .i64 s.a, .int .i64 s.b, .int .i64 s.c, .int .i64 s.d] 24)
  have hY := Blk_alloc (Blk_new (w.alloc (.cells #[.int .i64 r.a, .int .i64 r.b, .int .i64 r.c, .int .i64 r.d] 33)) 33 #[.int .i64 q.a, .int .i64 q.b, .int .i64 q.c, .int .i64 q.d]) (.cells #[.int .i64 s.a, .int .i64 s.b, .int .i64 s.c, .int .i64 s.d] 24)
  have hZ := Blk_new ((w.alloc (.cells #[.int .i64 r.a, .int .i64 r.b, .int .i64 r.c, .int .i64 r.d] 33)).alloc (.cells #[.int .i64 q.a, .int .i64 q.b, .int .i64 q.c, .int .i64 q.d] 33)) 24 #[.int .i64 s.a, .int .i64 s.b, .int .i64 s.c, .int .i64 s.d]
  have hb3 : Below w.heap.size w (((w.alloc (.cells #[.int .i64 r.a, .int .i64 r.b, .int .i64 r.c, .int .i64 r.d] 33)).alloc (.cells #[.int .i64 q.a, .int .i64 q.b, .int .i64 q.c, .int .i64 q.d] 33)).alloc (.cells #[.int .i64 s.a, .int .i64 s.b, .int .i64 s.c, .int .i64 s.d] 24)) := by (repeat' (first | (with_reducible exact Below.refl _ _) | (with_reducible assumption) | (with_reducible refine Below.alloc ?_ ?_ _) | (with_reducible refine Below.drew ?_) | (with_reducible refine Below_drewN ?_ _) | (with_reducible refine Below.setCell ?_ ?_ _) | go_size))
  simp only [World.size_alloc] at hY hZ
  have m1 := fun w => Meet_any r q hr hq w
  have m2 := fun w => Meet_any q r hq hr w
  have m3 := fun w => Meet_any r r hr hr w
  have i1 := fun w => Inside_any r r hr hr w
  have i2 := fun w => Inside_any r q hr hq w
  rw [MeetB_comm q r] at m2
  rw [MeetB_self] at m3
  rw [InB_self] at i1
  have HI := Lib.hid (InB_Meet r q)
  have HS0 := Lib.hid (show someB r = (decide (0 < r.c) && decide (0 < r.d)) from rfl)
  have g1 := fun w => grow_any r s hr hs w
  have hkw := works_any
  unfold qv at *
  go_enter Try.func6, Try.ntmps6
  go_upto_region 1 with fail
  generalize ((w.alloc (.cells #[.int .i64 r.a, .int .i64 r.b, .int .i64 r.c, .int .i64 r.d] 33)).alloc (.cells #[.int .i64 q.a, .int .i64 q.b, .int .i64 q.c, .int .i64 q.d] 33)).alloc (.cells #[.int .i64 s.a, .int .i64 s.b, .int .i64 s.c, .int .i64 s.d] 24) = w3 at *
  have x0 := Blk_cell hX 0
  have x1 := Blk_cell hX 1
  have x2 := Blk_cell hX 2
  have x3 := Blk_cell hX 3
  have y0 := Blk_cell hY 0
  have y1 := Blk_cell hY 1
  have y2 := Blk_cell hY 2
  have y3 := Blk_cell hY 3
  go_cut [7] (fun v wx => v = .bool (someB r) ∧ w3 = wx)
  case first =>
    by_cases h1 : 0 < r.c
    · by_cases h2 : 0 < r.d
      · have e := HS0.out
        rw [decide_eq_true h1, decide_eq_true h2] at e
        go_wp2_with fail
        go_meet
        exact ⟨by rw [e]; rfl, rfl⟩
      · have e := HS0.out
        rw [decide_eq_true h1, decide_eq_false h2] at e
        go_wp2_with fail
        go_meet
        exact ⟨by rw [e]; rfl, rfl⟩
    · have e := HS0.out
      rw [decide_eq_false h1] at e
      go_wp2_with fail
      go_meet
      exact ⟨by rw [e]; rfl, rfl⟩
  case rest =>
    obtain ⟨rfl, rfl⟩ := hcut
    generalize MeetB r q = M at *
    generalize someB r = sm at *
    generalize InB r q = I at *
    clear HS0
    go_upto_region 2 with fail
    go_cut [57] (fun v wx => v = .bool false ∧ Below w3.heap.size w3 wx)
    case first =>
      have z0 := fun z : Up w3 => up_cell z x0
      have z1 := fun z : Up w3 => up_cell z x1
      have z2 := fun z : Up w3 => up_cell z x2
      have z3 := fun z : Up w3 => up_cell z x3
      have v0 := fun z : Up w3 => up_cell z y0
      have v1 := fun z : Up w3 => up_cell z y1
      have v2 := fun z : Up w3 => up_cell z y2
      have v3 := fun z : Up w3 => up_cell z y3
      cases M <;> cases sm <;> cases I
      all_goals try (exact absurd (HI.out rfl rfl) (by decide))
      all_goals
        refine wp_region_up (by kernel_rfl) (by kernel_rfl) ?_
        repeat (go_big_quiet_step ((first | (go_at_call 16; (with_reducible refine up_call (m1 _))) | (go_at_call 16; (with_reducible refine up_call (m2 _))) | (go_at_call 16; (with_reducible refine up_call (m3 _))) | (go_at_call 18; (with_reducible refine up_call (i1 _))) | (go_at_call 18; (with_reducible refine up_call (i2 _))))))
        refine wpQuiet_nil ?_
        intro w' hup
        go_wp2_with fail
        go_meet
        exact ⟨rfl, hup⟩
    case rest =>
      obtain ⟨rfl, hb4⟩ := hcut
      obtain ⟨w4, hw4⟩ : ∃ w4, w4 = wc := ⟨_, rfl⟩
      subst hw4
      have hX4 := Blk_below hX hb4 (Blk_lt hX)
      have hY4 := Blk_below hY hb4 (Blk_lt hY)
      have hZ4 := Blk_below hZ hb4 (Blk_lt hZ)
      have hbw4 := Below_then hb3 hb4 (Nat.le_refl _)
      clear x0 x1 x2 x3 y0 y1 y2 y3 m1 m2 m3 i1 i2 HI hX hY hZ
      have x0 := Blk_cell hX4 0
      have x1 := Blk_cell hX4 1
      have x2 := Blk_cell hX4 2
      have x3 := Blk_cell hX4 3
      have y0 := Blk_cell hZ4 0
      have y1 := Blk_cell hZ4 1
      have y2 := Blk_cell hZ4 2
      have y3 := Blk_cell hZ4 3
      have hgo := growV_ok r s
      have HGB := Lib.hid (grow_back r s)
      have g3 := fun w => grow_any r ⟨0, 0, 0, 0⟩ hr ⟨by decide, by decide, by decide, by decide⟩ w
      have g2 := fun (h : (neg4 s).ok) w => grow_any (growV r s) (neg4 s) hgo h w
      generalize growV r s = R at *
      generalize growB r s = E at *
      unfold qv at g2 g3
      go_upto_region 6 with ((go_at_call 14; (with_reducible refine ((g1 _)).mono ?_)); rintro e w5 ⟨rfl, h5⟩)
      have hT := Blk_alloc (Blk_new w5 33 #[.int .i64 R.a, .int .i64 R.b, .int .i64 R.c, .int .i64 R.d]) (.cells #[.int .i64 0, .int .i64 0, .int .i64 0, .int .i64 0] 24)
      have hG := Blk_new2 (w := w5.alloc (.cells #[.int .i64 R.a, .int .i64 R.b, .int .i64 R.c, .int .i64 R.d] 33)) (g := w5.heap.size + 1) (t := 24) (cs := #[.int .i64 0, .int .i64 0, .int .i64 0, .int .i64 0]) (by simp)
      have hX6 := Blk_alloc (Blk_alloc (Blk_below hX4 h5 (Blk_lt hX4)) (.cells #[.int .i64 R.a, .int .i64 R.b, .int .i64 R.c, .int .i64 R.d] 33)) (.cells #[.int .i64 0, .int .i64 0, .int .i64 0, .int .i64 0] 24)
      have hZ6 := Blk_alloc (Blk_alloc (Blk_below hZ4 h5 (Blk_lt hZ4)) (.cells #[.int .i64 R.a, .int .i64 R.b, .int .i64 R.c, .int .i64 R.d] 33)) (.cells #[.int .i64 0, .int .i64 0, .int .i64 0, .int .i64 0] 24)
      have hbw5 := Below_then hbw4 h5 (Nat.le_refl _)
      have hbw6 : Below w.heap.size w ((w5.alloc (.cells #[.int .i64 R.a, .int .i64 R.b, .int .i64 R.c, .int .i64 R.d] 33)).alloc (.cells #[.int .i64 0, .int .i64 0, .int .i64 0, .int .i64 0] 24)) := (hbw5.alloc hbw5.size _).alloc (by have := hbw5.size; simp; omega) _
      have hlt := And.intro (Blk_lt hX4) (Blk_lt hZ4)
      have hs5 := h5.size
      have hsw := hbw4.size
      have hs6 : ((w5.alloc (.cells #[.int .i64 R.a, .int .i64 R.b, .int .i64 R.c, .int .i64 R.d] 33)).alloc (.cells #[.int .i64 0, .int .i64 0, .int .i64 0, .int .i64 0] 24)).heap.size = w5.heap.size + 2 := by simp
      generalize (w5.alloc (.cells #[.int .i64 R.a, .int .i64 R.b, .int .i64 R.c, .int .i64 R.d] 33)).alloc (.cells #[.int .i64 0, .int .i64 0, .int .i64 0, .int .i64 0] 24) = w6 at *
      clear x0 x1 x2 x3 y0 y1 y2 y3 hX4 hZ4 hY4 h5
      go_wp2_with fail
      go_loopw [11, 64, 65, 66, 67, 68, 69, 70, 71, 72, 73, 74, 75, 76, 77, 78] (fun i _ _ _ _ _ _ _ _ _ _ _ _ _ _ _ wr => ∃ k : Nat, k ≤ 4 ∧ i = .int .i64 k ∧ Below (w5.heap.size + 1) w6 wr ∧ Blk wr (w5.heap.size + 1) 24 (bkCells s k) ∧ (∀ j, j < k → s.at j ≠ -9223372036854775808)) (fun i _ _ _ _ _ _ _ _ _ _ _ _ _ _ _ _ => 4 - (intOf i).toNat)
      case atStart => exact ⟨0, by omega, rfl, Below.refl _ _, by simpa [bkCells, bk] using hG, fun j hj => by omega⟩
      case round =>
        obtain ⟨k, hk, rfl, hbr, hGk, hall⟩ := hrel
        have hbwr : Below w.heap.size w wr := hbw6.trans (hbr.mono (by omega))
        have hZr := Blk_below hZ6 hbr (by omega)
        by_cases hlt4 : k < 4
        · have cz := (Blk_cell hZr k).trans (qc_at s k hlt4)
          have cg := (Blk_cell hGk k).trans (bk_get s k hlt4)
          have fg := Blk_frozen hGk k
          have hbd := i64_wf (hs.at k)
          have hset := Blk_set hGk k (.int .i64 (-(s.at k)))
          rw [bk_set s k hlt4] at hset
          obtain ⟨x, hx⟩ : ∃ x, s.at k = x := ⟨_, rfl⟩
          rw [hx] at cz hbd hset
          have HA := Lib.hid (And.intro hset (And.intro hall hx))
          clear hset hall hx
          by_cases hmin : x = -9223372036854775808
          · go_wp2_with ((go_at_call 9; (with_reducible refine ((hkw _)).mono ?_)); rintro e w7 ⟨rfl, h7⟩)
            go_ret
            exact ⟨rfl, Below_then hbwr h7 (Nat.le_refl _)⟩
          · go_wp2_with fail
            go_roundw
            case rel =>
              refine ⟨k + 1, by omega, by go_num, hbr.setCell (by simp) _, HA.out.1, fun j hj => ?_⟩
              by_cases e : j = k
              · rw [e, HA.out.2.2]; exact hmin
              · exact HA.out.2.1 j (by omega)
            case measure => simp [intOf]; omega
        · obtain rfl : k = 4 := by omega
          have hZ8 := Blk_below hZ6 hbr (by omega)
          have hX8 := Blk_below hX6 hbr (by omega)
          have hok : (neg4 s).ok := by
            obtain ⟨⟨q1, q2⟩, ⟨q3, q4⟩, ⟨q5, q6⟩, q7, q8⟩ := hs
            have e0 := hall 0 (by omega)
            have e1 := hall 1 (by omega)
            have e2 := hall 2 (by omega)
            have e3 := hall 3 (by omega)
            simp only [Q4.at] at e0 e1 e2 e3
            refine ⟨?_, ?_, ?_, ?_⟩ <;> simp only [neg4] <;> omega
          have g2' := g2 hok
          have hcs : bkCells s 4 = #[.int .i64 (-s.a), .int .i64 (-s.b), .int .i64 (-s.c), .int .i64 (-s.d)] := by simp [bkCells, bk, Q4.at]
          rw [hcs] at hGk
          simp only [neg4] at g2' HGB
          generalize -s.a = na at *
          generalize -s.b = nb at *
          generalize -s.c = nc at *
          generalize -s.d = nd at *
          have hR8 := Blk_below hT hbr (by omega)
          have ha0 := Blk_cell hR8 0
          have ha1 := Blk_cell hR8 1
          have ha2 := Blk_cell hR8 2
          have ha3 := Blk_cell hR8 3
          have hb0 := Blk_cell hX8 0
          have hb1 := Blk_cell hX8 1
          have hb2 := Blk_cell hX8 2
          have hb3 := Blk_cell hX8 3
          have hc0 := Blk_cell hGk 0
          have hc1 := Blk_cell hGk 1
          have hc2 := Blk_cell hGk 2
          have hc3 := Blk_cell hGk 3
          generalize growV R ⟨na, nb, nc, nd⟩ = S at *
          generalize growB R ⟨na, nb, nc, nd⟩ = F at *
          generalize growV r ⟨0, 0, 0, 0⟩ = T at *
          generalize growB r ⟨0, 0, 0, 0⟩ = G at *
          obtain ⟨wo, h⟩ : ∃ wo, wo = wr := ⟨_, rfl⟩
          subst h
          clear hall
          go_upto_region 13 with ((go_at_call 14; (with_reducible refine ((g2' _)).mono ?_)); rintro e w9 ⟨rfl, h9⟩)
          have hbw9 := Below_then hbwr h9 (Nat.le_refl _)
          have hX9 := Blk_alloc (Blk_below hX8 h9 (Blk_lt hX8)) (.cells #[.int .i64 S.a, .int .i64 S.b, .int .i64 S.c, .int .i64 S.d] 33)
          have hS9 := Blk_new w9 33 #[.int .i64 S.a, .int .i64 S.b, .int .i64 S.c, .int .i64 S.d]
          have hbwA := hbw9.alloc hbw9.size (.cells #[.int .i64 S.a, .int .i64 S.b, .int .i64 S.c, .int .i64 S.d] 33)
          have hsA : (w9.alloc (.cells #[.int .i64 S.a, .int .i64 S.b, .int .i64 S.c, .int .i64 S.d] 33)).heap.size = w9.heap.size + 1 := by simp
          generalize w9.alloc (.cells #[.int .i64 S.a, .int .i64 S.b, .int .i64 S.c, .int .i64 S.d] 33) = wA at *
          cases E
          · obtain ⟨hh1, hh2⟩ := HGB.out rfl
            subst hh1 hh2
            have hd0 := Blk_cell hX9 0
            have hd1 := Blk_cell hX9 1
            have hd2 := Blk_cell hX9 2
            have hd3 := Blk_cell hX9 3
            go_upto_region 16 with ((go_at_call 14; (with_reducible refine ((g3 _)).mono ?_)); rintro e w10 ⟨rfl, h10⟩)
            have hbwB := (Below_then hbwA h10 (Nat.le_refl _)).alloc (by have := h10.size; have := hbwA.size; omega) (.cells #[.int .i64 S.a, .int .i64 S.b, .int .i64 S.c, .int .i64 S.d] 33)
            have hS11 := Blk_alloc (Blk_below hS9 h10 (Blk_lt hS9)) (.cells #[.int .i64 S.a, .int .i64 S.b, .int .i64 S.c, .int .i64 S.d] 33)
            have hT11 := Blk_new w10 33 #[.int .i64 S.a, .int .i64 S.b, .int .i64 S.c, .int .i64 S.d]
            generalize w10.alloc (.cells #[.int .i64 S.a, .int .i64 S.b, .int .i64 S.c, .int .i64 S.d] 33) = wB at *
            clear hd0 hd1 hd2 hd3
            have hd0 := Blk_cell hS11 0
            have hd1 := Blk_cell hS11 1
            have hd2 := Blk_cell hS11 2
            have hd3 := Blk_cell hS11 3
            have he0 := Blk_cell hT11 0
            have he1 := Blk_cell hT11 1
            have he2 := Blk_cell hT11 2
            have he3 := Blk_cell hT11 3
            cases F
            all_goals
              go_wp2_with ((go_at_call 9; (with_reducible refine ((hkw _)).mono ?_)); rintro e w7 ⟨rfl, h7⟩)
              go_ret
              exact ⟨rfl, Below_then hbwB h7 (Nat.le_refl _)⟩
          · go_wp2_with ((go_at_call 9; (with_reducible refine ((hkw _)).mono ?_)); rintro e w7 ⟨rfl, h7⟩)
            go_ret
            exact ⟨rfl, Below_then hbwA h7 (Nat.le_refl _)⟩
end Go.Proofs.Ytfhbndfhmphnaaa
