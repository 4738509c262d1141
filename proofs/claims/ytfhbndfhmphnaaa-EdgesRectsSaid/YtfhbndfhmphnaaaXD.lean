/-
  The statement EdgesMoved. No condition.
-/
import Derived.Test.YtfhbndfhmphnaaaXC
set_option linter.unusedVariables false
set_option linter.unusedSimpArgs false
namespace Go.Proofs.Ytfhbndfhmphnaaa
open Go.RowKit Go.BigFrame

theorem mov_some (p : Q4) (dx dy : Int) : someB (movQ p dx dy) = someB p := rfl
theorem meetB_mov (a m b n d : Int) : meetB (a + d) m (b + d) n = meetB a m b n := by
  unfold meetB
  by_cases h : a ≤ b
  · rw [if_pos h, if_pos (by omega)]; apply decide_eq_decide.2; omega
  · rw [if_neg h, if_neg (by omega)]; apply decide_eq_decide.2; omega
theorem insB_mov (a m b n d : Int) : insB (a + d) m (b + d) n = insB a m b n := by
  unfold insB
  apply decide_eq_decide.2
  omega
theorem MeetB_mov (p q : Q4) (dx dy : Int) : MeetB (movQ p dx dy) (movQ q dx dy) = MeetB p q := by
  unfold MeetB
  rw [mov_some, mov_some]
  unfold movQ
  simp only [meetB_mov]
theorem InB_mov (p q : Q4) (dx dy : Int) : InB (movQ p dx dy) (movQ q dx dy) = InB p q := by
  unfold InB
  rw [mov_some, mov_some]
  unfold movQ
  simp only [insB_mov]
theorem join_mov {p q : Q4} (dx dy : Int) (h : someB (join p q) = true) : join (movQ p dx dy) (movQ q dx dy) = movQ (join p q) dx dy := by
  rw [join_some] at h
  cases h1 : someB p
  · cases h2 : someB q
    · rw [h1, h2] at h; exact absurd h (by decide)
    · rw [join_r h1 h2, join_r (p := movQ p dx dy) (q := movQ q dx dy) h1 h2]
  · cases h2 : someB q
    · rw [join_l h1 h2, join_l (p := movQ p dx dy) (q := movQ q dx dy) h1 h2]
    · rw [join_b h1 h2, join_b (p := movQ p dx dy) (q := movQ q dx dy) h1 h2]
      refine q4_ext ?_ ?_ ?_ ?_ <;> simp only [movQ] <;> omega
theorem join_mov0 {p q : Q4} (dx dy : Int) (h : someB (join p q) = false) : join p q = ⟨0, 0, 0, 0⟩ ∧ join (movQ p dx dy) (movQ q dx dy) = ⟨0, 0, 0, 0⟩ := by
  rw [join_some] at h
  cases h1 : someB p
  · cases h2 : someB q
    · exact ⟨join_no h1 h2, join_no (p := movQ p dx dy) (q := movQ q dx dy) h1 h2⟩
    · rw [h2] at h; simp at h
  · rw [h1] at h; simp at h
theorem mov_lim {p : Q4} (h : p.near) {dx dy : Int} (hx : -2147483648 ≤ dx ∧ dx ≤ 2147483647) (hy : -2147483648 ≤ dy ∧ dy ≤ 2147483647) : (movQ p dx dy).lim := by
  obtain ⟨h1, h2, h3, h4⟩ := h
  exact ⟨by simp only [movQ]; omega, by simp only [movQ]; omega, by simp only [movQ]; omega, by simp only [movQ]; omega⟩
set_option maxRecDepth 20000 in
set_option maxHeartbeats 8000000 in
theorem emoved_any (a b : Q4) (ha : a.ok) (hb : b.ok) (dx dy : Int) (hx : -2147483648 ≤ dx ∧ dx ≤ 2147483647) (hy : -2147483648 ≤ dy ∧ dy ≤ 2147483647) (w : World) : Calls Try.prog 7 #[qv a, qv b, .int .i32 dx, .int .i32 dy] w fun e w' => e = .returned (.bool true) ∧ Below w.heap.size w w' := by
  have hX := Blk_alloc (Blk_new w 33 #[.int .i64 a.a, .int .i64 a.b, .int .i64 a.c, .int .i64 a.d]) (.cells #[.int .i64 b.a, .int .i64 b.b, .int .i64 b.c, .int .i64 b.d] 33)
  have hY := Blk_new (w.alloc (.cells #[.int .i64 a.a, .int .i64 a.b, .int .i64 a.c, .int .i64 a.d] 33)) 33 #[.int .i64 b.a, .int .i64 b.b, .int .i64 b.c, .int .i64 b.d]
  have hbw : Below w.heap.size w ((w.alloc (.cells #[.int .i64 a.a, .int .i64 a.b, .int .i64 a.c, .int .i64 a.d] 33)).alloc (.cells #[.int .i64 b.a, .int .i64 b.b, .int .i64 b.c, .int .i64 b.d] 33)) := by (repeat' (first | (with_reducible exact Below.refl _ _) | (with_reducible assumption) | (with_reducible refine Below.alloc ?_ ?_ _) | (with_reducible refine Below.drew ?_) | (with_reducible refine Below_drewN ?_ _) | (with_reducible refine Below.setCell ?_ ?_ _) | go_size))
  simp only [World.size_alloc] at hY
  have n1 := fun w => near_any a ha w
  have n2 := fun w => near_any b hb w
  have hkw := works_any
  unfold qv at *
  go_enter Try.func7, Try.ntmps7
  go_upto_region 1 with fail
  generalize (w.alloc (.cells #[.int .i64 a.a, .int .i64 a.b, .int .i64 a.c, .int .i64 a.d] 33)).alloc (.cells #[.int .i64 b.a, .int .i64 b.b, .int .i64 b.c, .int .i64 b.d] 33) = w3 at *
  have x0 := Blk_cell hX 0
  have x1 := Blk_cell hX 1
  have x2 := Blk_cell hX 2
  have x3 := Blk_cell hX 3
  have y0 := Blk_cell hY 0
  have y1 := Blk_cell hY 1
  have y2 := Blk_cell hY 2
  have y3 := Blk_cell hY 3
  by_cases hall : nearB a = true ∧ nearB b = true
  case neg =>
    generalize nearB a = na at *
    generalize nearB b = nb at *
    have HA := Lib.hid hall
    clear hall
    cases na
    case false =>
      go_wp2_with (first | ((go_at_call 23; (with_reducible refine (n1 _).mono ?_); rintro e w' ⟨rfl, h⟩; have hbw := Below_then hbw h (Nat.le_refl _); have hX := Blk_below hX h (Blk_lt hX); have hY := Blk_below hY h (Blk_lt hY); have x0 := Blk_cell hX 0; have x1 := Blk_cell hX 1; have x2 := Blk_cell hX 2; have x3 := Blk_cell hX 3; have y0 := Blk_cell hY 0; have y1 := Blk_cell hY 1; have y2 := Blk_cell hY 2; have y3 := Blk_cell hY 3)) | ((go_at_call 9; (with_reducible refine (hkw _).mono ?_); rintro e w' ⟨rfl, h⟩; have hbw := Below_then hbw h (Nat.le_refl _); have hX := Blk_below hX h (Blk_lt hX); have hY := Blk_below hY h (Blk_lt hY); have x0 := Blk_cell hX 0; have x1 := Blk_cell hX 1; have x2 := Blk_cell hX 2; have x3 := Blk_cell hX 3; have y0 := Blk_cell hY 0; have y1 := Blk_cell hY 1; have y2 := Blk_cell hY 2; have y3 := Blk_cell hY 3)))
      go_ret
      exact ⟨rfl, hbw⟩
    case true =>
      cases nb
      case false =>
        go_wp2_with (first | ((go_at_call 23; (with_reducible refine (n1 _).mono ?_); rintro e w' ⟨rfl, h⟩; have hbw := Below_then hbw h (Nat.le_refl _); have hX := Blk_below hX h (Blk_lt hX); have hY := Blk_below hY h (Blk_lt hY); have x0 := Blk_cell hX 0; have x1 := Blk_cell hX 1; have x2 := Blk_cell hX 2; have x3 := Blk_cell hX 3; have y0 := Blk_cell hY 0; have y1 := Blk_cell hY 1; have y2 := Blk_cell hY 2; have y3 := Blk_cell hY 3)) | ((go_at_call 23; (with_reducible refine (n2 _).mono ?_); rintro e w' ⟨rfl, h⟩; have hbw := Below_then hbw h (Nat.le_refl _); have hX := Blk_below hX h (Blk_lt hX); have hY := Blk_below hY h (Blk_lt hY); have x0 := Blk_cell hX 0; have x1 := Blk_cell hX 1; have x2 := Blk_cell hX 2; have x3 := Blk_cell hX 3; have y0 := Blk_cell hY 0; have y1 := Blk_cell hY 1; have y2 := Blk_cell hY 2; have y3 := Blk_cell hY 3)) | ((go_at_call 9; (with_reducible refine (hkw _).mono ?_); rintro e w' ⟨rfl, h⟩; have hbw := Below_then hbw h (Nat.le_refl _); have hX := Blk_below hX h (Blk_lt hX); have hY := Blk_below hY h (Blk_lt hY); have x0 := Blk_cell hX 0; have x1 := Blk_cell hX 1; have x2 := Blk_cell hX 2; have x3 := Blk_cell hX 3; have y0 := Blk_cell hY 0; have y1 := Blk_cell hY 1; have y2 := Blk_cell hY 2; have y3 := Blk_cell hY 3)))
        go_ret
        exact ⟨rfl, hbw⟩
      case true => exact absurd ⟨rfl, rfl⟩ HA.out
  case pos =>
    obtain ⟨e1, e2⟩ := hall
    rw [e1] at n1
    rw [e2] at n2
    have na : a.near := nearB_of e1
    have nb : b.near := nearB_of e2
    clear e1 e2
    go_upto_region 3 with (first | ((go_at_call 23; (with_reducible refine (n1 _).mono ?_); rintro e w' ⟨rfl, h⟩; have hbw := Below_then hbw h (Nat.le_refl _); have hX := Blk_below hX h (Blk_lt hX); have hY := Blk_below hY h (Blk_lt hY); have x0 := Blk_cell hX 0; have x1 := Blk_cell hX 1; have x2 := Blk_cell hX 2; have x3 := Blk_cell hX 3; have y0 := Blk_cell hY 0; have y1 := Blk_cell hY 1; have y2 := Blk_cell hY 2; have y3 := Blk_cell hY 3)) | ((go_at_call 23; (with_reducible refine (n2 _).mono ?_); rintro e w' ⟨rfl, h⟩; have hbw := Below_then hbw h (Nat.le_refl _); have hX := Blk_below hX h (Blk_lt hX); have hY := Blk_below hY h (Blk_lt hY); have x0 := Blk_cell hX 0; have x1 := Blk_cell hX 1; have x2 := Blk_cell hX 2; have x3 := Blk_cell hX 3; have y0 := Blk_cell hY 0; have y1 := Blk_cell hY 1; have y2 := Blk_cell hY 2; have y3 := Blk_cell hY 3)))
    have v1 := fun w => moved_any a dx dy hx hy (by have := na.1; omega) (by have := na.2.1; omega) w
    have v2 := fun w => moved_any b dx dy hx hy (by have := nb.1; omega) (by have := nb.2.1; omega) w
    have lc := mov_lim na hx hy
    have ld := mov_lim nb hx hy
    have m1 := fun w => Meet_any a b ha hb w
    have m2 := fun w => Meet_any (movQ a dx dy) (movQ b dx dy) lc.ok ld.ok w
    have i1 := fun w => Inside_any a b ha hb w
    have i2 := fun w => Inside_any (movQ a dx dy) (movQ b dx dy) lc.ok ld.ok w
    have i3 := fun w => Inside_any b a hb ha w
    have i4 := fun w => Inside_any (movQ b dx dy) (movQ a dx dy) ld.ok lc.ok w
    rw [MeetB_mov] at m2
    rw [InB_mov] at i2 i4
    have k1 := fun w => cover2_any na.lim nb.lim w
    have k2 := fun w => cover2_any lc ld w
    have hjn := join_near na nb
    have HJ := Lib.hid (And.intro (@join_mov a b dx dy) (@join_mov0 a b dx dy))
    have v3 := fun w => moved_any (join a b) dx dy hx hy (by have := hjn.1; omega) (by have := hjn.2.1; omega) w
    clear hjn lc ld na nb n1 n2
    generalize movQ a dx dy = c at *
    generalize movQ b dx dy = d at *
    generalize MeetB a b = M at *
    generalize InB a b = I1 at *
    generalize InB b a = I2 at *
    generalize join a b = J at *
    generalize join c d = K at *
    generalize movQ J dx dy = N at *
    unfold qv at *
    go_upto_region 4 with ((go_at_call 24; (with_reducible refine (v1 _).mono ?_); rintro e w' ⟨rfl, h⟩; have hbw := Below_then hbw h (Nat.le_refl _); have hX := Blk_below hX h (Blk_lt hX); have hY := Blk_below hY h (Blk_lt hY); have x0 := Blk_cell hX 0; have x1 := Blk_cell hX 1; have x2 := Blk_cell hX 2; have x3 := Blk_cell hX 3; have y0 := Blk_cell hY 0; have y1 := Blk_cell hY 1; have y2 := Blk_cell hY 2; have y3 := Blk_cell hY 3))
    have hC := Blk_new w' 33 #[.int .i64 c.a, .int .i64 c.b, .int .i64 c.c, .int .i64 c.d]
    have hX := Blk_alloc hX (.cells #[.int .i64 c.a, .int .i64 c.b, .int .i64 c.c, .int .i64 c.d] 33)
    have hY := Blk_alloc hY (.cells #[.int .i64 c.a, .int .i64 c.b, .int .i64 c.c, .int .i64 c.d] 33)
    have hbw := hbw.alloc hbw.size (.cells #[.int .i64 c.a, .int .i64 c.b, .int .i64 c.c, .int .i64 c.d] 33)
    generalize hww : w'.alloc (.cells #[.int .i64 c.a, .int .i64 c.b, .int .i64 c.c, .int .i64 c.d] 33) = ww at *
    clear hww
    have x0 := Blk_cell hX 0
    have x1 := Blk_cell hX 1
    have x2 := Blk_cell hX 2
    have x3 := Blk_cell hX 3
    have y0 := Blk_cell hY 0
    have y1 := Blk_cell hY 1
    have y2 := Blk_cell hY 2
    have y3 := Blk_cell hY 3
    have c0 := Blk_cell hC 0
    have c1 := Blk_cell hC 1
    have c2 := Blk_cell hC 2
    have c3 := Blk_cell hC 3
    go_upto_region 5 with ((go_at_call 24; (with_reducible refine (v2 _).mono ?_); rintro e w' ⟨rfl, h⟩; have hbw := Below_then hbw h (Nat.le_refl _); have hX := Blk_below hX h (Blk_lt hX); have hY := Blk_below hY h (Blk_lt hY); have hC := Blk_below hC h (Blk_lt hC); have x0 := Blk_cell hX 0; have x1 := Blk_cell hX 1; have x2 := Blk_cell hX 2; have x3 := Blk_cell hX 3; have y0 := Blk_cell hY 0; have y1 := Blk_cell hY 1; have y2 := Blk_cell hY 2; have y3 := Blk_cell hY 3; have c0 := Blk_cell hC 0; have c1 := Blk_cell hC 1; have c2 := Blk_cell hC 2; have c3 := Blk_cell hC 3))
    have hD := Blk_new w' 33 #[.int .i64 d.a, .int .i64 d.b, .int .i64 d.c, .int .i64 d.d]
    have hX := Blk_alloc hX (.cells #[.int .i64 d.a, .int .i64 d.b, .int .i64 d.c, .int .i64 d.d] 33)
    have hY := Blk_alloc hY (.cells #[.int .i64 d.a, .int .i64 d.b, .int .i64 d.c, .int .i64 d.d] 33)
    have hC := Blk_alloc hC (.cells #[.int .i64 d.a, .int .i64 d.b, .int .i64 d.c, .int .i64 d.d] 33)
    have hbw := hbw.alloc hbw.size (.cells #[.int .i64 d.a, .int .i64 d.b, .int .i64 d.c, .int .i64 d.d] 33)
    generalize hww : w'.alloc (.cells #[.int .i64 d.a, .int .i64 d.b, .int .i64 d.c, .int .i64 d.d] 33) = ww at *
    clear hww
    have x0 := Blk_cell hX 0
    have x1 := Blk_cell hX 1
    have x2 := Blk_cell hX 2
    have x3 := Blk_cell hX 3
    have y0 := Blk_cell hY 0
    have y1 := Blk_cell hY 1
    have y2 := Blk_cell hY 2
    have y3 := Blk_cell hY 3
    have c0 := Blk_cell hC 0
    have c1 := Blk_cell hC 1
    have c2 := Blk_cell hC 2
    have c3 := Blk_cell hC 3
    have d0 := Blk_cell hD 0
    have d1 := Blk_cell hD 1
    have d2 := Blk_cell hD 2
    have d3 := Blk_cell hD 3
    go_cut [56] (fun v wx => v = .bool false ∧ Below ww.heap.size ww wx)
    case first =>
      have x0 := fun z : Up ww => up_cell z x0
      have x1 := fun z : Up ww => up_cell z x1
      have x2 := fun z : Up ww => up_cell z x2
      have x3 := fun z : Up ww => up_cell z x3
      have y0 := fun z : Up ww => up_cell z y0
      have y1 := fun z : Up ww => up_cell z y1
      have y2 := fun z : Up ww => up_cell z y2
      have y3 := fun z : Up ww => up_cell z y3
      have c0 := fun z : Up ww => up_cell z c0
      have c1 := fun z : Up ww => up_cell z c1
      have c2 := fun z : Up ww => up_cell z c2
      have c3 := fun z : Up ww => up_cell z c3
      have d0 := fun z : Up ww => up_cell z d0
      have d1 := fun z : Up ww => up_cell z d1
      have d2 := fun z : Up ww => up_cell z d2
      have d3 := fun z : Up ww => up_cell z d3
      clear k1 k2 v1 v2 v3 hX hY hC hD HJ
      cases M <;> cases I1 <;> cases I2
      all_goals
        refine wp_region_up (by kernel_rfl) (by kernel_rfl) ?_
        repeat (go_big_quiet_step ((first | (go_at_call 16; (with_reducible refine up_call (m1 _))) | (go_at_call 16; (with_reducible refine up_call (m2 _))) | (go_at_call 18; (with_reducible refine up_call (i1 _))) | (go_at_call 18; (with_reducible refine up_call (i2 _))) | (go_at_call 18; (with_reducible refine up_call (i3 _))) | (go_at_call 18; (with_reducible refine up_call (i4 _))))))
        refine wpQuiet_nil ?_
        intro w' hup
        go_wp2_with fail
        go_meet
        exact ⟨rfl, hup⟩
    case rest =>
      obtain ⟨rfl, hb4⟩ := hcut
      have hbw := Below_then hbw hb4 (Nat.le_refl _)
      have hX := Blk_below hX hb4 (Blk_lt hX)
      have hY := Blk_below hY hb4 (Blk_lt hY)
      have hC := Blk_below hC hb4 (Blk_lt hC)
      have hD := Blk_below hD hb4 (Blk_lt hD)
      have x0 := Blk_cell hX 0
      have x1 := Blk_cell hX 1
      have x2 := Blk_cell hX 2
      have x3 := Blk_cell hX 3
      have y0 := Blk_cell hY 0
      have y1 := Blk_cell hY 1
      have y2 := Blk_cell hY 2
      have y3 := Blk_cell hY 3
      have c0 := Blk_cell hC 0
      have c1 := Blk_cell hC 1
      have c2 := Blk_cell hC 2
      have c3 := Blk_cell hC 3
      have d0 := Blk_cell hD 0
      have d1 := Blk_cell hD 1
      have d2 := Blk_cell hD 2
      have d3 := Blk_cell hD 3
      clear m1 m2 i1 i2 i3 i4 v1 v2
      obtain ⟨w5, hw5⟩ : ∃ w5, w5 = wc := ⟨_, rfl⟩
      subst hw5
      go_upto_region 8 with ((go_at_call 21; (with_reducible refine (k1 _).mono ?_); rintro e w' ⟨rfl, h⟩; have hbw := Below_then hbw h (Nat.le_refl _); have hX := Blk_below hX h (Blk_lt hX); have hY := Blk_below hY h (Blk_lt hY); have hC := Blk_below hC h (Blk_lt hC); have hD := Blk_below hD h (Blk_lt hD); have x0 := Blk_cell hX 0; have x1 := Blk_cell hX 1; have x2 := Blk_cell hX 2; have x3 := Blk_cell hX 3; have y0 := Blk_cell hY 0; have y1 := Blk_cell hY 1; have y2 := Blk_cell hY 2; have y3 := Blk_cell hY 3; have c0 := Blk_cell hC 0; have c1 := Blk_cell hC 1; have c2 := Blk_cell hC 2; have c3 := Blk_cell hC 3; have d0 := Blk_cell hD 0; have d1 := Blk_cell hD 1; have d2 := Blk_cell hD 2; have d3 := Blk_cell hD 3))
      have hJ := Blk_new w' 33 #[.int .i64 J.a, .int .i64 J.b, .int .i64 J.c, .int .i64 J.d]
      have hC := Blk_alloc hC (.cells #[.int .i64 J.a, .int .i64 J.b, .int .i64 J.c, .int .i64 J.d] 33)
      have hD := Blk_alloc hD (.cells #[.int .i64 J.a, .int .i64 J.b, .int .i64 J.c, .int .i64 J.d] 33)
      have hbw := hbw.alloc hbw.size (.cells #[.int .i64 J.a, .int .i64 J.b, .int .i64 J.c, .int .i64 J.d] 33)
      generalize hww : w'.alloc (.cells #[.int .i64 J.a, .int .i64 J.b, .int .i64 J.c, .int .i64 J.d] 33) = ww at *
      clear hww
      have c0 := Blk_cell hC 0
      have c1 := Blk_cell hC 1
      have c2 := Blk_cell hC 2
      have c3 := Blk_cell hC 3
      have d0 := Blk_cell hD 0
      have d1 := Blk_cell hD 1
      have d2 := Blk_cell hD 2
      have d3 := Blk_cell hD 3
      have j0 := Blk_cell hJ 0
      have j1 := Blk_cell hJ 1
      have j2 := Blk_cell hJ 2
      have j3 := Blk_cell hJ 3
      go_upto_region 9 with ((go_at_call 21; (with_reducible refine (k2 _).mono ?_); rintro e w' ⟨rfl, h⟩; have hbw := Below_then hbw h (Nat.le_refl _); have hJ := Blk_below hJ h (Blk_lt hJ); have hC := Blk_below hC h (Blk_lt hC); have hD := Blk_below hD h (Blk_lt hD); have j0 := Blk_cell hJ 0; have j1 := Blk_cell hJ 1; have j2 := Blk_cell hJ 2; have j3 := Blk_cell hJ 3; have c0 := Blk_cell hC 0; have c1 := Blk_cell hC 1; have c2 := Blk_cell hC 2; have c3 := Blk_cell hC 3; have d0 := Blk_cell hD 0; have d1 := Blk_cell hD 1; have d2 := Blk_cell hD 2; have d3 := Blk_cell hD 3))
      have hK := Blk_new w' 33 #[.int .i64 K.a, .int .i64 K.b, .int .i64 K.c, .int .i64 K.d]
      have hJ := Blk_alloc hJ (.cells #[.int .i64 K.a, .int .i64 K.b, .int .i64 K.c, .int .i64 K.d] 33)
      have hbw := hbw.alloc hbw.size (.cells #[.int .i64 K.a, .int .i64 K.b, .int .i64 K.c, .int .i64 K.d] 33)
      generalize hww : w'.alloc (.cells #[.int .i64 K.a, .int .i64 K.b, .int .i64 K.c, .int .i64 K.d] 33) = ww at *
      clear hww
      have j0 := Blk_cell hJ 0
      have j1 := Blk_cell hJ 1
      have j2 := Blk_cell hJ 2
      have j3 := Blk_cell hJ 3
      have k0 := Blk_cell hK 0
      have k1 := Blk_cell hK 1
      have k2 := Blk_cell hK 2
      have k3 := Blk_cell hK 3
      cases hs : someB J
      · obtain ⟨rfl, rfl⟩ := HJ.out.2 hs
        clear HJ hs v3
        go_wp2_with ((go_at_call 9; (with_reducible refine (hkw _).mono ?_); rintro e w' ⟨rfl, h⟩; have hbw := Below_then hbw h (Nat.le_refl _); have hJ := Blk_below hJ h (Blk_lt hJ); have hK := Blk_below hK h (Blk_lt hK); have j0 := Blk_cell hJ 0; have j1 := Blk_cell hJ 1; have j2 := Blk_cell hJ 2; have j3 := Blk_cell hJ 3; have k0 := Blk_cell hK 0; have k1 := Blk_cell hK 1; have k2 := Blk_cell hK 2; have k3 := Blk_cell hK 3))
        go_ret
        exact ⟨rfl, hbw⟩
      · have e := HJ.out.1 hs
        subst e
        obtain ⟨hs1, hs2⟩ := someB_pos hs
        clear HJ hs
        go_upto_region 13 with fail
        have j0 := fun z : Up ww => up_cell z j0
        have j1 := fun z : Up ww => up_cell z j1
        have j2 := fun z : Up ww => up_cell z j2
        have j3 := fun z : Up ww => up_cell z j3
        have k0 := fun z : Up ww => up_cell z k0
        have k1 := fun z : Up ww => up_cell z k1
        have k2 := fun z : Up ww => up_cell z k2
        have k3 := fun z : Up ww => up_cell z k3
        refine wp_region_up (by kernel_rfl) (by kernel_rfl) ?_
        repeat (go_big_quiet_step ((first | (go_at_call 24; (with_reducible refine up_call (v3 _))) | (go_at_call 9; (with_reducible refine up_call (hkw _))))))
        refine wpQuiet_nil ?_
        intro w' hup
        go_wp2_with fail
        go_ret
        exact ⟨rfl, Below_then hbw hup (Nat.le_refl _)⟩
theorem emoved_walk (w : World) {ca cb : Array Value} {x y : Int × Int × Int × Int} {dx dy : Int} (h0 : E33 w (Value.agg ca).cells.toList x) (h1 : E33 w (Value.agg cb).cells.toList y) (h2 : (Lit.int .i32 dx).wf = true) (h3 : (Lit.int .i32 dy).wf = true) :
    Calls Try.prog 7 #[.agg ca, .agg cb, .int .i32 dx, .int .i32 dy] w fun e w' => e = .returned (.bool true) ∧ Below w.heap.size w w' := by
  obtain ⟨r, hr, e0⟩ := quad_rc h0
  obtain ⟨q, hq, e1⟩ := quad_rc h1
  rw [e0, e1]
  have hb : ∀ z : Int, (Lit.int .i32 z).wf = true → -2147483648 ≤ z ∧ z ≤ 2147483647 := fun z h => by
    simp [Lit.wf, IntKind.min, IntKind.max, IntKind.signed, IntKind.bits] at h
    omega
  exact emoved_any r q hr hq dx dy (hb _ h2) (hb _ h3) w
end Go.Proofs.Ytfhbndfhmphnaaa
