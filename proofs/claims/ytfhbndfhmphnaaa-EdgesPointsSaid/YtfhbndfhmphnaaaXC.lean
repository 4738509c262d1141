/-
  The statement EdgesChain. No condition.
-/
import Derived.Test.YtfhbndfhmphnaaaXB
set_option linter.unusedVariables false
set_option linter.unusedSimpArgs false
namespace Go.Proofs.Ytfhbndfhmphnaaa
open Go.RowKit Go.BigFrame

theorem join_ok {p q : Q4} (hp : p.lim) (hq : q.lim) : (join p q).ok := by
  obtain ⟨h1, h2, h3, h4⟩ := hp
  obtain ⟨k1, k2, k3, k4⟩ := hq
  unfold join
  split
  · split
    · exact ⟨by simp only []; omega, by simp only []; omega, by simp only []; omega, by simp only []; omega⟩
    · exact ⟨by omega, by omega, by omega, by omega⟩
  · split
    · exact ⟨by omega, by omega, by omega, by omega⟩
    · exact ⟨by decide, by decide, by decide, by decide⟩
set_option maxRecDepth 20000 in
set_option maxHeartbeats 8000000 in
theorem chain_any (a b c : Q4) (ha : a.ok) (hb : b.ok) (hc : c.ok) (w : World) : Calls Try.prog 8 #[qv a, qv b, qv c] w fun e w' => e = .returned (.bool true) ∧ Below w.heap.size w w' := by
  have hX := Blk_alloc (Blk_alloc (Blk_new w 33 #[.int .i64 a.a, .int .i64 a.b, .int .i64 a.c, .int .i64 a.d]) (.cells #[.int .i64 b.a, .int .i64 b.b, .int .i64 b.c, .int .i64 b.d] 33)) (.cells #[.int .i64 c.a, .int .i64 c.b, .int .i64 c.c, .int .i64 c.d] 33)
  have hY := Blk_alloc (Blk_new (w.alloc (.cells #[.int .i64 a.a, .int .i64 a.b, .int .i64 a.c, .int .i64 a.d] 33)) 33 #[.int .i64 b.a, .int .i64 b.b, .int .i64 b.c, .int .i64 b.d]) (.cells #[.int .i64 c.a, .int .i64 c.b, .int .i64 c.c, .int .i64 c.d] 33)
  have hZ := Blk_new ((w.alloc (.cells #[.int .i64 a.a, .int .i64 a.b, .int .i64 a.c, .int .i64 a.d] 33)).alloc (.cells #[.int .i64 b.a, .int .i64 b.b, .int .i64 b.c, .int .i64 b.d] 33)) 33 #[.int .i64 c.a, .int .i64 c.b, .int .i64 c.c, .int .i64 c.d]
  have hbw : Below w.heap.size w (((w.alloc (.cells #[.int .i64 a.a, .int .i64 a.b, .int .i64 a.c, .int .i64 a.d] 33)).alloc (.cells #[.int .i64 b.a, .int .i64 b.b, .int .i64 b.c, .int .i64 b.d] 33)).alloc (.cells #[.int .i64 c.a, .int .i64 c.b, .int .i64 c.c, .int .i64 c.d] 33)) := by (repeat' (first | (with_reducible exact Below.refl _ _) | (with_reducible assumption) | (with_reducible refine Below.alloc ?_ ?_ _) | (with_reducible refine Below.drew ?_) | (with_reducible refine Below_drewN ?_ _) | (with_reducible refine Below.setCell ?_ ?_ _) | go_size))
  simp only [World.size_alloc] at hY hZ
  have n1 := fun w => near_any a ha w
  have n2 := fun w => near_any b hb w
  have n3 := fun w => near_any c hc w
  have hkw := works_any
  unfold qv at *
  go_enter Try.func8, Try.ntmps8
  go_upto_region 1 with fail
  generalize ((w.alloc (.cells #[.int .i64 a.a, .int .i64 a.b, .int .i64 a.c, .int .i64 a.d] 33)).alloc (.cells #[.int .i64 b.a, .int .i64 b.b, .int .i64 b.c, .int .i64 b.d] 33)).alloc (.cells #[.int .i64 c.a, .int .i64 c.b, .int .i64 c.c, .int .i64 c.d] 33) = w3 at *
  have x0 := Blk_cell hX 0
  have x1 := Blk_cell hX 1
  have x2 := Blk_cell hX 2
  have x3 := Blk_cell hX 3
  have y0 := Blk_cell hY 0
  have y1 := Blk_cell hY 1
  have y2 := Blk_cell hY 2
  have y3 := Blk_cell hY 3
  have z0 := Blk_cell hZ 0
  have z1 := Blk_cell hZ 1
  have z2 := Blk_cell hZ 2
  have z3 := Blk_cell hZ 3
  by_cases hall : nearB a = true ∧ nearB b = true ∧ nearB c = true
  case neg =>
    generalize nearB a = na at *
    generalize nearB b = nb at *
    generalize nearB c = nc at *
    have HA := Lib.hid hall
    clear hall
    cases na
    case false =>
      go_wp2_with (first | ((go_at_call 23; (with_reducible refine (n1 _).mono ?_); rintro e w' ⟨rfl, h⟩; have hbw := Below_then hbw h (Nat.le_refl _); have hX := Blk_below hX h (Blk_lt hX); have hY := Blk_below hY h (Blk_lt hY); have hZ := Blk_below hZ h (Blk_lt hZ); have x0 := Blk_cell hX 0; have x1 := Blk_cell hX 1; have x2 := Blk_cell hX 2; have x3 := Blk_cell hX 3; have y0 := Blk_cell hY 0; have y1 := Blk_cell hY 1; have y2 := Blk_cell hY 2; have y3 := Blk_cell hY 3; have z0 := Blk_cell hZ 0; have z1 := Blk_cell hZ 1; have z2 := Blk_cell hZ 2; have z3 := Blk_cell hZ 3)) | ((go_at_call 9; (with_reducible refine (hkw _).mono ?_); rintro e w' ⟨rfl, h⟩; have hbw := Below_then hbw h (Nat.le_refl _); have hX := Blk_below hX h (Blk_lt hX); have hY := Blk_below hY h (Blk_lt hY); have hZ := Blk_below hZ h (Blk_lt hZ); have x0 := Blk_cell hX 0; have x1 := Blk_cell hX 1; have x2 := Blk_cell hX 2; have x3 := Blk_cell hX 3; have y0 := Blk_cell hY 0; have y1 := Blk_cell hY 1; have y2 := Blk_cell hY 2; have y3 := Blk_cell hY 3; have z0 := Blk_cell hZ 0; have z1 := Blk_cell hZ 1; have z2 := Blk_cell hZ 2; have z3 := Blk_cell hZ 3)))
      go_ret
      exact ⟨rfl, hbw⟩
    case true =>
      cases nb
      case false =>
        go_wp2_with (first | ((go_at_call 23; (with_reducible refine (n1 _).mono ?_); rintro e w' ⟨rfl, h⟩; have hbw := Below_then hbw h (Nat.le_refl _); have hX := Blk_below hX h (Blk_lt hX); have hY := Blk_below hY h (Blk_lt hY); have hZ := Blk_below hZ h (Blk_lt hZ); have x0 := Blk_cell hX 0; have x1 := Blk_cell hX 1; have x2 := Blk_cell hX 2; have x3 := Blk_cell hX 3; have y0 := Blk_cell hY 0; have y1 := Blk_cell hY 1; have y2 := Blk_cell hY 2; have y3 := Blk_cell hY 3; have z0 := Blk_cell hZ 0; have z1 := Blk_cell hZ 1; have z2 := Blk_cell hZ 2; have z3 := Blk_cell hZ 3)) | ((go_at_call 23; (with_reducible refine (n2 _).mono ?_); rintro e w' ⟨rfl, h⟩; have hbw := Below_then hbw h (Nat.le_refl _); have hX := Blk_below hX h (Blk_lt hX); have hY := Blk_below hY h (Blk_lt hY); have hZ := Blk_below hZ h (Blk_lt hZ); have x0 := Blk_cell hX 0; have x1 := Blk_cell hX 1; have x2 := Blk_cell hX 2; have x3 := Blk_cell hX 3; have y0 := Blk_cell hY 0; have y1 := Blk_cell hY 1; have y2 := Blk_cell hY 2; have y3 := Blk_cell hY 3; have z0 := Blk_cell hZ 0; have z1 := Blk_cell hZ 1; have z2 := Blk_cell hZ 2; have z3 := Blk_cell hZ 3)) | ((go_at_call 9; (with_reducible refine (hkw _).mono ?_); rintro e w' ⟨rfl, h⟩; have hbw := Below_then hbw h (Nat.le_refl _); have hX := Blk_below hX h (Blk_lt hX); have hY := Blk_below hY h (Blk_lt hY); have hZ := Blk_below hZ h (Blk_lt hZ); have x0 := Blk_cell hX 0; have x1 := Blk_cell hX 1; have x2 := Blk_cell hX 2; have x3 := Blk_cell hX 3; have y0 := Blk_cell hY 0; have y1 := Blk_cell hY 1; have y2 := Blk_cell hY 2; have y3 := Blk_cell hY 3; have z0 := Blk_cell hZ 0; have z1 := Blk_cell hZ 1; have z2 := Blk_cell hZ 2; have z3 := Blk_cell hZ 3)))
        go_ret
        exact ⟨rfl, hbw⟩
      case true =>
        cases nc
        case false =>
          go_wp2_with (first | ((go_at_call 23; (with_reducible refine (n1 _).mono ?_); rintro e w' ⟨rfl, h⟩; have hbw := Below_then hbw h (Nat.le_refl _); have hX := Blk_below hX h (Blk_lt hX); have hY := Blk_below hY h (Blk_lt hY); have hZ := Blk_below hZ h (Blk_lt hZ); have x0 := Blk_cell hX 0; have x1 := Blk_cell hX 1; have x2 := Blk_cell hX 2; have x3 := Blk_cell hX 3; have y0 := Blk_cell hY 0; have y1 := Blk_cell hY 1; have y2 := Blk_cell hY 2; have y3 := Blk_cell hY 3; have z0 := Blk_cell hZ 0; have z1 := Blk_cell hZ 1; have z2 := Blk_cell hZ 2; have z3 := Blk_cell hZ 3)) | ((go_at_call 23; (with_reducible refine (n2 _).mono ?_); rintro e w' ⟨rfl, h⟩; have hbw := Below_then hbw h (Nat.le_refl _); have hX := Blk_below hX h (Blk_lt hX); have hY := Blk_below hY h (Blk_lt hY); have hZ := Blk_below hZ h (Blk_lt hZ); have x0 := Blk_cell hX 0; have x1 := Blk_cell hX 1; have x2 := Blk_cell hX 2; have x3 := Blk_cell hX 3; have y0 := Blk_cell hY 0; have y1 := Blk_cell hY 1; have y2 := Blk_cell hY 2; have y3 := Blk_cell hY 3; have z0 := Blk_cell hZ 0; have z1 := Blk_cell hZ 1; have z2 := Blk_cell hZ 2; have z3 := Blk_cell hZ 3)) | ((go_at_call 23; (with_reducible refine (n3 _).mono ?_); rintro e w' ⟨rfl, h⟩; have hbw := Below_then hbw h (Nat.le_refl _); have hX := Blk_below hX h (Blk_lt hX); have hY := Blk_below hY h (Blk_lt hY); have hZ := Blk_below hZ h (Blk_lt hZ); have x0 := Blk_cell hX 0; have x1 := Blk_cell hX 1; have x2 := Blk_cell hX 2; have x3 := Blk_cell hX 3; have y0 := Blk_cell hY 0; have y1 := Blk_cell hY 1; have y2 := Blk_cell hY 2; have y3 := Blk_cell hY 3; have z0 := Blk_cell hZ 0; have z1 := Blk_cell hZ 1; have z2 := Blk_cell hZ 2; have z3 := Blk_cell hZ 3)) | ((go_at_call 9; (with_reducible refine (hkw _).mono ?_); rintro e w' ⟨rfl, h⟩; have hbw := Below_then hbw h (Nat.le_refl _); have hX := Blk_below hX h (Blk_lt hX); have hY := Blk_below hY h (Blk_lt hY); have hZ := Blk_below hZ h (Blk_lt hZ); have x0 := Blk_cell hX 0; have x1 := Blk_cell hX 1; have x2 := Blk_cell hX 2; have x3 := Blk_cell hX 3; have y0 := Blk_cell hY 0; have y1 := Blk_cell hY 1; have y2 := Blk_cell hY 2; have y3 := Blk_cell hY 3; have z0 := Blk_cell hZ 0; have z1 := Blk_cell hZ 1; have z2 := Blk_cell hZ 2; have z3 := Blk_cell hZ 3)))
          go_ret
          exact ⟨rfl, hbw⟩
        case true => exact absurd ⟨rfl, rfl, rfl⟩ HA.out
  case pos =>
    obtain ⟨e1, e2, e3⟩ := hall
    rw [e1] at n1
    rw [e2] at n2
    rw [e3] at n3
    have na : a.near := nearB_of e1
    have nb : b.near := nearB_of e2
    have nc : c.near := nearB_of e3
    clear e1 e2 e3
    go_upto_region 3 with (first | ((go_at_call 23; (with_reducible refine (n1 _).mono ?_); rintro e w' ⟨rfl, h⟩; have hbw := Below_then hbw h (Nat.le_refl _); have hX := Blk_below hX h (Blk_lt hX); have hY := Blk_below hY h (Blk_lt hY); have hZ := Blk_below hZ h (Blk_lt hZ); have x0 := Blk_cell hX 0; have x1 := Blk_cell hX 1; have x2 := Blk_cell hX 2; have x3 := Blk_cell hX 3; have y0 := Blk_cell hY 0; have y1 := Blk_cell hY 1; have y2 := Blk_cell hY 2; have y3 := Blk_cell hY 3; have z0 := Blk_cell hZ 0; have z1 := Blk_cell hZ 1; have z2 := Blk_cell hZ 2; have z3 := Blk_cell hZ 3)) | ((go_at_call 23; (with_reducible refine (n2 _).mono ?_); rintro e w' ⟨rfl, h⟩; have hbw := Below_then hbw h (Nat.le_refl _); have hX := Blk_below hX h (Blk_lt hX); have hY := Blk_below hY h (Blk_lt hY); have hZ := Blk_below hZ h (Blk_lt hZ); have x0 := Blk_cell hX 0; have x1 := Blk_cell hX 1; have x2 := Blk_cell hX 2; have x3 := Blk_cell hX 3; have y0 := Blk_cell hY 0; have y1 := Blk_cell hY 1; have y2 := Blk_cell hY 2; have y3 := Blk_cell hY 3; have z0 := Blk_cell hZ 0; have z1 := Blk_cell hZ 1; have z2 := Blk_cell hZ 2; have z3 := Blk_cell hZ 3)) | ((go_at_call 23; (with_reducible refine (n3 _).mono ?_); rintro e w' ⟨rfl, h⟩; have hbw := Below_then hbw h (Nat.le_refl _); have hX := Blk_below hX h (Blk_lt hX); have hY := Blk_below hY h (Blk_lt hY); have hZ := Blk_below hZ h (Blk_lt hZ); have x0 := Blk_cell hX 0; have x1 := Blk_cell hX 1; have x2 := Blk_cell hX 2; have x3 := Blk_cell hX 3; have y0 := Blk_cell hY 0; have y1 := Blk_cell hY 1; have y2 := Blk_cell hY 2; have y3 := Blk_cell hY 3; have z0 := Blk_cell hZ 0; have z1 := Blk_cell hZ 1; have z2 := Blk_cell hZ 2; have z3 := Blk_cell hZ 3)))
    obtain ⟨w4, hw4⟩ : ∃ w4, w4 = w' := ⟨_, rfl⟩
    subst hw4
    have i1 := fun w => Inside_any a b ha hb w
    have i2 := fun w => Inside_any b c hb hc w
    have i3 := fun w => Inside_any a c ha hc w
    have m1 := fun w => Meet_any a c ha hc w
    have m2 := fun w => Meet_any b c hb hc w
    unfold qv at i1 i2 i3 m1 m2
    have HT1 := Lib.hid (@InB_trans a b c)
    have HT2 := Lib.hid (@MeetB_in a b c)
    generalize InB a b = p at *
    generalize InB b c = q at *
    generalize InB a c = r at *
    generalize MeetB a c = s at *
    generalize MeetB b c = t at *
    go_cut [51] (fun v wx => v = .bool false ∧ Below w4.heap.size w4 wx)
    case first =>
      have hbw := Below.refl w4.heap.size w4
      cases p
      case false =>
        go_wp2_with (first | ((go_at_call 18; (with_reducible refine (i1 _).mono ?_); rintro e w' ⟨rfl, h⟩; have hbw := Below_then hbw h (Nat.le_refl _); have hX := Blk_below hX h (Blk_lt hX); have hY := Blk_below hY h (Blk_lt hY); have hZ := Blk_below hZ h (Blk_lt hZ); have x0 := Blk_cell hX 0; have x1 := Blk_cell hX 1; have x2 := Blk_cell hX 2; have x3 := Blk_cell hX 3; have y0 := Blk_cell hY 0; have y1 := Blk_cell hY 1; have y2 := Blk_cell hY 2; have y3 := Blk_cell hY 3; have z0 := Blk_cell hZ 0; have z1 := Blk_cell hZ 1; have z2 := Blk_cell hZ 2; have z3 := Blk_cell hZ 3)) | ((go_at_call 18; (with_reducible refine (i2 _).mono ?_); rintro e w' ⟨rfl, h⟩; have hbw := Below_then hbw h (Nat.le_refl _); have hX := Blk_below hX h (Blk_lt hX); have hY := Blk_below hY h (Blk_lt hY); have hZ := Blk_below hZ h (Blk_lt hZ); have x0 := Blk_cell hX 0; have x1 := Blk_cell hX 1; have x2 := Blk_cell hX 2; have x3 := Blk_cell hX 3; have y0 := Blk_cell hY 0; have y1 := Blk_cell hY 1; have y2 := Blk_cell hY 2; have y3 := Blk_cell hY 3; have z0 := Blk_cell hZ 0; have z1 := Blk_cell hZ 1; have z2 := Blk_cell hZ 2; have z3 := Blk_cell hZ 3)) | ((go_at_call 18; (with_reducible refine (i3 _).mono ?_); rintro e w' ⟨rfl, h⟩; have hbw := Below_then hbw h (Nat.le_refl _); have hX := Blk_below hX h (Blk_lt hX); have hY := Blk_below hY h (Blk_lt hY); have hZ := Blk_below hZ h (Blk_lt hZ); have x0 := Blk_cell hX 0; have x1 := Blk_cell hX 1; have x2 := Blk_cell hX 2; have x3 := Blk_cell hX 3; have y0 := Blk_cell hY 0; have y1 := Blk_cell hY 1; have y2 := Blk_cell hY 2; have y3 := Blk_cell hY 3; have z0 := Blk_cell hZ 0; have z1 := Blk_cell hZ 1; have z2 := Blk_cell hZ 2; have z3 := Blk_cell hZ 3)) | ((go_at_call 16; (with_reducible refine (m1 _).mono ?_); rintro e w' ⟨rfl, h⟩; have hbw := Below_then hbw h (Nat.le_refl _); have hX := Blk_below hX h (Blk_lt hX); have hY := Blk_below hY h (Blk_lt hY); have hZ := Blk_below hZ h (Blk_lt hZ); have x0 := Blk_cell hX 0; have x1 := Blk_cell hX 1; have x2 := Blk_cell hX 2; have x3 := Blk_cell hX 3; have y0 := Blk_cell hY 0; have y1 := Blk_cell hY 1; have y2 := Blk_cell hY 2; have y3 := Blk_cell hY 3; have z0 := Blk_cell hZ 0; have z1 := Blk_cell hZ 1; have z2 := Blk_cell hZ 2; have z3 := Blk_cell hZ 3)) | ((go_at_call 16; (with_reducible refine (m2 _).mono ?_); rintro e w' ⟨rfl, h⟩; have hbw := Below_then hbw h (Nat.le_refl _); have hX := Blk_below hX h (Blk_lt hX); have hY := Blk_below hY h (Blk_lt hY); have hZ := Blk_below hZ h (Blk_lt hZ); have x0 := Blk_cell hX 0; have x1 := Blk_cell hX 1; have x2 := Blk_cell hX 2; have x3 := Blk_cell hX 3; have y0 := Blk_cell hY 0; have y1 := Blk_cell hY 1; have y2 := Blk_cell hY 2; have y3 := Blk_cell hY 3; have z0 := Blk_cell hZ 0; have z1 := Blk_cell hZ 1; have z2 := Blk_cell hZ 2; have z3 := Blk_cell hZ 3)))
        go_meet
        exact ⟨rfl, hbw⟩
      case true =>
        have hqr : q = false ∨ (q = true ∧ r = true) := by
          cases q
          · exact .inl rfl
          · exact .inr ⟨rfl, HT1.out rfl rfl⟩
        have hst : s = false ∨ (s = true ∧ t = true) := by
          cases s
          · exact .inl rfl
          · exact .inr ⟨rfl, HT2.out rfl rfl⟩
        clear HT1 HT2
        rcases hqr with rfl | ⟨rfl, rfl⟩ <;> rcases hst with rfl | ⟨rfl, rfl⟩
        all_goals
          go_wp2_with (first | ((go_at_call 18; (with_reducible refine (i1 _).mono ?_); rintro e w' ⟨rfl, h⟩; have hbw := Below_then hbw h (Nat.le_refl _); have hX := Blk_below hX h (Blk_lt hX); have hY := Blk_below hY h (Blk_lt hY); have hZ := Blk_below hZ h (Blk_lt hZ); have x0 := Blk_cell hX 0; have x1 := Blk_cell hX 1; have x2 := Blk_cell hX 2; have x3 := Blk_cell hX 3; have y0 := Blk_cell hY 0; have y1 := Blk_cell hY 1; have y2 := Blk_cell hY 2; have y3 := Blk_cell hY 3; have z0 := Blk_cell hZ 0; have z1 := Blk_cell hZ 1; have z2 := Blk_cell hZ 2; have z3 := Blk_cell hZ 3)) | ((go_at_call 18; (with_reducible refine (i2 _).mono ?_); rintro e w' ⟨rfl, h⟩; have hbw := Below_then hbw h (Nat.le_refl _); have hX := Blk_below hX h (Blk_lt hX); have hY := Blk_below hY h (Blk_lt hY); have hZ := Blk_below hZ h (Blk_lt hZ); have x0 := Blk_cell hX 0; have x1 := Blk_cell hX 1; have x2 := Blk_cell hX 2; have x3 := Blk_cell hX 3; have y0 := Blk_cell hY 0; have y1 := Blk_cell hY 1; have y2 := Blk_cell hY 2; have y3 := Blk_cell hY 3; have z0 := Blk_cell hZ 0; have z1 := Blk_cell hZ 1; have z2 := Blk_cell hZ 2; have z3 := Blk_cell hZ 3)) | ((go_at_call 18; (with_reducible refine (i3 _).mono ?_); rintro e w' ⟨rfl, h⟩; have hbw := Below_then hbw h (Nat.le_refl _); have hX := Blk_below hX h (Blk_lt hX); have hY := Blk_below hY h (Blk_lt hY); have hZ := Blk_below hZ h (Blk_lt hZ); have x0 := Blk_cell hX 0; have x1 := Blk_cell hX 1; have x2 := Blk_cell hX 2; have x3 := Blk_cell hX 3; have y0 := Blk_cell hY 0; have y1 := Blk_cell hY 1; have y2 := Blk_cell hY 2; have y3 := Blk_cell hY 3; have z0 := Blk_cell hZ 0; have z1 := Blk_cell hZ 1; have z2 := Blk_cell hZ 2; have z3 := Blk_cell hZ 3)) | ((go_at_call 16; (with_reducible refine (m1 _).mono ?_); rintro e w' ⟨rfl, h⟩; have hbw := Below_then hbw h (Nat.le_refl _); have hX := Blk_below hX h (Blk_lt hX); have hY := Blk_below hY h (Blk_lt hY); have hZ := Blk_below hZ h (Blk_lt hZ); have x0 := Blk_cell hX 0; have x1 := Blk_cell hX 1; have x2 := Blk_cell hX 2; have x3 := Blk_cell hX 3; have y0 := Blk_cell hY 0; have y1 := Blk_cell hY 1; have y2 := Blk_cell hY 2; have y3 := Blk_cell hY 3; have z0 := Blk_cell hZ 0; have z1 := Blk_cell hZ 1; have z2 := Blk_cell hZ 2; have z3 := Blk_cell hZ 3)) | ((go_at_call 16; (with_reducible refine (m2 _).mono ?_); rintro e w' ⟨rfl, h⟩; have hbw := Below_then hbw h (Nat.le_refl _); have hX := Blk_below hX h (Blk_lt hX); have hY := Blk_below hY h (Blk_lt hY); have hZ := Blk_below hZ h (Blk_lt hZ); have x0 := Blk_cell hX 0; have x1 := Blk_cell hX 1; have x2 := Blk_cell hX 2; have x3 := Blk_cell hX 3; have y0 := Blk_cell hY 0; have y1 := Blk_cell hY 1; have y2 := Blk_cell hY 2; have y3 := Blk_cell hY 3; have z0 := Blk_cell hZ 0; have z1 := Blk_cell hZ 1; have z2 := Blk_cell hZ 2; have z3 := Blk_cell hZ 3)))
          go_meet
          exact ⟨rfl, hbw⟩
    case rest =>
      obtain ⟨rfl, hb4⟩ := hcut
      clear i1 i2 i3 m1 m2 HT1 HT2
      (have hX := Blk_below hX hb4 (Blk_lt hX); have hY := Blk_below hY hb4 (Blk_lt hY); have hZ := Blk_below hZ hb4 (Blk_lt hZ); have x0 := Blk_cell hX 0; have x1 := Blk_cell hX 1; have x2 := Blk_cell hX 2; have x3 := Blk_cell hX 3; have y0 := Blk_cell hY 0; have y1 := Blk_cell hY 1; have y2 := Blk_cell hY 2; have y3 := Blk_cell hY 3; have z0 := Blk_cell hZ 0; have z1 := Blk_cell hZ 1; have z2 := Blk_cell hZ 2; have z3 := Blk_cell hZ 3)
      have hbw := Below_then hbw hb4 (Nat.le_refl _)
      obtain ⟨w5, hw5⟩ : ∃ w5, w5 = wc := ⟨_, rfl⟩
      subst hw5
      have k1 := fun w => cover2_any na.lim nb.lim w
      have k2 := fun w => cover2_any (join_lim na nb) nc.lim w
      have k3 := fun w => cover3_any na.lim nb.lim nc.lim w
      have hJ := (join_lim na nb).ok
      have J1 := join_in_l a b
      have J2 := join_in_r a b
      have J3 := join_in_l (join a b) c
      have J4 := join_in_r (join a b) c
      have J5 := InB_trans J1 J3
      have J6 := InB_trans J2 J3
      have hZo := join_ok (join_lim na nb) nc.lim
      have HM := Lib.hid (fun h : someB c = true => (MeetB_comm (join (join a b) c) c).trans (InB_Meet c (join (join a b) c) J4 h))
      have HS := Lib.hid (show someB c = (decide (0 < c.c) && decide (0 < c.d)) from rfl)
      generalize join a b = J at *
      generalize join J c = Z at *
      have i1 := fun w => Inside_any a Z ha hZo w
      have i2 := fun w => Inside_any b Z hb hZo w
      have i3 := fun w => Inside_any c Z hc hZo w
      have i4 := fun w => Inside_any J Z hJ hZo w
      have m1 := fun w => Meet_any Z c hZo hc w
      rw [J5] at i1
      rw [J6] at i2
      rw [J4] at i3
      rw [J3] at i4
      generalize MeetB Z c = M at *
      generalize someB c = S at *
      unfold qv at i1 i2 i3 i4 m1
      clear J1 J2 J3 J4 J5 J6 na nb nc ha hb hc hJ hZo
      unfold qv at k1 k2 k3
      go_upto_region 6 with ((go_at_call 21; (with_reducible refine (k1 _).mono ?_); rintro e w' ⟨rfl, h⟩; have hbw := Below_then hbw h (Nat.le_refl _); have hX := Blk_below hX h (Blk_lt hX); have hY := Blk_below hY h (Blk_lt hY); have hZ := Blk_below hZ h (Blk_lt hZ); have x0 := Blk_cell hX 0; have x1 := Blk_cell hX 1; have x2 := Blk_cell hX 2; have x3 := Blk_cell hX 3; have y0 := Blk_cell hY 0; have y1 := Blk_cell hY 1; have y2 := Blk_cell hY 2; have y3 := Blk_cell hY 3; have z0 := Blk_cell hZ 0; have z1 := Blk_cell hZ 1; have z2 := Blk_cell hZ 2; have z3 := Blk_cell hZ 3))
      have hV := Blk_new w' 33 #[.int .i64 J.a, .int .i64 J.b, .int .i64 J.c, .int .i64 J.d]
      have hX := Blk_alloc hX (.cells #[.int .i64 J.a, .int .i64 J.b, .int .i64 J.c, .int .i64 J.d] 33)
      have hY := Blk_alloc hY (.cells #[.int .i64 J.a, .int .i64 J.b, .int .i64 J.c, .int .i64 J.d] 33)
      have hZ := Blk_alloc hZ (.cells #[.int .i64 J.a, .int .i64 J.b, .int .i64 J.c, .int .i64 J.d] 33)
      have hbw := hbw.alloc hbw.size (.cells #[.int .i64 J.a, .int .i64 J.b, .int .i64 J.c, .int .i64 J.d] 33)
      generalize hww : w'.alloc (.cells #[.int .i64 J.a, .int .i64 J.b, .int .i64 J.c, .int .i64 J.d] 33) = ww at *
      clear hww
      have x0 := Blk_cell hX 0
      have x1 := Blk_cell hX 1
      have x2 := Blk_cell hX 2
      have x3 := Blk_cell hX 3
      have y0 := Blk_cell hY 0
      have y1 := Blk_cell hY 1
      have y2 := Blk_cell hY 2
      have y3 := Blk_cell hY 3
      have z0 := Blk_cell hZ 0
      have z1 := Blk_cell hZ 1
      have z2 := Blk_cell hZ 2
      have z3 := Blk_cell hZ 3
      have v0 := Blk_cell hV 0
      have v1 := Blk_cell hV 1
      have v2 := Blk_cell hV 2
      have v3 := Blk_cell hV 3
      go_upto_region 7 with ((go_at_call 21; (with_reducible refine (k2 _).mono ?_); rintro e w' ⟨rfl, h⟩; have hbw := Below_then hbw h (Nat.le_refl _); have hX := Blk_below hX h (Blk_lt hX); have hY := Blk_below hY h (Blk_lt hY); have hZ := Blk_below hZ h (Blk_lt hZ); have x0 := Blk_cell hX 0; have x1 := Blk_cell hX 1; have x2 := Blk_cell hX 2; have x3 := Blk_cell hX 3; have y0 := Blk_cell hY 0; have y1 := Blk_cell hY 1; have y2 := Blk_cell hY 2; have y3 := Blk_cell hY 3; have z0 := Blk_cell hZ 0; have z1 := Blk_cell hZ 1; have z2 := Blk_cell hZ 2; have z3 := Blk_cell hZ 3; have hV := Blk_below hV h (Blk_lt hV); have v0 := Blk_cell hV 0; have v1 := Blk_cell hV 1; have v2 := Blk_cell hV 2; have v3 := Blk_cell hV 3))
      have hU := Blk_new w' 33 #[.int .i64 Z.a, .int .i64 Z.b, .int .i64 Z.c, .int .i64 Z.d]
      have hX := Blk_alloc hX (.cells #[.int .i64 Z.a, .int .i64 Z.b, .int .i64 Z.c, .int .i64 Z.d] 33)
      have hY := Blk_alloc hY (.cells #[.int .i64 Z.a, .int .i64 Z.b, .int .i64 Z.c, .int .i64 Z.d] 33)
      have hZ := Blk_alloc hZ (.cells #[.int .i64 Z.a, .int .i64 Z.b, .int .i64 Z.c, .int .i64 Z.d] 33)
      have hV := Blk_alloc hV (.cells #[.int .i64 Z.a, .int .i64 Z.b, .int .i64 Z.c, .int .i64 Z.d] 33)
      have hbw := hbw.alloc hbw.size (.cells #[.int .i64 Z.a, .int .i64 Z.b, .int .i64 Z.c, .int .i64 Z.d] 33)
      generalize hww : w'.alloc (.cells #[.int .i64 Z.a, .int .i64 Z.b, .int .i64 Z.c, .int .i64 Z.d] 33) = ww at *
      clear hww
      have x0 := Blk_cell hX 0
      have x1 := Blk_cell hX 1
      have x2 := Blk_cell hX 2
      have x3 := Blk_cell hX 3
      have y0 := Blk_cell hY 0
      have y1 := Blk_cell hY 1
      have y2 := Blk_cell hY 2
      have y3 := Blk_cell hY 3
      have z0 := Blk_cell hZ 0
      have z1 := Blk_cell hZ 1
      have z2 := Blk_cell hZ 2
      have z3 := Blk_cell hZ 3
      have v0 := Blk_cell hV 0
      have v1 := Blk_cell hV 1
      have v2 := Blk_cell hV 2
      have v3 := Blk_cell hV 3
      have u0 := Blk_cell hU 0
      have u1 := Blk_cell hU 1
      have u2 := Blk_cell hU 2
      have u3 := Blk_cell hU 3
      go_upto_region 8 with ((go_at_call 21; (with_reducible refine (k3 _).mono ?_); rintro e w' ⟨rfl, h⟩; have hbw := Below_then hbw h (Nat.le_refl _); have hX := Blk_below hX h (Blk_lt hX); have hY := Blk_below hY h (Blk_lt hY); have hZ := Blk_below hZ h (Blk_lt hZ); have x0 := Blk_cell hX 0; have x1 := Blk_cell hX 1; have x2 := Blk_cell hX 2; have x3 := Blk_cell hX 3; have y0 := Blk_cell hY 0; have y1 := Blk_cell hY 1; have y2 := Blk_cell hY 2; have y3 := Blk_cell hY 3; have z0 := Blk_cell hZ 0; have z1 := Blk_cell hZ 1; have z2 := Blk_cell hZ 2; have z3 := Blk_cell hZ 3; have hV := Blk_below hV h (Blk_lt hV); have v0 := Blk_cell hV 0; have v1 := Blk_cell hV 1; have v2 := Blk_cell hV 2; have v3 := Blk_cell hV 3))
      have hU := Blk_below hU h (Blk_lt hU)
      have hT := Blk_new w' 33 #[.int .i64 Z.a, .int .i64 Z.b, .int .i64 Z.c, .int .i64 Z.d]
      have hX := Blk_alloc hX (.cells #[.int .i64 Z.a, .int .i64 Z.b, .int .i64 Z.c, .int .i64 Z.d] 33)
      have hY := Blk_alloc hY (.cells #[.int .i64 Z.a, .int .i64 Z.b, .int .i64 Z.c, .int .i64 Z.d] 33)
      have hZ := Blk_alloc hZ (.cells #[.int .i64 Z.a, .int .i64 Z.b, .int .i64 Z.c, .int .i64 Z.d] 33)
      have hV := Blk_alloc hV (.cells #[.int .i64 Z.a, .int .i64 Z.b, .int .i64 Z.c, .int .i64 Z.d] 33)
      have hU := Blk_alloc hU (.cells #[.int .i64 Z.a, .int .i64 Z.b, .int .i64 Z.c, .int .i64 Z.d] 33)
      have hbw := hbw.alloc hbw.size (.cells #[.int .i64 Z.a, .int .i64 Z.b, .int .i64 Z.c, .int .i64 Z.d] 33)
      generalize hww : w'.alloc (.cells #[.int .i64 Z.a, .int .i64 Z.b, .int .i64 Z.c, .int .i64 Z.d] 33) = ww at *
      clear hww
      have x0 := Blk_cell hX 0
      have x1 := Blk_cell hX 1
      have x2 := Blk_cell hX 2
      have x3 := Blk_cell hX 3
      have y0 := Blk_cell hY 0
      have y1 := Blk_cell hY 1
      have y2 := Blk_cell hY 2
      have y3 := Blk_cell hY 3
      have z0 := Blk_cell hZ 0
      have z1 := Blk_cell hZ 1
      have z2 := Blk_cell hZ 2
      have z3 := Blk_cell hZ 3
      have v0 := Blk_cell hV 0
      have v1 := Blk_cell hV 1
      have v2 := Blk_cell hV 2
      have v3 := Blk_cell hV 3
      have u0 := Blk_cell hU 0
      have u1 := Blk_cell hU 1
      have u2 := Blk_cell hU 2
      have u3 := Blk_cell hU 3
      have t0 := Blk_cell hT 0
      have t1 := Blk_cell hT 1
      have t2 := Blk_cell hT 2
      have t3 := Blk_cell hT 3
      go_upto_region 10 with (first | ((go_at_call 18; (with_reducible refine (i1 _).mono ?_); rintro e w' ⟨rfl, h⟩; have hbw := Below_then hbw h (Nat.le_refl _); have hX := Blk_below hX h (Blk_lt hX); have hY := Blk_below hY h (Blk_lt hY); have hZ := Blk_below hZ h (Blk_lt hZ); have x0 := Blk_cell hX 0; have x1 := Blk_cell hX 1; have x2 := Blk_cell hX 2; have x3 := Blk_cell hX 3; have y0 := Blk_cell hY 0; have y1 := Blk_cell hY 1; have y2 := Blk_cell hY 2; have y3 := Blk_cell hY 3; have z0 := Blk_cell hZ 0; have z1 := Blk_cell hZ 1; have z2 := Blk_cell hZ 2; have z3 := Blk_cell hZ 3; have hV := Blk_below hV h (Blk_lt hV); have v0 := Blk_cell hV 0; have v1 := Blk_cell hV 1; have v2 := Blk_cell hV 2; have v3 := Blk_cell hV 3; have hT := Blk_below hT h (Blk_lt hT); have t0 := Blk_cell hT 0; have t1 := Blk_cell hT 1; have t2 := Blk_cell hT 2; have t3 := Blk_cell hT 3)) | ((go_at_call 18; (with_reducible refine (i2 _).mono ?_); rintro e w' ⟨rfl, h⟩; have hbw := Below_then hbw h (Nat.le_refl _); have hX := Blk_below hX h (Blk_lt hX); have hY := Blk_below hY h (Blk_lt hY); have hZ := Blk_below hZ h (Blk_lt hZ); have x0 := Blk_cell hX 0; have x1 := Blk_cell hX 1; have x2 := Blk_cell hX 2; have x3 := Blk_cell hX 3; have y0 := Blk_cell hY 0; have y1 := Blk_cell hY 1; have y2 := Blk_cell hY 2; have y3 := Blk_cell hY 3; have z0 := Blk_cell hZ 0; have z1 := Blk_cell hZ 1; have z2 := Blk_cell hZ 2; have z3 := Blk_cell hZ 3; have hV := Blk_below hV h (Blk_lt hV); have v0 := Blk_cell hV 0; have v1 := Blk_cell hV 1; have v2 := Blk_cell hV 2; have v3 := Blk_cell hV 3; have hT := Blk_below hT h (Blk_lt hT); have t0 := Blk_cell hT 0; have t1 := Blk_cell hT 1; have t2 := Blk_cell hT 2; have t3 := Blk_cell hT 3)) | ((go_at_call 18; (with_reducible refine (i3 _).mono ?_); rintro e w' ⟨rfl, h⟩; have hbw := Below_then hbw h (Nat.le_refl _); have hX := Blk_below hX h (Blk_lt hX); have hY := Blk_below hY h (Blk_lt hY); have hZ := Blk_below hZ h (Blk_lt hZ); have x0 := Blk_cell hX 0; have x1 := Blk_cell hX 1; have x2 := Blk_cell hX 2; have x3 := Blk_cell hX 3; have y0 := Blk_cell hY 0; have y1 := Blk_cell hY 1; have y2 := Blk_cell hY 2; have y3 := Blk_cell hY 3; have z0 := Blk_cell hZ 0; have z1 := Blk_cell hZ 1; have z2 := Blk_cell hZ 2; have z3 := Blk_cell hZ 3; have hV := Blk_below hV h (Blk_lt hV); have v0 := Blk_cell hV 0; have v1 := Blk_cell hV 1; have v2 := Blk_cell hV 2; have v3 := Blk_cell hV 3; have hT := Blk_below hT h (Blk_lt hT); have t0 := Blk_cell hT 0; have t1 := Blk_cell hT 1; have t2 := Blk_cell hT 2; have t3 := Blk_cell hT 3)) | ((go_at_call 18; (with_reducible refine (i4 _).mono ?_); rintro e w' ⟨rfl, h⟩; have hbw := Below_then hbw h (Nat.le_refl _); have hX := Blk_below hX h (Blk_lt hX); have hY := Blk_below hY h (Blk_lt hY); have hZ := Blk_below hZ h (Blk_lt hZ); have x0 := Blk_cell hX 0; have x1 := Blk_cell hX 1; have x2 := Blk_cell hX 2; have x3 := Blk_cell hX 3; have y0 := Blk_cell hY 0; have y1 := Blk_cell hY 1; have y2 := Blk_cell hY 2; have y3 := Blk_cell hY 3; have z0 := Blk_cell hZ 0; have z1 := Blk_cell hZ 1; have z2 := Blk_cell hZ 2; have z3 := Blk_cell hZ 3; have hV := Blk_below hV h (Blk_lt hV); have v0 := Blk_cell hV 0; have v1 := Blk_cell hV 1; have v2 := Blk_cell hV 2; have v3 := Blk_cell hV 3; have hT := Blk_below hT h (Blk_lt hT); have t0 := Blk_cell hT 0; have t1 := Blk_cell hT 1; have t2 := Blk_cell hT 2; have t3 := Blk_cell hT 3)))
      have hcase : M = true ∨ (M = false ∧ c.c ≤ 0) ∨ (M = false ∧ 0 < c.c ∧ c.d ≤ 0) := by
        cases M
        · cases S
          · have e := HS.out
            simp at e
            by_cases h1 : 0 < c.c
            · exact .inr (.inr ⟨rfl, h1, e h1⟩)
            · exact .inr (.inl ⟨rfl, by omega⟩)
          · exact absurd (HM.out rfl) (by decide)
        · exact .inl rfl
      clear HM HS
      rcases hcase with rfl | ⟨rfl, h1⟩ | ⟨rfl, h1, h2⟩
      all_goals
        go_wp2_with (first | ((go_at_call 16; (with_reducible refine (m1 _).mono ?_); rintro e w' ⟨rfl, h⟩; have hbw := Below_then hbw h (Nat.le_refl _); have hX := Blk_below hX h (Blk_lt hX); have hY := Blk_below hY h (Blk_lt hY); have hZ := Blk_below hZ h (Blk_lt hZ); have x0 := Blk_cell hX 0; have x1 := Blk_cell hX 1; have x2 := Blk_cell hX 2; have x3 := Blk_cell hX 3; have y0 := Blk_cell hY 0; have y1 := Blk_cell hY 1; have y2 := Blk_cell hY 2; have y3 := Blk_cell hY 3; have z0 := Blk_cell hZ 0; have z1 := Blk_cell hZ 1; have z2 := Blk_cell hZ 2; have z3 := Blk_cell hZ 3; have hV := Blk_below hV h (Blk_lt hV); have v0 := Blk_cell hV 0; have v1 := Blk_cell hV 1; have v2 := Blk_cell hV 2; have v3 := Blk_cell hV 3; have hT := Blk_below hT h (Blk_lt hT); have t0 := Blk_cell hT 0; have t1 := Blk_cell hT 1; have t2 := Blk_cell hT 2; have t3 := Blk_cell hT 3)) | ((go_at_call 9; (with_reducible refine (hkw _).mono ?_); rintro e w' ⟨rfl, h⟩; have hbw := Below_then hbw h (Nat.le_refl _); have hX := Blk_below hX h (Blk_lt hX); have hY := Blk_below hY h (Blk_lt hY); have hZ := Blk_below hZ h (Blk_lt hZ); have x0 := Blk_cell hX 0; have x1 := Blk_cell hX 1; have x2 := Blk_cell hX 2; have x3 := Blk_cell hX 3; have y0 := Blk_cell hY 0; have y1 := Blk_cell hY 1; have y2 := Blk_cell hY 2; have y3 := Blk_cell hY 3; have z0 := Blk_cell hZ 0; have z1 := Blk_cell hZ 1; have z2 := Blk_cell hZ 2; have z3 := Blk_cell hZ 3; have hV := Blk_below hV h (Blk_lt hV); have v0 := Blk_cell hV 0; have v1 := Blk_cell hV 1; have v2 := Blk_cell hV 2; have v3 := Blk_cell hV 3; have hT := Blk_below hT h (Blk_lt hT); have t0 := Blk_cell hT 0; have t1 := Blk_cell hT 1; have t2 := Blk_cell hT 2; have t3 := Blk_cell hT 3)))
        go_ret
        exact ⟨rfl, hbw⟩
theorem chain_walk (w : World) {ca cb cc : Array Value} {x y z : Int × Int × Int × Int} (h0 : E33 w (Value.agg ca).cells.toList x) (h1 : E33 w (Value.agg cb).cells.toList y) (h2 : E33 w (Value.agg cc).cells.toList z) :
    Calls Try.prog 8 #[.agg ca, .agg cb, .agg cc] w fun e w' => e = .returned (.bool true) ∧ Below w.heap.size w w' := by
  obtain ⟨r, hr, e0⟩ := quad_rc h0
  obtain ⟨q, hq, e1⟩ := quad_rc h1
  obtain ⟨s, hs, e2⟩ := quad_rc h2
  rw [e0, e1, e2]
  exact chain_any r q s hr hq hs w
end Go.Proofs.Ytfhbndfhmphnaaa
