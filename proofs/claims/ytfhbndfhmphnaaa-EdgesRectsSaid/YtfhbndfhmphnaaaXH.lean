/-
  EdgesRects: what grows, meets, lies inside, as by definition. No condition.
-/
import Derived.Test.YtfhbndfhmphnaaaXG
import Derived.Test.YtfhbndfhmphnaaaXD
set_option linter.unusedVariables false
set_option linter.unusedSimpArgs false
namespace Go.Proofs.Ytfhbndfhmphnaaa
open Go.RowKit Go.BigFrame


set_option maxRecDepth 20000 in
set_option maxHeartbeats 4000000 in
theorem rects_any (r q s : Q4) (hr : r.ok) (hq : q.ok) (hs : s.ok) (w : World) : Calls Try.prog 4 #[qv r, qv q, qv s] w fun e w' => e = .returned (.bool true) ∧ Below w.heap.size w w' := by
  have hX := Blk_alloc (Blk_alloc (Blk_new w 33 #[.int .i64 r.a, .int .i64 r.b, .int .i64 r.c, .int .i64 r.d]) (.cells #[.int .i64 q.a, .int .i64 q.b, .int .i64 q.c, .int .i64 q.d] 33)) (.cells #[.int .i64 s.a, .int .i64 s.b, .int .i64 s.c, .int .i64 s.d] 24)
  have hY := Blk_alloc (Blk_new (w.alloc (.cells #[.int .i64 r.a, .int .i64 r.b, .int .i64 r.c, .int .i64 r.d] 33)) 33 #[.int .i64 q.a, .int .i64 q.b, .int .i64 q.c, .int .i64 q.d]) (.cells #[.int .i64 s.a, .int .i64 s.b, .int .i64 s.c, .int .i64 s.d] 24)
  have hZ := Blk_new ((w.alloc (.cells #[.int .i64 r.a, .int .i64 r.b, .int .i64 r.c, .int .i64 r.d] 33)).alloc (.cells #[.int .i64 q.a, .int .i64 q.b, .int .i64 q.c, .int .i64 q.d] 33)) 24 #[.int .i64 s.a, .int .i64 s.b, .int .i64 s.c, .int .i64 s.d]
  have hbw : Below w.heap.size w (((w.alloc (.cells #[.int .i64 r.a, .int .i64 r.b, .int .i64 r.c, .int .i64 r.d] 33)).alloc (.cells #[.int .i64 q.a, .int .i64 q.b, .int .i64 q.c, .int .i64 q.d] 33)).alloc (.cells #[.int .i64 s.a, .int .i64 s.b, .int .i64 s.c, .int .i64 s.d] 24)) := by (repeat' (first | (with_reducible exact Below.refl _ _) | (with_reducible assumption) | (with_reducible refine Below.alloc ?_ ?_ _) | (with_reducible refine Below.drew ?_) | (with_reducible refine Below_drewN ?_ _) | (with_reducible refine Below.setCell ?_ ?_ _) | go_size))
  simp only [World.size_alloc] at hY hZ
  have g1 := fun w => grow_any r s hr hs w
  have g2 := fun w => rgrow_any r s hr hs w
  have m1 := fun w => Meet_any r q hr hq w
  have m2 := fun w => rMeet_any r q hr hq w
  have i1 := fun w => Inside_any r q hr hq w
  have i2 := fun w => rInside_any r q hr hq w
  have hkw := works_any
  generalize growV r s = p at *
  generalize growB r s = B at *
  generalize MeetB r q = M at *
  generalize InB r q = I at *
  unfold qv at *
  go_enter Try.func4, Try.ntmps4
  go_upto_region 1 with fail
  generalize ((w.alloc (.cells #[.int .i64 r.a, .int .i64 r.b, .int .i64 r.c, .int .i64 r.d] 33)).alloc (.cells #[.int .i64 q.a, .int .i64 q.b, .int .i64 q.c, .int .i64 q.d] 33)).alloc (.cells #[.int .i64 s.a, .int .i64 s.b, .int .i64 s.c, .int .i64 s.d] 24) = w3 at *
  have x0 := Blk_cell hX 0
  have x1 := Blk_cell hX 1
  have x2 := Blk_cell hX 2
  have x3 := Blk_cell hX 3
  have y0 := Blk_cell hY 0
  have y1 := Blk_cell hY 1
  have y2 := Blk_cell hY 2
  have y3 := Blk_cell hY 3
  have z0 := Blk_cell hZ 0
  have z1 := Blk_cell hZ 1
  have z2 := Blk_cell hZ 2
  have z3 := Blk_cell hZ 3
  go_upto_region 2 with ((go_at_call 14; (with_reducible refine (g1 _).mono ?_); rintro e w' ⟨rfl, h⟩; have hbw := Below_then hbw h (Nat.le_refl _); have hX := Blk_below hX h (Blk_lt hX); have hY := Blk_below hY h (Blk_lt hY); have hZ := Blk_below hZ h (Blk_lt hZ); have x0 := Blk_cell hX 0; have x1 := Blk_cell hX 1; have x2 := Blk_cell hX 2; have x3 := Blk_cell hX 3; have y0 := Blk_cell hY 0; have y1 := Blk_cell hY 1; have y2 := Blk_cell hY 2; have y3 := Blk_cell hY 3; have z0 := Blk_cell hZ 0; have z1 := Blk_cell hZ 1; have z2 := Blk_cell hZ 2; have z3 := Blk_cell hZ 3))
  have hP := Blk_new w' 33 #[.int .i64 p.a, .int .i64 p.b, .int .i64 p.c, .int .i64 p.d]
  have hX := Blk_alloc hX (.cells #[.int .i64 p.a, .int .i64 p.b, .int .i64 p.c, .int .i64 p.d] 33)
  have hY := Blk_alloc hY (.cells #[.int .i64 p.a, .int .i64 p.b, .int .i64 p.c, .int .i64 p.d] 33)
  have hZ := Blk_alloc hZ (.cells #[.int .i64 p.a, .int .i64 p.b, .int .i64 p.c, .int .i64 p.d] 33)
  have hbw := hbw.alloc hbw.size (.cells #[.int .i64 p.a, .int .i64 p.b, .int .i64 p.c, .int .i64 p.d] 33)
  generalize hww : w'.alloc (.cells #[.int .i64 p.a, .int .i64 p.b, .int .i64 p.c, .int .i64 p.d] 33) = ww at *
  clear hww
  have x0 := Blk_cell hX 0
  have x1 := Blk_cell hX 1
  have x2 := Blk_cell hX 2
  have x3 := Blk_cell hX 3
  have y0 := Blk_cell hY 0
  have y1 := Blk_cell hY 1
  have y2 := Blk_cell hY 2
  have y3 := Blk_cell hY 3
  have z0 := Blk_cell hZ 0
  have z1 := Blk_cell hZ 1
  have z2 := Blk_cell hZ 2
  have z3 := Blk_cell hZ 3
  have p0 := Blk_cell hP 0
  have p1 := Blk_cell hP 1
  have p2 := Blk_cell hP 2
  have p3 := Blk_cell hP 3
  go_upto_region 3 with ((go_at_call 15; (with_reducible refine (g2 _).mono ?_); rintro e w' ⟨rfl, h⟩; have hbw := Below_then hbw h (Nat.le_refl _); have hX := Blk_below hX h (Blk_lt hX); have hY := Blk_below hY h (Blk_lt hY); have hZ := Blk_below hZ h (Blk_lt hZ); have hP := Blk_below hP h (Blk_lt hP); have x0 := Blk_cell hX 0; have x1 := Blk_cell hX 1; have x2 := Blk_cell hX 2; have x3 := Blk_cell hX 3; have y0 := Blk_cell hY 0; have y1 := Blk_cell hY 1; have y2 := Blk_cell hY 2; have y3 := Blk_cell hY 3; have z0 := Blk_cell hZ 0; have z1 := Blk_cell hZ 1; have z2 := Blk_cell hZ 2; have z3 := Blk_cell hZ 3; have p0 := Blk_cell hP 0; have p1 := Blk_cell hP 1; have p2 := Blk_cell hP 2; have p3 := Blk_cell hP 3))
  have hQ := Blk_new w' 33 #[.int .i64 p.a, .int .i64 p.b, .int .i64 p.c, .int .i64 p.d]
  have hX := Blk_alloc hX (.cells #[.int .i64 p.a, .int .i64 p.b, .int .i64 p.c, .int .i64 p.d] 33)
  have hY := Blk_alloc hY (.cells #[.int .i64 p.a, .int .i64 p.b, .int .i64 p.c, .int .i64 p.d] 33)
  have hZ := Blk_alloc hZ (.cells #[.int .i64 p.a, .int .i64 p.b, .int .i64 p.c, .int .i64 p.d] 33)
  have hP := Blk_alloc hP (.cells #[.int .i64 p.a, .int .i64 p.b, .int .i64 p.c, .int .i64 p.d] 33)
  have hbw := hbw.alloc hbw.size (.cells #[.int .i64 p.a, .int .i64 p.b, .int .i64 p.c, .int .i64 p.d] 33)
  generalize hww : w'.alloc (.cells #[.int .i64 p.a, .int .i64 p.b, .int .i64 p.c, .int .i64 p.d] 33) = ww at *
  clear hww
  have x0 := Blk_cell hX 0
  have x1 := Blk_cell hX 1
  have x2 := Blk_cell hX 2
  have x3 := Blk_cell hX 3
  have y0 := Blk_cell hY 0
  have y1 := Blk_cell hY 1
  have y2 := Blk_cell hY 2
  have y3 := Blk_cell hY 3
  have z0 := Blk_cell hZ 0
  have z1 := Blk_cell hZ 1
  have z2 := Blk_cell hZ 2
  have z3 := Blk_cell hZ 3
  have p0 := Blk_cell hP 0
  have p1 := Blk_cell hP 1
  have p2 := Blk_cell hP 2
  have p3 := Blk_cell hP 3
  have q0 := Blk_cell hQ 0
  have q1 := Blk_cell hQ 1
  have q2 := Blk_cell hQ 2
  have q3 := Blk_cell hQ 3
  have x0 := fun z : Up ww => up_cell z x0
  have x1 := fun z : Up ww => up_cell z x1
  have x2 := fun z : Up ww => up_cell z x2
  have x3 := fun z : Up ww => up_cell z x3
  have y0 := fun z : Up ww => up_cell z y0
  have y1 := fun z : Up ww => up_cell z y1
  have y2 := fun z : Up ww => up_cell z y2
  have y3 := fun z : Up ww => up_cell z y3
  have p0 := fun z : Up ww => up_cell z p0
  have p1 := fun z : Up ww => up_cell z p1
  have p2 := fun z : Up ww => up_cell z p2
  have p3 := fun z : Up ww => up_cell z p3
  have q0 := fun z : Up ww => up_cell z q0
  have q1 := fun z : Up ww => up_cell z q1
  have q2 := fun z : Up ww => up_cell z q2
  have q3 := fun z : Up ww => up_cell z q3
  refine wp_region_up (by kernel_rfl) (by kernel_rfl) ?_
  repeat (go_big_quiet_step ((first | (go_at_call 16; (with_reducible refine up_call (m1 _))) | (go_at_call 17; (with_reducible refine up_call (m2 _))) | (go_at_call 18; (with_reducible refine up_call (i1 _))) | (go_at_call 19; (with_reducible refine up_call (i2 _))) | (go_at_call 9; (with_reducible refine up_call (hkw _))))))
  refine wpQuiet_nil ?_
  intro w' hup
  go_wp2_with fail
  go_ret
  exact ⟨rfl, Below_then hbw hup (Nat.le_refl _)⟩
theorem rects_walk (w : World) {ca cb cs : Array Value} {x y z : Int × Int × Int × Int} (h0 : E33 w (Value.agg ca).cells.toList x) (h1 : E33 w (Value.agg cb).cells.toList y) (h2 : E24 w (Value.agg cs).cells.toList z) :
    Calls Try.prog 4 #[.agg ca, .agg cb, .agg cs] w fun e w' => e = .returned (.bool true) ∧ Below w.heap.size w w' := by
  obtain ⟨r, hr, e0⟩ := quad_rc h0
  obtain ⟨q, hq, e1⟩ := quad_rc h1
  obtain ⟨s, hs, e2⟩ := quad_sd h2
  rw [e0, e1, e2]
  exact rects_any r q s hr hq hs w
end Go.Proofs.Ytfhbndfhmphnaaa
