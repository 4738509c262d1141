import Derived.Test.YtginfglonakfpaaC
import Derived.PlainAid
import Derived.Test.YtginfglonakfpaaBt
namespace Go.Proofs.Ytginfglonakfpaa
open Go.RowKit

theorem own_at {w : World} {B : Nat} {e : TypeId} {v : Value} {l : List Int} {n i : Nat} (h : w.ownsRow B e 1 v n (l.map (Value.int .i64))) (hi : i < n) :
    ∃ L c, v = .slice (some ⟨L, 0, none⟩) n c ∧ B ≤ L ∧ w.cell? ⟨L, i, none⟩ = some (.int .i64 (l.getD i 0)) ∧ w.frozen? ⟨L, i, none⟩ = false ∧ ∀ x, (w.setCell ⟨L, i, none⟩ (.int .i64 x)).ownsRow B e 1 v n ((l.set i x).map (Value.int .i64)) := by
  rcases h.2 with ⟨_, rfl⟩ | ⟨g, cap, cur, rfl, hb, hg, hc, hm, hcs, htake⟩
  · omega
  · have hl : l.length = n := by have := h.1; simpa using this
    refine ⟨g, cap, rfl, hb, ?_, h.frozenAt i, fun x => ?_⟩
    · rw [h.cellAt i (by omega)]; simp [show i < l.length by omega]
    · have := (h.stored i (.int .i64 x)).1
      simpa [List.map_set] using this

set_option maxHeartbeats 400000 in
theorem rdown_arg (B C : Nat) (v : Value) (l : List Int) (i : Int) (w : World) (h : Rs w B C v l) (hi : i < 0 ∨ (l.length : Int) ≤ i) :
    Calls Try.prog 17 #[.pointer (some ⟨C, 0, none⟩), .int .i64 i] w fun e w' => e = .returned (.tuple #[.int .i64 0, .int .i64 1]) ∧ w = w' := by
  obtain ⟨D, d, rfl, _, _⟩ := own_slice h.row
  have c0 := Blk_cell h.obj 0
  rcases hi with hi | hi
  · go_enter Try.func17, Try.ntmps17
    go_wp2
    go_ret2
    exact ⟨rfl, rfl⟩
  · have hi2 : ¬ i < 0 := by omega
    go_enter Try.func17, Try.ntmps17
    go_wp2
    go_ret2
    exact ⟨rfl, rfl⟩
set_option maxHeartbeats 400000 in
theorem rdown_zero (B C : Nat) (v : Value) (l : List Int) (i : Nat) (w : World) (h : Rs w B C v l) (hi : i < l.length) (h0 : l.getD i 0 = 0) :
    Calls Try.prog 17 #[.pointer (some ⟨C, 0, none⟩), .int .i64 i] w fun e w' => e = .returned (.tuple #[.int .i64 0, .int .i64 3]) ∧ w = w' := by
  obtain ⟨D, d, rfl, _, c1, f1, _⟩ := own_at h.row hi
  have c0 := Blk_cell h.obj 0
  rw [h0] at c1
  clear h0
  have i0 : ¬ (i : Int) < 0 := by omega
  have i1 : ¬ (l.length : Int) ≤ i := by omega
  go_enter Try.func17, Try.ntmps17
  go_wp2
  go_ret2
  exact ⟨rfl, rfl⟩
set_option maxHeartbeats 400000 in
theorem rdown_ok (B C : Nat) (v : Value) (l : List Int) (i : Nat) (w : World) (h : Rs w B C v l) (hi : i < l.length) (x : Int) (h0 : l.getD i 0 = x) (h1 : 0 < x) (h2 : x ≤ 9223372036854775807) :
    Calls Try.prog 17 #[.pointer (some ⟨C, 0, none⟩), .int .i64 i] w fun e w' => e = .returned (.tuple #[.int .i64 (x - 1), .int .i64 0]) ∧ w.grownBy w' v.ownBlock ∧ Rs w' B C v (l.set i (x - 1)) := by
  have hne := own_blk_ne h.row h.obj (by decide)
  obtain ⟨D, d, rfl, _, c1, f1, hset⟩ := own_at h.row hi
  have c0 := Blk_cell h.obj 0
  have hne' : C ≠ D := fun e => hne (by simp [Value.ownBlock, e])
  rw [h0] at c1
  clear h0
  have hR : Rs (w.setCell ⟨D, i, none⟩ (.int .i64 (x - 1))) B C (.slice (some ⟨D, 0, none⟩) l.length d) (l.set i (x - 1)) :=
    ⟨Blk_far h.obj (by simpa using hne') _, by rw [List.length_set]; exact hset _, h.le⟩
  have HR := Lib.hid hR
  clear hR hset
  have i0 : ¬ (i : Int) < 0 := by omega
  have i1 : ¬ (l.length : Int) ≤ i := by omega
  have d0 : (w.setCell ⟨D, i, none⟩ (.int .i64 (x - 1))).cell? ⟨C, 0, none⟩ = some (.slice (some ⟨D, 0, none⟩) l.length d) := Blk_cell (Blk_far h.obj (p := ⟨D, i, none⟩) (by simpa using hne') _) 0
  go_enter Try.func17, Try.ntmps17
  go_wp2
  go_ret2
  exact ⟨rfl, grown_set _ _ _ _, HR.out⟩
set_option maxHeartbeats 400000 in
theorem rleft_arg (B C : Nat) (v : Value) (l : List Int) (i : Int) (w : World) (h : Rs w B C v l) (hi : i < 0 ∨ (l.length : Int) ≤ i) :
    Calls Try.prog 19 #[.pointer (some ⟨C, 0, none⟩), .int .i64 i] w fun e w' => e = .returned (.tuple #[.int .i64 0, .int .i64 1]) ∧ w = w' := by
  obtain ⟨D, d, rfl, _, _⟩ := own_slice h.row
  have c0 := Blk_cell h.obj 0
  rcases hi with hi | hi
  · go_enter Try.func19, Try.ntmps19
    go_wp2
    go_ret2
    exact ⟨rfl, rfl⟩
  · have hi2 : ¬ i < 0 := by omega
    go_enter Try.func19, Try.ntmps19
    go_wp2
    go_ret2
    exact ⟨rfl, rfl⟩
set_option maxHeartbeats 400000 in
theorem rleft_ok (B C : Nat) (v : Value) (l : List Int) (i : Nat) (w : World) (h : Rs w B C v l) (hi : i < l.length) (x : Int) (h0 : l.getD i 0 = x) :
    Calls Try.prog 19 #[.pointer (some ⟨C, 0, none⟩), .int .i64 i] w fun e w' => e = .returned (.tuple #[.int .i64 x, .int .i64 0]) ∧ w = w' := by
  obtain ⟨D, d, rfl, _, c1, f1, _⟩ := own_at h.row hi
  have c0 := Blk_cell h.obj 0
  rw [h0] at c1
  clear h0
  have i0 : ¬ (i : Int) < 0 := by omega
  have i1 : ¬ (l.length : Int) ≤ i := by omega
  go_enter Try.func19, Try.ntmps19
  go_wp2
  go_ret2
  exact ⟨rfl, rfl⟩

/-! ### Least -/
/-- A failure's number: 0 is none. -/
def code (f : Int × Int) : Int := (f.1 + 1) * 256 + f.2
def okF (f : Int × Int) : Prop := 0 ≤ f.1 ∧ f.1 < 65536 ∧ 1 ≤ f.2 ∧ f.2 ≤ 255
/-- What is held behind an offer. -/
def held (was own : Int) : Int := if was ≠ 0 ∧ was ≤ own then was else own

set_option maxHeartbeats 400000 in
theorem offer_nil (a b : Int) (w : World) :
    Calls Try.prog 10 #[.pointer none, .int .i64 a, .int .i64 b] w fun e w' => e = .returned (.int .i64 2) ∧ w = w' := by
  go_enter Try.func10, Try.ntmps10
  go_wp2_with fail
  go_ret
  exact ⟨rfl, rfl⟩
set_option maxHeartbeats 400000 in
theorem offer_arg (g : Nat) (a b : Int) (w : World) (h : ¬ okF (a, b)) :
    Calls Try.prog 10 #[.pointer (some ⟨g, 0, none⟩), .int .i64 a, .int .i64 b] w fun e w' => e = .returned (.int .i64 1) ∧ w = w' := by
  have hs : a < 0 ∨ (0 ≤ a ∧ 65536 ≤ a) ∨ (0 ≤ a ∧ a < 65536 ∧ b < 1) ∨ (0 ≤ a ∧ a < 65536 ∧ 1 ≤ b ∧ 255 < b) := by unfold okF at h; simp only [] at h; omega
  clear h
  rcases hs with h1 | ⟨h1, h2⟩ | ⟨h1, h2, h3⟩ | ⟨h1, h2, h3, h4⟩
  all_goals
    go_enter Try.func10, Try.ntmps10
    go_wp2_with fail
    go_ret
    exact ⟨rfl, rfl⟩
set_option maxHeartbeats 400000 in
theorem offer_ok (g : Nat) (a b was : Int) (w : World) (h : okF (a, b)) (hB : Blk w g 30 #[.int .i64 was]) :
    Calls Try.prog 10 #[.pointer (some ⟨g, 0, none⟩), .int .i64 a, .int .i64 b] w fun e w' => e = .returned (.int .i64 0) ∧ w.grownBy w' (some g) ∧ Blk w' g 30 #[.int .i64 (held was (code (a, b)))] := by
  obtain ⟨h1, h2, h3, h4⟩ := h
  simp only [] at h1 h2 h3 h4
  have c0 := Blk_cell hB 0
  have f0 := Blk_frozen hB 0
  have hor : bits BinOp.or IntKind.i64 ((a + 1) * 256) b = code (a, b) := i64_or256 _ _ (by omega) (by omega) (by omega) (by omega)
  obtain ⟨own, hown⟩ : ∃ own, code (a, b) = own := ⟨_, rfl⟩
  rw [hown] at hor ⊢
  clear hown
  have t1 : ¬ a < 0 := by omega
  have t2 : ¬ 65536 ≤ a := by omega
  have t3 : ¬ b < 1 := by omega
  have t4 : ¬ 255 < b := by omega
  have hset : Blk (w.setCell ⟨g, 0, none⟩ (.int .i64 own)) g 30 #[.int .i64 own] := Blk_upd hB 0 _ (by simp)
  have HS := Lib.hid hset
  clear hset
  by_cases z : was = 0
  · have hh : held was own = own := by unfold held; rw [if_neg (by omega)]
    rw [hh]
    subst z
    clear hh
    go_enter Try.func10, Try.ntmps10
    go_wp2_with fail
    refine wp_loop_rounds 1 ?_
    rw [rounds_succ]
    go_wp2_with (first
      | (go_at_call 20; refine (aload _ _ _ c0).mono ?_; rintro e w' ⟨rfl, rfl⟩)
      | (go_at_call 21; refine (acas _ _ _ _ c0 f0).mono ?_; rintro e w' ⟨rfl, rfl⟩))
    go_ret
    exact ⟨rfl, grown_set _ _ _ _, HS.out⟩
  · by_cases z2 : was ≤ own
    · have hh : held was own = was := by unfold held; rw [if_pos ⟨z, z2⟩]
      rw [hh]
      clear hh
      go_enter Try.func10, Try.ntmps10
      go_wp2_with fail
      refine wp_loop_rounds 1 ?_
      rw [rounds_succ]
      go_wp2_with (first
        | (go_at_call 20; refine (aload _ _ _ c0).mono ?_; rintro e w' ⟨rfl, rfl⟩)
        | (go_at_call 21; refine (acas _ _ _ _ c0 f0).mono ?_; rintro e w' ⟨rfl, rfl⟩))
      go_ret
      exact ⟨rfl, World.grownBy.refl _ _, hB⟩
    · have hh : held was own = own := by unfold held; rw [if_neg (by omega)]
      rw [hh]
      clear hh
      go_enter Try.func10, Try.ntmps10
      go_wp2_with fail
      refine wp_loop_rounds 1 ?_
      rw [rounds_succ]
      go_wp2_with (first
        | (go_at_call 20; refine (aload _ _ _ c0).mono ?_; rintro e w' ⟨rfl, rfl⟩)
        | (go_at_call 21; refine (acas _ _ _ _ c0 f0).mono ?_; rintro e w' ⟨rfl, rfl⟩))
      go_ret
      exact ⟨rfl, grown_set _ _ _ _, HS.out⟩

/-- What is told of a number that is held. -/
def told (n : Int) : Int × Int := if n = 0 then (0, 0) else (n / 256 - 1, n % 256)
set_option maxHeartbeats 400000 in
theorem told_nil (w : World) :
    Calls Try.prog 12 #[.pointer none] w fun e w' => e = .returned (.tuple #[.int .i64 0, .int .i64 0]) ∧ w = w' := by
  go_enter Try.func12, Try.ntmps12
  go_wp2_with fail
  go_ret2
  exact ⟨rfl, rfl⟩
set_option maxHeartbeats 400000 in
theorem told_ok (g : Nat) (n : Int) (w : World) (h1 : 0 ≤ n) (h2 : n ≤ 9223372036854775807) (hB : Blk w g 30 #[.int .i64 n]) :
    Calls Try.prog 12 #[.pointer (some ⟨g, 0, none⟩)] w fun e w' => e = .returned (.tuple #[.int .i64 (told n).1, .int .i64 (told n).2]) ∧ w = w' := by
  have c0 := Blk_cell hB 0
  have hand := i64_and255 n
  by_cases z : n = 0
  · have hh : told n = (0, 0) := by unfold told; rw [if_pos z]
    rw [hh]
    subst z
    clear hh
    go_enter Try.func12, Try.ntmps12
    go_wp2_with (go_at_call 20; refine (aload _ _ _ c0).mono ?_; rintro e w' ⟨rfl, rfl⟩)
    go_ret2
    exact ⟨rfl, rfl⟩
  · have hh : told n = (n / 256 - 1, n % 256) := by unfold told; rw [if_neg z]
    rw [hh]
    clear hh
    go_enter Try.func12, Try.ntmps12
    go_wp2_with (go_at_call 20; refine (aload _ _ _ c0).mono ?_; rintro e w' ⟨rfl, rfl⟩)
    go_ret2
    exact ⟨rfl, rfl⟩
end Go.Proofs.Ytginfglonakfpaa
