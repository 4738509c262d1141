import Derived.Test.YtginfglonakfpaaW
import Derived.Test.YtginfglonakfpaaCom4
import Derived.Test.YtginfglonakfpaaOp
namespace Go.Proofs.Ytginfglonakfpaa
open Go.RowKit Go.BigFrame

theorem Blk_ne {w : World} {g g' : Nat} {t t' : TypeId} {cs cs' : Array Value} (h : Blk w g t cs) (h' : Blk w g' t' cs') (hne : t ≠ t') : g ≠ g' := by
  rintro rfl
  unfold Blk at h h'
  rw [h] at h'
  injection h' with h'
  injection h' with _ ht
  exact hne ht
theorem Rs.kept {w w' : World} {B C L : Nat} {t : TypeId} {cs : Array Value} {v : Value} {l : List Int} (h : Rs w B C v l) (hL : Blk w L t cs) (h1 : t ≠ 64) (h2 : t ≠ 3) (hb : w.grownBy w' (some L)) : Rs w' B C v l := by
  have hne := Blk_ne h.obj hL (Ne.symm h1)
  have hv := own_blk_ne h.row hL (Ne.symm h2)
  exact ⟨Blk_grown h.obj hb (by simpa using hne), h.row.kept hb (.inr (Ne.symm hv)), h.le⟩
theorem Rs.below {w w' : World} {B C : Nat} {v : Value} {l : List Int} (h : Rs w B C v l) (hb : Below w.heap.size w w') : Rs w' B C v l :=
  ⟨Blk_below h.obj hb (Blk_lt h.obj), own_below h.row hb, h.le⟩

/-- What a call of Down comes to. -/
def downR (l : List Int) (i : Int) : Int × Int × List Int :=
  if i < 0 ∨ (l.length : Int) ≤ i then (0, 1, l) else if l.getD i.toNat 0 = 0 then (0, 3, l) else (l.getD i.toNat 0 - 1, 0, l.set i.toNat (l.getD i.toNat 0 - 1))
def leftR (l : List Int) (i : Int) : Int × Int := if i < 0 ∨ (l.length : Int) ≤ i then (0, 1) else (l.getD i.toNat 0, 0)
def Good (l : List Int) : Prop := ∀ x ∈ l, 0 ≤ x ∧ x ≤ 9223372036854775807
theorem Good.get {l : List Int} (h : Good l) {i : Nat} (hi : i < l.length) : 0 ≤ l.getD i 0 ∧ l.getD i 0 ≤ 9223372036854775807 := by
  have : l.getD i 0 = l[i] := by simp [List.getD, hi]
  rw [this]; exact h _ (List.getElem_mem _)
theorem downR_good {l l' : List Int} {i a e : Int} (h : Good l) (hd : downR l i = (a, e, l')) : Good l' ∧ l'.length = l.length := by
  unfold downR at hd
  split at hd
  · simp only [Prod.mk.injEq] at hd; obtain ⟨_, _, rfl⟩ := hd; exact ⟨h, rfl⟩
  · split at hd
    · simp only [Prod.mk.injEq] at hd; obtain ⟨_, _, rfl⟩ := hd; exact ⟨h, rfl⟩
    · rename_i h1 h2
      simp only [Prod.mk.injEq] at hd; obtain ⟨_, _, rfl⟩ := hd
      have hg := h.get (i := i.toNat) (by omega)
      refine ⟨fun x hx => ?_, by simp⟩
      rcases List.mem_or_eq_of_mem_set hx with hx | rfl
      · exact h x hx
      · omega
theorem down_all (C L : Nat) (l l' : List Int) (i a e : Int) (w : World) (h : Cs w C L l) (hg : Good l) (hd : downR l i = (a, e, l')) :
    Calls Try.prog 16 #[.pointer (some ⟨C, 0, none⟩), .int .i64 i] w fun x w' => x = .returned (.tuple #[.int .i64 a, .int .i64 e]) ∧ w.grownBy w' (some L) ∧ Cs w' C L l' := by
  unfold downR at hd
  by_cases h1 : i < 0 ∨ (l.length : Int) ≤ i
  · rw [if_pos h1] at hd
    simp only [Prod.mk.injEq] at hd; obtain ⟨rfl, rfl, rfl⟩ := hd
    exact (down_arg C L l i w h h1).mono fun x w' ⟨hx, hw⟩ => ⟨hx, hw ▸ World.grownBy.refl _ _, hw ▸ h⟩
  · rw [if_neg h1] at hd
    have hj : ((i.toNat : Nat) : Int) = i := by omega
    have hlt : i.toNat < l.length := by omega
    by_cases h2 : l.getD i.toNat 0 = 0
    · rw [if_pos h2] at hd
      simp only [Prod.mk.injEq] at hd; obtain ⟨rfl, rfl, rfl⟩ := hd
      exact (down_zero' C L l i i.toNat hj w h hlt h2).mono fun x w' ⟨hx, hw⟩ => ⟨hx, hw ▸ World.grownBy.refl _ _, hw ▸ h⟩
    · rw [if_neg h2] at hd
      simp only [Prod.mk.injEq] at hd; obtain ⟨rfl, rfl, rfl⟩ := hd
      have hq := hg.get hlt
      exact down_ok' C L l _ i i.toNat hj w h hlt _ _ rfl (by omega) hq.2 rfl rfl
theorem rdown_all (B C : Nat) (v : Value) (l l' : List Int) (i a e : Int) (w : World) (h : Rs w B C v l) (hg : Good l) (hd : downR l i = (a, e, l')) :
    Calls Try.prog 17 #[.pointer (some ⟨C, 0, none⟩), .int .i64 i] w fun x w' => x = .returned (.tuple #[.int .i64 a, .int .i64 e]) ∧ w.grownBy w' v.ownBlock ∧ Rs w' B C v l' := by
  unfold downR at hd
  by_cases h1 : i < 0 ∨ (l.length : Int) ≤ i
  · rw [if_pos h1] at hd
    simp only [Prod.mk.injEq] at hd; obtain ⟨rfl, rfl, rfl⟩ := hd
    exact (rdown_arg B C v l i w h h1).mono fun x w' ⟨hx, hw⟩ => ⟨hx, hw ▸ World.grownBy.refl _ _, hw ▸ h⟩
  · rw [if_neg h1] at hd
    have hj : ((i.toNat : Nat) : Int) = i := by omega
    have hlt : i.toNat < l.length := by omega
    by_cases h2 : l.getD i.toNat 0 = 0
    · rw [if_pos h2] at hd
      simp only [Prod.mk.injEq] at hd; obtain ⟨rfl, rfl, rfl⟩ := hd
      have := rdown_zero B C v l i.toNat w h hlt h2
      rw [hj] at this
      exact this.mono fun x w' ⟨hx, hw⟩ => ⟨hx, hw ▸ World.grownBy.refl _ _, hw ▸ h⟩
    · rw [if_neg h2] at hd
      simp only [Prod.mk.injEq] at hd; obtain ⟨rfl, rfl, rfl⟩ := hd
      have hq := hg.get hlt
      have := rdown_ok B C v l i.toNat w h hlt _ rfl (by omega) hq.2
      rw [hj] at this
      exact this
theorem left_all (C L : Nat) (l : List Int) (i a e : Int) (w : World) (h : Cs w C L l) (hd : leftR l i = (a, e)) :
    Calls Try.prog 18 #[.pointer (some ⟨C, 0, none⟩), .int .i64 i] w fun x w' => x = .returned (.tuple #[.int .i64 a, .int .i64 e]) ∧ w = w' := by
  unfold leftR at hd
  by_cases h1 : i < 0 ∨ (l.length : Int) ≤ i
  · rw [if_pos h1] at hd
    simp only [Prod.mk.injEq] at hd; obtain ⟨rfl, rfl⟩ := hd
    exact left_arg C L l i w h h1
  · rw [if_neg h1] at hd
    simp only [Prod.mk.injEq] at hd; obtain ⟨rfl, rfl⟩ := hd
    have := left_ok C L l i.toNat w h (by omega) _ rfl
    rw [show ((i.toNat : Nat) : Int) = i by omega] at this
    exact this
theorem rleft_all (B C : Nat) (v : Value) (l : List Int) (i a e : Int) (w : World) (h : Rs w B C v l) (hd : leftR l i = (a, e)) :
    Calls Try.prog 19 #[.pointer (some ⟨C, 0, none⟩), .int .i64 i] w fun x w' => x = .returned (.tuple #[.int .i64 a, .int .i64 e]) ∧ w = w' := by
  unfold leftR at hd
  by_cases h1 : i < 0 ∨ (l.length : Int) ≤ i
  · rw [if_pos h1] at hd
    simp only [Prod.mk.injEq] at hd; obtain ⟨rfl, rfl⟩ := hd
    exact rleft_arg B C v l i w h h1
  · rw [if_neg h1] at hd
    simp only [Prod.mk.injEq] at hd; obtain ⟨rfl, rfl⟩ := hd
    have := rleft_ok B C v l i.toNat w h (by omega) _ rfl
    rw [show ((i.toNat : Nat) : Int) = i by omega] at this
    exact this
theorem own_fill {xs : List Int} {k : Nat} (h : k < xs.length) : (List.replicate k 77 ++ xs.drop k).set k 77 = List.replicate (k + 1) 77 ++ xs.drop (k + 1) := by
  apply List.ext_getElem?
  intro j
  rw [List.getElem?_set]
  by_cases hj : k = j
  · subst hj
    rw [if_pos rfl, if_pos (by simp; omega), List.getElem?_append_left (by simp)]
    simp
  · rw [if_neg hj]
    by_cases hlt : j < k
    · rw [List.getElem?_append_left (by simp; omega), List.getElem?_append_left (by simp; omega)]
      simp [hlt, show j < k + 1 by omega]
    · rw [List.getElem?_append_right (by simp; omega), List.getElem?_append_right (by simp; omega)]
      simp only [List.length_replicate, List.getElem?_drop]
      congr 1
      omega

set_option maxRecDepth 100000 in
set_option maxHeartbeats 4000000 in
theorem cplays_any (xs ys : List Int) (A D : Option Addr) (n c m d : Nat) (w : World) (hI : Ints .i64 w A n xs) (hJ : Ints .i64 w D m ys) (hx : ∀ x ∈ xs, (Lit.int .i64 x).wf = true) (hn : n ≤ c) (hr : c * 8 ≤ 140737488351232) (hmd : m ≤ maxLen) :
    Calls Try.prog 5 #[.slice A n c, .slice D m d] w fun e w' => e = .returned (.bool true) ∧ Below w.heap.size w w' := by
  unfold maxLen at hmd
  obtain ⟨i0, hi0, hz0, hz1, hz2⟩ := info_parts i3
  have hlen := hI.len_eq
  subst hlen
  by_cases hb1 : 1000 < xs.length ∧ xs.length ≤ 65536
  · obtain ⟨hb1, hb2⟩ := hb1
    go_enter Try.func5, Try.ntmps5
    go_wp2_with (go_at_call 9; refine (works_any _).mono ?_; rintro e w9 ⟨rfl, h9⟩)
    go_ret
    exact ⟨rfl, h9⟩
  by_cases hb2 : 1000 < m
  · by_cases hb3 : 1000 < xs.length
    · have hb4 : 65536 < xs.length := by omega
      go_enter Try.func5, Try.ntmps5
      go_wp2_with (go_at_call 9; refine (works_any _).mono ?_; rintro e w9 ⟨rfl, h9⟩)
      go_ret
      exact ⟨rfl, h9⟩
    · go_enter Try.func5, Try.ntmps5
      go_wp2_with (go_at_call 9; refine (works_any _).mono ?_; rintro e w9 ⟨rfl, h9⟩)
      go_ret
      exact ⟨rfl, h9⟩
  by_cases hbig : 65536 < xs.length
  · have hb3 : 1000 < xs.length := by omega
    clear hb1
    go_enter Try.func5, Try.ntmps5
    go_wp2_with (at_builtin; go_must (refine wpList_append_src _ rfl (.tmp 34) (.tmp 35) 43 rfl w.heap.size 3 i0 _ 1 8 Try.underlying43 hi0 hz0 hz1 hz2 rfl (by omega) (.slice (some ⟨w.heap.size, 0, none⟩) 0 0) 0 [] rfl (World.ownsRow_lit w #[] 0 (Nat.le_refl _) (by simp) rfl) A xs.length c (xs.map (Value.int .i64)) rfl (by rw [Nat.mul_one]; exact (hI.mono (by (repeat' (first | (with_reducible exact Below.refl _ _) | (with_reducible assumption) | (with_reducible refine Below.alloc ?_ ?_ _) | (with_reducible refine Below.drew ?_) | (with_reducible refine Below_drewN ?_ _) | (with_reducible refine Below.setCell ?_ ?_ _) | go_size)))).src) (one_ints _ _) (by simp only [maxLen]; omega) (by omega) (by simp) ?_); intro v' w1 hown1 hg1 hat1; simp only [Nat.zero_add, List.nil_append] at hown1; obtain ⟨D0, d0, rfl, _, _⟩ := own_slice hown1; have hbl : Below w.heap.size w w1 := Below.grown (w := w.alloc (.cells #[] 3)) (by (repeat' (first | (with_reducible exact Below.refl _ _) | (with_reducible assumption) | (with_reducible refine Below.alloc ?_ ?_ _) | (with_reducible refine Below.drew ?_) | (with_reducible refine Below_drewN ?_ _) | (with_reducible refine Below.setCell ?_ ?_ _) | go_size))) hg1 (by simp) (fun k hk => by simp [Value.ownBlock] at hk; omega))
    go_wp2_with fail
    refine (new_big _ _ _ _ hbig).mono ?_
    rintro e w' ⟨rfl, rfl⟩
    go_wp2_with fail
    refine (rnew_big _ _ _ _ hbig).mono ?_
    rintro e w' ⟨rfl, rfl⟩
    go_wp2_with (go_at_call 9; refine (works_any _).mono ?_; rintro e w9 ⟨rfl, h9⟩)
    go_ret
    exact ⟨rfl, Below_same hbl h9⟩
  have hb3 : ¬ 1000 < xs.length := by omega
  clear hb1
  go_enter Try.func5, Try.ntmps5
  go_wp2_with (at_builtin; go_must (refine wpList_append_src _ rfl (.tmp 34) (.tmp 35) 43 rfl w.heap.size 3 i0 _ 1 8 Try.underlying43 hi0 hz0 hz1 hz2 rfl (by omega) (.slice (some ⟨w.heap.size, 0, none⟩) 0 0) 0 [] rfl (World.ownsRow_lit w #[] 0 (Nat.le_refl _) (by simp) rfl) A xs.length c (xs.map (Value.int .i64)) rfl (by rw [Nat.mul_one]; exact (hI.mono (by (repeat' (first | (with_reducible exact Below.refl _ _) | (with_reducible assumption) | (with_reducible refine Below.alloc ?_ ?_ _) | (with_reducible refine Below.drew ?_) | (with_reducible refine Below_drewN ?_ _) | (with_reducible refine Below.setCell ?_ ?_ _) | go_size)))).src) (one_ints _ _) (by simp only [maxLen]; omega) (by omega) (by simp) ?_); intro v' w1 hown1 hg1 hat1; simp only [Nat.zero_add, List.nil_append] at hown1; obtain ⟨D0, d0, rfl, _, _⟩ := own_slice hown1; have hbl : Below w.heap.size w w1 := Below.grown (w := w.alloc (.cells #[] 3)) (by (repeat' (first | (with_reducible exact Below.refl _ _) | (with_reducible assumption) | (with_reducible refine Below.alloc ?_ ?_ _) | (with_reducible refine Below.drew ?_) | (with_reducible refine Below_drewN ?_ _) | (with_reducible refine Below.setCell ?_ ?_ _) | go_size))) hg1 (by simp) (fun k hk => by simp [Value.ownBlock] at hk; omega))
  refine (new_any xs D0 d0 _ (Ints_of_own hown1) (by omega)).mono ?_
  rintro e w2 ⟨hn1, hn2⟩
  have bl2 := Below_same hbl hn1
  have hown2 := own_below hown1 hn1
  have ow2 := hown1.lt
  have hz2' := hn1.size
  rcases hn2 with ⟨hpos, C, L, rfl, hC, hC0, hL0⟩ | ⟨hneg, rfl⟩
  rotate_left
  · obtain ⟨x, hx1, hx2⟩ := hneg
    clear hown1 hown2
    go_wp2_with fail
    refine (rnew_any xs A c _ (hI.mono bl2) (by omega)).mono ?_
    rintro e w3 ⟨hb3', ⟨hp, _⟩ | ⟨_, rfl⟩⟩
    · have := hp x hx1; omega
    have bl3 := Below_same bl2 hb3'
    go_wp2_with (go_at_call 9; refine (works_any _).mono ?_; rintro e w9 ⟨rfl, h9⟩)
    go_ret
    exact ⟨rfl, Below_same bl3 h9⟩
  clear hown1
  go_wp2_with fail
  refine (rnew_any xs A c _ (hI.mono bl2) (by omega)).mono ?_
  rintro e w3 ⟨hb3', ⟨_, C2, v, rfl, hR⟩ | ⟨⟨x, hx1, hx2⟩, _⟩⟩
  rotate_left
  · have := hpos x hx1; omega
  have bl3 := Below_same bl2 hb3'
  have hown3 := own_below hown2 hb3'
  have hC3 := hC.below hb3'
  have hgood : Good xs := fun x hx' => ⟨hpos x hx', (bounds_i64 (hx x hx')).2⟩
  clear hpos hC hown2 hx
  go_wp2_with fail
  go_loopw [10, 60, 61, 62, 63, 64, 65, 66, 67, 68, 69, 70, 71, 72, 73, 74, 75, 76, 77] (fun i _ _ _ _ _ _ _ _ _ _ _ _ _ _ _ _ _ _ wr => ∃ k : Nat, k ≤ xs.length ∧ i = .int .i64 k ∧ Below w.heap.size w wr ∧ Cs wr C L xs ∧ Rs wr w2.heap.size C2 v xs ∧ wr.ownsRow w.heap.size 3 1 (.slice D0 xs.length d0) xs.length ((List.replicate k 77 ++ xs.drop k).map (Value.int .i64))) (fun i _ _ _ _ _ _ _ _ _ _ _ _ _ _ _ _ _ _ _ => xs.length - (intOf i).toNat)
  case atStart => exact ⟨0, Nat.zero_le _, rfl, bl3, hC3, hR, by simpa using hown3⟩
  case round =>
    clear hC3 hR hown3 bl3
    obtain ⟨k, hk, rfl, hb, hC, hR, hown⟩ := hrel
    by_cases hlt : k < xs.length
    · obtain ⟨b, off, rfl, hB, hc⟩ := hI.at_ (by omega)
      have cx : wr.cell? ⟨b, off + k, none⟩ = some (.int .i64 (xs.getD k 0)) := (hb.cell hB).trans (hc k hlt)
      obtain ⟨g, cg, hD, hg0, oc, _, _⟩ := own_at hown hlt
      injection hD with hD1 _ hD2
      subst hD1; subst hD2
      have hget : (List.replicate k 77 ++ xs.drop k).getD k 0 = xs.getD k 0 := by
        rw [List.getD_eq_getElem?_getD, List.getD_eq_getElem?_getD, List.getElem?_append_right (by simp)]; simp
      rw [hget] at oc
      have hgn : g < w2.heap.size := by
        have := (ow2 g rfl).2
        omega
      obtain ⟨u, hu⟩ : ∃ u, xs.getD k 0 = u := ⟨_, rfl⟩
      rw [hu] at cx oc
      have q0 := fun x : Up wr => up_cell x cx
      have q1 := fun x : Up wr => up_cell x oc
      have k0 : (0 : Int) ≤ (k : Int) := Int.natCast_nonneg _
      have k1 : (k : Int) < (xs.length : Int) := by omega
      clear hu hget hc hI hJ hgood ow2 hi0 hz0 hz1 hz2
      go_wp2_with fail
      refine wp_region_up (by kernel_rfl) (by kernel_rfl) ?_
      repeat (go_big_quiet_step (fail))
      refine wpQuiet_nil ?_
      intro w' hup
      have hb1 := Below_same hb hup
      have oc1 := (hup.cell (cell_lt oc)).trans oc
      have cx1 := (hup.cell (cell_lt cx)).trans cx
      have hC1 := hC.below hup
      have hR1 := hR.below hup
      have hown1 := own_below hown hup
      clear q0 q1 oc cx hC hR hown hb hup
      have hneC := own_blk_ne hown1 hC1.row (by decide)
      have hneC' := own_blk_ne hown1 hC1.obj (by decide)
      have hneR := own_blk_ne hown1 hR1.obj (by decide)
      obtain ⟨_, _, hD, _, _, of1, oset⟩ := own_at hown1 hlt
      injection hD with hD1 _ _
      injection hD1 with hD1
      injection hD1 with hD1 _ _
      subst hD1
      have hset := oset 77
      rw [own_fill hlt] at hset
      have hC' : Cs (w'.setCell ⟨g, k, none⟩ (.int .i64 77)) C L xs := hC1.kept (grown_set _ _ _ _) (by simpa [Value.ownBlock] using hneC') (by simpa [Value.ownBlock] using hneC)
      have hvn : v.ownBlock ≠ some g := by
        intro he
        have := (hR1.row.lt g he).1
        omega
      have hR' : Rs (w'.setCell ⟨g, k, none⟩ (.int .i64 77)) w2.heap.size C2 v xs :=
        ⟨Blk_far hR1.obj (by simpa [Value.ownBlock] using hneR) _, own_far hR1.row (fun h => hvn (by simpa using h.symm)) _, hR1.le⟩
      have HS := Lib.hid hset
      have HC := Lib.hid hC'
      have HR := Lib.hid hR'
      clear hset hC' hR' oset hneC hneC' hneR hvn hC1 hR1 hown1
      go_wp2_with fail
      go_roundw
      case rel => exact ⟨k + 1, by omega, by go_num, hb1.setCell hg0 _, HC.out, HR.out, HS.out⟩
      case measure => simp [intOf]; omega
    · clear hown ow2 hI hi0 hz0 hz1 hz2
      obtain ⟨w4, hw4⟩ : ∃ w4, wr = w4 := ⟨_, rfl⟩
      subst hw4
      have hmlen := hJ.len_eq
      go_wp2_with fail
      go_loopw [11, 12, 13, 14, 15, 16, 17, 18, 19, 78, 79, 80, 81, 82, 83, 84, 85, 86, 87, 88, 89, 90, 91, 92, 93, 94, 95, 96, 97, 98, 99, 100, 101, 102, 103, 104, 105, 106, 107, 108, 109, 110, 111, 112, 113, 114, 115, 116, 117, 118, 119, 120, 121, 122, 123, 124, 125, 126, 127, 128, 129, 130, 131, 132, 133, 134, 135, 136, 137] (fun i _ _ _ _ _ _ _ _ _ _ _ _ _ _ _ _ _ _ _ _ _ _ _ _ _ _ _ _ _ _ _ _ _ _ _ _ _ _ _ _ _ _ _ _ _ _ _ _ _ _ _ _ _ _ _ _ _ _ _ _ _ _ _ _ _ _ _ _ wr => ∃ (q : Nat) (l : List Int), q ≤ m ∧ i = .int .i64 q ∧ Below w.heap.size w wr ∧ Good l ∧ Cs wr C L l ∧ Rs wr w2.heap.size C2 v l) (fun i _ _ _ _ _ _ _ _ _ _ _ _ _ _ _ _ _ _ _ _ _ _ _ _ _ _ _ _ _ _ _ _ _ _ _ _ _ _ _ _ _ _ _ _ _ _ _ _ _ _ _ _ _ _ _ _ _ _ _ _ _ _ _ _ _ _ _ _ _ => m - (intOf i).toNat)
      case atStart => exact ⟨0, xs, Nat.zero_le _, rfl, hb, hgood, hC, hR⟩
      case round =>
        clear hb hgood hC hR hlt hk
        obtain ⟨q, l, hq, rfl, hb, hgood, hC, hR⟩ := hrel
        by_cases hlt : q < m
        · obtain ⟨b, off, rfl, hB, hc⟩ := hJ.at_ (by omega)
          have HCY : Hid (∀ w', Below w.heap.size w w' → w'.cell? ⟨b, off + q, none⟩ = some (.int .i64 (ys.getD q 0))) := fun w' h => (h.cell hB).trans (hc q hlt)
          obtain ⟨y, hy⟩ : ∃ y, ys.getD q 0 = y := ⟨_, rfl⟩
          rw [hy] at HCY
          obtain ⟨⟨a, e1, l'⟩, hd⟩ : ∃ r, downR l y = r := ⟨_, rfl⟩
          obtain ⟨⟨a2, e2⟩, hl⟩ : ∃ r, leftR l' y = r := ⟨_, rfl⟩
          obtain ⟨hgood', _⟩ := downR_good hgood hd
          have HD := Lib.hid hd
          have HL := Lib.hid hl
          have cy := HCY.out _ hb
          clear hy hd hl hc hJ hmlen
          go_wp2_with fail
          refine (down_all C L l l' y a e1 _ hC hgood HD.out).mono ?_
          rintro e w5 ⟨rfl, hg5, hC5⟩
          have hR5 := hR.kept hC.row (by decide) (by decide) hg5
          have hL0' : w.heap.size ≤ L := by have := hbl.size; omega
          have hb5 : Below w.heap.size w w5 := hb.grown hg5 hb.size (fun k hk => by cases hk; exact hL0')
          have cy5 := HCY.out _ hb5
          clear hC hR hb hg5 cy
          go_wp2_with fail
          refine (rdown_all w2.heap.size C2 v l l' y a e1 _ hR5 hgood HD.out).mono ?_
          rintro e w6 ⟨rfl, hg6, hR6⟩
          have hC6 := hC5.kept hg6 (own_blk_ne hR5.row hC5.obj (by decide)) (own_blk_ne hR5.row hC5.row (by decide))
          have hv0 := fun k hk => (hR5.row.lt k hk).1
          have hb6 : Below w.heap.size w w6 := hb5.grown hg6 hb5.size (fun k hk => Nat.le_trans (Nat.le_trans hbl.size hz2') (hv0 k hk))
          have cy6 := HCY.out _ hb6
          clear hC5 hR5 hb5 hg6 cy5 hv0
          go_wp2_with fail
          refine (left_all C L l' y a2 e2 _ hC6 HL.out).mono ?_
          rintro e w' ⟨rfl, rfl⟩
          go_wp2_with fail
          refine (rleft_all w2.heap.size C2 v l' y a2 e2 _ hR6 HL.out).mono ?_
          rintro e w' ⟨rfl, rfl⟩
          have hC7 := Lib.hid hC6
          have hR7 := Lib.hid hR6
          have hg7 := Lib.hid hgood'
          clear hC6 hR6 hgood hgood'
          go_wp2_with fail
          go_roundw
          case rel => exact ⟨q + 1, l', by omega, by go_num, hb6, hg7.out, hC7.out, hR7.out⟩
          case measure => simp [intOf]; omega
        · go_wp2_with (go_at_call 9; refine (works_any _).mono ?_; rintro e w9 ⟨rfl, h9⟩)
          go_ret
          exact ⟨rfl, Below_same hb h9⟩
end Go.Proofs.Ytginfglonakfpaa
