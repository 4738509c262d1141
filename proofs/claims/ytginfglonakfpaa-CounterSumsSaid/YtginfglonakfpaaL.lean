import Derived.Test.YtginfglonakfpaaR
import Derived.Test.YtginfglonakfpaaW
namespace Go.Proofs.Ytginfglonakfpaa
open Go.RowKit Go.BigFrame

def er (f : Int × Int) : Int := if okF f then 0 else 1
theorem offer_any (g : Nat) (a b was n r : Int) (w : World) (hB : Blk w g 30 #[.int .i64 was]) (hn : offer was (a, b) = n) (hr : er (a, b) = r) :
    Calls Try.prog 10 #[.pointer (some ⟨g, 0, none⟩), .int .i64 a, .int .i64 b] w fun e w' => e = .returned (.int .i64 r) ∧ w.grownBy w' (some g) ∧ Blk w' g 30 #[.int .i64 n] := by
  subst hn; subst hr
  unfold offer er
  by_cases h : okF (a, b)
  · rw [if_pos h, if_pos h]
    exact offer_ok g a b was w h hB
  · rw [if_neg h, if_neg h]
    exact (offer_arg g a b w h).mono fun e w' ⟨he, hw⟩ => ⟨he, hw ▸ World.grownBy.refl _ _, hw ▸ hB⟩
theorem told_any (g : Nat) (n a b : Int) (w : World) (l : List (Int × Int)) (hl : H l = n) (ht : lst l = (a, b)) (hB : Blk w g 30 #[.int .i64 n]) :
    Calls Try.prog 12 #[.pointer (some ⟨g, 0, none⟩)] w fun e w' => e = .returned (.tuple #[.int .i64 a, .int .i64 b]) ∧ w = w' := by
  have := H_bd l
  exact told_ok' g n a b w (by omega) (by omega) (by rw [← hl, told_H, ht]) hB
theorem least_eq (l : List (Int × Int)) (A : Option Addr) (n c : Nat) (w : World) (hE : Fails w A n l) (hn : n ≤ 1000) (a b : Int) (ht : lst l = (a, b)) :
    Calls Try.prog 11 #[.slice A n c] w fun e w' => e = .returned (.agg #[.int .i64 a, .int .i64 b]) ∧ Below w.heap.size w w' := by
  have := least_any l A n c w hE hn
  rw [ht] at this
  exact this
theorem H_take {l : List (Int × Int)} {k : Nat} (h : k < l.length) : H (l.take (k + 1)) = offer (H (l.take k)) (l.getD k (0, 0)) := by
  rw [List.take_succ_eq_append_getElem h, H_snoc]; simp [h]
theorem rev_get {l : List (Int × Int)} {k : Nat} (h : k < l.length) : l.reverse.getD k (0, 0) = l.getD (l.length - 1 - k) (0, 0) := by
  simp [h, show l.length - 1 - k < l.length by omega]

set_option maxRecDepth 100000 in
set_option maxHeartbeats 2000000 in
theorem cleast_any (l : List (Int × Int)) (A : Option Addr) (n c : Nat) (w : World) (hE : Fails w A n l) (hcap : n ≤ c) (hmax : c ≤ maxLen) :
    Calls Try.prog 3 #[.slice A n c] w fun e w' => e = .returned (.bool true) ∧ Below w.heap.size w w' := by
  have hlen := hE.len_eq
  unfold maxLen at hmax
  by_cases hbig : 500 < n
  · go_enter Try.func3, Try.ntmps3
    go_wp2_with (go_at_call 9; refine (works_any _).mono ?_; rintro e w1 ⟨rfl, h1⟩)
    go_ret
    exact ⟨rfl, h1⟩
  go_enter Try.func3, Try.ntmps3
  go_wp2_with fail
  go_loopw [5, 6, 7, 8, 9, 18, 19, 20, 21, 22, 23, 24, 25, 26, 27, 28, 29, 30, 31, 32, 33, 34, 35, 36, 37, 38, 39, 40, 41, 42, 43, 44, 45, 46, 47, 48, 49, 50, 51, 52, 53, 54, 55, 56, 57, 58, 59, 60, 61, 62, 63, 64, 65, 66, 67, 68, 69, 70, 71, 72, 73, 74, 75, 76, 77, 78, 79, 80, 81, 82, 83, 84, 85, 86, 87, 88, 89, 90] (fun i _ _ _ _ _ _ _ _ _ _ _ _ _ _ _ _ _ _ _ _ _ _ _ _ _ _ _ _ _ _ _ _ _ _ _ _ _ _ _ _ _ _ _ _ _ _ _ _ _ _ _ _ _ _ _ _ _ _ _ _ _ _ _ _ _ _ _ _ _ _ _ _ _ _ _ _ _ wr => ∃ k : Nat, k ≤ n ∧ i = .int .i64 k ∧ Below w.heap.size w wr ∧ Blk wr w.heap.size 30 #[.int .i64 (H (l.take k))] ∧ Blk wr (w.heap.size + 1) 30 #[.int .i64 (H (l.reverse.take k))]) (fun i _ _ _ _ _ _ _ _ _ _ _ _ _ _ _ _ _ _ _ _ _ _ _ _ _ _ _ _ _ _ _ _ _ _ _ _ _ _ _ _ _ _ _ _ _ _ _ _ _ _ _ _ _ _ _ _ _ _ _ _ _ _ _ _ _ _ _ _ _ _ _ _ _ _ _ _ _ _ => n - (intOf i).toNat)
  case atStart =>
    refine ⟨0, Nat.zero_le _, rfl, by (repeat' (first | (with_reducible exact Below.refl _ _) | (with_reducible assumption) | (with_reducible refine Below.alloc ?_ ?_ _) | (with_reducible refine Below.drew ?_) | (with_reducible refine Below_drewN ?_ _) | (with_reducible refine Below.setCell ?_ ?_ _) | go_size)), ?_, ?_⟩
    · exact Blk_alloc (Blk_new _ _ _) _
    · simpa [H] using Blk_new (w.alloc _) 30 _
  case round =>
    obtain ⟨k, hk, rfl, hb, h1, h2⟩ := hrel
    have hsz := Blk_lt h2
    by_cases hlt : k < n
    · have hE' := hE
      obtain ⟨b, off, rfl, hB, hc⟩ := hE.at_ (by omega)
      have cx := hc k hlt 0 (by omega)
      have cy := hc k hlt 1 (by omega)
      obtain ⟨j, hj⟩ : ∃ j : Nat, n - 1 - k = j := ⟨_, rfl⟩
      have dx := hc j (by omega) 0 (by omega)
      have dy := hc j (by omega) 1 (by omega)
      have e1 := H_take (l := l) (k := k) (by omega)
      have e2 := H_take (l := l.reverse) (k := k) (by simp; omega)
      rw [rev_get (by omega), hlen, hj] at e2
      obtain ⟨⟨f1, f2⟩, hf⟩ : ∃ f, l.getD k (0, 0) = f := ⟨_, rfl⟩
      obtain ⟨⟨g1, g2⟩, hg⟩ : ∃ f, l.getD j (0, 0) = f := ⟨_, rfl⟩
      obtain ⟨m1, hm1⟩ : ∃ m, H (l.take (k + 1)) = m := ⟨_, rfl⟩
      obtain ⟨m2, hm2⟩ : ∃ m, H (l.reverse.take (k + 1)) = m := ⟨_, rfl⟩
      obtain ⟨n1, hn1⟩ : ∃ m, H (l.take k) = m := ⟨_, rfl⟩
      obtain ⟨n2, hn2⟩ : ∃ m, H (l.reverse.take k) = m := ⟨_, rfl⟩
      obtain ⟨⟨t1, t2⟩, ht⟩ : ∃ f, lst (l.take (k + 1)) = f := ⟨_, rfl⟩
      obtain ⟨r2, hr2⟩ : ∃ r, er (g1, g2) = r := ⟨_, rfl⟩
      rw [hf] at cx cy e1
      rw [hg] at dx dy e2
      rw [hm1, hn1] at e1
      rw [hm2, hn2] at e2
      rw [hn1] at h1
      rw [hn2] at h2
      have cx1 : w.cell? ⟨b, off + k * 2, none⟩ = some (.int .i64 f1) := cx
      have cy1 : w.cell? ⟨b, off + k * 2 + 1, none⟩ = some (.int .i64 f2) := cy
      have dx1 : w.cell? ⟨b, off + j * 2, none⟩ = some (.int .i64 g1) := dx
      have dy1 : w.cell? ⟨b, off + j * 2 + 1, none⟩ = some (.int .i64 g2) := dy
      have E1 := Lib.hid e1.symm
      have E2 := Lib.hid e2.symm
      have M1 := Lib.hid hm1
      have M2 := Lib.hid hm2
      have HT := Lib.hid ht
      have R2 := Lib.hid hr2
      have LE := Lib.hid hlen
      have k0 : (0 : Int) ≤ (k : Int) := Int.natCast_nonneg _
      have k1 : (k : Int) < (n : Int) := by omega
      have hle : k + 1 ≤ n := hlt
      have hkc : (k : Int) + 1 ≤ (c : Int) := by omega
      have hjn : j < n := by omega
      have hj1 : j + k + 1 ≤ n := by omega
      have hj2 : n ≤ j + k + 1 := by omega
      have CE : Hid (∀ w', Below w.heap.size w w' → w'.cell? ⟨b, off + k * 2, none⟩ = some (.int .i64 f1) ∧ w'.cell? ⟨b, off + k * 2 + 1, none⟩ = some (.int .i64 f2) ∧ w'.cell? ⟨b, off + j * 2, none⟩ = some (.int .i64 g1) ∧ w'.cell? ⟨b, off + j * 2 + 1, none⟩ = some (.int .i64 g2)) :=
        fun w' h => ⟨(h.cell (p := ⟨b, off + k * 2, none⟩) hB).trans cx1, (h.cell (p := ⟨b, off + k * 2 + 1, none⟩) hB).trans cy1, (h.cell (p := ⟨b, off + j * 2, none⟩) hB).trans dx1, (h.cell (p := ⟨b, off + j * 2 + 1, none⟩) hB).trans dy1⟩
      clear e1 e2 hm1 hm2 hn1 hn2 ht hr2 hlen hf hg hj hc cx cy dx dy cx1 cy1 dx1 dy1 hE
      obtain ⟨cx, cy, -, -⟩ := CE.out wr hb
      by_cases hok : okF (f1, f2)
      · have HR := Lib.hid (show er (f1, f2) = 0 by unfold er; rw [if_pos hok])
        have HOK := Lib.hid (decide_eq_true hok)
        clear hok
        go_wp2_with fail
        go_region_held3 (fun w' => w'.cell? ⟨b, off + k * 2, none⟩ = some (.int .i64 f1) ∧ w'.cell? ⟨b, off + k * 2 + 1, none⟩ = some (.int .i64 f2))
          (first
            | (with_reducible assumption)
            | exact ⟨cx, cy⟩
            | exact ⟨(hgw.cell_far _ (by simp; omega) (by simp; omega)).trans (‹_ ∧ _›).1, (hgw.cell_far _ (by simp; omega) (by simp; omega)).trans (‹_ ∧ _›).2⟩)
          (first | (go_at_call 10; refine (offer_any w.heap.size f1 f2 n1 m1 0 _ (Blk_drew h1) E1.out HR.out).mono ?_; rintro e w9 ⟨rfl, hgw, h1'⟩))
        have hb9 : Below w.heap.size w w9 := hb.drew.grown hgw (by simp; omega) (fun q hq => by cases hq; exact Nat.le_refl _)
        have h2' := Blk_grown (w := wr.drew) h2 hgw (by simp)
        clear h1 h2 hgw cx cy hb
        go_wp2_with fail
        refine (least_eq (l.take (k + 1)) _ (k + 1) _ _ ((hE'.mono hb9).take hle) (by omega) t1 t2 HT.out).mono ?_
        rintro e w10 ⟨rfl, hl10⟩
        have hb10 := Below_same hb9 (hl10.mono hb9.size |> fun h => hl10)
        have a1 := Blk_below h1' hl10 (Blk_lt h1')
        have a2 := Blk_below h2' hl10 (Blk_lt h2')
        have B1 := Blk_alloc a1 (.cells #[.int .i64 t1, .int .i64 t2] 34)
        have B2 := Blk_alloc a2 (.cells #[.int .i64 t1, .int .i64 t2] 34)
        have hb11 : Below w.heap.size w (w10.alloc (.cells #[.int .i64 t1, .int .i64 t2] 34)) := hb10.alloc hb10.size _
        have hz := Blk_lt a2
        clear h1' h2' hl10 a1 a2 hb9 hb10
        go_wp2_with fail
        refine (told_any w.heap.size m1 t1 t2 _ (l.take (k + 1)) M1.out HT.out B1).mono ?_
        rintro e w' ⟨rfl, rfl⟩
        obtain ⟨cx, cy, dx, dy⟩ := CE.out _ hb11
        go_wp2_with fail
        refine (right_eq f1 f2 true HOK.out _).mono ?_
        rintro e w12 ⟨rfl, hl12⟩
        have hb12 := Below_same hb11 hl12
        have B3 := Blk_below B1 hl12 (Blk_lt B1)
        have B4 := Blk_below B2 hl12 (Blk_lt B2)
        have c7 := Blk_below (Blk_new w10 34 #[.int .i64 t1, .int .i64 t2]) hl12 (by simp)
        have q0 := Blk_cell c7 0
        have q1 := Blk_cell c7 1
        obtain ⟨cx', cy', dx', dy'⟩ := CE.out _ hb12
        have hz2 := hb12.size
        clear B1 B2 hb11 hl12 c7 cx cy dx dy cx' cy'
        have W1 : IntKind.i64.wrap ((n : Int) - 1) = (n : Int) - 1 := IntWalk.i64_in _ (by omega)
        have W2 : IntKind.i64.wrap ((n : Int) - 1 - (k : Int)) = (j : Int) := by rw [IntWalk.i64_in _ (by omega)]; omega
        have j0 : (0 : Int) ≤ (j : Int) := Int.natCast_nonneg _
        have j1 : (j : Int) < (n : Int) := by omega
        go_wp2_with fail
        go_region_held3 (fun w' => w'.cell? ⟨b, off + j * 2, none⟩ = some (.int .i64 g1) ∧ w'.cell? ⟨b, off + j * 2 + 1, none⟩ = some (.int .i64 g2))
          (first
            | (with_reducible assumption)
            | exact ⟨dx', dy'⟩
            | exact ⟨(hgw.cell_far _ (by simp; omega) (by simp; omega)).trans (‹_ ∧ _›).1, (hgw.cell_far _ (by simp; omega) (by simp; omega)).trans (‹_ ∧ _›).2⟩)
          (first | (go_at_call 10; refine (offer_any (w.heap.size + 1) g1 g2 n2 m2 r2 _ (Blk_drew B4) E2.out R2.out).mono ?_; rintro e w13 ⟨rfl, hgw, h2'⟩))
        have hb13 : Below w.heap.size w w13 := hb12.drew.grown hgw (by simp; omega) (fun q hq => by cases hq; omega)
        have h1' := Blk_grown (w := w12.drew) B3 hgw (by simp)
        clear W1 W2 B3 B4 hgw dx' dy' hb12 q0 q1
        go_wp2_with fail
        go_roundw
        case rel => exact ⟨k + 1, by omega, by go_num, hb13, by rw [M1.out]; exact h1', by rw [M2.out]; exact h2'⟩
        case measure => simp [intOf]; omega
      · have HR := Lib.hid (show er (f1, f2) = 1 by unfold er; rw [if_neg hok])
        have HOK := Lib.hid (decide_eq_false hok)
        clear hok
        go_wp2_with fail
        go_region_held3 (fun w' => w'.cell? ⟨b, off + k * 2, none⟩ = some (.int .i64 f1) ∧ w'.cell? ⟨b, off + k * 2 + 1, none⟩ = some (.int .i64 f2))
          (first
            | (with_reducible assumption)
            | exact ⟨cx, cy⟩
            | exact ⟨(hgw.cell_far _ (by simp; omega) (by simp; omega)).trans (‹_ ∧ _›).1, (hgw.cell_far _ (by simp; omega) (by simp; omega)).trans (‹_ ∧ _›).2⟩)
          (first | (go_at_call 10; refine (offer_any w.heap.size f1 f2 n1 m1 1 _ (Blk_drew h1) E1.out HR.out).mono ?_; rintro e w9 ⟨rfl, hgw, h1'⟩))
        have hb9 : Below w.heap.size w w9 := hb.drew.grown hgw (by simp; omega) (fun q hq => by cases hq; exact Nat.le_refl _)
        have h2' := Blk_grown (w := wr.drew) h2 hgw (by simp)
        clear h1 h2 hgw cx cy hb
        go_wp2_with fail
        refine (least_eq (l.take (k + 1)) _ (k + 1) _ _ ((hE'.mono hb9).take hle) (by omega) t1 t2 HT.out).mono ?_
        rintro e w10 ⟨rfl, hl10⟩
        have hb10 := Below_same hb9 (hl10.mono hb9.size |> fun h => hl10)
        have a1 := Blk_below h1' hl10 (Blk_lt h1')
        have a2 := Blk_below h2' hl10 (Blk_lt h2')
        have B1 := Blk_alloc a1 (.cells #[.int .i64 t1, .int .i64 t2] 34)
        have B2 := Blk_alloc a2 (.cells #[.int .i64 t1, .int .i64 t2] 34)
        have hb11 : Below w.heap.size w (w10.alloc (.cells #[.int .i64 t1, .int .i64 t2] 34)) := hb10.alloc hb10.size _
        have hz := Blk_lt a2
        clear h1' h2' hl10 a1 a2 hb9 hb10
        go_wp2_with fail
        refine (told_any w.heap.size m1 t1 t2 _ (l.take (k + 1)) M1.out HT.out B1).mono ?_
        rintro e w' ⟨rfl, rfl⟩
        obtain ⟨cx, cy, dx, dy⟩ := CE.out _ hb11
        go_wp2_with fail
        refine (right_eq f1 f2 false HOK.out _).mono ?_
        rintro e w12 ⟨rfl, hl12⟩
        have hb12 := Below_same hb11 hl12
        have B3 := Blk_below B1 hl12 (Blk_lt B1)
        have B4 := Blk_below B2 hl12 (Blk_lt B2)
        have c7 := Blk_below (Blk_new w10 34 #[.int .i64 t1, .int .i64 t2]) hl12 (by simp)
        have q0 := Blk_cell c7 0
        have q1 := Blk_cell c7 1
        obtain ⟨cx', cy', dx', dy'⟩ := CE.out _ hb12
        have hz2 := hb12.size
        clear B1 B2 hb11 hl12 c7 cx cy dx dy cx' cy'
        have W1 : IntKind.i64.wrap ((n : Int) - 1) = (n : Int) - 1 := IntWalk.i64_in _ (by omega)
        have W2 : IntKind.i64.wrap ((n : Int) - 1 - (k : Int)) = (j : Int) := by rw [IntWalk.i64_in _ (by omega)]; omega
        have j0 : (0 : Int) ≤ (j : Int) := Int.natCast_nonneg _
        have j1 : (j : Int) < (n : Int) := by omega
        go_wp2_with fail
        go_region_held3 (fun w' => w'.cell? ⟨b, off + j * 2, none⟩ = some (.int .i64 g1) ∧ w'.cell? ⟨b, off + j * 2 + 1, none⟩ = some (.int .i64 g2))
          (first
            | (with_reducible assumption)
            | exact ⟨dx', dy'⟩
            | exact ⟨(hgw.cell_far _ (by simp; omega) (by simp; omega)).trans (‹_ ∧ _›).1, (hgw.cell_far _ (by simp; omega) (by simp; omega)).trans (‹_ ∧ _›).2⟩)
          (first | (go_at_call 10; refine (offer_any (w.heap.size + 1) g1 g2 n2 m2 r2 _ (Blk_drew B4) E2.out R2.out).mono ?_; rintro e w13 ⟨rfl, hgw, h2'⟩))
        have hb13 : Below w.heap.size w w13 := hb12.drew.grown hgw (by simp; omega) (fun q hq => by cases hq; omega)
        have h1' := Blk_grown (w := w12.drew) B3 hgw (by simp)
        clear W1 W2 B3 B4 hgw dx' dy' hb12 q0 q1
        go_wp2_with fail
        go_roundw
        case rel => exact ⟨k + 1, by omega, by go_num, hb13, by rw [M1.out]; exact h1', by rw [M2.out]; exact h2'⟩
        case measure => simp [intOf]; omega
    · have hrev : H l.reverse = H l := H_same (fun x => by simp)
      rw [List.take_of_length_le (by omega)] at h1
      rw [List.take_of_length_le (by simp; omega), hrev] at h2
      clear hrev
      obtain ⟨m, hm⟩ : ∃ m, H l = m := ⟨_, rfl⟩
      obtain ⟨⟨t1, t2⟩, ht⟩ : ∃ f, lst l = f := ⟨_, rfl⟩
      rw [hm] at h1 h2
      have HM := Lib.hid hm
      have HT := Lib.hid ht
      clear hm ht hlen hE
      go_wp2_with fail
      refine (told_any w.heap.size m t1 t2 _ l HM.out HT.out h1).mono ?_
      rintro e w' ⟨rfl, rfl⟩
      go_wp2_with fail
      refine (told_any (w.heap.size + 1) m t1 t2 _ l HM.out HT.out h2).mono ?_
      rintro e w' ⟨rfl, rfl⟩
      go_wp2_with (go_at_call 9; refine (works_any _).mono ?_; rintro e w9 ⟨rfl, h9⟩)
      go_ret
      exact ⟨rfl, Below_same hb h9⟩
end Go.Proofs.Ytginfglonakfpaa
