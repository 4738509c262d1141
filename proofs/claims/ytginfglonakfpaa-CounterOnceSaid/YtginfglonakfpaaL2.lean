import Derived.Test.YtginfglonakfpaaL
namespace Go.Proofs.Ytginfglonakfpaa
open Go.RowKit Go.BigFrame

def bs (l : List (Int × Int)) (bys : List Int) (k : Nat) : List (Int × Int) := (bys.take k).map fun y => l.getD (y % (l.length : Int)).toNat (0, 0)
theorem bs_snoc (l : List (Int × Int)) (bys : List Int) {k : Nat} (h : k < bys.length) : bs l bys (k + 1) = bs l bys k ++ [l.getD (bys.getD k 0 % (l.length : Int)).toNat (0, 0)] := by
  unfold bs
  rw [List.take_succ_eq_append_getElem h, List.map_append]
  simp [h]
theorem bs_mem (l : List (Int × Int)) (bys : List Int) (k : Nat) (hl : k = 0 ∨ 0 < l.length) : ∀ x ∈ bs l bys k, x ∈ l := by
  intro x hx
  unfold bs at hx
  obtain ⟨y, hy, rfl⟩ := List.mem_map.1 hx
  rcases hl with rfl | hl
  · simp at hy
  · have h1 := Int.emod_nonneg y (show (l.length : Int) ≠ 0 by omega)
    have h2 := Int.emod_lt_of_pos y (show (0 : Int) < l.length by omega)
    have h3 : (y % (l.length : Int)).toNat < l.length := by omega
    simp [h3]
theorem H_bs (l : List (Int × Int)) (bys : List Int) (k : Nat) (hl : k = 0 ∨ 0 < l.length) : H (bs l bys k ++ l.reverse) = H l := by
  apply H_same
  intro x
  simp only [List.mem_append, List.mem_reverse]
  exact ⟨fun h => h.elim (bs_mem l bys k hl x) id, .inr⟩
theorem H_rev_take {m l : List (Int × Int)} {k : Nat} (h : k < l.length) : H (m ++ l.reverse.take (k + 1)) = offer (H (m ++ l.reverse.take k)) (l.getD (l.length - 1 - k) (0, 0)) := by
  rw [List.take_succ_eq_append_getElem (by simp; omega), ← List.append_assoc, H_snoc]
  congr 1
  simp [show l.length - 1 - k < l.length by omega]

set_option maxRecDepth 100000 in
set_option maxHeartbeats 4000000 in
theorem corder_any (l : List (Int × Int)) (A : Option Addr) (n c : Nat) (bys : List Int) (D : Option Addr) (m d : Nat) (w : World) (hE : Fails w A n l) (hI : Ints .u16 w D m bys) (hmax : n ≤ maxLen) (hmax2 : m ≤ maxLen)
    (hwf : ∀ x ∈ bys, (Lit.int .u16 x).wf = true) :
    Calls Try.prog 4 #[.slice A n c, .slice D m d] w fun e w' => e = .returned (.bool true) ∧ Below w.heap.size w w' := by
  have hlen := hE.len_eq
  have hlen2 := hI.len_eq
  unfold maxLen at hmax hmax2
  by_cases hbig : 200 < n
  · go_enter Try.func4, Try.ntmps4
    go_wp2_with (go_at_call 9; refine (works_any _).mono ?_; rintro e w1 ⟨rfl, h1⟩)
    go_ret
    exact ⟨rfl, h1⟩
  by_cases hbig2 : 400 < m
  · go_enter Try.func4, Try.ntmps4
    go_wp2_with (go_at_call 9; refine (works_any _).mono ?_; rintro e w1 ⟨rfl, h1⟩)
    go_ret
    exact ⟨rfl, h1⟩
  go_enter Try.func4, Try.ntmps4
  go_wp2_with fail
  go_loopw [7, 8, 9, 10, 11, 28, 29, 30, 31, 32, 33, 34, 35, 36, 37, 38, 39, 40, 41, 42, 43, 44, 45, 46, 47, 48, 49, 50, 51, 52, 53, 54, 55, 56, 57, 58] (fun i _ _ _ _ _ _ _ _ _ _ _ _ _ _ _ _ _ _ _ _ _ _ _ _ _ _ _ _ _ _ _ _ _ _ _ wr => ∃ k : Nat, k ≤ n ∧ i = .int .i64 k ∧ Below w.heap.size w wr ∧ Blk wr w.heap.size 30 #[.int .i64 (H (l.take k))] ∧ Blk wr (w.heap.size + 1) 30 #[.int .i64 0]) (fun i _ _ _ _ _ _ _ _ _ _ _ _ _ _ _ _ _ _ _ _ _ _ _ _ _ _ _ _ _ _ _ _ _ _ _ _ => n - (intOf i).toNat)
  case atStart =>
    refine ⟨0, Nat.zero_le _, rfl, by (repeat' (first | (with_reducible exact Below.refl _ _) | (with_reducible assumption) | (with_reducible refine Below.alloc ?_ ?_ _) | (with_reducible refine Below.drew ?_) | (with_reducible refine Below_drewN ?_ _) | (with_reducible refine Below.setCell ?_ ?_ _) | go_size)), ?_, ?_⟩
    · exact Blk_alloc (Blk_new _ _ _) _
    · simpa [H] using Blk_new (w.alloc _) 30 _
  case round =>
    obtain ⟨k, hk, rfl, hb, h1, h2⟩ := hrel
    have hsz := Blk_lt h2
    by_cases hlt : k < n
    · obtain ⟨b, off, rfl, hB, hc⟩ := hE.at_ (by omega)
      have cx : wr.cell? ⟨b, off + k * 2, none⟩ = some (.int .i64 (l.getD k (0, 0)).1) := (hb.cell hB).trans (hc k hlt 0 (by omega))
      have cy : wr.cell? ⟨b, off + k * 2 + 1, none⟩ = some (.int .i64 (l.getD k (0, 0)).2) := (hb.cell hB).trans (hc k hlt 1 (by omega))
      have e1 := H_take (l := l) (k := k) (by omega)
      have hdn := told_down (l.take k) (l.getD k (0, 0))
      rw [show l.take k ++ [l.getD k (0, 0)] = l.take (k + 1) by rw [List.take_succ_eq_append_getElem (by omega)]; simp [show k < l.length by omega], told_H, told_H] at hdn
      obtain ⟨⟨f1, f2⟩, hf⟩ : ∃ f, l.getD k (0, 0) = f := ⟨_, rfl⟩
      obtain ⟨m1, hm1⟩ : ∃ m, H (l.take (k + 1)) = m := ⟨_, rfl⟩
      obtain ⟨n1, hn1⟩ : ∃ m, H (l.take k) = m := ⟨_, rfl⟩
      obtain ⟨⟨t1, t2⟩, ht⟩ : ∃ f, lst (l.take k) = f := ⟨_, rfl⟩
      obtain ⟨⟨v1, v2⟩, hv⟩ : ∃ f, lst (l.take (k + 1)) = f := ⟨_, rfl⟩
      obtain ⟨r, hr⟩ : ∃ r, er (f1, f2) = r := ⟨_, rfl⟩
      rw [hf] at cx cy e1
      rw [hm1, hn1] at e1
      rw [hn1] at h1
      rw [ht, hv] at hdn
      simp only [] at cx cy hdn
      have E1 := Lib.hid e1.symm
      have M1 := Lib.hid hm1
      have N1 := Lib.hid hn1
      have HT := Lib.hid ht
      have HV := Lib.hid hv
      have HR := Lib.hid hr
      have k0 : (0 : Int) ≤ (k : Int) := Int.natCast_nonneg _
      have k1 : (k : Int) < (n : Int) := by omega
      clear e1 hm1 hn1 ht hv hr hf hc hlen hlen2 hI hwf hE
      go_wp2_with fail
      refine (told_any w.heap.size n1 t1 t2 _ (l.take k) N1.out HT.out h1).mono ?_
      rintro e w' ⟨rfl, rfl⟩
      by_cases ht2 : t2 = 0
      · have ht2' : (t2 != 0) = false := by simp [ht2]
        clear hdn ht2
        go_wp2_with fail
        go_region_held3 (fun w' => w'.cell? ⟨b, off + k * 2, none⟩ = some (.int .i64 f1) ∧ w'.cell? ⟨b, off + k * 2 + 1, none⟩ = some (.int .i64 f2))
          (first
            | (with_reducible assumption)
            | exact ⟨cx, cy⟩
            | exact ⟨(hgw.cell_far _ (by simp; omega) (by simp; omega)).trans (‹_ ∧ _›).1, (hgw.cell_far _ (by simp; omega) (by simp; omega)).trans (‹_ ∧ _›).2⟩)
          (first | (go_at_call 10; refine (offer_any w.heap.size f1 f2 n1 m1 r _ (Blk_drew h1) E1.out HR.out).mono ?_; rintro e w9 ⟨rfl, hgw, h1'⟩))
        have hb9 : Below w.heap.size w w9 := hb.drew.grown hgw (by simp; omega) (fun q hq => by cases hq; exact Nat.le_refl _)
        have h2' := Blk_grown (w := wr.drew) h2 hgw (by simp)
        clear h1 h2 hb hgw cx cy
        go_wp2_with fail
        refine (told_any w.heap.size m1 v1 v2 _ (l.take (k + 1)) M1.out HV.out h1').mono ?_
        rintro e w' ⟨rfl, rfl⟩
        go_wp2_with fail
        go_roundw
        case rel => exact ⟨k + 1, by omega, by go_num, hb9, by rw [M1.out]; exact h1', h2'⟩
        case measure => simp [intOf]; omega
      · have ht2' : (t2 != 0) = true := by simp [ht2]
        have hv1 := hdn ht2
        clear hdn ht2
        go_wp2_with fail
        go_region_held3 (fun w' => w'.cell? ⟨b, off + k * 2, none⟩ = some (.int .i64 f1) ∧ w'.cell? ⟨b, off + k * 2 + 1, none⟩ = some (.int .i64 f2))
          (first
            | (with_reducible assumption)
            | exact ⟨cx, cy⟩
            | exact ⟨(hgw.cell_far _ (by simp; omega) (by simp; omega)).trans (‹_ ∧ _›).1, (hgw.cell_far _ (by simp; omega) (by simp; omega)).trans (‹_ ∧ _›).2⟩)
          (first | (go_at_call 10; refine (offer_any w.heap.size f1 f2 n1 m1 r _ (Blk_drew h1) E1.out HR.out).mono ?_; rintro e w9 ⟨rfl, hgw, h1'⟩))
        have hb9 : Below w.heap.size w w9 := hb.drew.grown hgw (by simp; omega) (fun q hq => by cases hq; exact Nat.le_refl _)
        have h2' := Blk_grown (w := wr.drew) h2 hgw (by simp)
        clear h1 h2 hb hgw cx cy
        go_wp2_with fail
        refine (told_any w.heap.size m1 v1 v2 _ (l.take (k + 1)) M1.out HV.out h1').mono ?_
        rintro e w' ⟨rfl, rfl⟩
        go_wp2_with fail
        go_roundw
        case rel => exact ⟨k + 1, by omega, by go_num, hb9, by rw [M1.out]; exact h1', h2'⟩
        case measure => simp [intOf]; omega
    · rw [List.take_of_length_le (by omega)] at h1
      obtain ⟨hl, hhl⟩ : ∃ m, H l = m := ⟨_, rfl⟩
      rw [hhl] at h1
      have HHL := Lib.hid hhl
      clear hhl
      obtain ⟨w1, hw1⟩ : ∃ w1, wr = w1 := ⟨_, rfl⟩
      subst hw1
      go_wp2_with fail
      go_loopw [12, 13, 60, 61, 62, 63, 64, 65, 66, 67, 68, 69, 70, 71, 72, 73, 74, 75, 76, 77, 78, 79, 80, 81, 82, 83, 84, 85, 86, 87, 88, 89] (fun i _ _ _ _ _ _ _ _ _ _ _ _ _ _ _ _ _ _ _ _ _ _ _ _ _ _ _ _ _ _ _ wr => ∃ k : Nat, k ≤ m ∧ i = .int .i64 k ∧ (k = 0 ∨ 0 < n) ∧ Below w.heap.size w wr ∧ Blk wr w.heap.size 30 #[.int .i64 hl] ∧ Blk wr (w.heap.size + 1) 30 #[.int .i64 (H (bs l bys k))]) (fun i _ _ _ _ _ _ _ _ _ _ _ _ _ _ _ _ _ _ _ _ _ _ _ _ _ _ _ _ _ _ _ _ => m - (intOf i).toNat)
      case atStart => exact ⟨0, Nat.zero_le _, rfl, .inl rfl, hb, h1, h2⟩
      case round =>
        clear h1 h2 hb hsz hlt hk
        obtain ⟨k, hk, rfl, hkn, hb, h1, h2⟩ := hrel
        have hsz := Blk_lt h2
        by_cases hlt : k < m ∧ 0 < n
        · obtain ⟨hlt, hn0⟩ := hlt
          obtain ⟨b, off, rfl, hB, hc⟩ := hE.at_ (by omega)
          obtain ⟨b2, off2, rfl, hB2, hc2⟩ := hI.at_ (by omega)
          have cb : wr.cell? ⟨b2, off2 + k, none⟩ = some (.int .u16 (bys.getD k 0)) := (hb.cell hB2).trans (hc2 k hlt)
          have hbd := bounds_u16 (wf_at hwf (k := k) (by omega))
          have e1 := congrArg H (bs_snoc l bys (k := k) (by omega))
          rw [H_snoc, hlen] at e1
          obtain ⟨y, hy⟩ : ∃ y, bys.getD k 0 = y := ⟨_, rfl⟩
          rw [hy] at cb hbd e1
          obtain ⟨y1, y2⟩ := hbd
          have h3 := Int.emod_nonneg y (show (n : Int) ≠ 0 by omega)
          have h4 := Int.emod_lt_of_pos y (show (0 : Int) < n by omega)
          obtain ⟨j, hj⟩ : ∃ j : Nat, y % (n : Int) = (j : Int) := ⟨(y % (n : Int)).toNat, by omega⟩
          have hjn : j < n := by omega
          rw [hj, Int.toNat_natCast] at e1
          have cx : wr.cell? ⟨b, off + j * 2, none⟩ = some (.int .i64 (l.getD j (0, 0)).1) := (hb.cell hB).trans (hc j hjn 0 (by omega))
          have cy : wr.cell? ⟨b, off + j * 2 + 1, none⟩ = some (.int .i64 (l.getD j (0, 0)).2) := (hb.cell hB).trans (hc j hjn 1 (by omega))
          obtain ⟨⟨f1, f2⟩, hf⟩ : ∃ f, l.getD j (0, 0) = f := ⟨_, rfl⟩
          obtain ⟨m1, hm1⟩ : ∃ m, H (bs l bys (k + 1)) = m := ⟨_, rfl⟩
          obtain ⟨n1, hn1⟩ : ∃ m, H (bs l bys k) = m := ⟨_, rfl⟩
          obtain ⟨r, hr⟩ : ∃ r, er (f1, f2) = r := ⟨_, rfl⟩
          rw [hf] at cx cy e1
          rw [hm1, hn1] at e1
          rw [hn1] at h2
          simp only [] at cx cy
          have E1 := Lib.hid e1.symm
          have M1 := Lib.hid hm1
          have HR := Lib.hid hr
          have j0 : (0 : Int) ≤ (j : Int) := Int.natCast_nonneg _
          have j1 : (j : Int) < (n : Int) := by omega
          clear e1 hm1 hn1 hr hf hc hc2 hlen hlen2 hI hwf hE hy h3 h4
          go_wp2_with fail
          rw [hj]
          clear hj
          go_region_held3 (fun w' => w'.cell? ⟨b, off + j * 2, none⟩ = some (.int .i64 f1) ∧ w'.cell? ⟨b, off + j * 2 + 1, none⟩ = some (.int .i64 f2))
            (first
              | (with_reducible assumption)
              | exact ⟨cx, cy⟩
              | exact ⟨(hgw.cell_far _ (by simp; omega) (by simp; omega)).trans (‹_ ∧ _›).1, (hgw.cell_far _ (by simp; omega) (by simp; omega)).trans (‹_ ∧ _›).2⟩)
            (first | (go_at_call 10; refine (offer_any (w.heap.size + 1) f1 f2 n1 m1 r _ (Blk_drew h2) E1.out HR.out).mono ?_; rintro e w9 ⟨rfl, hgw, h2'⟩))
          have hb9 : Below w.heap.size w w9 := hb.drew.grown hgw (by simp; omega) (fun q hq => by cases hq; omega)
          have h1' := Blk_grown (w := wr.drew) h1 hgw (by simp)
          clear h1 h2 hb hgw cx cy
          go_wp2_with fail
          go_roundw
          case rel => exact ⟨k + 1, by omega, by go_num, .inr hn0, hb9, h1', by rw [M1.out]; exact h2'⟩
          case measure => simp [intOf]; omega
        · have hst : (k = m ∨ n = 0) ∧ bs l bys k ++ l.reverse.take 0 = bs l bys k := ⟨by omega, by simp⟩
          have hall := H_bs l bys k (by rw [hlen]; exact hkn)
          rw [HHL.out] at hall
          rw [← hst.2] at h2
          have HB := Lib.hid hall
          have hex := hst.1
          clear hst hall
          obtain ⟨bk, hbk⟩ : ∃ x, bs l bys k = x := ⟨_, rfl⟩
          rw [hbk] at h2 HB
          clear hbk
          obtain ⟨w2, hw2⟩ : ∃ w2, wr = w2 := ⟨_, rfl⟩
          subst hw2
          by_cases hkm : k = m
          · have kd : m ≤ k := by omega
            clear hkn hex hlt hk hkm
            go_wp2_with fail
            go_loopw [14, 93, 94, 95, 96, 97, 98, 99, 100, 101, 102, 103, 104, 105, 106, 107] (fun i _ _ _ _ _ _ _ _ _ _ _ _ _ _ _ wr => ∃ (q : Nat) (z : Int), q ≤ n ∧ z = (n : Int) - 1 - q ∧ i = .int .i64 z ∧ Below w.heap.size w wr ∧ Blk wr w.heap.size 30 #[.int .i64 hl] ∧ Blk wr (w.heap.size + 1) 30 #[.int .i64 (H (bk ++ l.reverse.take q))]) (fun i _ _ _ _ _ _ _ _ _ _ _ _ _ _ _ _ => (intOf i + 1).toNat)
            case atStart => exact ⟨0, _, by omega, by simp, rfl, hb, h1, h2⟩
            case round =>
              clear h1 h2 hb hsz
              obtain ⟨q, z, hq, hz, rfl, hb, h1, h2⟩ := hrel
              have hsz := Blk_lt h2
              by_cases hlt : q < n
              · obtain ⟨b, off, rfl, hB, hc⟩ := hE.at_ (by omega)
                obtain ⟨j, hj⟩ : ∃ j : Nat, n - 1 - q = j := ⟨_, rfl⟩
                have e1 := H_rev_take (m := bk) (l := l) (k := q) (by omega)
                rw [hlen, hj] at e1
                have cx : wr.cell? ⟨b, off + j * 2, none⟩ = some (.int .i64 (l.getD j (0, 0)).1) := (hb.cell hB).trans (hc j (by omega) 0 (by omega))
                have cy : wr.cell? ⟨b, off + j * 2 + 1, none⟩ = some (.int .i64 (l.getD j (0, 0)).2) := (hb.cell hB).trans (hc j (by omega) 1 (by omega))
                obtain ⟨⟨f1, f2⟩, hf⟩ : ∃ f, l.getD j (0, 0) = f := ⟨_, rfl⟩
                obtain ⟨m1, hm1⟩ : ∃ m, H (bk ++ l.reverse.take (q + 1)) = m := ⟨_, rfl⟩
                obtain ⟨n1, hn1⟩ : ∃ m, H (bk ++ l.reverse.take q) = m := ⟨_, rfl⟩
                obtain ⟨r, hr⟩ : ∃ r, er (f1, f2) = r := ⟨_, rfl⟩
                rw [hf] at cx cy e1
                rw [hm1, hn1] at e1
                rw [hn1] at h2
                simp only [] at cx cy
                have E1 := Lib.hid e1.symm
                have M1 := Lib.hid hm1
                have HR := Lib.hid hr
                obtain rfl : z = (j : Int) := by omega
                have j0 : (0 : Int) ≤ (j : Int) := Int.natCast_nonneg _
                have j1 : (j : Int) < (n : Int) := by omega
                have hj1 : j + q + 1 ≤ n := by omega
                have hj2 : n ≤ j + q + 1 := by omega
                clear e1 hm1 hn1 hr hf hc hlen hlen2 hI hwf hE hj hz
                go_wp2_with fail
                go_region_held3 (fun w' => w'.cell? ⟨b, off + j * 2, none⟩ = some (.int .i64 f1) ∧ w'.cell? ⟨b, off + j * 2 + 1, none⟩ = some (.int .i64 f2))
                  (first
                    | (with_reducible assumption)
                    | exact ⟨cx, cy⟩
                    | exact ⟨(hgw.cell_far _ (by simp; omega) (by simp; omega)).trans (‹_ ∧ _›).1, (hgw.cell_far _ (by simp; omega) (by simp; omega)).trans (‹_ ∧ _›).2⟩)
                  (first | (go_at_call 10; refine (offer_any (w.heap.size + 1) f1 f2 n1 m1 r _ (Blk_drew h2) E1.out HR.out).mono ?_; rintro e w9 ⟨rfl, hgw, h2'⟩))
                have hb9 : Below w.heap.size w w9 := hb.drew.grown hgw (by simp; omega) (fun q hq => by cases hq; omega)
                have h1' := Blk_grown (w := wr.drew) h1 hgw (by simp)
                clear h1 h2 hb hgw cx cy
                go_wp2_with fail
                go_roundw
                case rel => exact ⟨q + 1, (j : Int) - 1, by omega, by omega, rfl, hb9, h1', by rw [M1.out]; exact h2'⟩
                case measure => (simp [intOf]; try omega)
              · obtain rfl : z = -1 := by omega
                rw [List.take_of_length_le (by simp; omega), HB.out] at h2
                obtain ⟨⟨t1, t2⟩, ht⟩ : ∃ f, lst l = f := ⟨_, rfl⟩
                have HT := Lib.hid ht
                clear ht hz hlen hlen2 hI hwf hE
                go_wp2_with fail
                refine (told_any w.heap.size hl t1 t2 _ l HHL.out HT.out h1).mono ?_
                rintro e w' ⟨rfl, rfl⟩
                go_wp2_with fail
                refine (told_any (w.heap.size + 1) hl t1 t2 _ l HHL.out HT.out h2).mono ?_
                rintro e w' ⟨rfl, rfl⟩
                go_wp2_with (go_at_call 9; refine (works_any _).mono ?_; rintro e w9 ⟨rfl, h9⟩)
                go_ret
                exact ⟨rfl, Below_same hb h9⟩
          · have hn0 : n = 0 := by omega
            have kd : k < m := by omega
            subst hn0
            have hl0 : l = [] := List.eq_nil_of_length_eq_zero hlen
            subst hl0
            simp only [List.reverse_nil, List.append_nil, List.take_nil] at HB h2
            rw [HB.out] at h2
            obtain ⟨⟨t1, t2⟩, ht⟩ : ∃ f, lst [] = f := ⟨_, rfl⟩
            have HT := Lib.hid ht
            clear ht hlen hlen2 hI hwf hE hkn hex hlt hk hkm
            go_wp2_with fail
            refine wp_loop_rounds 1 ?_
            rw [rounds_succ]
            go_wp2_with fail
            refine (told_any w.heap.size hl t1 t2 _ [] HHL.out HT.out h1).mono ?_
            rintro e w' ⟨rfl, rfl⟩
            go_wp2_with fail
            refine (told_any (w.heap.size + 1) hl t1 t2 _ [] HHL.out HT.out h2).mono ?_
            rintro e w' ⟨rfl, rfl⟩
            go_wp2_with (go_at_call 9; refine (works_any _).mono ?_; rintro e w9 ⟨rfl, h9⟩)
            go_ret
            exact ⟨rfl, Below_same hb h9⟩
end Go.Proofs.Ytginfglonakfpaa
