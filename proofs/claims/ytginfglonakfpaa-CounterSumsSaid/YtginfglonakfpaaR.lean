import Derived.Test.YtginfglonakfpaaM
import Derived.Test.YtginfglonakfpaaCom4
import Derived.Test.YtginfglonakfpaaOp
namespace Go.Proofs.Ytginfglonakfpaa
open Go.RowKit Go.BigFrame

set_option maxHeartbeats 400000 in
theorem right_eq (a b : Int) (r : Bool) (hr : decide (okF (a, b)) = r) (w : World) :
    Calls Try.prog 13 #[.agg #[.int .i64 a, .int .i64 b]] w fun e w' => e = .returned (.bool r) ∧ Below w.heap.size w w' := by
  by_cases h : okF (a, b)
  · rw [decide_eq_true h] at hr
    subst hr
    unfold okF at h
    simp only [] at h
    obtain ⟨h1, h2, h3, h4⟩ := h
    go_enter Try.func13, Try.ntmps13
    go_wp2_with fail
    go_ret
    refine ⟨?_, by (repeat' (first | (with_reducible exact Below.refl _ _) | (with_reducible assumption) | (with_reducible refine Below.alloc ?_ ?_ _) | (with_reducible refine Below.drew ?_) | (with_reducible refine Below_drewN ?_ _) | (with_reducible refine Below.setCell ?_ ?_ _) | go_size))⟩
    first | rfl | (congr 2; simp; omega)
  · rw [decide_eq_false h] at hr
    subst hr
    have hs : a < 0 ∨ (0 ≤ a ∧ 65536 ≤ a) ∨ (0 ≤ a ∧ a < 65536 ∧ b < 1) ∨ (0 ≤ a ∧ a < 65536 ∧ 1 ≤ b ∧ 255 < b) := by unfold okF at h; simp only [] at h; omega
    clear h
    rcases hs with h1 | ⟨h1, h2⟩ | ⟨h1, h2, h3⟩ | ⟨h1, h2, h3, h4⟩
    · go_enter Try.func13, Try.ntmps13
      go_wp2_with fail
      go_ret
      refine ⟨?_, by (repeat' (first | (with_reducible exact Below.refl _ _) | (with_reducible assumption) | (with_reducible refine Below.alloc ?_ ?_ _) | (with_reducible refine Below.drew ?_) | (with_reducible refine Below_drewN ?_ _) | (with_reducible refine Below.setCell ?_ ?_ _) | go_size))⟩
      first | rfl | (congr 2; simp; omega)
    · go_enter Try.func13, Try.ntmps13
      go_wp2_with fail
      go_ret
      refine ⟨?_, by (repeat' (first | (with_reducible exact Below.refl _ _) | (with_reducible assumption) | (with_reducible refine Below.alloc ?_ ?_ _) | (with_reducible refine Below.drew ?_) | (with_reducible refine Below_drewN ?_ _) | (with_reducible refine Below.setCell ?_ ?_ _) | go_size))⟩
      first | rfl | (congr 2; simp; omega)
    · go_enter Try.func13, Try.ntmps13
      go_wp2_with fail
      go_ret
      refine ⟨?_, by (repeat' (first | (with_reducible exact Below.refl _ _) | (with_reducible assumption) | (with_reducible refine Below.alloc ?_ ?_ _) | (with_reducible refine Below.drew ?_) | (with_reducible refine Below_drewN ?_ _) | (with_reducible refine Below.setCell ?_ ?_ _) | go_size))⟩
      first | rfl | (congr 2; simp; omega)
    · go_enter Try.func13, Try.ntmps13
      go_wp2_with fail
      go_ret
      refine ⟨?_, by (repeat' (first | (with_reducible exact Below.refl _ _) | (with_reducible assumption) | (with_reducible refine Below.alloc ?_ ?_ _) | (with_reducible refine Below.drew ?_) | (with_reducible refine Below_drewN ?_ _) | (with_reducible refine Below.setCell ?_ ?_ _) | go_size))⟩
      first | rfl | (congr 2; simp; omega)

def fl (f : Int × Int) : List Value := [.int .i64 f.1, .int .i64 f.2]
abbrev Fails := Els fl (0, 0) 2

theorem rstep_1 {o1 o2 f1 f2 : Int} (h : ¬ okF (f1, f2)) : rstep (o1, o2) (f1, f2) = (o1, o2) := by unfold rstep; rw [if_neg (fun x => h x.1)]
theorem rstep_2 {o1 o2 f1 f2 : Int} (h : okF (f1, f2)) (h2 : o2 = 0 ∨ f1 < o1 ∨ f1 = o1 ∧ f2 < o2) : rstep (o1, o2) (f1, f2) = (f1, f2) := by unfold rstep; rw [if_pos ⟨h, h2⟩]
theorem rstep_3 {o1 o2 f1 f2 : Int} (h2 : ¬ (o2 = 0 ∨ f1 < o1 ∨ f1 = o1 ∧ f2 < o2)) : rstep (o1, o2) (f1, f2) = (o1, o2) := by unfold rstep; rw [if_neg (fun x => h2 x.2)]

set_option maxRecDepth 100000 in
set_option maxHeartbeats 2000000 in
theorem least_any (l : List (Int × Int)) (A : Option Addr) (n c : Nat) (w : World) (hE : Fails w A n l) (hn : n ≤ 1000) :
    Calls Try.prog 11 #[.slice A n c] w fun e w' => e = .returned (.agg #[.int .i64 (lst l).1, .int .i64 (lst l).2]) ∧ Below w.heap.size w w' := by
  have hlen := hE.len_eq
  go_enter Try.func11, Try.ntmps11
  go_wp2_with fail
  go_loopw [4, 5, 6, 7, 8, 9, 10, 11, 12, 13, 14, 15, 16, 17, 18, 19, 20, 21, 22, 23, 24, 25, 26, 27, 28, 29, 30, 31, 32, 33, 34, 35, 36, 37, 38, 39, 40, 41, 42, 43, 44, 45, 46, 47, 48, 49, 50, 51, 52, 53, 54] (fun i _ _ _ _ _ _ _ _ _ _ _ _ _ _ _ _ _ _ _ _ _ _ _ _ _ _ _ _ _ _ _ _ _ _ _ _ _ _ _ _ _ _ _ _ _ _ _ _ _ _ wr => ∃ k : Nat, k ≤ n ∧ i = .int .i64 k ∧ Below w.heap.size w wr ∧ Blk wr (w.heap.size + 1) 34 #[.int .i64 (lst (l.take k)).1, .int .i64 (lst (l.take k)).2] ∧ Blk wr w.heap.size 34 #[.int .i64 0, .int .i64 0]) (fun i _ _ _ _ _ _ _ _ _ _ _ _ _ _ _ _ _ _ _ _ _ _ _ _ _ _ _ _ _ _ _ _ _ _ _ _ _ _ _ _ _ _ _ _ _ _ _ _ _ _ _ => n - (intOf i).toNat)
  case atStart =>
    refine ⟨0, Nat.zero_le _, rfl, by (repeat' (first | (with_reducible exact Below.refl _ _) | (with_reducible assumption) | (with_reducible refine Below.alloc ?_ ?_ _) | (with_reducible refine Below.drew ?_) | (with_reducible refine Below_drewN ?_ _) | (with_reducible refine Below.setCell ?_ ?_ _) | go_size)), ?_, ?_⟩
    · simpa [lst] using Blk_new (w.alloc _) 34 _
    · exact Blk_alloc (Blk_new _ _ _) _
  case round =>
    obtain ⟨k, hk, rfl, hb, h1, h2⟩ := hrel
    have hsz := Blk_lt h1
    by_cases hlt : k < n
    · obtain ⟨b, off, rfl, hB, hc⟩ := hE.at_ (by omega)
      have hsn : lst (l.take (k + 1)) = rstep (lst (l.take k)) (l.getD k (0, 0)) := by
        rw [List.take_succ_eq_append_getElem (by omega), lst_snoc]; simp [show k < l.length by omega]
      have cx0 : wr.cell? ⟨b, off + k * 2, none⟩ = some (.int .i64 (l.getD k (0, 0)).1) := (hb.cell hB).trans (hc k hlt 0 (by omega))
      have cy0 : wr.cell? ⟨b, off + k * 2 + 1, none⟩ = some (.int .i64 (l.getD k (0, 0)).2) := (hb.cell hB).trans (hc k hlt 1 (by omega))
      obtain ⟨⟨f1, f2⟩, hf⟩ : ∃ f, l.getD k (0, 0) = f := ⟨_, rfl⟩
      obtain ⟨⟨o1, o2⟩, ho⟩ : ∃ f, lst (l.take k) = f := ⟨_, rfl⟩
      rw [hf] at hsn cx0 cy0
      rw [ho] at hsn h1
      clear hf ho hc hE hlen
      have HS := Lib.hid hsn
      clear hsn
      simp only [] at cx0 cy0 h1
      have k0 : (0 : Int) ≤ (k : Int) := Int.natCast_nonneg _
      have k1 : (k : Int) < (n : Int) := by omega
      have u0 := fun x : Up wr => up_cell x cx0
      have u1 := fun x : Up wr => up_cell x cy0
      have u2 := fun x : Up wr => up_cell x (Blk_cell h1 0)
      have u3 := fun x : Up wr => up_cell x (Blk_cell h1 1)
      by_cases hok : okF (f1, f2)
      · have HOK := Lib.hid (decide_eq_true hok)
        by_cases t1 : o2 = 0
        · have t1' : (o2 == 0) = true := by simp [t1]
          have HP0 := Lib.hid (rstep_2 (o1 := o1) hok (.inl t1))
          clear t1
          have HP := Lib.hid (HP0.out)
          go_wp2_with fail
          refine wp_region_up (by kernel_rfl) (by kernel_rfl) ?_
          repeat (go_big_quiet_step ((go_at_call 13; (with_reducible refine up_call (right_eq f1 f2 true HOK.out _)))))
          refine wpQuiet_nil ?_
          intro w' hup
          have b4 := hup
          have B1 := Blk_below h1 b4 (Blk_lt h1)
          have B2 := Blk_below h2 b4 (Blk_lt h2)
          have b5 := Below_same hb b4
          have c0 := Blk_cell B1 0
          have c1 := Blk_cell B1 1
          have g0 := Blk_frozen B1 0
          have g1 := Blk_frozen B1 1
          have cx := (b4.cell (p := ⟨b, off + k * 2, none⟩) (by simp; omega)).trans cx0
          have cy := (b4.cell (p := ⟨b, off + k * 2 + 1, none⟩) (by simp; omega)).trans cy0
          clear b4 hup u0 u1 u2 u3 cx0 cy0
          go_wp2_with fail
          go_roundw
          case rel =>
            refine ⟨k + 1, by omega, by go_num, by (repeat' (first | (with_reducible exact Below.refl _ _) | (with_reducible assumption) | (with_reducible refine Below.alloc ?_ ?_ _) | (with_reducible refine Below.drew ?_) | (with_reducible refine Below_drewN ?_ _) | (with_reducible refine Below.setCell ?_ ?_ _) | go_size)), ?_, by (repeat' (first | (with_reducible assumption) | (with_reducible exact Blk_new _ _ _) | (with_reducible refine Blk_drew ?_) | (with_reducible refine Blk_drewN ?_ _) | (with_reducible refine Blk_alloc ?_ _) | (with_reducible refine Blk_far ?_ ?_ _) | (simp; done) | (simp; omega)))⟩
            rw [HS.out, HP.out]
            exact Blk_upd (Blk_upd B1 0 _ rfl) 1 _ (by simp)
          case measure => simp [intOf]; omega
        · have t1' : (o2 == 0) = false := by simp [t1]
          by_cases t2 : f1 < o1
          · have HP0 := Lib.hid (rstep_2 (o2 := o2) hok (.inr (.inl t2)))
            have HP := Lib.hid (HP0.out)
            go_wp2_with fail
            refine wp_region_up (by kernel_rfl) (by kernel_rfl) ?_
            repeat (go_big_quiet_step ((go_at_call 13; (with_reducible refine up_call (right_eq f1 f2 true HOK.out _)))))
            refine wpQuiet_nil ?_
            intro w' hup
            have b4 := hup
            have B1 := Blk_below h1 b4 (Blk_lt h1)
            have B2 := Blk_below h2 b4 (Blk_lt h2)
            have b5 := Below_same hb b4
            have c0 := Blk_cell B1 0
            have c1 := Blk_cell B1 1
            have g0 := Blk_frozen B1 0
            have g1 := Blk_frozen B1 1
            have cx := (b4.cell (p := ⟨b, off + k * 2, none⟩) (by simp; omega)).trans cx0
            have cy := (b4.cell (p := ⟨b, off + k * 2 + 1, none⟩) (by simp; omega)).trans cy0
            clear b4 hup u0 u1 u2 u3 cx0 cy0
            go_wp2_with fail
            go_roundw
            case rel =>
              refine ⟨k + 1, by omega, by go_num, by (repeat' (first | (with_reducible exact Below.refl _ _) | (with_reducible assumption) | (with_reducible refine Below.alloc ?_ ?_ _) | (with_reducible refine Below.drew ?_) | (with_reducible refine Below_drewN ?_ _) | (with_reducible refine Below.setCell ?_ ?_ _) | go_size)), ?_, by (repeat' (first | (with_reducible assumption) | (with_reducible exact Blk_new _ _ _) | (with_reducible refine Blk_drew ?_) | (with_reducible refine Blk_drewN ?_ _) | (with_reducible refine Blk_alloc ?_ _) | (with_reducible refine Blk_far ?_ ?_ _) | (simp; done) | (simp; omega)))⟩
              rw [HS.out, HP.out]
              exact Blk_upd (Blk_upd B1 0 _ rfl) 1 _ (by simp)
            case measure => simp [intOf]; omega
          · by_cases t3 : f1 = o1
            · subst t3
              have t3' : (f1 == f1) = true := by simp
              by_cases t4 : f2 < o2
              · have HP0 := Lib.hid (rstep_2 (o1 := f1) hok (.inr (.inr ⟨rfl, t4⟩)))
                have HP := Lib.hid (HP0.out)
                go_wp2_with fail
                refine wp_region_up (by kernel_rfl) (by kernel_rfl) ?_
                repeat (go_big_quiet_step ((go_at_call 13; (with_reducible refine up_call (right_eq f1 f2 true HOK.out _)))))
                refine wpQuiet_nil ?_
                intro w' hup
                have b4 := hup
                have B1 := Blk_below h1 b4 (Blk_lt h1)
                have B2 := Blk_below h2 b4 (Blk_lt h2)
                have b5 := Below_same hb b4
                have c0 := Blk_cell B1 0
                have c1 := Blk_cell B1 1
                have g0 := Blk_frozen B1 0
                have g1 := Blk_frozen B1 1
                have cx := (b4.cell (p := ⟨b, off + k * 2, none⟩) (by simp; omega)).trans cx0
                have cy := (b4.cell (p := ⟨b, off + k * 2 + 1, none⟩) (by simp; omega)).trans cy0
                clear b4 hup u0 u1 u2 u3 cx0 cy0
                go_wp2_with fail
                go_roundw
                case rel =>
                  refine ⟨k + 1, by omega, by go_num, by (repeat' (first | (with_reducible exact Below.refl _ _) | (with_reducible assumption) | (with_reducible refine Below.alloc ?_ ?_ _) | (with_reducible refine Below.drew ?_) | (with_reducible refine Below_drewN ?_ _) | (with_reducible refine Below.setCell ?_ ?_ _) | go_size)), ?_, by (repeat' (first | (with_reducible assumption) | (with_reducible exact Blk_new _ _ _) | (with_reducible refine Blk_drew ?_) | (with_reducible refine Blk_drewN ?_ _) | (with_reducible refine Blk_alloc ?_ _) | (with_reducible refine Blk_far ?_ ?_ _) | (simp; done) | (simp; omega)))⟩
                  rw [HS.out, HP.out]
                  exact Blk_upd (Blk_upd B1 0 _ rfl) 1 _ (by simp)
                case measure => simp [intOf]; omega
              · have t4' : decide (f2 < o2) = false := by simp [t4]
                have HP0 := Lib.hid (rstep_3 (o1 := f1) (o2 := o2) (f1 := f1) (f2 := f2) (by omega))
                have HP := Lib.hid (HP0.out)
                go_wp2_with fail
                refine wp_region_up (by kernel_rfl) (by kernel_rfl) ?_
                repeat (go_big_quiet_step ((go_at_call 13; (with_reducible refine up_call (right_eq f1 f2 true HOK.out _)))))
                refine wpQuiet_nil ?_
                intro w' hup
                have b4 := hup
                have B1 := Blk_below h1 b4 (Blk_lt h1)
                have B2 := Blk_below h2 b4 (Blk_lt h2)
                have b5 := Below_same hb b4
                have c0 := Blk_cell B1 0
                have c1 := Blk_cell B1 1
                have g0 := Blk_frozen B1 0
                have g1 := Blk_frozen B1 1
                have cx := (b4.cell (p := ⟨b, off + k * 2, none⟩) (by simp; omega)).trans cx0
                have cy := (b4.cell (p := ⟨b, off + k * 2 + 1, none⟩) (by simp; omega)).trans cy0
                clear b4 hup u0 u1 u2 u3 cx0 cy0
                go_wp2_with fail
                go_roundw
                case rel =>
                  refine ⟨k + 1, by omega, by go_num, by (repeat' (first | (with_reducible exact Below.refl _ _) | (with_reducible assumption) | (with_reducible refine Below.alloc ?_ ?_ _) | (with_reducible refine Below.drew ?_) | (with_reducible refine Below_drewN ?_ _) | (with_reducible refine Below.setCell ?_ ?_ _) | go_size)), ?_, by (repeat' (first | (with_reducible assumption) | (with_reducible exact Blk_new _ _ _) | (with_reducible refine Blk_drew ?_) | (with_reducible refine Blk_drewN ?_ _) | (with_reducible refine Blk_alloc ?_ _) | (with_reducible refine Blk_far ?_ ?_ _) | (simp; done) | (simp; omega)))⟩
                  rw [HS.out, HP.out]
                  exact B1
                case measure => simp [intOf]; omega
            · have t3' : (f1 == o1) = false := by simp [t3]
              have t2' : decide (f1 < o1) = false := by simp [t2]
              have HP0 := Lib.hid (rstep_3 (o1 := o1) (o2 := o2) (f1 := f1) (f2 := f2) (by omega))
              have HP := Lib.hid (HP0.out)
              go_wp2_with fail
              refine wp_region_up (by kernel_rfl) (by kernel_rfl) ?_
              repeat (go_big_quiet_step ((go_at_call 13; (with_reducible refine up_call (right_eq f1 f2 true HOK.out _)))))
              refine wpQuiet_nil ?_
              intro w' hup
              have b4 := hup
              have B1 := Blk_below h1 b4 (Blk_lt h1)
              have B2 := Blk_below h2 b4 (Blk_lt h2)
              have b5 := Below_same hb b4
              have c0 := Blk_cell B1 0
              have c1 := Blk_cell B1 1
              have g0 := Blk_frozen B1 0
              have g1 := Blk_frozen B1 1
              have cx := (b4.cell (p := ⟨b, off + k * 2, none⟩) (by simp; omega)).trans cx0
              have cy := (b4.cell (p := ⟨b, off + k * 2 + 1, none⟩) (by simp; omega)).trans cy0
              clear b4 hup u0 u1 u2 u3 cx0 cy0
              go_wp2_with fail
              go_roundw
              case rel =>
                refine ⟨k + 1, by omega, by go_num, by (repeat' (first | (with_reducible exact Below.refl _ _) | (with_reducible assumption) | (with_reducible refine Below.alloc ?_ ?_ _) | (with_reducible refine Below.drew ?_) | (with_reducible refine Below_drewN ?_ _) | (with_reducible refine Below.setCell ?_ ?_ _) | go_size)), ?_, by (repeat' (first | (with_reducible assumption) | (with_reducible exact Blk_new _ _ _) | (with_reducible refine Blk_drew ?_) | (with_reducible refine Blk_drewN ?_ _) | (with_reducible refine Blk_alloc ?_ _) | (with_reducible refine Blk_far ?_ ?_ _) | (simp; done) | (simp; omega)))⟩
                rw [HS.out, HP.out]
                exact B1
              case measure => simp [intOf]; omega
      · have HOK := Lib.hid (decide_eq_false hok)
        have HP0 := Lib.hid (rstep_1 (o1 := o1) (o2 := o2) hok)
        have HP := Lib.hid (HP0.out)
        go_wp2_with fail
        refine wp_region_up (by kernel_rfl) (by kernel_rfl) ?_
        repeat (go_big_quiet_step ((go_at_call 13; (with_reducible refine up_call (right_eq f1 f2 false HOK.out _)))))
        refine wpQuiet_nil ?_
        intro w' hup
        have b4 := hup
        have B1 := Blk_below h1 b4 (Blk_lt h1)
        have B2 := Blk_below h2 b4 (Blk_lt h2)
        have b5 := Below_same hb b4
        have c0 := Blk_cell B1 0
        have c1 := Blk_cell B1 1
        have g0 := Blk_frozen B1 0
        have g1 := Blk_frozen B1 1
        have cx := (b4.cell (p := ⟨b, off + k * 2, none⟩) (by simp; omega)).trans cx0
        have cy := (b4.cell (p := ⟨b, off + k * 2 + 1, none⟩) (by simp; omega)).trans cy0
        clear b4 hup u0 u1 u2 u3 cx0 cy0
        go_wp2_with fail
        go_roundw
        case rel =>
          refine ⟨k + 1, by omega, by go_num, by (repeat' (first | (with_reducible exact Below.refl _ _) | (with_reducible assumption) | (with_reducible refine Below.alloc ?_ ?_ _) | (with_reducible refine Below.drew ?_) | (with_reducible refine Below_drewN ?_ _) | (with_reducible refine Below.setCell ?_ ?_ _) | go_size)), ?_, by (repeat' (first | (with_reducible assumption) | (with_reducible exact Blk_new _ _ _) | (with_reducible refine Blk_drew ?_) | (with_reducible refine Blk_drewN ?_ _) | (with_reducible refine Blk_alloc ?_ _) | (with_reducible refine Blk_far ?_ ?_ _) | (simp; done) | (simp; omega)))⟩
          rw [HS.out, HP.out]
          exact B1
        case measure => simp [intOf]; omega
    · have hfin : lst (l.take k) = lst l := by rw [List.take_of_length_le (by omega)]
      rw [hfin] at h1
      clear hfin
      obtain ⟨⟨o1, o2⟩, ho⟩ : ∃ f, lst l = f := ⟨_, rfl⟩
      rw [ho] at h1
      simp only [] at h1
      have HO := Lib.hid ho
      clear ho
      have c0 := Blk_cell h1 0
      have c1 := Blk_cell h1 1
      have e0 := Blk_cell h2 0
      have e1 := Blk_cell h2 1
      have g0 := Blk_frozen h2 0
      have g1 := Blk_frozen h2 1
      go_wp2_with fail
      refine bodyPost_ret (v := .agg #[.int .i64 o1, .int .i64 o2]) (by simp [results, Try.results11, go_sem, e0, e1]) rfl ⟨by rw [HO.out], by (repeat' (first | (with_reducible exact Below.refl _ _) | (with_reducible assumption) | (with_reducible refine Below.alloc ?_ ?_ _) | (with_reducible refine Below.drew ?_) | (with_reducible refine Below_drewN ?_ _) | (with_reducible refine Below.setCell ?_ ?_ _) | go_size))⟩
end Go.Proofs.Ytginfglonakfpaa
