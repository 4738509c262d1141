/-
  TablePlays. No condition.
-/
import Derived.Test.YtlbfjmdemljmhaaL
import Derived.Test.YtlbfjmdemljmhaaOp
set_option linter.unusedVariables false
namespace Go.Proofs.Ytlbfjmdemljmhaa
open Go.RowKit Go.BigFrame
open TP (V TB putR getR cnt vals)
open TR (RT)

theorem vast_true (n : Int) (len : Nat) (A : Option Addr) (c : Nat) (w : World) (h : 300 < len ∨ (2000 < n ∧ n ≤ 65536)) :
    Calls Try.prog 7 #[.int .i64 n, .slice A len c] w fun e w' => e = .returned (.bool true) ∧ w = w' := by
  by_cases h1 : 300 < (len : Int)
  · go_enter Try.func7, Try.ntmps7
    go_wp2_with fail
    go_ret
    exact ⟨rfl, rfl⟩
  · have h2 : 2000 < n := by omega
    have h3 : n ≤ 65536 := by omega
    clear h
    go_enter Try.func7, Try.ntmps7
    go_wp2_with fail
    go_ret
    exact ⟨rfl, rfl⟩
theorem vast_false (n : Int) (len : Nat) (A : Option Addr) (c : Nat) (w : World) (h : ¬ (300 < len ∨ (2000 < n ∧ n ≤ 65536))) :
    Calls Try.prog 7 #[.int .i64 n, .slice A len c] w fun e w' => e = .returned (.bool false) ∧ w = w' := by
  have h1 : ¬ 300 < (len : Int) := by omega
  by_cases h2 : 2000 < n
  · have h3 : ¬ n ≤ 65536 := by omega
    clear h
    go_enter Try.func7, Try.ntmps7
    go_wp2_with fail
    go_ret
    exact ⟨rfl, rfl⟩
  · clear h
    go_enter Try.func7, Try.ntmps7
    go_wp2_with fail
    go_ret
    exact ⟨rfl, rfl⟩

def allR (l : List (Option V)) : List V × Int := match vals l with | some vs => (vs, 0) | none => ([], 4)
theorem post_all {l : List (Option V)} {vs : List V} {e : Int} (hp : allR l = (vs, e)) {w w' : World} {x : Ending} (h : TP.AllPost l w x w') :
    Below w.heap.size w w' ∧ ∃ sv, x = .returned (.tuple #[sv, .int .i64 e]) ∧ w'.ownsRow w.heap.size 30 2 sv vs.length (vs.map pv).flatten := by
  unfold allR at hp
  unfold TP.AllPost at h
  refine ⟨h.1, ?_⟩
  cases hv : vals l with
  | none =>
    rw [hv] at hp h
    simp only [Prod.mk.injEq] at hp
    obtain ⟨rfl, rfl⟩ := hp
    exact ⟨_, h.2, World.ownsRow_nil _ _ _ _⟩
  | some us =>
    rw [hv] at hp h
    simp only [Prod.mk.injEq] at hp
    obtain ⟨rfl, rfl⟩ := hp
    obtain ⟨sv, h1, h2⟩ := h.2
    have hl : l.length = us.length := by rw [TP.vals_some hv, List.length_map]
    rw [hl] at h2
    exact ⟨sv, h1, h2⟩
theorem allR_len {l : List (Option V)} {vs : List V} {e : Int} (hp : allR l = (vs, e)) : vs.length ≤ l.length := by
  unfold allR at hp
  cases hv : vals l with
  | none => rw [hv] at hp; simp only [Prod.mk.injEq] at hp; obtain ⟨rfl, rfl⟩ := hp; simp
  | some us => rw [hv] at hp; simp only [Prod.mk.injEq] at hp; obtain ⟨rfl, rfl⟩ := hp; rw [TP.vals_some hv, List.length_map]; exact Nat.le_refl _

abbrev O := Bool × Int × (Int × ByteArray)
def ov (o : O) : List Value := [.bool o.1, .int .i64 o.2.1, .int .i64 o.2.2.1, .string o.2.2.2]
def o0 : O := (false, 0, (0, ByteArray.empty))
abbrev Opl := Els ov o0 4

/-- Both tables, behind what one of them made. -/
theorem both_only {w w' : World} {T C T2 C2 : Nat} {L L' : List (Option V)} (hT : TB w T C L) (hR : RT w T2 C2 L') (ho : Only [T, C] w w') : RT w' T2 C2 L' :=
  hR.only ho (by simp; exact ⟨blk_neq hR.obj hT.obj (by decide), blk_neq hR.obj hT.grid.blk (by decide)⟩) (by simp; exact ⟨blk_neq hR.grid.blk hT.obj (by decide), blk_neq hR.grid.blk hT.grid.blk (by decide)⟩)
theorem both_only' {w w' : World} {T C T2 C2 : Nat} {L L' : List (Option V)} (hT : TB w T C L) (hR : RT w T2 C2 L') (ho : Only [C2] w w') : TB w' T C L :=
  hT.only ho (by simp; exact blk_neq hT.obj hR.grid.blk (by decide)) (by simp; exact blk_neq hT.grid.blk hR.grid.blk (by decide))

set_option maxRecDepth 100000 in
set_option maxHeartbeats 4000000 in
theorem plays_any (n : Int) (l : List O) (A : Option Addr) (c : Nat) (w : World) (hO : Opl w A l.length l) (hl : l.length ≤ maxLen) :
    Calls Try.prog 3 #[.int .i64 n, .slice A l.length c] w fun e w' => e = .returned (.bool true) ∧ Below w.heap.size w w' := by
  by_cases hv : 300 < l.length ∨ (2000 < n ∧ n ≤ 65536)
  · go_enter Try.func3, Try.ntmps3
    go_wp2_with (go_at_call 7; refine (vast_true _ _ _ _ _ hv).mono ?_; rintro e w' ⟨rfl, rfl⟩)
    refine (works_any _).mono ?_
    rintro e w' ⟨rfl, hw⟩
    go_wp2_with fail
    go_ret
    exact ⟨rfl, hw⟩
  by_cases hn : n < 0 ∨ 65536 < n
  · go_enter Try.func3, Try.ntmps3
    go_wp2_with (go_at_call 7; refine (vast_false _ _ _ _ _ hv).mono ?_; rintro e w' ⟨rfl, rfl⟩)
    refine (TP.new_arg n _ hn).mono ?_
    rintro e w' ⟨rfl, rfl⟩
    go_wp2_with fail
    refine (TR.new_arg n _ hn).mono ?_
    rintro e w' ⟨rfl, rfl⟩
    go_wp2_with fail
    refine (works_any _).mono ?_
    rintro e w' ⟨rfl, hw⟩
    go_wp2_with fail
    go_ret
    exact ⟨rfl, hw⟩
  obtain ⟨k, rfl⟩ : ∃ k : Nat, (k : Int) = n := ⟨n.toNat, by omega⟩
  have hk : k ≤ 65536 := by omega
  have hl3 : l.length ≤ 300 := by omega
  go_enter Try.func3, Try.ntmps3
  go_wp2_with (go_at_call 7; refine (vast_false _ _ _ _ _ hv).mono ?_; rintro e w' ⟨rfl, rfl⟩)
  clear hn hv
  refine (TP.new_ok k w hk).mono ?_
  rintro e w1 ⟨rfl, hb1, hT1⟩
  go_wp2_with fail
  refine (TR.new_ok k w1 hk).mono ?_
  rintro e w2 ⟨rfl, hb2, hR2⟩
  have hT2 := hT1.below hb2
  have hbb2 := Below_same hb1 hb2
  have hz1 := hb1.size
  have hz2 := hb2.size
  obtain ⟨T, hT0⟩ : ∃ T, w.heap.size + 1 = T := ⟨_, rfl⟩
  obtain ⟨C, hC0⟩ : ∃ T, w.heap.size = T := ⟨_, rfl⟩
  obtain ⟨T2, hT20⟩ : ∃ T, w1.heap.size + 1 = T := ⟨_, rfl⟩
  obtain ⟨C2, hC20⟩ : ∃ T, w1.heap.size = T := ⟨_, rfl⟩
  have hlo : w.heap.size ≤ T ∧ w.heap.size ≤ C ∧ w.heap.size ≤ T2 ∧ w.heap.size ≤ C2 := by omega
  rw [hT0] at hT2 ⊢
  rw [hT20, hC20] at hR2
  rw [hT20]
  rw [show TB w2 T w.heap.size (List.replicate k none) = TB w2 T C (List.replicate k none) by rw [hC0]] at hT2
  clear hT0 hC0 hT20 hC20 hT1 hb1 hb2 hz1 hz2
  go_wp2_with fail
  go_loopw [9, 10, 11, 12, 13, 48, 49, 50, 51, 52, 53, 54, 55, 56, 57, 58, 59, 60, 61, 62, 63, 64, 65, 66, 67, 68, 69, 70, 71, 72, 73, 74, 75, 76, 77, 78, 79, 80, 81, 82, 83, 84, 85, 86, 87, 88, 89, 90, 91, 92, 93, 94, 95, 96, 97, 98, 99, 100, 101, 102, 103, 104, 105, 106, 107, 108, 109, 110, 111, 112, 113, 114, 115, 116, 117, 118, 119, 120, 121, 122, 123, 124, 125, 126, 127, 128, 129, 130] (fun i _ _ _ _ _ _ _ _ _ _ _ _ _ _ _ _ _ _ _ _ _ _ _ _ _ _ _ _ _ _ _ _ _ _ _ _ _ _ _ _ _ _ _ _ _ _ _ _ _ _ _ _ _ _ _ _ _ _ _ _ _ _ _ _ _ _ _ _ _ _ _ _ _ _ _ _ _ _ _ _ _ _ _ _ _ _ _ wr => ∃ (j : Nat) (L : List (Option V)), j ≤ l.length ∧ i = .int .i64 j ∧ Below w.heap.size w wr ∧ TB wr T C L ∧ RT wr T2 C2 L ∧ L.length = k) (fun i _ _ _ _ _ _ _ _ _ _ _ _ _ _ _ _ _ _ _ _ _ _ _ _ _ _ _ _ _ _ _ _ _ _ _ _ _ _ _ _ _ _ _ _ _ _ _ _ _ _ _ _ _ _ _ _ _ _ _ _ _ _ _ _ _ _ _ _ _ _ _ _ _ _ _ _ _ _ _ _ _ _ _ _ _ _ _ _ => l.length - (intOf i).toNat)
  case atStart => exact ⟨0, _, by omega, rfl, hbb2, hT2, hR2, by simp⟩
  case round =>
    obtain ⟨j, L, hj, rfl, hb, hT, hR, hL⟩ := hrel
    by_cases hlt : j < l.length
    · obtain ⟨b, off, rfl, hB, hc⟩ := hO.at_ (by omega)
      obtain ⟨⟨p, I, v1, v2⟩, ho⟩ : ∃ o, l.getD j o0 = o := ⟨_, rfl⟩
      have cp : w.cell? ⟨b, off + j * 4, none⟩ = some (.bool p) := by have := hc j hlt 0 (by omega); rw [ho] at this; exact this
      have ci : w.cell? ⟨b, off + j * 4 + 1, none⟩ = some (.int .i64 I) := by have := hc j hlt 1 (by omega); rw [ho] at this; exact this
      have cv1 : w.cell? ⟨b, off + j * 4 + 2, none⟩ = some (.int .i64 v1) := by have := hc j hlt 2 (by omega); rw [ho] at this; exact this
      have cv2 : w.cell? ⟨b, off + j * 4 + 3, none⟩ = some (.string v2) := by have := hc j hlt 3 (by omega); rw [ho] at this; exact this
      clear hc ho hO
      cases p with
      | false =>
        have up := fun x : Up wr => up_cell x ((hb.cell hB).trans cp)
        go_wp2_with fail
        refine wp_region_up (by kernel_rfl) (by kernel_rfl) ?_
        repeat (go_big_quiet_step (fail))
        refine wpQuiet_nil ?_
        intro w' hup
        have hT5 := hT.below hup
        have hR5 := hR.below hup
        have hb5 := Below_same hb hup
        clear hb hT hR up hup cp cv1 cv2
        obtain ⟨⟨v5, e5⟩, hg5⟩ : ∃ p, getR L I = p := ⟨_, rfl⟩
        obtain ⟨q5, hq5⟩ : ∃ q, cnt L = q := ⟨_, rfl⟩
        obtain ⟨n5, hn5⟩ : ∃ q, L.length = q := ⟨_, rfl⟩
        obtain ⟨v51, v52⟩ := v5
        have HG5 := Lib.hid hg5
        have ci5 := (hb5.cell hB).trans ci
        clear hg5
        go_wp2_with fail
        refine (TP.get_all T C L I e5 (v51, v52) _ hT5 HG5.out).mono ?_
        rintro e w6 ⟨rfl, h6⟩
        have hT6 := hT5.below h6
        have hR6 := hR5.below h6
        have hb6 := Below_same hb5 h6
        clear hT5 hR5 hb5 h6 ci5
        have hT7 := hT6.below (Below.alloc (Below.refl _ _) (Nat.le_refl _) (.cells #[.int .i64 v51, .string v52] 30))
        have hR7 := hR6.below (Below.alloc (Below.refl _ _) (Nat.le_refl _) (.cells #[.int .i64 v51, .string v52] 30))
        have hb7 := hb6.alloc hb6.size (.cells #[.int .i64 v51, .string v52] 30)
        have ci7 := (hb7.cell hB).trans ci
        have hx7 := Blk_new w6 30 #[.int .i64 v51, .string v52]
        go_wp2_with fail
        refine (TR.get_all T2 C2 L I e5 (v51, v52) _ hR7 HG5.out).mono ?_
        rintro e w8 ⟨rfl, h8⟩
        have hT8 := hT7.below h8
        have hR8 := hR7.below h8
        have hx8 := Blk_below hx7 h8 (by simp)
        have hb8 := Below_same hb7 h8
        have hz8 := Blk_lt hx8
        clear hT6 hR6 hb6 hT7 hR7 hb7 hx7 h8 ci7
        have hT9 := hT8.below (Below.alloc (Below.refl _ _) (Nat.le_refl _) (.cells #[.int .i64 v51, .string v52] 30))
        have hR9 := hR8.below (Below.alloc (Below.refl _ _) (Nat.le_refl _) (.cells #[.int .i64 v51, .string v52] 30))
        have hb9 := hb8.alloc hb8.size (.cells #[.int .i64 v51, .string v52] 30)
        have hx9 := Blk_alloc hx8 (.cells #[.int .i64 v51, .string v52] 30)
        have hy9 := Blk_new w8 30 #[.int .i64 v51, .string v52]
        clear hT8 hR8 hb8 hx8
        obtain ⟨w9, hw9⟩ : ∃ x, w8.alloc (.cells #[.int .i64 v51, .string v52] 30) = x := ⟨_, rfl⟩
        rw [hw9] at hT9 hR9 hb9 hx9 hy9
        have HW9 := Lib.hid hw9
        have u1 := fun x : Up w9 => up_cell x (Blk_cell hx9 0)
        have u2 := fun x : Up w9 => up_cell x (Blk_cell hx9 1)
        have u3 := fun x : Up w9 => up_cell x (Blk_cell hy9 0)
        have u4 := fun x : Up w9 => up_cell x (Blk_cell hy9 1)
        have u5 := fun x : Up w9 => up_cell x (Blk_cell hR9.obj 0)
        have l1 := fun x : Up w9 => TP.left_ok T C L x.w (hT9.below x.ok)
        have l2 := fun x : Up w9 => TR.left_ok T2 C2 L x.w (hR9.below x.ok) (by omega)
        have l3 := fun x : Up w9 => TP.size_ok T C L x.w (hT9.below x.ok)
        rw [hq5] at l1 l2
        rw [hn5] at l3 u5
        have hn5b : n5 ≤ 65536 := by omega
        have HN5 := Lib.hid hn5
        have HL5 := Lib.hid hL
        clear hq5 hn5 hw9 hL
        go_wp2_with fail
        rw [HW9.out]
        refine wp_region_up (by kernel_rfl) (by kernel_rfl) ?_
        repeat (go_big_quiet_step (first | (go_at_call 15; (with_reducible refine up_call_same (l1 _))) | (go_at_call 16; (with_reducible refine up_call_same (l2 _))) | (go_at_call 17; (with_reducible refine up_call_same (l3 _)))))
        refine wpQuiet_nil ?_
        intro w' hup
        have hb10 := Below_same hb9 hup
        have hT10 := hT9.below hup
        have hR10 := hR9.below hup
        clear hb9 hT9 hR9 hx9 hy9 u1 u2 u3 u4 u5 l1 l2 l3 hup
        go_wp2_with fail
        go_roundw
        case rel => exact ⟨j + 1, L, by omega, by go_num, hb10, hT10, hR10, HL5.out⟩
        case measure => simp [intOf]; omega
      | true =>
        obtain ⟨⟨e, L'⟩, hp⟩ : ∃ p, putR L I (v1, v2) = p := ⟨_, rfl⟩
        have hL' : L'.length = k := by have := TP.putR_length L I (v1, v2); rw [hp] at this; exact this.trans hL
        have HP := Lib.hid hp
        have HC := Lib.hid (show ∀ w' : World, Below w.heap.size w w' → w'.cell? ⟨b, off + j * 4, none⟩ = some (.bool true) ∧ w'.cell? ⟨b, off + j * 4 + 1, none⟩ = some (.int .i64 I) ∧ w'.cell? ⟨b, off + j * 4 + 2, none⟩ = some (.int .i64 v1) ∧ w'.cell? ⟨b, off + j * 4 + 3, none⟩ = some (.string v2) from
          fun w' h => ⟨(h.cell hB).trans cp, (h.cell hB).trans ci, (h.cell hB).trans cv1, (h.cell hB).trans cv2⟩)
        clear hp cp cv1 cv2
        have hTd : TB wr.drew T C L := hT.below (Below.refl _ _).drew
        have hRd : RT wr.drew T2 C2 L := hR.below (Below.refl _ _).drew
        have hbd := hb.drew
        have hs : L.length ≤ 65536 := by omega
        have HLL := Lib.hid hL'
        clear hL hL' hb hT hR
        go_wp2_with fail
        go_region_held3 (fun w' => w'.cell? ⟨b, off + j * 4, none⟩ = some (.bool true) ∧ w'.cell? ⟨b, off + j * 4 + 1, none⟩ = some (.int .i64 I) ∧ w'.cell? ⟨b, off + j * 4 + 2, none⟩ = some (.int .i64 v1) ∧ w'.cell? ⟨b, off + j * 4 + 3, none⟩ = some (.string v2))
          (first
            | (with_reducible assumption)
            | exact HC.out _ hbb6
            | exact HC.out _ hbb5
            | exact HC.out _ hbd)
          (first
            | (go_at_call 11; refine (TP.put_all T C L L' I e (v1, v2) _ hTd hs HP.out).mono ?_; rintro e' w5 ⟨rfl, ho5, hTT5⟩; have hbb5 := Only.after hbd (Nat.le_refl _) ho5 (by simp; omega); have hRR5 := both_only hTd hRd ho5)
            | (go_at_call 12; refine (TR.put_all T2 C2 L L' I e (v1, v2) _ hRR5 HP.out).mono ?_; rintro e' w6 ⟨rfl, ho6, hR5⟩; have hbb6 := Only.after hbb5 (Nat.le_refl _) ho6 (by simp; omega); have hT5 := both_only' hTT5 hRR5 ho6))
        have hb5 := hbb6
        have hL := HLL.out
        clear hTd hRd hbd ho5 ho6 hbb5 hbb6 hTT5 hRR5 hs
        obtain ⟨⟨v5, e5⟩, hg5⟩ : ∃ p, getR L' I = p := ⟨_, rfl⟩
        obtain ⟨q5, hq5⟩ : ∃ q, cnt L' = q := ⟨_, rfl⟩
        obtain ⟨n5, hn5⟩ : ∃ q, L'.length = q := ⟨_, rfl⟩
        obtain ⟨v51, v52⟩ := v5
        have HG5 := Lib.hid hg5
        have ci5 := (hb5.cell hB).trans ci
        clear hg5
        go_wp2_with fail
        refine (TP.get_all T C L' I e5 (v51, v52) _ hT5 HG5.out).mono ?_
        rintro e w6 ⟨rfl, h6⟩
        have hT6 := hT5.below h6
        have hR6 := hR5.below h6
        have hb6 := Below_same hb5 h6
        clear hT5 hR5 hb5 h6 ci5
        have hT7 := hT6.below (Below.alloc (Below.refl _ _) (Nat.le_refl _) (.cells #[.int .i64 v51, .string v52] 30))
        have hR7 := hR6.below (Below.alloc (Below.refl _ _) (Nat.le_refl _) (.cells #[.int .i64 v51, .string v52] 30))
        have hb7 := hb6.alloc hb6.size (.cells #[.int .i64 v51, .string v52] 30)
        have ci7 := (hb7.cell hB).trans ci
        have hx7 := Blk_new w6 30 #[.int .i64 v51, .string v52]
        go_wp2_with fail
        refine (TR.get_all T2 C2 L' I e5 (v51, v52) _ hR7 HG5.out).mono ?_
        rintro e w8 ⟨rfl, h8⟩
        have hT8 := hT7.below h8
        have hR8 := hR7.below h8
        have hx8 := Blk_below hx7 h8 (by simp)
        have hb8 := Below_same hb7 h8
        have hz8 := Blk_lt hx8
        clear hT6 hR6 hb6 hT7 hR7 hb7 hx7 h8 ci7
        have hT9 := hT8.below (Below.alloc (Below.refl _ _) (Nat.le_refl _) (.cells #[.int .i64 v51, .string v52] 30))
        have hR9 := hR8.below (Below.alloc (Below.refl _ _) (Nat.le_refl _) (.cells #[.int .i64 v51, .string v52] 30))
        have hb9 := hb8.alloc hb8.size (.cells #[.int .i64 v51, .string v52] 30)
        have hx9 := Blk_alloc hx8 (.cells #[.int .i64 v51, .string v52] 30)
        have hy9 := Blk_new w8 30 #[.int .i64 v51, .string v52]
        clear hT8 hR8 hb8 hx8
        obtain ⟨w9, hw9⟩ : ∃ x, w8.alloc (.cells #[.int .i64 v51, .string v52] 30) = x := ⟨_, rfl⟩
        rw [hw9] at hT9 hR9 hb9 hx9 hy9
        have HW9 := Lib.hid hw9
        have u1 := fun x : Up w9 => up_cell x (Blk_cell hx9 0)
        have u2 := fun x : Up w9 => up_cell x (Blk_cell hx9 1)
        have u3 := fun x : Up w9 => up_cell x (Blk_cell hy9 0)
        have u4 := fun x : Up w9 => up_cell x (Blk_cell hy9 1)
        have u5 := fun x : Up w9 => up_cell x (Blk_cell hR9.obj 0)
        have l1 := fun x : Up w9 => TP.left_ok T C L' x.w (hT9.below x.ok)
        have l2 := fun x : Up w9 => TR.left_ok T2 C2 L' x.w (hR9.below x.ok) (by omega)
        have l3 := fun x : Up w9 => TP.size_ok T C L' x.w (hT9.below x.ok)
        rw [hq5] at l1 l2
        rw [hn5] at l3 u5
        have hn5b : n5 ≤ 65536 := by omega
        have HN5 := Lib.hid hn5
        have HL5 := Lib.hid hL
        clear hq5 hn5 hw9 hL
        go_wp2_with fail
        rw [HW9.out]
        refine wp_region_up (by kernel_rfl) (by kernel_rfl) ?_
        repeat (go_big_quiet_step (first | (go_at_call 15; (with_reducible refine up_call_same (l1 _))) | (go_at_call 16; (with_reducible refine up_call_same (l2 _))) | (go_at_call 17; (with_reducible refine up_call_same (l3 _)))))
        refine wpQuiet_nil ?_
        intro w' hup
        have hb10 := Below_same hb9 hup
        have hT10 := hT9.below hup
        have hR10 := hR9.below hup
        clear hb9 hT9 hR9 hx9 hy9 u1 u2 u3 u4 u5 l1 l2 l3 hup
        go_wp2_with fail
        go_roundw
        case rel => exact ⟨j + 1, L', by omega, by go_num, hb10, hT10, hR10, HL5.out⟩
        case measure => simp [intOf]; omega
    · obtain rfl : j = l.length := by omega
      obtain ⟨⟨vs, e5⟩, ha5⟩ : ∃ p, allR L = p := ⟨_, rfl⟩
      have hvl := allR_len ha5
      rw [hL] at hvl
      go_wp2_with fail
      refine (TP.all_ok T C L _ hT (by omega)).mono ?_
      intro e w5 h50
      obtain ⟨h5, sx, rfl, hx⟩ := post_all ha5 h50
      clear h50
      have hT5 := hT.below h5
      have hR5 := hR.below h5
      have hb5 := Below_same hb h5
      go_wp2_with fail
      refine (TR.all_ok T2 C2 L _ hR5 (by omega)).mono ?_
      intro e w6 h60
      obtain ⟨h6, sy, rfl, hy⟩ := post_all ha5 h60
      clear h60
      have hT6 := hT5.below h6
      have hb6 := Below_same hb5 h6
      have hx6 := own_below hx h6
      have hz5 := h5.size
      have hne : ∀ g, g < w5.heap.size → sy.ownBlock ≠ some g := fun g hg he => own_ne hy hg he.symm
      have hxlt : ∀ g, sx.ownBlock = some g → w.heap.size ≤ g ∧ g < w5.heap.size ∧ g ≠ T ∧ g ≠ C := by
        intro g hg
        have h1 := hx.lt g hg
        have h2 := Blk_lt hT.obj
        have h3 := hT.grid.lt
        have h4 := hb.size
        omega
      obtain ⟨X, c1, rfl, _, hc1, hX⟩ := Els_of_own (f := pv) (d := (0, ByteArray.empty)) (l := vs) hx6 (fun _ => rfl) (by omega)
      obtain ⟨Y, c2, rfl, _, hc2, hY⟩ := Els_of_own (f := pv) (d := (0, ByteArray.empty)) (l := vs) hy (fun _ => rfl) (by omega)
      clear hx h5 hT5 hR5 hb5 hT hR hb hO
      go_wp2_with (go_at_call 20; refine (same_any vs vs X Y _ _ _ _ _ hX hY (by omega) (by unfold maxLen; omega)).mono ?_; rintro e w7 ⟨he7, h7⟩; rw [decide_eq_true rfl] at he7; subst he7)
      have hT7 := hT6.below h7
      have hb7 := Below_same hb6 h7
      have hx7 := own_below hx6 h7
      have hy7 := own_below hy h7
      obtain ⟨gs, hgs⟩ : ∃ gs : List Nat, gs = X.toList.map (·.block) := ⟨_, rfl⟩
      have hgs1 : ∀ g ∈ gs, w.heap.size ≤ g ∧ g ≠ T ∧ g ≠ C ∧ (Value.slice Y vs.length c2).ownBlock ≠ some g := by
        intro g hg
        rw [hgs] at hg
        simp only [List.mem_map, Option.mem_toList] at hg
        obtain ⟨a, rfl, rfl⟩ := hg
        have := hxlt a.block rfl
        exact ⟨this.1, this.2.2.1, this.2.2.2, hne _ this.2.1⟩
      have hgs2 : ∀ g, X = some ⟨g, 0, none⟩ → g ∈ gs := by
        intro g hg
        rw [hgs, hg]; simp
      obtain ⟨bx, hbx⟩ : ∃ b, wr.heap.size = b := ⟨_, rfl⟩
      rw [hbx] at hx7
      clear hx6 hy h6 h7 hT6 hb6 hX hY hne hxlt hgs hbx
      go_wp2_with fail
      go_loopw [18, 150, 151, 152, 153, 154, 155, 156, 157, 158, 159, 160, 161, 162, 163] (fun q _ _ _ _ _ _ _ _ _ _ _ _ _ _ wr => ∃ (m : Nat) (ys : List V), m ≤ vs.length ∧ q = .int .i64 m ∧ Only gs w7 wr ∧ wr.ownsRow bx 30 2 (.slice X vs.length c1) vs.length (ys.map pv).flatten) (fun q _ _ _ _ _ _ _ _ _ _ _ _ _ _ _ => vs.length - (intOf q).toNat)
      case atStart => exact ⟨0, vs, by omega, rfl, Only.refl _ _, hx7⟩
      case round =>
        clear hx7
        obtain ⟨m, ys, hm, rfl, ho2, hown⟩ := hrel
        by_cases hlt2 : m < vs.length
        · obtain ⟨g, rfl⟩ := own_addr hown (by omega)
          obtain ⟨⟨a1, a2⟩, ha⟩ : ∃ a, ys.getD m (0, ByteArray.empty) = a := ⟨_, rfl⟩
          have hset := fun u : Int => own_put (0, ByteArray.empty) hown (fun _ => rfl) hlt2 (j := 0) (by omega) (.int .i64 u) (a := (u, a2)) (by rw [ha]; rfl)
          have cy : _ = some (Value.int .i64 a1) := (own_get (0, ByteArray.empty) hown (fun _ => rfl) hlt2 (j := 0) (by omega)).trans (by rw [ha]; rfl)
          rw [Nat.add_zero] at cy
          simp only [Nat.add_zero] at hset
          have fz := own_frozen hown (m * 2)
          have hg2 := hgs2 g rfl
          clear ha hown hgs1 hgs2
          go_wp2_with fail
          go_roundw
          case rel => exact ⟨m + 1, ys.set m (_, a2), by omega, by go_num, ho2.set hg2 _, hset _⟩
          case measure => simp [intOf]; omega
        · obtain rfl : m = vs.length := by omega
          have hT8 := hT7.only ho2 (fun h => (hgs1 T h).2.1 rfl) (fun h => (hgs1 C h).2.2.1 rfl)
          have hy8 := ho2.own hy7 (fun g hg => (hgs1 g hg).2.2.2)
          have hb8 := Only.after hb7 (Nat.le_refl _) ho2 (fun g hg => (hgs1 g hg).1)
          clear hT7 hy7 hb7 hgs1 hgs2 hown ho2
          go_wp2_with fail
          refine (TP.all_ok T C L _ hT8 (by omega)).mono ?_
          intro e w9 h90
          obtain ⟨h9, sz, rfl, hz⟩ := post_all ha5 h90
          have hb9 := Below_same hb8 h9
          have hy9 := own_below hy8 h9
          obtain ⟨Z, c3, rfl, _, hc3, hZ⟩ := Els_of_own (f := pv) (d := (0, ByteArray.empty)) (l := vs) hz (fun _ => rfl) (by omega)
          obtain ⟨Y', c4, hYe, _, hc4, hY⟩ := Els_of_own (f := pv) (d := (0, ByteArray.empty)) (l := vs) hy9 (fun _ => rfl) (by omega)
          injection hYe with e1 _ e3
          subst e1; subst e3
          clear h90 hz hy9 hy8 hT8 hb8 h9
          go_wp2_with (first
            | (go_at_call 20; refine (same_any vs vs Z Y _ _ _ _ _ hZ hY (by omega) (by unfold maxLen; omega)).mono ?_; rintro e w10 ⟨he7, h10⟩; rw [decide_eq_true rfl] at he7; subst he7)
            | (go_at_call 8; refine (works_any _).mono ?_; rintro e w11 ⟨rfl, h11⟩))
          go_ret
          exact ⟨rfl, Below_same (Below_same hb9 h10) h11⟩
end Go.Proofs.Ytlbfjmdemljmhaa
