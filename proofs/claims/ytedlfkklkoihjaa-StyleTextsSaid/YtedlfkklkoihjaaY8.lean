/-
  StyleTexts: a text is right just if it says nothing but its units, not too many. No condition.
-/
import Derived.Test.YtedlfkklkoihjaaY7
set_option linter.unusedVariables false
set_option linter.unusedSimpArgs false
namespace Go.Proofs.Ytedlfkklkoihjaa
open Go.RowKit Go.BigFrame

def tx (A : Option Addr) (c : Nat) (L : List Int) : St := ⟨3, false, 0, 0, (0, 0), (0, 0), (0, 0), (0, 0), (0, 0), (0, 0), (0, 0), (0, 0), (0, 0), (0, 0), 0, 0, 0, 0, 0, 0, 0, 0, 0, 0, false, 0, 0, 0, 0, 0, (0, 0), A, c, L⟩
theorem tx_wf (A : Option Addr) (c : Nat) (L : List Int) : (tx A c L).Wf := by constructor <;> rfl
theorem tx_right (A : Option Addr) (c : Nat) {L : List Int} (h : L.length ≤ 65536) : rightB (tx A c L) = true := by simp [rightB, tx, emptyB, noneB, h]
theorem tx_wrong (A : Option Addr) (c : Nat) {L : List Int} (h : 65536 < L.length) : rightB (tx A c L) = false := by
  have h' : ¬ L.length ≤ 65536 := by omega
  simp [rightB, tx, h']
set_option maxRecDepth 20000 in
set_option maxHeartbeats 16000000 in
theorem stexts_any (L : List Int) (A : Option Addr) (c : Nat) (mv wv : Int) (hmv : 0 ≤ mv ∧ mv ≤ 255) (hwv : 0 ≤ wv ∧ wv ≤ 255) (w : World) (hI : Ints .u16 w A L.length L) (hn : L.length ≤ maxLen) :
    Calls Try.prog 7 #[.slice A L.length c, .int .u8 mv, .int .u8 wv] w fun e w' => e = .returned (.bool true) ∧ Below w.heap.size w w' := by
  obtain ⟨i0, hi0, hz0, hz1, hz2⟩ := info_parts iU
  have hkw := works_any
  have hn' := hn
  unfold maxLen at hn'
  by_cases hbig : 65536 < L.length
  · go_enter Try.func7, Try.ntmps7
    go_wp2_with ((go_at_call 9; (with_reducible refine (hkw _).mono ?_)); rintro e w' ⟨rfl, h⟩)
    go_ret
    exact ⟨rfl, h⟩
  · have hle : L.length ≤ 65536 := by omega
    have hpos : 0 < 1 := by omega
    have t1 : mv.tmod 16 = mv % 16 := Int.tmod_eq_emod_of_nonneg hmv.1
    obtain ⟨r, hr⟩ : ∃ r, mv % 16 = r := ⟨_, rfl⟩
    rw [hr] at t1
    have hr0 : 0 ≤ r ∧ r ≤ 15 := by omega
    have u1 : IntKind.u8.wrap r = r := by rw [IntKind.wrap_u8]; omega
    clear hr
    go_enter Try.func7, Try.ntmps7
    go_upto_region 4 with (first | ((with_reducible refine at_op ⟨some 14, _, _, _, _, _⟩ ?_); (refine wpList_append_src _ rfl (.tmp 12) (.tmp 13) 26 rfl w.heap.size 36 i0 _ 1 2 Try.underlying26 hi0 hz0 hz1 hz2 rfl hpos (.slice (some ⟨w.heap.size, 0, none⟩) 0 0) 0 [] rfl (World.ownsRow_lit w #[] 0 (Nat.le_refl _) (by simp) rfl) A L.length c (L.map (Value.int .u16)) rfl (by rw [Nat.mul_one]; exact (hI.mono (by (repeat' (first | (with_reducible exact Below.refl _ _) | (with_reducible assumption) | (with_reducible refine Below.alloc ?_ ?_ _) | (with_reducible refine Below.drew ?_) | (with_reducible refine Below_drewN ?_ _) | (with_reducible refine Below.setCell ?_ ?_ _) | go_size)))).src) (one_ints _ _) (by simp only [maxLen]; omega) (by omega) (by simp) ?_); intro v4 w4 hown4 hg4 hat4; simp only [Nat.zero_add, List.nil_append] at hown4; have hb4 : Below w.heap.size w w4 := Below.grown (w := w.alloc (.cells #[] 36)) (by (repeat' (first | (with_reducible exact Below.refl _ _) | (with_reducible assumption) | (with_reducible refine Below.alloc ?_ ?_ _) | (with_reducible refine Below.drew ?_) | (with_reducible refine Below_drewN ?_ _) | (with_reducible refine Below.setCell ?_ ?_ _) | go_size))) hg4 (by simp) (fun k hk => by simp [Value.ownBlock] at hk; omega); obtain ⟨E4, e4, rfl, _, _⟩ := own_slice hown4) | ((with_reducible refine at_op ⟨none, .store 28 (.tmp 7) (.tmp 15), _, _, _, _⟩ ?_); refine wpList_store_new rfl 28 (.tmp 7) (.tmp 15) rfl _ ?_ _ (scells (tx E4 e4 L)).toArray rfl rfl info_st rfl (one_st (tx E4 e4 L)) ?_; · (simp; done)))
    have hT := Blk_new w4 28 (scells (tx E4 e4 L)).toArray
    have hb := hb4.alloc hb4.size (.cells (scells (tx E4 e4 L)).toArray 28)
    have hgT : w.heap.size ≤ w4.heap.size := hb4.size
    generalize w4.heap.size = gT at *
    generalize hwT : w4.alloc (.cells (scells (tx E4 e4 L)).toArray 28) = wT at *
    clear hwT hown4 hg4 hat4 hb4
    have r1 := fun w => sright_any (tx E4 e4 L) (tx_wf _ _ _) hn w
    rw [tx_right E4 e4 hle] at r1
    go_upto_if 21 with (first | ((with_reducible refine at_op ⟨some 16, .load 28 (.tmp 7), _, _, _, _⟩ ?_); refine wpList_load_mid rfl 28 (.tmp 7) rfl _ 0 rfl (scells (tx E4 e4 L)) _ (range_st hT) Try.underlying28 rfl info_st ?_) | ((go_at_call 10; (with_reducible refine (r1 _).mono ?_)); rintro e w' ⟨rfl, h⟩; (have hb := Below_then hb h (Nat.le_refl _); have hT := Blk_below hT h (Blk_lt hT))))
    generalize hwq : w' = wq at *
    clear hwq h r1
    go_cut [22] from 23 to 32 (fun _ wx => ∃ A c L, L.length ≤ 65536 ∧ Blk wx gT 28 (scells (tx A c L)).toArray ∧ Below w.heap.size w wx)
    case first =>
      by_cases h0 : r = 0
      · subst h0
        obtain ⟨Z, hZ⟩ : ∃ Z, (List.replicate 65537 (Value.int .u16 0)).toArray = Z := ⟨_, rfl⟩
        have hmk : ∀ w : World, (Instr.makeSlice 26 (.int .i64 65537) (.int .i64 65537)).run Try.prog w = _ := run_make_blk (P := Try.prog) Try.underlying26 hi0 hz0 (x := .int .u16 0) rfl hz1 .i64 .i64 65537 (by rw [hz2]; omega) (by simp only [maxLen]; omega)
        simp only [hZ] at hmk
        clear hZ
        obtain ⟨Lz, hLz⟩ : ∃ Lz : List Int, Lz.length = 65537 := ⟨List.replicate 65537 0, List.length_replicate⟩
        obtain ⟨Ly, hLy⟩ : ∃ Ly : List Int, Ly.length = 65536 := ⟨List.replicate 65536 0, List.length_replicate⟩
        have l1 := Blk_lt hT
        have cu := St_cell (j := 42) (v := .slice E4 L.length e4) hT rfl
        have fu := Blk_frozen hT 42
        go_upto_region 8 with fail
        have hT1 : Blk ((wq.setCell ⟨gT, 42, none⟩ (.slice (some ⟨wq.heap.size, 0, none⟩) 65537 65537)).alloc (.cells Z 36)) gT 28 (scells (tx (some ⟨wq.heap.size, 0, none⟩) 65537 Lz)).toArray := Blk_alloc (Blk_upd hT 42 _ (by simp [scells, tx, hLz])) _
        have hb1 : Below w.heap.size w ((wq.setCell ⟨gT, 42, none⟩ (.slice (some ⟨wq.heap.size, 0, none⟩) 65537 65537)).alloc (.cells Z 36)) := (hb.setCell hgT _).alloc (by simp; exact hb.size) _
        obtain ⟨gz, hgz⟩ : ∃ g, wq.heap.size = g := ⟨_, rfl⟩
        simp only [hgz] at hT1 hb1 ⊢
        generalize hw5 : (wq.setCell ⟨gT, 42, none⟩ (.slice (some ⟨gz, 0, none⟩) 65537 65537)).alloc (.cells Z 36) = w5 at *
        clear hw5
        clear hT hb cu fu hgz l1 hmk
        have hT := hT1
        have hb := hb1
        clear hT1 hb1
        have r2 := fun w => sright_any (tx (some ⟨gz, 0, none⟩) 65537 Lz) (tx_wf _ _ _) (by show Lz.length ≤ maxLen; rw [hLz]; unfold maxLen; omega) w
        rw [tx_wrong _ _ (by omega)] at r2
        go_upto_region 10 with (first | ((with_reducible refine at_op ⟨some 24, .load 28 (.tmp 7), _, _, _, _⟩ ?_); refine wpList_load_mid rfl 28 (.tmp 7) rfl _ 0 rfl (scells (tx (some ⟨gz, 0, none⟩) 65537 Lz)) _ (range_st hT) Try.underlying28 rfl info_st ?_) | ((go_at_call 10; (with_reducible refine (r2 _).mono ?_)); rintro e w' ⟨rfl, h⟩; (have hb := Below_then hb h (Nat.le_refl _); have hT := Blk_below hT h (Blk_lt hT))))
        have cu := St_cell (j := 42) (v := .slice (some ⟨gz, 0, none⟩) Lz.length 65537) hT rfl
        have fu := Blk_frozen hT 42
        rw [hLz] at cu
        go_upto_region 11 with fail
        have hT2 := Blk_upd hT 42 (.slice (some ⟨gz, 1, none⟩) 65536 65536) (cs' := (scells (tx (some ⟨gz, 1, none⟩) 65536 Ly)).toArray) (by simp [scells, tx, hLy])
        have hb := hb.setCell (p := ⟨gT, 42, none⟩) hgT (.slice (some ⟨gz, 1, none⟩) 65536 65536)
        generalize World.setCell _ ⟨gT, 42, none⟩ (.slice (some ⟨gz, 1, none⟩) 65536 65536) = w6 at *
        clear hT cu fu
        have hT := hT2
        clear hT2
        have r3 := fun w => sright_any (tx (some ⟨gz, 1, none⟩) 65536 Ly) (tx_wf _ _ _) (by show Ly.length ≤ maxLen; rw [hLy]; unfold maxLen; omega) w
        rw [tx_right _ _ (by omega)] at r3
        go_wp2_with (first | ((with_reducible refine at_op ⟨some 30, .load 28 (.tmp 7), _, _, _, _⟩ ?_); refine wpList_load_mid rfl 28 (.tmp 7) rfl _ 0 rfl (scells (tx (some ⟨gz, 1, none⟩) 65536 Ly)) _ (range_st hT) Try.underlying28 rfl info_st ?_) | ((go_at_call 10; (with_reducible refine (r3 _).mono ?_)); rintro e w' ⟨rfl, h⟩; (have hb := Below_then hb h (Nat.le_refl _); have hT := Blk_below hT h (Blk_lt hT))))
        go_meet
        exact ⟨_, _, Ly, by omega, hT, hb⟩
      · have b0 : (r == 0) = false := by simpa using h0
        go_wp2_with fail
        go_meet
        exact ⟨E4, e4, L, hle, hT, hb⟩
    case rest =>
      clear hT hb hle hn
      obtain ⟨A', c', L', hle', hT, hb⟩ := hcut
      have t2 : wv.tmod 16 = wv % 16 := Int.tmod_eq_emod_of_nonneg hwv.1
      have t3 : wv.tdiv 16 = wv / 16 := Int.tdiv_eq_ediv_of_nonneg hwv.1
      obtain ⟨e, he⟩ : ∃ e, wv % 16 = e := ⟨_, rfl⟩
      obtain ⟨q, hq⟩ : ∃ q, wv / 16 = q := ⟨_, rfl⟩
      rw [he] at t2
      rw [hq] at t3
      have he0 : 0 ≤ e ∧ e ≤ 15 := by omega
      have hq0 : 0 ≤ q ∧ q ≤ 15 := by omega
      have u2 : IntKind.u8.wrap e = e := by rw [IntKind.wrap_u8]; omega
      have u3 : IntKind.u8.wrap q = q := by rw [IntKind.wrap_u8]; omega
      have u4 : IntKind.i64.wrap q = q := by rw [IntKind.wrap_i64]; omega
      have t4 : q.tmod 4 = q % 4 := Int.tmod_eq_emod_of_nonneg hq0.1
      have t5 : q.tmod 11 = q % 11 := Int.tmod_eq_emod_of_nonneg hq0.1
      clear he hq t1 u1 hr0
      have hln : L'.length ≤ maxLen := by unfold maxLen; omega
      go_upto_region 13 with fail
      by_cases h13 : 13 ≤ e
      · have z0 : (e == 0) = false := by simp; omega
        have z1 : (e == 1) = false := by simp; omega
        have z2 : (e == 2) = false := by simp; omega
        have z3 : (e == 3) = false := by simp; omega
        have z4 : (e == 4) = false := by simp; omega
        have z5 : (e == 5) = false := by simp; omega
        have z6 : (e == 6) = false := by simp; omega
        have z7 : (e == 7) = false := by simp; omega
        have z8 : (e == 8) = false := by simp; omega
        have z9 : (e == 9) = false := by simp; omega
        have z10 : (e == 10) = false := by simp; omega
        have z11 : (e == 11) = false := by simp; omega
        have z12 : (e == 12) = false := by simp; omega
        obtain ⟨k, hk, hk11⟩ : ∃ k : Nat, q % 11 = (k : Int) ∧ k < 11 := ⟨(q % 11).toNat, by omega, by omega⟩
        rw [hk] at t5
        clear hk t4 h13
        obtain rfl | rfl | rfl | rfl | rfl | rfl | rfl | rfl | rfl | rfl | rfl : k = 0 ∨ k = 1 ∨ k = 2 ∨ k = 3 ∨ k = 4 ∨ k = 5 ∨ k = 6 ∨ k = 7 ∨ k = 8 ∨ k = 9 ∨ k = 10 := by omega
        · have r9 := fun w => sright_any (setL (tx A' c' L') 0 (1, 0)) (setL_wf (tx_wf _ _ _) 0 rfl rfl) (by rw [setL_len]; exact hln) w
          rw [show rightB (setL (tx A' c' L') 0 (1, 0)) = false by simp [rightB, setL, tx, emptyB, noneB]] at r9
          go_upto_region 41 with ((go_at_call 17; (with_reducible refine (slens2_any _ _).mono ?_)); rintro e w' ⟨rfl, hP, h⟩; have hb := Below_then hb h (Nat.le_refl _); have hT := Blk_below hT h (Blk_lt hT); have hp : w'.cell? ⟨_, 0, none⟩ = some (.pointer (some ⟨gT, 4, none⟩)) := Blk_cell hP 0; have c0 := St_cell (s := tx A' c' L') (j := 4) (v := .int .u8 0) hT rfl; have c1 := St_cell (s := tx A' c' L') (j := 4 + 1) (v := .int .i64 0) hT rfl; have f0 := Blk_frozen hT 4; have f1 := Blk_frozen hT (4 + 1); simp only [Nat.reduceAdd] at c1 f1)
          have hT2 := Blk_upd (Blk_set hT 4 (.int .u8 1)) (4 + 1) (.int .i64 0) (cs' := (scells (setL (tx A' c' L') 0 (1, 0))).toArray) (by simp [scells, setL, tx])
          have hb := (hb.setCell (p := ⟨gT, 4, none⟩) hgT (.int .u8 1)).setCell (p := ⟨gT, 4 + 1, none⟩) hgT (.int .i64 0)
          simp only [Nat.reduceAdd] at hT2 hb
          generalize World.setCell (World.setCell _ ⟨gT, 4, none⟩ (.int .u8 1)) _ (.int .i64 0) = wz at *
          clear hT c0 c1 f0 f1 hp hP
          have hT := hT2
          clear hT2
          go_wp2_with (first | ((with_reducible refine at_op ⟨some 91, .load 28 (.tmp 7), _, _, _, _⟩ ?_); refine wpList_load_mid rfl 28 (.tmp 7) rfl _ 0 rfl (scells (setL (tx A' c' L') 0 (1, 0))) _ (range_st hT) Try.underlying28 rfl info_st ?_) | ((go_at_call 10; (with_reducible refine (r9 _).mono ?_)); rintro e w' ⟨rfl, h⟩; (have hb := Below_then hb h (Nat.le_refl _); have hT := Blk_below hT h (Blk_lt hT))) | ((go_at_call 9; (with_reducible refine (hkw _).mono ?_)); rintro e w' ⟨rfl, h⟩; (have hb := Below_then hb h (Nat.le_refl _); have hT := Blk_below hT h (Blk_lt hT))))
          go_ret
          exact ⟨rfl, hb⟩
        · have r9 := fun w => sright_any (setL (tx A' c' L') 1 (1, 0)) (setL_wf (tx_wf _ _ _) 1 rfl rfl) (by rw [setL_len]; exact hln) w
          rw [show rightB (setL (tx A' c' L') 1 (1, 0)) = false by simp [rightB, setL, tx, emptyB, noneB]] at r9
          go_upto_region 41 with ((go_at_call 17; (with_reducible refine (slens2_any _ _).mono ?_)); rintro e w' ⟨rfl, hP, h⟩; have hb := Below_then hb h (Nat.le_refl _); have hT := Blk_below hT h (Blk_lt hT); have hp : w'.cell? ⟨_, 1, none⟩ = some (.pointer (some ⟨gT, 6, none⟩)) := Blk_cell hP 1; have c0 := St_cell (s := tx A' c' L') (j := 6) (v := .int .u8 0) hT rfl; have c1 := St_cell (s := tx A' c' L') (j := 6 + 1) (v := .int .i64 0) hT rfl; have f0 := Blk_frozen hT 6; have f1 := Blk_frozen hT (6 + 1); simp only [Nat.reduceAdd] at c1 f1)
          have hT2 := Blk_upd (Blk_set hT 6 (.int .u8 1)) (6 + 1) (.int .i64 0) (cs' := (scells (setL (tx A' c' L') 1 (1, 0))).toArray) (by simp [scells, setL, tx])
          have hb := (hb.setCell (p := ⟨gT, 6, none⟩) hgT (.int .u8 1)).setCell (p := ⟨gT, 6 + 1, none⟩) hgT (.int .i64 0)
          simp only [Nat.reduceAdd] at hT2 hb
          generalize World.setCell (World.setCell _ ⟨gT, 6, none⟩ (.int .u8 1)) _ (.int .i64 0) = wz at *
          clear hT c0 c1 f0 f1 hp hP
          have hT := hT2
          clear hT2
          go_wp2_with (first | ((with_reducible refine at_op ⟨some 91, .load 28 (.tmp 7), _, _, _, _⟩ ?_); refine wpList_load_mid rfl 28 (.tmp 7) rfl _ 0 rfl (scells (setL (tx A' c' L') 1 (1, 0))) _ (range_st hT) Try.underlying28 rfl info_st ?_) | ((go_at_call 10; (with_reducible refine (r9 _).mono ?_)); rintro e w' ⟨rfl, h⟩; (have hb := Below_then hb h (Nat.le_refl _); have hT := Blk_below hT h (Blk_lt hT))) | ((go_at_call 9; (with_reducible refine (hkw _).mono ?_)); rintro e w' ⟨rfl, h⟩; (have hb := Below_then hb h (Nat.le_refl _); have hT := Blk_below hT h (Blk_lt hT))))
          go_ret
          exact ⟨rfl, hb⟩
        · have r9 := fun w => sright_any (setL (tx A' c' L') 2 (1, 0)) (setL_wf (tx_wf _ _ _) 2 rfl rfl) (by rw [setL_len]; exact hln) w
          rw [show rightB (setL (tx A' c' L') 2 (1, 0)) = false by simp [rightB, setL, tx, emptyB, noneB]] at r9
          go_upto_region 41 with ((go_at_call 17; (with_reducible refine (slens2_any _ _).mono ?_)); rintro e w' ⟨rfl, hP, h⟩; have hb := Below_then hb h (Nat.le_refl _); have hT := Blk_below hT h (Blk_lt hT); have hp : w'.cell? ⟨_, 2, none⟩ = some (.pointer (some ⟨gT, 8, none⟩)) := Blk_cell hP 2; have c0 := St_cell (s := tx A' c' L') (j := 8) (v := .int .u8 0) hT rfl; have c1 := St_cell (s := tx A' c' L') (j := 8 + 1) (v := .int .i64 0) hT rfl; have f0 := Blk_frozen hT 8; have f1 := Blk_frozen hT (8 + 1); simp only [Nat.reduceAdd] at c1 f1)
          have hT2 := Blk_upd (Blk_set hT 8 (.int .u8 1)) (8 + 1) (.int .i64 0) (cs' := (scells (setL (tx A' c' L') 2 (1, 0))).toArray) (by simp [scells, setL, tx])
          have hb := (hb.setCell (p := ⟨gT, 8, none⟩) hgT (.int .u8 1)).setCell (p := ⟨gT, 8 + 1, none⟩) hgT (.int .i64 0)
          simp only [Nat.reduceAdd] at hT2 hb
          generalize World.setCell (World.setCell _ ⟨gT, 8, none⟩ (.int .u8 1)) _ (.int .i64 0) = wz at *
          clear hT c0 c1 f0 f1 hp hP
          have hT := hT2
          clear hT2
          go_wp2_with (first | ((with_reducible refine at_op ⟨some 91, .load 28 (.tmp 7), _, _, _, _⟩ ?_); refine wpList_load_mid rfl 28 (.tmp 7) rfl _ 0 rfl (scells (setL (tx A' c' L') 2 (1, 0))) _ (range_st hT) Try.underlying28 rfl info_st ?_) | ((go_at_call 10; (with_reducible refine (r9 _).mono ?_)); rintro e w' ⟨rfl, h⟩; (have hb := Below_then hb h (Nat.le_refl _); have hT := Blk_below hT h (Blk_lt hT))) | ((go_at_call 9; (with_reducible refine (hkw _).mono ?_)); rintro e w' ⟨rfl, h⟩; (have hb := Below_then hb h (Nat.le_refl _); have hT := Blk_below hT h (Blk_lt hT))))
          go_ret
          exact ⟨rfl, hb⟩
        · have r9 := fun w => sright_any (setL (tx A' c' L') 3 (1, 0)) (setL_wf (tx_wf _ _ _) 3 rfl rfl) (by rw [setL_len]; exact hln) w
          rw [show rightB (setL (tx A' c' L') 3 (1, 0)) = false by simp [rightB, setL, tx, emptyB, noneB]] at r9
          go_upto_region 41 with ((go_at_call 17; (with_reducible refine (slens2_any _ _).mono ?_)); rintro e w' ⟨rfl, hP, h⟩; have hb := Below_then hb h (Nat.le_refl _); have hT := Blk_below hT h (Blk_lt hT); have hp : w'.cell? ⟨_, 3, none⟩ = some (.pointer (some ⟨gT, 10, none⟩)) := Blk_cell hP 3; have c0 := St_cell (s := tx A' c' L') (j := 10) (v := .int .u8 0) hT rfl; have c1 := St_cell (s := tx A' c' L') (j := 10 + 1) (v := .int .i64 0) hT rfl; have f0 := Blk_frozen hT 10; have f1 := Blk_frozen hT (10 + 1); simp only [Nat.reduceAdd] at c1 f1)
          have hT2 := Blk_upd (Blk_set hT 10 (.int .u8 1)) (10 + 1) (.int .i64 0) (cs' := (scells (setL (tx A' c' L') 3 (1, 0))).toArray) (by simp [scells, setL, tx])
          have hb := (hb.setCell (p := ⟨gT, 10, none⟩) hgT (.int .u8 1)).setCell (p := ⟨gT, 10 + 1, none⟩) hgT (.int .i64 0)
          simp only [Nat.reduceAdd] at hT2 hb
          generalize World.setCell (World.setCell _ ⟨gT, 10, none⟩ (.int .u8 1)) _ (.int .i64 0) = wz at *
          clear hT c0 c1 f0 f1 hp hP
          have hT := hT2
          clear hT2
          go_wp2_with (first | ((with_reducible refine at_op ⟨some 91, .load 28 (.tmp 7), _, _, _, _⟩ ?_); refine wpList_load_mid rfl 28 (.tmp 7) rfl _ 0 rfl (scells (setL (tx A' c' L') 3 (1, 0))) _ (range_st hT) Try.underlying28 rfl info_st ?_) | ((go_at_call 10; (with_reducible refine (r9 _).mono ?_)); rintro e w' ⟨rfl, h⟩; (have hb := Below_then hb h (Nat.le_refl _); have hT := Blk_below hT h (Blk_lt hT))) | ((go_at_call 9; (with_reducible refine (hkw _).mono ?_)); rintro e w' ⟨rfl, h⟩; (have hb := Below_then hb h (Nat.le_refl _); have hT := Blk_below hT h (Blk_lt hT))))
          go_ret
          exact ⟨rfl, hb⟩
        · have r9 := fun w => sright_any (setL (tx A' c' L') 4 (1, 0)) (setL_wf (tx_wf _ _ _) 4 rfl rfl) (by rw [setL_len]; exact hln) w
          rw [show rightB (setL (tx A' c' L') 4 (1, 0)) = false by simp [rightB, setL, tx, emptyB, noneB]] at r9
          go_upto_region 41 with ((go_at_call 17; (with_reducible refine (slens2_any _ _).mono ?_)); rintro e w' ⟨rfl, hP, h⟩; have hb := Below_then hb h (Nat.le_refl _); have hT := Blk_below hT h (Blk_lt hT); have hp : w'.cell? ⟨_, 4, none⟩ = some (.pointer (some ⟨gT, 12, none⟩)) := Blk_cell hP 4; have c0 := St_cell (s := tx A' c' L') (j := 12) (v := .int .u8 0) hT rfl; have c1 := St_cell (s := tx A' c' L') (j := 12 + 1) (v := .int .i64 0) hT rfl; have f0 := Blk_frozen hT 12; have f1 := Blk_frozen hT (12 + 1); simp only [Nat.reduceAdd] at c1 f1)
          have hT2 := Blk_upd (Blk_set hT 12 (.int .u8 1)) (12 + 1) (.int .i64 0) (cs' := (scells (setL (tx A' c' L') 4 (1, 0))).toArray) (by simp [scells, setL, tx])
          have hb := (hb.setCell (p := ⟨gT, 12, none⟩) hgT (.int .u8 1)).setCell (p := ⟨gT, 12 + 1, none⟩) hgT (.int .i64 0)
          simp only [Nat.reduceAdd] at hT2 hb
          generalize World.setCell (World.setCell _ ⟨gT, 12, none⟩ (.int .u8 1)) _ (.int .i64 0) = wz at *
          clear hT c0 c1 f0 f1 hp hP
          have hT := hT2
          clear hT2
          go_wp2_with (first | ((with_reducible refine at_op ⟨some 91, .load 28 (.tmp 7), _, _, _, _⟩ ?_); refine wpList_load_mid rfl 28 (.tmp 7) rfl _ 0 rfl (scells (setL (tx A' c' L') 4 (1, 0))) _ (range_st hT) Try.underlying28 rfl info_st ?_) | ((go_at_call 10; (with_reducible refine (r9 _).mono ?_)); rintro e w' ⟨rfl, h⟩; (have hb := Below_then hb h (Nat.le_refl _); have hT := Blk_below hT h (Blk_lt hT))) | ((go_at_call 9; (with_reducible refine (hkw _).mono ?_)); rintro e w' ⟨rfl, h⟩; (have hb := Below_then hb h (Nat.le_refl _); have hT := Blk_below hT h (Blk_lt hT))))
          go_ret
          exact ⟨rfl, hb⟩
        · have r9 := fun w => sright_any (setL (tx A' c' L') 5 (1, 0)) (setL_wf (tx_wf _ _ _) 5 rfl rfl) (by rw [setL_len]; exact hln) w
          rw [show rightB (setL (tx A' c' L') 5 (1, 0)) = false by simp [rightB, setL, tx, emptyB, noneB]] at r9
          go_upto_region 41 with ((go_at_call 17; (with_reducible refine (slens2_any _ _).mono ?_)); rintro e w' ⟨rfl, hP, h⟩; have hb := Below_then hb h (Nat.le_refl _); have hT := Blk_below hT h (Blk_lt hT); have hp : w'.cell? ⟨_, 5, none⟩ = some (.pointer (some ⟨gT, 14, none⟩)) := Blk_cell hP 5; have c0 := St_cell (s := tx A' c' L') (j := 14) (v := .int .u8 0) hT rfl; have c1 := St_cell (s := tx A' c' L') (j := 14 + 1) (v := .int .i64 0) hT rfl; have f0 := Blk_frozen hT 14; have f1 := Blk_frozen hT (14 + 1); simp only [Nat.reduceAdd] at c1 f1)
          have hT2 := Blk_upd (Blk_set hT 14 (.int .u8 1)) (14 + 1) (.int .i64 0) (cs' := (scells (setL (tx A' c' L') 5 (1, 0))).toArray) (by simp [scells, setL, tx])
          have hb := (hb.setCell (p := ⟨gT, 14, none⟩) hgT (.int .u8 1)).setCell (p := ⟨gT, 14 + 1, none⟩) hgT (.int .i64 0)
          simp only [Nat.reduceAdd] at hT2 hb
          generalize World.setCell (World.setCell _ ⟨gT, 14, none⟩ (.int .u8 1)) _ (.int .i64 0) = wz at *
          clear hT c0 c1 f0 f1 hp hP
          have hT := hT2
          clear hT2
          go_wp2_with (first | ((with_reducible refine at_op ⟨some 91, .load 28 (.tmp 7), _, _, _, _⟩ ?_); refine wpList_load_mid rfl 28 (.tmp 7) rfl _ 0 rfl (scells (setL (tx A' c' L') 5 (1, 0))) _ (range_st hT) Try.underlying28 rfl info_st ?_) | ((go_at_call 10; (with_reducible refine (r9 _).mono ?_)); rintro e w' ⟨rfl, h⟩; (have hb := Below_then hb h (Nat.le_refl _); have hT := Blk_below hT h (Blk_lt hT))) | ((go_at_call 9; (with_reducible refine (hkw _).mono ?_)); rintro e w' ⟨rfl, h⟩; (have hb := Below_then hb h (Nat.le_refl _); have hT := Blk_below hT h (Blk_lt hT))))
          go_ret
          exact ⟨rfl, hb⟩
        · have r9 := fun w => sright_any (setL (tx A' c' L') 6 (1, 0)) (setL_wf (tx_wf _ _ _) 6 rfl rfl) (by rw [setL_len]; exact hln) w
          rw [show rightB (setL (tx A' c' L') 6 (1, 0)) = false by simp [rightB, setL, tx, emptyB, noneB]] at r9
          go_upto_region 41 with ((go_at_call 17; (with_reducible refine (slens2_any _ _).mono ?_)); rintro e w' ⟨rfl, hP, h⟩; have hb := Below_then hb h (Nat.le_refl _); have hT := Blk_below hT h (Blk_lt hT); have hp : w'.cell? ⟨_, 6, none⟩ = some (.pointer (some ⟨gT, 40, none⟩)) := Blk_cell hP 6; have c0 := St_cell (s := tx A' c' L') (j := 40) (v := .int .u8 0) hT rfl; have c1 := St_cell (s := tx A' c' L') (j := 40 + 1) (v := .int .i64 0) hT rfl; have f0 := Blk_frozen hT 40; have f1 := Blk_frozen hT (40 + 1); simp only [Nat.reduceAdd] at c1 f1)
          have hT2 := Blk_upd (Blk_set hT 40 (.int .u8 1)) (40 + 1) (.int .i64 0) (cs' := (scells (setL (tx A' c' L') 6 (1, 0))).toArray) (by simp [scells, setL, tx])
          have hb := (hb.setCell (p := ⟨gT, 40, none⟩) hgT (.int .u8 1)).setCell (p := ⟨gT, 40 + 1, none⟩) hgT (.int .i64 0)
          simp only [Nat.reduceAdd] at hT2 hb
          generalize World.setCell (World.setCell _ ⟨gT, 40, none⟩ (.int .u8 1)) _ (.int .i64 0) = wz at *
          clear hT c0 c1 f0 f1 hp hP
          have hT := hT2
          clear hT2
          go_wp2_with (first | ((with_reducible refine at_op ⟨some 91, .load 28 (.tmp 7), _, _, _, _⟩ ?_); refine wpList_load_mid rfl 28 (.tmp 7) rfl _ 0 rfl (scells (setL (tx A' c' L') 6 (1, 0))) _ (range_st hT) Try.underlying28 rfl info_st ?_) | ((go_at_call 10; (with_reducible refine (r9 _).mono ?_)); rintro e w' ⟨rfl, h⟩; (have hb := Below_then hb h (Nat.le_refl _); have hT := Blk_below hT h (Blk_lt hT))) | ((go_at_call 9; (with_reducible refine (hkw _).mono ?_)); rintro e w' ⟨rfl, h⟩; (have hb := Below_then hb h (Nat.le_refl _); have hT := Blk_below hT h (Blk_lt hT))))
          go_ret
          exact ⟨rfl, hb⟩
        · have r9 := fun w => sright_any (setL (tx A' c' L') 7 (1, 0)) (setL_wf (tx_wf _ _ _) 7 rfl rfl) (by rw [setL_len]; exact hln) w
          rw [show rightB (setL (tx A' c' L') 7 (1, 0)) = false by simp [rightB, setL, tx, emptyB, noneB]] at r9
          go_upto_region 41 with ((go_at_call 17; (with_reducible refine (slens2_any _ _).mono ?_)); rintro e w' ⟨rfl, hP, h⟩; have hb := Below_then hb h (Nat.le_refl _); have hT := Blk_below hT h (Blk_lt hT); have hp : w'.cell? ⟨_, 7, none⟩ = some (.pointer (some ⟨gT, 16, none⟩)) := Blk_cell hP 7; have c0 := St_cell (s := tx A' c' L') (j := 16) (v := .int .u8 0) hT rfl; have c1 := St_cell (s := tx A' c' L') (j := 16 + 1) (v := .int .i64 0) hT rfl; have f0 := Blk_frozen hT 16; have f1 := Blk_frozen hT (16 + 1); simp only [Nat.reduceAdd] at c1 f1)
          have hT2 := Blk_upd (Blk_set hT 16 (.int .u8 1)) (16 + 1) (.int .i64 0) (cs' := (scells (setL (tx A' c' L') 7 (1, 0))).toArray) (by simp [scells, setL, tx])
          have hb := (hb.setCell (p := ⟨gT, 16, none⟩) hgT (.int .u8 1)).setCell (p := ⟨gT, 16 + 1, none⟩) hgT (.int .i64 0)
          simp only [Nat.reduceAdd] at hT2 hb
          generalize World.setCell (World.setCell _ ⟨gT, 16, none⟩ (.int .u8 1)) _ (.int .i64 0) = wz at *
          clear hT c0 c1 f0 f1 hp hP
          have hT := hT2
          clear hT2
          go_wp2_with (first | ((with_reducible refine at_op ⟨some 91, .load 28 (.tmp 7), _, _, _, _⟩ ?_); refine wpList_load_mid rfl 28 (.tmp 7) rfl _ 0 rfl (scells (setL (tx A' c' L') 7 (1, 0))) _ (range_st hT) Try.underlying28 rfl info_st ?_) | ((go_at_call 10; (with_reducible refine (r9 _).mono ?_)); rintro e w' ⟨rfl, h⟩; (have hb := Below_then hb h (Nat.le_refl _); have hT := Blk_below hT h (Blk_lt hT))) | ((go_at_call 9; (with_reducible refine (hkw _).mono ?_)); rintro e w' ⟨rfl, h⟩; (have hb := Below_then hb h (Nat.le_refl _); have hT := Blk_below hT h (Blk_lt hT))))
          go_ret
          exact ⟨rfl, hb⟩
        · have r9 := fun w => sright_any (setL (tx A' c' L') 8 (1, 0)) (setL_wf (tx_wf _ _ _) 8 rfl rfl) (by rw [setL_len]; exact hln) w
          rw [show rightB (setL (tx A' c' L') 8 (1, 0)) = false by simp [rightB, setL, tx, emptyB, noneB]] at r9
          go_upto_region 41 with ((go_at_call 17; (with_reducible refine (slens2_any _ _).mono ?_)); rintro e w' ⟨rfl, hP, h⟩; have hb := Below_then hb h (Nat.le_refl _); have hT := Blk_below hT h (Blk_lt hT); have hp : w'.cell? ⟨_, 8, none⟩ = some (.pointer (some ⟨gT, 18, none⟩)) := Blk_cell hP 8; have c0 := St_cell (s := tx A' c' L') (j := 18) (v := .int .u8 0) hT rfl; have c1 := St_cell (s := tx A' c' L') (j := 18 + 1) (v := .int .i64 0) hT rfl; have f0 := Blk_frozen hT 18; have f1 := Blk_frozen hT (18 + 1); simp only [Nat.reduceAdd] at c1 f1)
          have hT2 := Blk_upd (Blk_set hT 18 (.int .u8 1)) (18 + 1) (.int .i64 0) (cs' := (scells (setL (tx A' c' L') 8 (1, 0))).toArray) (by simp [scells, setL, tx])
          have hb := (hb.setCell (p := ⟨gT, 18, none⟩) hgT (.int .u8 1)).setCell (p := ⟨gT, 18 + 1, none⟩) hgT (.int .i64 0)
          simp only [Nat.reduceAdd] at hT2 hb
          generalize World.setCell (World.setCell _ ⟨gT, 18, none⟩ (.int .u8 1)) _ (.int .i64 0) = wz at *
          clear hT c0 c1 f0 f1 hp hP
          have hT := hT2
          clear hT2
          go_wp2_with (first | ((with_reducible refine at_op ⟨some 91, .load 28 (.tmp 7), _, _, _, _⟩ ?_); refine wpList_load_mid rfl 28 (.tmp 7) rfl _ 0 rfl (scells (setL (tx A' c' L') 8 (1, 0))) _ (range_st hT) Try.underlying28 rfl info_st ?_) | ((go_at_call 10; (with_reducible refine (r9 _).mono ?_)); rintro e w' ⟨rfl, h⟩; (have hb := Below_then hb h (Nat.le_refl _); have hT := Blk_below hT h (Blk_lt hT))) | ((go_at_call 9; (with_reducible refine (hkw _).mono ?_)); rintro e w' ⟨rfl, h⟩; (have hb := Below_then hb h (Nat.le_refl _); have hT := Blk_below hT h (Blk_lt hT))))
          go_ret
          exact ⟨rfl, hb⟩
        · have r9 := fun w => sright_any (setL (tx A' c' L') 9 (1, 0)) (setL_wf (tx_wf _ _ _) 9 rfl rfl) (by rw [setL_len]; exact hln) w
          rw [show rightB (setL (tx A' c' L') 9 (1, 0)) = false by simp [rightB, setL, tx, emptyB, noneB]] at r9
          go_upto_region 41 with ((go_at_call 17; (with_reducible refine (slens2_any _ _).mono ?_)); rintro e w' ⟨rfl, hP, h⟩; have hb := Below_then hb h (Nat.le_refl _); have hT := Blk_below hT h (Blk_lt hT); have hp : w'.cell? ⟨_, 9, none⟩ = some (.pointer (some ⟨gT, 20, none⟩)) := Blk_cell hP 9; have c0 := St_cell (s := tx A' c' L') (j := 20) (v := .int .u8 0) hT rfl; have c1 := St_cell (s := tx A' c' L') (j := 20 + 1) (v := .int .i64 0) hT rfl; have f0 := Blk_frozen hT 20; have f1 := Blk_frozen hT (20 + 1); simp only [Nat.reduceAdd] at c1 f1)
          have hT2 := Blk_upd (Blk_set hT 20 (.int .u8 1)) (20 + 1) (.int .i64 0) (cs' := (scells (setL (tx A' c' L') 9 (1, 0))).toArray) (by simp [scells, setL, tx])
          have hb := (hb.setCell (p := ⟨gT, 20, none⟩) hgT (.int .u8 1)).setCell (p := ⟨gT, 20 + 1, none⟩) hgT (.int .i64 0)
          simp only [Nat.reduceAdd] at hT2 hb
          generalize World.setCell (World.setCell _ ⟨gT, 20, none⟩ (.int .u8 1)) _ (.int .i64 0) = wz at *
          clear hT c0 c1 f0 f1 hp hP
          have hT := hT2
          clear hT2
          go_wp2_with (first | ((with_reducible refine at_op ⟨some 91, .load 28 (.tmp 7), _, _, _, _⟩ ?_); refine wpList_load_mid rfl 28 (.tmp 7) rfl _ 0 rfl (scells (setL (tx A' c' L') 9 (1, 0))) _ (range_st hT) Try.underlying28 rfl info_st ?_) | ((go_at_call 10; (with_reducible refine (r9 _).mono ?_)); rintro e w' ⟨rfl, h⟩; (have hb := Below_then hb h (Nat.le_refl _); have hT := Blk_below hT h (Blk_lt hT))) | ((go_at_call 9; (with_reducible refine (hkw _).mono ?_)); rintro e w' ⟨rfl, h⟩; (have hb := Below_then hb h (Nat.le_refl _); have hT := Blk_below hT h (Blk_lt hT))))
          go_ret
          exact ⟨rfl, hb⟩
        · have r9 := fun w => sright_any (setL (tx A' c' L') 10 (1, 0)) (setL_wf (tx_wf _ _ _) 10 rfl rfl) (by rw [setL_len]; exact hln) w
          rw [show rightB (setL (tx A' c' L') 10 (1, 0)) = false by simp [rightB, setL, tx, emptyB, noneB]] at r9
          go_upto_region 41 with ((go_at_call 17; (with_reducible refine (slens2_any _ _).mono ?_)); rintro e w' ⟨rfl, hP, h⟩; have hb := Below_then hb h (Nat.le_refl _); have hT := Blk_below hT h (Blk_lt hT); have hp : w'.cell? ⟨_, 10, none⟩ = some (.pointer (some ⟨gT, 22, none⟩)) := Blk_cell hP 10; have c0 := St_cell (s := tx A' c' L') (j := 22) (v := .int .u8 0) hT rfl; have c1 := St_cell (s := tx A' c' L') (j := 22 + 1) (v := .int .i64 0) hT rfl; have f0 := Blk_frozen hT 22; have f1 := Blk_frozen hT (22 + 1); simp only [Nat.reduceAdd] at c1 f1)
          have hT2 := Blk_upd (Blk_set hT 22 (.int .u8 1)) (22 + 1) (.int .i64 0) (cs' := (scells (setL (tx A' c' L') 10 (1, 0))).toArray) (by simp [scells, setL, tx])
          have hb := (hb.setCell (p := ⟨gT, 22, none⟩) hgT (.int .u8 1)).setCell (p := ⟨gT, 22 + 1, none⟩) hgT (.int .i64 0)
          simp only [Nat.reduceAdd] at hT2 hb
          generalize World.setCell (World.setCell _ ⟨gT, 22, none⟩ (.int .u8 1)) _ (.int .i64 0) = wz at *
          clear hT c0 c1 f0 f1 hp hP
          have hT := hT2
          clear hT2
          go_wp2_with (first | ((with_reducible refine at_op ⟨some 91, .load 28 (.tmp 7), _, _, _, _⟩ ?_); refine wpList_load_mid rfl 28 (.tmp 7) rfl _ 0 rfl (scells (setL (tx A' c' L') 10 (1, 0))) _ (range_st hT) Try.underlying28 rfl info_st ?_) | ((go_at_call 10; (with_reducible refine (r9 _).mono ?_)); rintro e w' ⟨rfl, h⟩; (have hb := Below_then hb h (Nat.le_refl _); have hT := Blk_below hT h (Blk_lt hT))) | ((go_at_call 9; (with_reducible refine (hkw _).mono ?_)); rintro e w' ⟨rfl, h⟩; (have hb := Below_then hb h (Nat.le_refl _); have hT := Blk_below hT h (Blk_lt hT))))
          go_ret
          exact ⟨rfl, hb⟩
      · obtain rfl | rfl | rfl | rfl | rfl | rfl | rfl | rfl | rfl | rfl | rfl | rfl | rfl : e = 0 ∨ e = 1 ∨ e = 2 ∨ e = 3 ∨ e = 4 ∨ e = 5 ∨ e = 6 ∨ e = 7 ∨ e = 8 ∨ e = 9 ∨ e = 10 ∨ e = 11 ∨ e = 12 := by omega
        · have c0 := St_cell (s := tx A' c' L') (j := 1) (v := .bool false) hT rfl
          have f0 := Blk_frozen hT 1
          have r9 := fun w => sright_any ({ tx A' c' L' with flow := true }) (by constructor <;> rfl) hln w
          rw [show rightB ({ tx A' c' L' with flow := true }) = false by simp [rightB, tx, emptyB]] at r9
          go_upto_region 41 with fail
          have hT2 := Blk_upd hT 1 (.bool true) (cs' := (scells ({ tx A' c' L' with flow := true })).toArray) (by simp [scells, tx])
          have hb := hb.setCell (p := ⟨gT, 1, none⟩) hgT (.bool true)
          generalize World.setCell _ ⟨gT, 1, none⟩ (.bool true) = wz at *
          clear hT c0 f0
          have hT := hT2
          clear hT2
          go_wp2_with (first | ((with_reducible refine at_op ⟨some 91, .load 28 (.tmp 7), _, _, _, _⟩ ?_); refine wpList_load_mid rfl 28 (.tmp 7) rfl _ 0 rfl (scells ({ tx A' c' L' with flow := true })) _ (range_st hT) Try.underlying28 rfl info_st ?_) | ((go_at_call 10; (with_reducible refine (r9 _).mono ?_)); rintro e w' ⟨rfl, h⟩; (have hb := Below_then hb h (Nat.le_refl _); have hT := Blk_below hT h (Blk_lt hT))) | ((go_at_call 9; (with_reducible refine (hkw _).mono ?_)); rintro e w' ⟨rfl, h⟩; (have hb := Below_then hb h (Nat.le_refl _); have hT := Blk_below hT h (Blk_lt hT))))
          go_ret
          exact ⟨rfl, hb⟩
        · have c0 := St_cell (s := tx A' c' L') (j := 2) (v := .int .u8 0) hT rfl
          have f0 := Blk_frozen hT 2
          have r9 := fun w => sright_any ({ tx A' c' L' with float := 1 }) (by constructor <;> rfl) hln w
          rw [show rightB ({ tx A' c' L' with float := 1 }) = false by simp [rightB, tx, emptyB]] at r9
          go_upto_region 41 with fail
          have hT2 := Blk_upd hT 2 (.int .u8 1) (cs' := (scells ({ tx A' c' L' with float := 1 })).toArray) (by simp [scells, tx])
          have hb := hb.setCell (p := ⟨gT, 2, none⟩) hgT (.int .u8 1)
          generalize World.setCell _ ⟨gT, 2, none⟩ (.int .u8 1) = wz at *
          clear hT c0 f0
          have hT := hT2
          clear hT2
          go_wp2_with (first | ((with_reducible refine at_op ⟨some 91, .load 28 (.tmp 7), _, _, _, _⟩ ?_); refine wpList_load_mid rfl 28 (.tmp 7) rfl _ 0 rfl (scells ({ tx A' c' L' with float := 1 })) _ (range_st hT) Try.underlying28 rfl info_st ?_) | ((go_at_call 10; (with_reducible refine (r9 _).mono ?_)); rintro e w' ⟨rfl, h⟩; (have hb := Below_then hb h (Nat.le_refl _); have hT := Blk_below hT h (Blk_lt hT))) | ((go_at_call 9; (with_reducible refine (hkw _).mono ?_)); rintro e w' ⟨rfl, h⟩; (have hb := Below_then hb h (Nat.le_refl _); have hT := Blk_below hT h (Blk_lt hT))))
          go_ret
          exact ⟨rfl, hb⟩
        · have c0 := St_cell (s := tx A' c' L') (j := 3) (v := .int .u8 0) hT rfl
          have f0 := Blk_frozen hT 3
          have r9 := fun w => sright_any ({ tx A' c' L' with clear := 3 }) (by constructor <;> rfl) hln w
          rw [show rightB ({ tx A' c' L' with clear := 3 }) = false by simp [rightB, tx, emptyB]] at r9
          go_upto_region 41 with fail
          have hT2 := Blk_upd hT 3 (.int .u8 3) (cs' := (scells ({ tx A' c' L' with clear := 3 })).toArray) (by simp [scells, tx])
          have hb := hb.setCell (p := ⟨gT, 3, none⟩) hgT (.int .u8 3)
          generalize World.setCell _ ⟨gT, 3, none⟩ (.int .u8 3) = wz at *
          clear hT c0 f0
          have hT := hT2
          clear hT2
          go_wp2_with (first | ((with_reducible refine at_op ⟨some 91, .load 28 (.tmp 7), _, _, _, _⟩ ?_); refine wpList_load_mid rfl 28 (.tmp 7) rfl _ 0 rfl (scells ({ tx A' c' L' with clear := 3 })) _ (range_st hT) Try.underlying28 rfl info_st ?_) | ((go_at_call 10; (with_reducible refine (r9 _).mono ?_)); rintro e w' ⟨rfl, h⟩; (have hb := Below_then hb h (Nat.le_refl _); have hT := Blk_below hT h (Blk_lt hT))) | ((go_at_call 9; (with_reducible refine (hkw _).mono ?_)); rintro e w' ⟨rfl, h⟩; (have hb := Below_then hb h (Nat.le_refl _); have hT := Blk_below hT h (Blk_lt hT))))
          go_ret
          exact ⟨rfl, hb⟩
        · have c0 := St_cell (s := tx A' c' L') (j := 32) (v := .int .u8 0) hT rfl
          have f0 := Blk_frozen hT 32
          have r9 := fun w => sright_any ({ tx A' c' L' with align := 1 }) (by constructor <;> rfl) hln w
          rw [show rightB ({ tx A' c' L' with align := 1 }) = false by simp [rightB, tx, emptyB]] at r9
          go_upto_region 41 with fail
          have hT2 := Blk_upd hT 32 (.int .u8 1) (cs' := (scells ({ tx A' c' L' with align := 1 })).toArray) (by simp [scells, tx])
          have hb := hb.setCell (p := ⟨gT, 32, none⟩) hgT (.int .u8 1)
          generalize World.setCell _ ⟨gT, 32, none⟩ (.int .u8 1) = wz at *
          clear hT c0 f0
          have hT := hT2
          clear hT2
          go_wp2_with (first | ((with_reducible refine at_op ⟨some 91, .load 28 (.tmp 7), _, _, _, _⟩ ?_); refine wpList_load_mid rfl 28 (.tmp 7) rfl _ 0 rfl (scells ({ tx A' c' L' with align := 1 })) _ (range_st hT) Try.underlying28 rfl info_st ?_) | ((go_at_call 10; (with_reducible refine (r9 _).mono ?_)); rintro e w' ⟨rfl, h⟩; (have hb := Below_then hb h (Nat.le_refl _); have hT := Blk_below hT h (Blk_lt hT))) | ((go_at_call 9; (with_reducible refine (hkw _).mono ?_)); rintro e w' ⟨rfl, h⟩; (have hb := Below_then hb h (Nat.le_refl _); have hT := Blk_below hT h (Blk_lt hT))))
          go_ret
          exact ⟨rfl, hb⟩
        · have c0 := St_cell (s := tx A' c' L') (j := 33) (v := .int .i64 0) hT rfl
          have f0 := Blk_frozen hT 33
          have r9 := fun w => sright_any ({ tx A' c' L' with line := 1 }) (by constructor <;> rfl) hln w
          rw [show rightB ({ tx A' c' L' with line := 1 }) = false by simp [rightB, tx, emptyB]] at r9
          go_upto_region 41 with fail
          have hT2 := Blk_upd hT 33 (.int .i64 1) (cs' := (scells ({ tx A' c' L' with line := 1 })).toArray) (by simp [scells, tx])
          have hb := hb.setCell (p := ⟨gT, 33, none⟩) hgT (.int .i64 1)
          generalize World.setCell _ ⟨gT, 33, none⟩ (.int .i64 1) = wz at *
          clear hT c0 f0
          have hT := hT2
          clear hT2
          go_wp2_with (first | ((with_reducible refine at_op ⟨some 91, .load 28 (.tmp 7), _, _, _, _⟩ ?_); refine wpList_load_mid rfl 28 (.tmp 7) rfl _ 0 rfl (scells ({ tx A' c' L' with line := 1 })) _ (range_st hT) Try.underlying28 rfl info_st ?_) | ((go_at_call 10; (with_reducible refine (r9 _).mono ?_)); rintro e w' ⟨rfl, h⟩; (have hb := Below_then hb h (Nat.le_refl _); have hT := Blk_below hT h (Blk_lt hT))) | ((go_at_call 9; (with_reducible refine (hkw _).mono ?_)); rintro e w' ⟨rfl, h⟩; (have hb := Below_then hb h (Nat.le_refl _); have hT := Blk_below hT h (Blk_lt hT))))
          go_ret
          exact ⟨rfl, hb⟩
        · have c0 := St_cell (s := tx A' c' L') (j := 34) (v := .bool false) hT rfl
          have f0 := Blk_frozen hT 34
          have r9 := fun w => sright_any ({ tx A' c' L' with wrap := true }) (by constructor <;> rfl) hln w
          rw [show rightB ({ tx A' c' L' with wrap := true }) = false by simp [rightB, tx, emptyB]] at r9
          go_upto_region 41 with fail
          have hT2 := Blk_upd hT 34 (.bool true) (cs' := (scells ({ tx A' c' L' with wrap := true })).toArray) (by simp [scells, tx])
          have hb := hb.setCell (p := ⟨gT, 34, none⟩) hgT (.bool true)
          generalize World.setCell _ ⟨gT, 34, none⟩ (.bool true) = wz at *
          clear hT c0 f0
          have hT := hT2
          clear hT2
          go_wp2_with (first | ((with_reducible refine at_op ⟨some 91, .load 28 (.tmp 7), _, _, _, _⟩ ?_); refine wpList_load_mid rfl 28 (.tmp 7) rfl _ 0 rfl (scells ({ tx A' c' L' with wrap := true })) _ (range_st hT) Try.underlying28 rfl info_st ?_) | ((go_at_call 10; (with_reducible refine (r9 _).mono ?_)); rintro e w' ⟨rfl, h⟩; (have hb := Below_then hb h (Nat.le_refl _); have hT := Blk_below hT h (Blk_lt hT))) | ((go_at_call 9; (with_reducible refine (hkw _).mono ?_)); rintro e w' ⟨rfl, h⟩; (have hb := Below_then hb h (Nat.le_refl _); have hT := Blk_below hT h (Blk_lt hT))))
          go_ret
          exact ⟨rfl, hb⟩
        · have c0 := St_cell (s := tx A' c' L') (j := 35) (v := .int .u8 0) hT rfl
          have f0 := Blk_frozen hT 35
          have r9 := fun w => sright_any ({ tx A' c' L' with justify := 1 }) (by constructor <;> rfl) hln w
          rw [show rightB ({ tx A' c' L' with justify := 1 }) = false by simp [rightB, tx, emptyB]] at r9
          go_upto_region 41 with fail
          have hT2 := Blk_upd hT 35 (.int .u8 1) (cs' := (scells ({ tx A' c' L' with justify := 1 })).toArray) (by simp [scells, tx])
          have hb := hb.setCell (p := ⟨gT, 35, none⟩) hgT (.int .u8 1)
          generalize World.setCell _ ⟨gT, 35, none⟩ (.int .u8 1) = wz at *
          clear hT c0 f0
          have hT := hT2
          clear hT2
          go_wp2_with (first | ((with_reducible refine at_op ⟨some 91, .load 28 (.tmp 7), _, _, _, _⟩ ?_); refine wpList_load_mid rfl 28 (.tmp 7) rfl _ 0 rfl (scells ({ tx A' c' L' with justify := 1 })) _ (range_st hT) Try.underlying28 rfl info_st ?_) | ((go_at_call 10; (with_reducible refine (r9 _).mono ?_)); rintro e w' ⟨rfl, h⟩; (have hb := Below_then hb h (Nat.le_refl _); have hT := Blk_below hT h (Blk_lt hT))) | ((go_at_call 9; (with_reducible refine (hkw _).mono ?_)); rintro e w' ⟨rfl, h⟩; (have hb := Below_then hb h (Nat.le_refl _); have hT := Blk_below hT h (Blk_lt hT))))
          go_ret
          exact ⟨rfl, hb⟩
        · have c0 := St_cell (s := tx A' c' L') (j := 36) (v := .int .u8 0) hT rfl
          have f0 := Blk_frozen hT 36
          have r9 := fun w => sright_any ({ tx A' c' L' with items := 1 }) (by constructor <;> rfl) hln w
          rw [show rightB ({ tx A' c' L' with items := 1 }) = false by simp [rightB, tx, emptyB]] at r9
          go_upto_region 41 with fail
          have hT2 := Blk_upd hT 36 (.int .u8 1) (cs' := (scells ({ tx A' c' L' with items := 1 })).toArray) (by simp [scells, tx])
          have hb := hb.setCell (p := ⟨gT, 36, none⟩) hgT (.int .u8 1)
          generalize World.setCell _ ⟨gT, 36, none⟩ (.int .u8 1) = wz at *
          clear hT c0 f0
          have hT := hT2
          clear hT2
          go_wp2_with (first | ((with_reducible refine at_op ⟨some 91, .load 28 (.tmp 7), _, _, _, _⟩ ?_); refine wpList_load_mid rfl 28 (.tmp 7) rfl _ 0 rfl (scells ({ tx A' c' L' with items := 1 })) _ (range_st hT) Try.underlying28 rfl info_st ?_) | ((go_at_call 10; (with_reducible refine (r9 _).mono ?_)); rintro e w' ⟨rfl, h⟩; (have hb := Below_then hb h (Nat.le_refl _); have hT := Blk_below hT h (Blk_lt hT))) | ((go_at_call 9; (with_reducible refine (hkw _).mono ?_)); rintro e w' ⟨rfl, h⟩; (have hb := Below_then hb h (Nat.le_refl _); have hT := Blk_below hT h (Blk_lt hT))))
          go_ret
          exact ⟨rfl, hb⟩
        · have c0 := St_cell (s := tx A' c' L') (j := 37) (v := .int .i64 0) hT rfl
          have f0 := Blk_frozen hT 37
          have r9 := fun w => sright_any ({ tx A' c' L' with order := -1 }) (by constructor <;> rfl) hln w
          rw [show rightB ({ tx A' c' L' with order := -1 }) = false by simp [rightB, tx, emptyB]] at r9
          go_upto_region 41 with fail
          have hT2 := Blk_upd hT 37 (.int .i64 (-1)) (cs' := (scells ({ tx A' c' L' with order := -1 })).toArray) (by simp [scells, tx])
          have hb := hb.setCell (p := ⟨gT, 37, none⟩) hgT (.int .i64 (-1))
          generalize World.setCell _ ⟨gT, 37, none⟩ (.int .i64 (-1)) = wz at *
          clear hT c0 f0
          have hT := hT2
          clear hT2
          go_wp2_with (first | ((with_reducible refine at_op ⟨some 91, .load 28 (.tmp 7), _, _, _, _⟩ ?_); refine wpList_load_mid rfl 28 (.tmp 7) rfl _ 0 rfl (scells ({ tx A' c' L' with order := -1 })) _ (range_st hT) Try.underlying28 rfl info_st ?_) | ((go_at_call 10; (with_reducible refine (r9 _).mono ?_)); rintro e w' ⟨rfl, h⟩; (have hb := Below_then hb h (Nat.le_refl _); have hT := Blk_below hT h (Blk_lt hT))) | ((go_at_call 9; (with_reducible refine (hkw _).mono ?_)); rintro e w' ⟨rfl, h⟩; (have hb := Below_then hb h (Nat.le_refl _); have hT := Blk_below hT h (Blk_lt hT))))
          go_ret
          exact ⟨rfl, hb⟩
        · have c0 := St_cell (s := tx A' c' L') (j := 38) (v := .int .i64 0) hT rfl
          have f0 := Blk_frozen hT 38
          have r9 := fun w => sright_any ({ tx A' c' L' with grow := 1 }) (by constructor <;> rfl) hln w
          rw [show rightB ({ tx A' c' L' with grow := 1 }) = false by simp [rightB, tx, emptyB]] at r9
          go_upto_region 41 with fail
          have hT2 := Blk_upd hT 38 (.int .i64 1) (cs' := (scells ({ tx A' c' L' with grow := 1 })).toArray) (by simp [scells, tx])
          have hb := hb.setCell (p := ⟨gT, 38, none⟩) hgT (.int .i64 1)
          generalize World.setCell _ ⟨gT, 38, none⟩ (.int .i64 1) = wz at *
          clear hT c0 f0
          have hT := hT2
          clear hT2
          go_wp2_with (first | ((with_reducible refine at_op ⟨some 91, .load 28 (.tmp 7), _, _, _, _⟩ ?_); refine wpList_load_mid rfl 28 (.tmp 7) rfl _ 0 rfl (scells ({ tx A' c' L' with grow := 1 })) _ (range_st hT) Try.underlying28 rfl info_st ?_) | ((go_at_call 10; (with_reducible refine (r9 _).mono ?_)); rintro e w' ⟨rfl, h⟩; (have hb := Below_then hb h (Nat.le_refl _); have hT := Blk_below hT h (Blk_lt hT))) | ((go_at_call 9; (with_reducible refine (hkw _).mono ?_)); rintro e w' ⟨rfl, h⟩; (have hb := Below_then hb h (Nat.le_refl _); have hT := Blk_below hT h (Blk_lt hT))))
          go_ret
          exact ⟨rfl, hb⟩
        · have c0 := St_cell (s := tx A' c' L') (j := 39) (v := .int .i64 0) hT rfl
          have f0 := Blk_frozen hT 39
          have r9 := fun w => sright_any ({ tx A' c' L' with shrink := 1 }) (by constructor <;> rfl) hln w
          rw [show rightB ({ tx A' c' L' with shrink := 1 }) = false by simp [rightB, tx, emptyB]] at r9
          go_upto_region 41 with fail
          have hT2 := Blk_upd hT 39 (.int .i64 1) (cs' := (scells ({ tx A' c' L' with shrink := 1 })).toArray) (by simp [scells, tx])
          have hb := hb.setCell (p := ⟨gT, 39, none⟩) hgT (.int .i64 1)
          generalize World.setCell _ ⟨gT, 39, none⟩ (.int .i64 1) = wz at *
          clear hT c0 f0
          have hT := hT2
          clear hT2
          go_wp2_with (first | ((with_reducible refine at_op ⟨some 91, .load 28 (.tmp 7), _, _, _, _⟩ ?_); refine wpList_load_mid rfl 28 (.tmp 7) rfl _ 0 rfl (scells ({ tx A' c' L' with shrink := 1 })) _ (range_st hT) Try.underlying28 rfl info_st ?_) | ((go_at_call 10; (with_reducible refine (r9 _).mono ?_)); rintro e w' ⟨rfl, h⟩; (have hb := Below_then hb h (Nat.le_refl _); have hT := Blk_below hT h (Blk_lt hT))) | ((go_at_call 9; (with_reducible refine (hkw _).mono ?_)); rintro e w' ⟨rfl, h⟩; (have hb := Below_then hb h (Nat.le_refl _); have hT := Blk_below hT h (Blk_lt hT))))
          go_ret
          exact ⟨rfl, hb⟩
        · obtain h4 | h4 | h4 | h4 : q % 4 = 0 ∨ q % 4 = 1 ∨ q % 4 = 2 ∨ q % 4 = 3 := by omega
          · rw [h4] at t4
            clear h4 t5
            have c0 := St_cell (s := tx A' c' L') (j := 24) (v := .int .i64 0) hT rfl
            have f0 := Blk_frozen hT 24
            have r9 := fun w => sright_any ({ tx A' c' L' with b0 := 1 }) (by constructor <;> rfl) hln w
            rw [show rightB ({ tx A' c' L' with b0 := 1 }) = false by simp [rightB, tx, emptyB]] at r9
            go_upto_region 41 with fail
            have hT2 := Blk_upd hT 24 (.int .i64 1) (cs' := (scells ({ tx A' c' L' with b0 := 1 })).toArray) (by simp [scells, tx])
            have hb := hb.setCell (p := ⟨gT, 24, none⟩) hgT (.int .i64 1)
            generalize World.setCell _ ⟨gT, 24, none⟩ (.int .i64 1) = wz at *
            clear hT c0 f0
            have hT := hT2
            clear hT2
            go_wp2_with (first | ((with_reducible refine at_op ⟨some 91, .load 28 (.tmp 7), _, _, _, _⟩ ?_); refine wpList_load_mid rfl 28 (.tmp 7) rfl _ 0 rfl (scells ({ tx A' c' L' with b0 := 1 })) _ (range_st hT) Try.underlying28 rfl info_st ?_) | ((go_at_call 10; (with_reducible refine (r9 _).mono ?_)); rintro e w' ⟨rfl, h⟩; (have hb := Below_then hb h (Nat.le_refl _); have hT := Blk_below hT h (Blk_lt hT))) | ((go_at_call 9; (with_reducible refine (hkw _).mono ?_)); rintro e w' ⟨rfl, h⟩; (have hb := Below_then hb h (Nat.le_refl _); have hT := Blk_below hT h (Blk_lt hT))))
            go_ret
            exact ⟨rfl, hb⟩
          · rw [h4] at t4
            clear h4 t5
            have c0 := St_cell (s := tx A' c' L') (j := 25) (v := .int .i64 0) hT rfl
            have f0 := Blk_frozen hT 25
            have r9 := fun w => sright_any ({ tx A' c' L' with b1 := 1 }) (by constructor <;> rfl) hln w
            rw [show rightB ({ tx A' c' L' with b1 := 1 }) = false by simp [rightB, tx, emptyB]] at r9
            go_upto_region 41 with fail
            have hT2 := Blk_upd hT 25 (.int .i64 1) (cs' := (scells ({ tx A' c' L' with b1 := 1 })).toArray) (by simp [scells, tx])
            have hb := hb.setCell (p := ⟨gT, 25, none⟩) hgT (.int .i64 1)
            generalize World.setCell _ ⟨gT, 25, none⟩ (.int .i64 1) = wz at *
            clear hT c0 f0
            have hT := hT2
            clear hT2
            go_wp2_with (first | ((with_reducible refine at_op ⟨some 91, .load 28 (.tmp 7), _, _, _, _⟩ ?_); refine wpList_load_mid rfl 28 (.tmp 7) rfl _ 0 rfl (scells ({ tx A' c' L' with b1 := 1 })) _ (range_st hT) Try.underlying28 rfl info_st ?_) | ((go_at_call 10; (with_reducible refine (r9 _).mono ?_)); rintro e w' ⟨rfl, h⟩; (have hb := Below_then hb h (Nat.le_refl _); have hT := Blk_below hT h (Blk_lt hT))) | ((go_at_call 9; (with_reducible refine (hkw _).mono ?_)); rintro e w' ⟨rfl, h⟩; (have hb := Below_then hb h (Nat.le_refl _); have hT := Blk_below hT h (Blk_lt hT))))
            go_ret
            exact ⟨rfl, hb⟩
          · rw [h4] at t4
            clear h4 t5
            have c0 := St_cell (s := tx A' c' L') (j := 26) (v := .int .i64 0) hT rfl
            have f0 := Blk_frozen hT 26
            have r9 := fun w => sright_any ({ tx A' c' L' with b2 := 1 }) (by constructor <;> rfl) hln w
            rw [show rightB ({ tx A' c' L' with b2 := 1 }) = false by simp [rightB, tx, emptyB]] at r9
            go_upto_region 41 with fail
            have hT2 := Blk_upd hT 26 (.int .i64 1) (cs' := (scells ({ tx A' c' L' with b2 := 1 })).toArray) (by simp [scells, tx])
            have hb := hb.setCell (p := ⟨gT, 26, none⟩) hgT (.int .i64 1)
            generalize World.setCell _ ⟨gT, 26, none⟩ (.int .i64 1) = wz at *
            clear hT c0 f0
            have hT := hT2
            clear hT2
            go_wp2_with (first | ((with_reducible refine at_op ⟨some 91, .load 28 (.tmp 7), _, _, _, _⟩ ?_); refine wpList_load_mid rfl 28 (.tmp 7) rfl _ 0 rfl (scells ({ tx A' c' L' with b2 := 1 })) _ (range_st hT) Try.underlying28 rfl info_st ?_) | ((go_at_call 10; (with_reducible refine (r9 _).mono ?_)); rintro e w' ⟨rfl, h⟩; (have hb := Below_then hb h (Nat.le_refl _); have hT := Blk_below hT h (Blk_lt hT))) | ((go_at_call 9; (with_reducible refine (hkw _).mono ?_)); rintro e w' ⟨rfl, h⟩; (have hb := Below_then hb h (Nat.le_refl _); have hT := Blk_below hT h (Blk_lt hT))))
            go_ret
            exact ⟨rfl, hb⟩
          · rw [h4] at t4
            clear h4 t5
            have c0 := St_cell (s := tx A' c' L') (j := 27) (v := .int .i64 0) hT rfl
            have f0 := Blk_frozen hT 27
            have r9 := fun w => sright_any ({ tx A' c' L' with b3 := 1 }) (by constructor <;> rfl) hln w
            rw [show rightB ({ tx A' c' L' with b3 := 1 }) = false by simp [rightB, tx, emptyB]] at r9
            go_upto_region 41 with fail
            have hT2 := Blk_upd hT 27 (.int .i64 1) (cs' := (scells ({ tx A' c' L' with b3 := 1 })).toArray) (by simp [scells, tx])
            have hb := hb.setCell (p := ⟨gT, 27, none⟩) hgT (.int .i64 1)
            generalize World.setCell _ ⟨gT, 27, none⟩ (.int .i64 1) = wz at *
            clear hT c0 f0
            have hT := hT2
            clear hT2
            go_wp2_with (first | ((with_reducible refine at_op ⟨some 91, .load 28 (.tmp 7), _, _, _, _⟩ ?_); refine wpList_load_mid rfl 28 (.tmp 7) rfl _ 0 rfl (scells ({ tx A' c' L' with b3 := 1 })) _ (range_st hT) Try.underlying28 rfl info_st ?_) | ((go_at_call 10; (with_reducible refine (r9 _).mono ?_)); rintro e w' ⟨rfl, h⟩; (have hb := Below_then hb h (Nat.le_refl _); have hT := Blk_below hT h (Blk_lt hT))) | ((go_at_call 9; (with_reducible refine (hkw _).mono ?_)); rintro e w' ⟨rfl, h⟩; (have hb := Below_then hb h (Nat.le_refl _); have hT := Blk_below hT h (Blk_lt hT))))
            go_ret
            exact ⟨rfl, hb⟩
        · obtain h4 | h4 | h4 | h4 : q % 4 = 0 ∨ q % 4 = 1 ∨ q % 4 = 2 ∨ q % 4 = 3 := by omega
          · rw [h4] at t4
            clear h4 t5
            have c0 := St_cell (s := tx A' c' L') (j := 28) (v := .int .i64 0) hT rfl
            have f0 := Blk_frozen hT 28
            have r9 := fun w => sright_any ({ tx A' c' L' with p0 := 1 }) (by constructor <;> rfl) hln w
            rw [show rightB ({ tx A' c' L' with p0 := 1 }) = false by simp [rightB, tx, emptyB]] at r9
            go_upto_region 41 with fail
            have hT2 := Blk_upd hT 28 (.int .i64 1) (cs' := (scells ({ tx A' c' L' with p0 := 1 })).toArray) (by simp [scells, tx])
            have hb := hb.setCell (p := ⟨gT, 28, none⟩) hgT (.int .i64 1)
            generalize World.setCell _ ⟨gT, 28, none⟩ (.int .i64 1) = wz at *
            clear hT c0 f0
            have hT := hT2
            clear hT2
            go_wp2_with (first | ((with_reducible refine at_op ⟨some 91, .load 28 (.tmp 7), _, _, _, _⟩ ?_); refine wpList_load_mid rfl 28 (.tmp 7) rfl _ 0 rfl (scells ({ tx A' c' L' with p0 := 1 })) _ (range_st hT) Try.underlying28 rfl info_st ?_) | ((go_at_call 10; (with_reducible refine (r9 _).mono ?_)); rintro e w' ⟨rfl, h⟩; (have hb := Below_then hb h (Nat.le_refl _); have hT := Blk_below hT h (Blk_lt hT))) | ((go_at_call 9; (with_reducible refine (hkw _).mono ?_)); rintro e w' ⟨rfl, h⟩; (have hb := Below_then hb h (Nat.le_refl _); have hT := Blk_below hT h (Blk_lt hT))))
            go_ret
            exact ⟨rfl, hb⟩
          · rw [h4] at t4
            clear h4 t5
            have c0 := St_cell (s := tx A' c' L') (j := 29) (v := .int .i64 0) hT rfl
            have f0 := Blk_frozen hT 29
            have r9 := fun w => sright_any ({ tx A' c' L' with p1 := 1 }) (by constructor <;> rfl) hln w
            rw [show rightB ({ tx A' c' L' with p1 := 1 }) = false by simp [rightB, tx, emptyB]] at r9
            go_upto_region 41 with fail
            have hT2 := Blk_upd hT 29 (.int .i64 1) (cs' := (scells ({ tx A' c' L' with p1 := 1 })).toArray) (by simp [scells, tx])
            have hb := hb.setCell (p := ⟨gT, 29, none⟩) hgT (.int .i64 1)
            generalize World.setCell _ ⟨gT, 29, none⟩ (.int .i64 1) = wz at *
            clear hT c0 f0
            have hT := hT2
            clear hT2
            go_wp2_with (first | ((with_reducible refine at_op ⟨some 91, .load 28 (.tmp 7), _, _, _, _⟩ ?_); refine wpList_load_mid rfl 28 (.tmp 7) rfl _ 0 rfl (scells ({ tx A' c' L' with p1 := 1 })) _ (range_st hT) Try.underlying28 rfl info_st ?_) | ((go_at_call 10; (with_reducible refine (r9 _).mono ?_)); rintro e w' ⟨rfl, h⟩; (have hb := Below_then hb h (Nat.le_refl _); have hT := Blk_below hT h (Blk_lt hT))) | ((go_at_call 9; (with_reducible refine (hkw _).mono ?_)); rintro e w' ⟨rfl, h⟩; (have hb := Below_then hb h (Nat.le_refl _); have hT := Blk_below hT h (Blk_lt hT))))
            go_ret
            exact ⟨rfl, hb⟩
          · rw [h4] at t4
            clear h4 t5
            have c0 := St_cell (s := tx A' c' L') (j := 30) (v := .int .i64 0) hT rfl
            have f0 := Blk_frozen hT 30
            have r9 := fun w => sright_any ({ tx A' c' L' with p2 := 1 }) (by constructor <;> rfl) hln w
            rw [show rightB ({ tx A' c' L' with p2 := 1 }) = false by simp [rightB, tx, emptyB]] at r9
            go_upto_region 41 with fail
            have hT2 := Blk_upd hT 30 (.int .i64 1) (cs' := (scells ({ tx A' c' L' with p2 := 1 })).toArray) (by simp [scells, tx])
            have hb := hb.setCell (p := ⟨gT, 30, none⟩) hgT (.int .i64 1)
            generalize World.setCell _ ⟨gT, 30, none⟩ (.int .i64 1) = wz at *
            clear hT c0 f0
            have hT := hT2
            clear hT2
            go_wp2_with (first | ((with_reducible refine at_op ⟨some 91, .load 28 (.tmp 7), _, _, _, _⟩ ?_); refine wpList_load_mid rfl 28 (.tmp 7) rfl _ 0 rfl (scells ({ tx A' c' L' with p2 := 1 })) _ (range_st hT) Try.underlying28 rfl info_st ?_) | ((go_at_call 10; (with_reducible refine (r9 _).mono ?_)); rintro e w' ⟨rfl, h⟩; (have hb := Below_then hb h (Nat.le_refl _); have hT := Blk_below hT h (Blk_lt hT))) | ((go_at_call 9; (with_reducible refine (hkw _).mono ?_)); rintro e w' ⟨rfl, h⟩; (have hb := Below_then hb h (Nat.le_refl _); have hT := Blk_below hT h (Blk_lt hT))))
            go_ret
            exact ⟨rfl, hb⟩
          · rw [h4] at t4
            clear h4 t5
            have c0 := St_cell (s := tx A' c' L') (j := 31) (v := .int .i64 0) hT rfl
            have f0 := Blk_frozen hT 31
            have r9 := fun w => sright_any ({ tx A' c' L' with p3 := 1 }) (by constructor <;> rfl) hln w
            rw [show rightB ({ tx A' c' L' with p3 := 1 }) = false by simp [rightB, tx, emptyB]] at r9
            go_upto_region 41 with fail
            have hT2 := Blk_upd hT 31 (.int .i64 1) (cs' := (scells ({ tx A' c' L' with p3 := 1 })).toArray) (by simp [scells, tx])
            have hb := hb.setCell (p := ⟨gT, 31, none⟩) hgT (.int .i64 1)
            generalize World.setCell _ ⟨gT, 31, none⟩ (.int .i64 1) = wz at *
            clear hT c0 f0
            have hT := hT2
            clear hT2
            go_wp2_with (first | ((with_reducible refine at_op ⟨some 91, .load 28 (.tmp 7), _, _, _, _⟩ ?_); refine wpList_load_mid rfl 28 (.tmp 7) rfl _ 0 rfl (scells ({ tx A' c' L' with p3 := 1 })) _ (range_st hT) Try.underlying28 rfl info_st ?_) | ((go_at_call 10; (with_reducible refine (r9 _).mono ?_)); rintro e w' ⟨rfl, h⟩; (have hb := Below_then hb h (Nat.le_refl _); have hT := Blk_below hT h (Blk_lt hT))) | ((go_at_call 9; (with_reducible refine (hkw _).mono ?_)); rintro e w' ⟨rfl, h⟩; (have hb := Below_then hb h (Nat.le_refl _); have hT := Blk_below hT h (Blk_lt hT))))
            go_ret
            exact ⟨rfl, hb⟩
theorem stexts_walk (w : World) {A : Option Addr} {n c : Nat} {L : List Int} {mv wv : Int} (h0 : SliceRd 1 (EInt .u16) w A n c L) (h1 : (Lit.int .u8 mv).wf = true) (h2 : (Lit.int .u8 wv).wf = true) :
    Calls Try.prog 7 #[.slice A n c, .int .u8 mv, .int .u8 wv] w fun e w' => e = .returned (.bool true) ∧ Below w.heap.size w w' := by
  have hb : ∀ z : Int, (Lit.int .u8 z).wf = true → 0 ≤ z ∧ z ≤ 255 := fun z h => by
    simp [Lit.wf, IntKind.min, IntKind.max, IntKind.signed, IntKind.bits] at h
    omega
  have hl := h0.len_eq
  have hI := h0.ints
  have hm := Nat.le_trans h0.le h0.le_max
  subst hl
  exact stexts_any L A c mv wv (hb _ h1) (hb _ h2) w hI hm
end Go.Proofs.Ytedlfkklkoihjaa
