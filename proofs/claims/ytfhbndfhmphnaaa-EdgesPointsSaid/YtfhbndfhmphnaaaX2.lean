/-
  The sums of sides, one by one (edges.Sides). No condition.
-/
import Derived.Test.YtfhbndfhmphnaaaX1
set_option linter.unusedVariables false
set_option linter.unusedSimpArgs false
namespace Go.Proofs.Ytfhbndfhmphnaaa
open Go.RowKit Go.BigFrame

def Q4.at (q : Q4) : Nat → Int
  | 0 => q.a
  | 1 => q.b
  | 2 => q.c
  | _ => q.d
def qc (q : Q4) : List Value := [.int .i64 q.a, .int .i64 q.b, .int .i64 q.c, .int .i64 q.d]
def q0 : Q4 := ⟨0, 0, 0, 0⟩
theorem qc_at (q : Q4) (k : Nat) (hk : k < 4) : (#[Value.int .i64 q.a, .int .i64 q.b, .int .i64 q.c, .int .i64 q.d] : Array Value)[k]? = some (.int .i64 (q.at k)) := by
  obtain rfl | rfl | rfl | rfl : k = 0 ∨ k = 1 ∨ k = 2 ∨ k = 3 := by omega
  all_goals rfl
theorem Q4.ok.at {q : Q4} (h : q.ok) (k : Nat) : (Lit.int .i64 (q.at k)).wf = true := by
  match k with
  | 0 => exact i64_wf2 h.a
  | 1 => exact i64_wf2 h.b
  | 2 => exact i64_wf2 h.c
  | k + 3 => exact i64_wf2 h.d
theorem iL : (Try.prog.info? 2).map (fun i => (i.zero, i.size, i.bytes)) = some (some (.int .i64 0), 1, 8) := by kernel_rfl
theorem at_op {P : Program} {ops : Array Oper} {Q : Exit → Act → World → Prop} {rest : List Oper} (o : Oper) {a : Act} {w : World} (h : wpList P ops Q (o :: rest) a w) : wpList P ops Q (o :: rest) a w := h

def col (l : List Q4) (k : Nat) : List Int := l.map (·.at k)
def sd (l : List Q4) (k i : Nat) : Int := if i < k then cutV (col l i).sum else 0
def sdB (l : List Q4) (k : Nat) : Bool := (List.range k).any fun i => cutB (col l i).sum
def sdCells (l : List Q4) (k : Nat) : Array Value := #[.int .i64 (sd l k 0), .int .i64 (sd l k 1), .int .i64 (sd l k 2), .int .i64 (sd l k 3)]
theorem sd_set (l : List Q4) (k : Nat) (hk : k < 4) : (sdCells l k).setIfInBounds k (.int .i64 (cutV (col l k).sum)) = sdCells l (k + 1) := by
  obtain rfl | rfl | rfl | rfl : k = 0 ∨ k = 1 ∨ k = 2 ∨ k = 3 := by omega
  all_goals simp [sdCells, sd]
theorem sdB_step (l : List Q4) (k : Nat) : sdB l (k + 1) = (sdB l k || cutB (col l k).sum) := by
  unfold sdB
  rw [List.range_succ, List.any_append]
  simp
theorem col_len (l : List Q4) (k : Nat) : (col l k).length = l.length := by simp [col]
theorem col_wf {l : List Q4} (h : ∀ q ∈ l, q.ok) (k : Nat) : ∀ x ∈ col l k, (Lit.int .i64 x).wf = true := by
  intro x hx
  obtain ⟨q, hq, rfl⟩ := List.mem_map.1 hx
  exact (h q hq).at k
theorem col_take (l : List Q4) (k j : Nat) (h : j < l.length) : (col l k).take (j + 1) = (col l k).take j ++ [(l.getD j q0).at k] := by
  rw [List.take_succ_eq_append_getElem (by rw [col_len]; exact h)]
  simp [col, List.getD, h]
set_option maxRecDepth 20000 in
set_option maxHeartbeats 4000000 in
theorem sides_any (w : World) {A : Option Addr} {n c : Nat} {l : List Q4} (h : Els qc q0 4 w A n l) (hok : ∀ q ∈ l, q.ok) (hn : n ≤ 65536) :
    Calls Try.prog 10 #[.slice A n c] w fun e w' => e = .returned (.tuple #[.agg (sdCells l 4), .bool (sdB l 4)]) ∧ Below w.heap.size w w' := by
  obtain ⟨i0, hi0, hz0, hz1, hz2⟩ := info_parts iL
  have hl := h.len_eq
  have HOK := Lib.hid hok
  clear hok
  go_enter Try.func10, Try.ntmps10
  go_wp2_with fail
  go_loopw [3, 4, 5, 7, 8, 9, 10, 11, 12, 13, 14, 15, 16, 17, 18, 19, 20, 21, 22, 23, 24, 25, 26, 27, 28, 29, 30, 31, 32, 33, 34, 35, 36, 37, 38] (fun u _ _ _ _ _ i _ _ _ _ _ _ _ _ _ _ _ _ _ _ _ _ _ _ _ _ _ _ _ _ _ _ _ _ wr => ∃ k : Nat, k ≤ 4 ∧ i = .int .i64 k ∧ u = .bool (sdB l k) ∧ Below w.heap.size w wr ∧ Blk wr w.heap.size 24 (sdCells l k)) (fun _ _ _ _ _ _ i _ _ _ _ _ _ _ _ _ _ _ _ _ _ _ _ _ _ _ _ _ _ _ _ _ _ _ _ _ => 4 - (intOf i).toNat)
  case atStart => exact ⟨0, by omega, rfl, rfl, by (repeat' (first | (with_reducible exact Below.refl _ _) | (with_reducible assumption) | (with_reducible refine Below.alloc ?_ ?_ _) | (with_reducible refine Below.drew ?_) | (with_reducible refine Below_drewN ?_ _) | (with_reducible refine Below.setCell ?_ ?_ _) | go_size)), by simpa [sdCells, sd] using Blk_new w _ _⟩
  case round =>
    obtain ⟨k, hk, rfl, rfl, hb, hO⟩ := hrel
    have hsz := Blk_lt hO
    by_cases hlt : k < 4
    · obtain ⟨wo, hwo⟩ : ∃ wo, wo = wr := ⟨_, rfl⟩
      subst hwo
      have HST := Lib.hid (And.intro (sd_set l k hlt) (sdB_step l k))
      go_wp2_with fail
      rw [show decide ((k : Int) < 4) = true from decide_eq_true (by omega)]
      go_loopw [5, 7, 15, 16, 17, 18, 19, 20, 21, 22, 23, 24, 25] (fun v _ i _ _ _ _ _ _ _ _ _ _ wr => ∃ j : Nat, j ≤ n ∧ i = .int .i64 j ∧ Below wo.heap.size wo wr ∧ wr.ownsRow wo.heap.size 2 1 v j (((col l k).take j).map (Value.int .i64))) (fun _ _ i _ _ _ _ _ _ _ _ _ _ _ => n - (intOf i).toNat)
      case atStart => exact ⟨0, Nat.zero_le _, rfl, Below.refl _ _, World.ownsRow_nil _ _ _ _⟩
      case round =>
        obtain ⟨j, hj, rfl, hbi, hown⟩ := hrel
        have hbs := hbi.size
        by_cases hjn : j < n
        · obtain ⟨b, off, rfl, hB, hc⟩ := h.at_ (by omega)
          have hbw := Below_then hb hbi (Nat.le_refl _)
          have c0 : wr.cell? ⟨b, off + j * 4, none⟩ = _ := (hbw.cell hB).trans (hc j hjn 0 (by omega))
          have c1 : wr.cell? ⟨b, off + j * 4 + 1, none⟩ = _ := (hbw.cell hB).trans (hc j hjn 1 (by omega))
          have c2 : wr.cell? ⟨b, off + j * 4 + 2, none⟩ = _ := (hbw.cell hB).trans (hc j hjn 2 (by omega))
          have c3 : wr.cell? ⟨b, off + j * 4 + 3, none⟩ = _ := (hbw.cell hB).trans (hc j hjn 3 (by omega))
          have hst := col_take l k j (by omega)
          generalize l.getD j q0 = q at *
          have HCT := Lib.hid hst
          have hS := Blk_new wr 24 #[.int .i64 q.a, .int .i64 q.b, .int .i64 q.c, .int .i64 q.d]
          have cS := (Blk_cell hS k).trans (qc_at q k hlt)
          simp only [qc, List.getElem?_cons_zero, List.getElem?_cons_succ] at c0 c1 c2 c3
          generalize q.at k = x at *
          clear hc hst
          go_wp2_with ((with_reducible refine at_op ⟨some 24, _, _, _, _, _⟩ ?_); (refine wpList_append_src _ rfl (.tmp 19) (.tmp 23) 46 rfl wo.heap.size 2 i0 _ 1 8 Try.underlying46 hi0 hz0 hz1 hz2 rfl (by omega) u5 j _ rfl ((hown.alloc _).alloc _) _ 1 1 [.int .i64 x] rfl (by simpa using Src_new (wr.alloc (.cells #[.int .i64 q.a, .int .i64 q.b, .int .i64 q.c, .int .i64 q.d] 24)) 2 #[.int .i64 x] 1 rfl) (by simp [Value.oneCell']) (by simp only [maxLen]; omega) (by omega) (by simp; omega) ?_); intro v3 w3 hown3 hg3 hat3)
          have hb3 : Below wo.heap.size wo w3 := ((hbi.alloc hbi.size _).alloc (by simp; omega) _).grown hg3 (by simp; omega) (fun q hq => (hown.lt q hq).1)
          go_roundw
          case rel => exact ⟨j + 1, by omega, by go_num, hb3, by rw [HCT.out, List.map_append]; exact hown3⟩
          case measure => simp [intOf]; omega
        · obtain rfl : j = n := by omega
          rw [List.take_of_length_le (by rw [col_len]; omega)] at hown
          obtain ⟨G0, g0, rfl, _, _⟩ := own_slice hown
          have hs := sum_any (c := g0) wr (Ints_of_own hown) (col_wf HOK.out k) (by omega)
          have hO2 := Blk_below hO hbi hsz
          have hbw := Below_then hb hbi (Nat.le_refl _)
          obtain ⟨hs1, hs2⟩ := HST.out
          generalize cutV (col l k).sum = V at *
          generalize cutB (col l k).sum = B at *
          generalize sdB l k = D at *
          have HS1 := Lib.hid (And.intro hs1 hs2)
          clear hs1 hs2 hown
          go_upto_region 11 with ((go_at_call 25; (with_reducible refine (hs).mono ?_)); rintro e w4 ⟨rfl, g4⟩)
          have hO3 := Blk_below hO2 g4 (Blk_lt hO2)
          have f3 := Blk_frozen hO3 k
          have d3 := Blk_cell hO3 k
          have hd3 : (sdCells l k)[k]? = some (.int .i64 (sd l k k)) := by
            obtain rfl | rfl | rfl | rfl : k = 0 ∨ k = 1 ∨ k = 2 ∨ k = 3 := by omega
            all_goals rfl
          rw [hd3] at d3
          have hb4 := Below_then hbw g4 (Nat.le_refl _)
          cases D
          · go_wp2_with fail
            go_roundw
            case rel => exact ⟨k + 1, by omega, by go_num, by rw [HS1.out.2]; simp, hb4.setCell (by simp) _, by have := Blk_set hO3 k (.int .i64 V); rw [HS1.out.1] at this; exact this⟩
            case measure => simp [intOf]; omega
          · go_wp2_with fail
            go_roundw
            case rel => exact ⟨k + 1, by omega, by go_num, by rw [HS1.out.2]; simp, hb4.setCell (by simp) _, by have := Blk_set hO3 k (.int .i64 V); rw [HS1.out.1] at this; exact this⟩
            case measure => simp [intOf]; omega
    · obtain rfl : k = 4 := by omega
      unfold sdCells at hO ⊢
      have d0 := Blk_cell hO 0
      have d1 := Blk_cell hO 1
      have d2 := Blk_cell hO 2
      have d3 := Blk_cell hO 3
      have f0 := Blk_frozen hO 0
      have f1 := Blk_frozen hO 1
      have f2 := Blk_frozen hO 2
      have f3 := Blk_frozen hO 3
      go_wp2_with fail
      have hBf := Blk_set (Blk_set (Blk_set (Blk_set hO 0 (.int .i64 (sd l 4 0))) 1 (.int .i64 (sd l 4 1))) 2 (.int .i64 (sd l 4 2))) 3 (.int .i64 (sd l 4 3))
      have e0 := Blk_cell hBf 0
      have e1 := Blk_cell hBf 1
      have e2 := Blk_cell hBf 2
      have e3 := Blk_cell hBf 3
      refine bodyPost_ret (v := .tuple #[.agg #[.int .i64 (sd l 4 0), .int .i64 (sd l 4 1), .int .i64 (sd l 4 2), .int .i64 (sd l 4 3)], .bool (sdB l 4)]) (by simp at e0 e1 e2 e3; simp [results, Try.results10, go_sem, e0, e1, e2, e3]) rfl ⟨rfl, (((hb.setCell (by simp) _).setCell (by simp) _).setCell (by simp) _).setCell (by simp) _⟩
end Go.Proofs.Ytfhbndfhmphnaaa
