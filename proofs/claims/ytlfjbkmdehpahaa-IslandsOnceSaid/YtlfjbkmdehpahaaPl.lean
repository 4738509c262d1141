/-
  The chapter's tree. No condition.
-/
import Derived.Test.YtlfjbkmdehpahaaLa
set_option linter.unusedVariables false
set_option linter.unusedSimpArgs false
namespace Go.Proofs.Ytlfjbkmdehpahaa
open Go.RowKit Go.BigFrame

/-! ### The chapter's tree -/
def bSt (k : Int) : St := { (default : St) with kind := k }
def plainL : List Nd := [⟨-1, bSt 1⟩, ⟨0, bSt 1⟩, ⟨1, bSt 2⟩, ⟨2, bSt 1⟩, ⟨3, bSt 1⟩, ⟨0, bSt 1⟩]
def PlainPost (w : World) (e : Ending) (w' : World) : Prop := ∃ g, e = .returned (.agg #[.slice (some ⟨g, 0, none⟩) 6 6, .slice none 0 0, .int .i64 0]) ∧ Trd w' (some ⟨g, 0, none⟩) 6 none 0 plainL [] ∧ Below w.heap.size w w'
theorem b_st1 : (Try.prog.built 40 [(0, .int .u8 1)]) = some (scells (bSt 1)).toArray := by kernel_rfl
theorem b_st2 : (Try.prog.built 40 [(0, .int .u8 2)]) = some (scells (bSt 2)).toArray := by kernel_rfl
theorem b_ndm1 : (Try.prog.built 42 [(0, .int .i64 (-1)), (1, .agg (scells (bSt 1)).toArray)]) = some (ncells ⟨-1, bSt 1⟩).toArray := by kernel_rfl
theorem b_nd01 : (Try.prog.built 42 [(0, .int .i64 (0)), (1, .agg (scells (bSt 1)).toArray)]) = some (ncells ⟨0, bSt 1⟩).toArray := by kernel_rfl
theorem b_nd12 : (Try.prog.built 42 [(0, .int .i64 (1)), (1, .agg (scells (bSt 2)).toArray)]) = some (ncells ⟨1, bSt 2⟩).toArray := by kernel_rfl
theorem b_nd21 : (Try.prog.built 42 [(0, .int .i64 (2)), (1, .agg (scells (bSt 1)).toArray)]) = some (ncells ⟨2, bSt 1⟩).toArray := by kernel_rfl
theorem b_nd31 : (Try.prog.built 42 [(0, .int .i64 (3)), (1, .agg (scells (bSt 1)).toArray)]) = some (ncells ⟨3, bSt 1⟩).toArray := by kernel_rfl
theorem iN : (Try.prog.info? 42).map (fun i => (i.zero, i.size)) = some (some (.agg (ncells nd0).toArray), 44) := by kernel_rfl
def plainV : List (Nat × Value) := [(0, .agg (ncells ⟨-1, bSt 1⟩).toArray), (1, .agg (ncells ⟨0, bSt 1⟩).toArray), (2, .agg (ncells ⟨1, bSt 2⟩).toArray), (3, .agg (ncells ⟨2, bSt 1⟩).toArray), (4, .agg (ncells ⟨3, bSt 1⟩).toArray), (5, .agg (ncells ⟨0, bSt 1⟩).toArray)]
theorem b_sl : sliceCells (Value.agg (ncells nd0).toArray).cells 44 6 plainV = some ((plainL.map ncells).flatten.toArray) := by kernel_rfl
theorem Els_flat {w : World} {g : Nat} {t : TypeId} {l : List Nd} (h : Blk w g t (l.map ncells).flatten.toArray) : Els ncells nd0 44 w (some ⟨g, 0, none⟩) l.length l := by
  refine ⟨rfl, fun _ => ⟨g, 0, rfl, Blk_lt h, fun k hk j hj => ?_⟩⟩
  have hfl : ∀ r ∈ l.map ncells, r.length = 44 := fun r hr => by obtain ⟨a, _, rfl⟩ := List.mem_map.1 hr; rfl
  rw [Nat.zero_add, Blk_cell h, List.getElem?_toArray, flat_get (l.map ncells) k j hfl (by simpa using hk) hj]
  simp [List.getD, hk]
theorem plain_trd {w : World} {g : Nat} {t : TypeId} (h : Blk w g t (plainL.map ncells).flatten.toArray) : Trd w (some ⟨g, 0, none⟩) 6 none 0 plainL [] := by
  refine ⟨Els_flat h, ⟨rfl, fun h => by omega⟩, fun i hi => ?_⟩
  obtain rfl | rfl | rfl | rfl | rfl | rfl : i = 0 ∨ i = 1 ∨ i = 2 ∨ i = 3 ∨ i = 4 ∨ i = 5 := by omega
  all_goals exact ⟨rfl, fun h => by cases h⟩
set_option maxRecDepth 100000 in
set_option maxHeartbeats 4000000 in
theorem plain_any (w : World) : Calls Try.prog 19 #[] w (PlainPost w) := by
  obtain ⟨j0, hj0, hy0, hy1⟩ := info_two iN
  have hS1 := Blk_alloc (Blk_new (w.alloc (.cells #[.slice none 0 0, .slice none 0 0, .int .i64 0] 25)) 40 (scells (bSt 1)).toArray) (.cells (scells (bSt 2)).toArray 40)
  have hS2 := Blk_new ((w.alloc (.cells #[.slice none 0 0, .slice none 0 0, .int .i64 0] 25)).alloc (.cells (scells (bSt 1)).toArray 40)) 40 (scells (bSt 2)).toArray
  simp only [World.size_alloc] at hS1 hS2
  go_enter Try.func19, Try.ntmps19
  go_wp2_with (first
    | ((with_reducible refine at_op ⟨some 3, _, _, _, _, _⟩ ?_); refine wpList_build_as rfl 40 _ rfl [(0, .int .u8 1)] (scells (bSt 1)).toArray rfl b_st1 ?_; (try simp only [Act.put, List.setIfInBounds_toArray, List.set_cons_zero, List.set_cons_succ]))
    | ((with_reducible refine at_op ⟨some 4, _, _, _, _, _⟩ ?_); refine wpList_build_as rfl 40 _ rfl [(0, .int .u8 2)] (scells (bSt 2)).toArray rfl b_st2 ?_; (try simp only [Act.put, List.setIfInBounds_toArray, List.set_cons_zero, List.set_cons_succ]))
    | ((with_reducible refine at_op ⟨some 6, _, _, _, _, _⟩ ?_); refine wpList_build_as rfl 42 _ rfl [(0, .int .i64 (-1)), (1, .agg (scells (bSt 1)).toArray)] (ncells ⟨-1, bSt 1⟩).toArray rfl b_ndm1 ?_; (try simp only [Act.put, List.setIfInBounds_toArray, List.set_cons_zero, List.set_cons_succ]))
    | ((with_reducible refine at_op ⟨some 8, _, _, _, _, _⟩ ?_); refine wpList_build_as rfl 42 _ rfl [(0, .int .i64 (0)), (1, .agg (scells (bSt 1)).toArray)] (ncells ⟨0, bSt 1⟩).toArray rfl b_nd01 ?_; (try simp only [Act.put, List.setIfInBounds_toArray, List.set_cons_zero, List.set_cons_succ]))
    | ((with_reducible refine at_op ⟨some 10, _, _, _, _, _⟩ ?_); refine wpList_build_as rfl 42 _ rfl [(0, .int .i64 (1)), (1, .agg (scells (bSt 2)).toArray)] (ncells ⟨1, bSt 2⟩).toArray rfl b_nd12 ?_; (try simp only [Act.put, List.setIfInBounds_toArray, List.set_cons_zero, List.set_cons_succ]))
    | ((with_reducible refine at_op ⟨some 12, _, _, _, _, _⟩ ?_); refine wpList_build_as rfl 42 _ rfl [(0, .int .i64 (2)), (1, .agg (scells (bSt 1)).toArray)] (ncells ⟨2, bSt 1⟩).toArray rfl b_nd21 ?_; (try simp only [Act.put, List.setIfInBounds_toArray, List.set_cons_zero, List.set_cons_succ]))
    | ((with_reducible refine at_op ⟨some 14, _, _, _, _, _⟩ ?_); refine wpList_build_as rfl 42 _ rfl [(0, .int .i64 (3)), (1, .agg (scells (bSt 1)).toArray)] (ncells ⟨3, bSt 1⟩).toArray rfl b_nd31 ?_; (try simp only [Act.put, List.setIfInBounds_toArray, List.set_cons_zero, List.set_cons_succ]))
    | ((with_reducible refine at_op ⟨some 16, _, _, _, _, _⟩ ?_); refine wpList_build_as rfl 42 _ rfl [(0, .int .i64 (0)), (1, .agg (scells (bSt 1)).toArray)] (ncells ⟨0, bSt 1⟩).toArray rfl b_nd01 ?_; (try simp only [Act.put, List.setIfInBounds_toArray, List.set_cons_zero, List.set_cons_succ]))
    | ((with_reducible refine at_op ⟨none, .store 40 (.tmp 1) (.tmp 3), _, _, _, _⟩ ?_); refine wpList_store_new rfl 40 (.tmp 1) (.tmp 3) rfl _ ?_ _ (scells (bSt 1)).toArray rfl rfl info_st rfl (one_st _) ?_; · (simp; done); (try simp only [Act.put, List.setIfInBounds_toArray, List.set_cons_zero, List.set_cons_succ]))
    | ((with_reducible refine at_op ⟨none, .store 40 (.tmp 2) (.tmp 4), _, _, _, _⟩ ?_); refine wpList_store_new rfl 40 (.tmp 2) (.tmp 4) rfl _ ?_ _ (scells (bSt 2)).toArray rfl rfl info_st rfl (one_st _) ?_; · (simp; done); (try simp only [Act.put, List.setIfInBounds_toArray, List.set_cons_zero, List.set_cons_succ]))
    | ((with_reducible refine at_op ⟨some 5, _, _, _, _, _⟩ ?_); refine wpList_load_mid rfl 40 (.tmp 1) rfl _ 0 rfl (scells (bSt 1)) _ (range_st hS1) Try.underlying40 rfl info_st ?_; (try simp only [Act.put, List.setIfInBounds_toArray, List.set_cons_zero, List.set_cons_succ]))
    | ((with_reducible refine at_op ⟨some 7, _, _, _, _, _⟩ ?_); refine wpList_load_mid rfl 40 (.tmp 1) rfl _ 0 rfl (scells (bSt 1)) _ (range_st hS1) Try.underlying40 rfl info_st ?_; (try simp only [Act.put, List.setIfInBounds_toArray, List.set_cons_zero, List.set_cons_succ]))
    | ((with_reducible refine at_op ⟨some 11, _, _, _, _, _⟩ ?_); refine wpList_load_mid rfl 40 (.tmp 1) rfl _ 0 rfl (scells (bSt 1)) _ (range_st hS1) Try.underlying40 rfl info_st ?_; (try simp only [Act.put, List.setIfInBounds_toArray, List.set_cons_zero, List.set_cons_succ]))
    | ((with_reducible refine at_op ⟨some 13, _, _, _, _, _⟩ ?_); refine wpList_load_mid rfl 40 (.tmp 1) rfl _ 0 rfl (scells (bSt 1)) _ (range_st hS1) Try.underlying40 rfl info_st ?_; (try simp only [Act.put, List.setIfInBounds_toArray, List.set_cons_zero, List.set_cons_succ]))
    | ((with_reducible refine at_op ⟨some 15, _, _, _, _, _⟩ ?_); refine wpList_load_mid rfl 40 (.tmp 1) rfl _ 0 rfl (scells (bSt 1)) _ (range_st hS1) Try.underlying40 rfl info_st ?_; (try simp only [Act.put, List.setIfInBounds_toArray, List.set_cons_zero, List.set_cons_succ]))
    | ((with_reducible refine at_op ⟨some 9, _, _, _, _, _⟩ ?_); refine wpList_load_mid rfl 40 (.tmp 2) rfl _ 0 rfl (scells (bSt 2)) _ (range_st hS2) Try.underlying40 rfl info_st ?_; (try simp only [Act.put, List.setIfInBounds_toArray, List.set_cons_zero, List.set_cons_succ]))
    | ((with_reducible refine at_op ⟨some 17, _, _, _, _, _⟩ ?_); refine wpList_buildSlice_as rfl 22 6 _ rfl plainV rfl _ Try.underlying22 hj0 hy0 44 hy1 (by omega) (by omega) b_sl (w.heap.size + 1 + 1 + 1) ?_ ?_; · (simp; done); (try simp only [Act.put, List.setIfInBounds_toArray, List.set_cons_zero, List.set_cons_succ])))
  refine bodyPost_ret (v := .agg #[.slice (some ⟨w.heap.size + 1 + 1 + 1, 0, none⟩) 6 6, .slice none 0 0, .int .i64 0]) (by simp [results, Try.results19, go_sem]) rfl ?_
  refine ⟨w.heap.size + 1 + 1 + 1, rfl, plain_trd (g := w.heap.size + 1 + 1 + 1) (t := 42) ?_, ?_⟩
  · have := Blk_new (((w.alloc (.cells #[.slice (some ⟨w.heap.size + 1 + 1 + 1, 0, none⟩) 6 6, .slice none 0 0, .int .i64 0] 25)).alloc (.cells (scells (bSt 1)).toArray 40)).alloc (.cells (scells (bSt 2)).toArray 40)) 42 (plainL.map ncells).flatten.toArray
    rw [World.size_alloc, World.size_alloc, World.size_alloc] at this
    exact this
  · (repeat' (first | (with_reducible exact Below.refl _ _) | (with_reducible assumption) | (with_reducible refine Below.alloc ?_ ?_ _) | (with_reducible refine Below.drew ?_) | (with_reducible refine Below_drewN ?_ _) | (with_reducible refine Below.setCell ?_ ?_ _) | go_size))
end Go.Proofs.Ytlfjbkmdehpahaa
