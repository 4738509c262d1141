/-
  The document's table (jambref03). No condition.
-/
import Derived.Test.YtlbfjmdemljmhaaTP
namespace Go.Proofs.Ytlbfjmdemljmhaa
namespace TR
open Go.RowKit Go.BigFrame
open TP (V putR getR cnt vals)

def row : Option V → List Value
  | none => [.bool false, .int .i64 0, .string ByteArray.empty]
  | some v => [.bool true, .int .i64 v.1, .string v.2]
theorem row_len (o : Option V) : (row o).length = 3 := by cases o <;> rfl
structure RT (w : World) (T C : Nat) (l : List (Option V)) : Prop where
  obj : Blk w T 42 #[.slice (some ⟨C, 0, none⟩) l.length l.length]
  grid : Grid w C 82 3 (l.map row)
theorem RT.below {w w' : World} {T C : Nat} {l : List (Option V)} (h : RT w T C l) (hb : Below w.heap.size w w') : RT w' T C l :=
  ⟨Blk_below h.obj hb (Blk_lt h.obj), h.grid.below hb⟩
theorem RT.only {gs : List Nat} {w w' : World} {T C : Nat} {l : List (Option V)} (h : RT w T C l) (ho : Only gs w w') (h1 : T ∉ gs) (h2 : C ∉ gs) : RT w' T C l := ⟨ho.blk h.obj h1, ho.grid h.grid h2⟩
theorem RT.row_at {w : World} {T C : Nat} {l : List (Option V)} (h : RT w T C l) {i : Nat} (hi : i < l.length) {j : Nat} (hj : j < 3) : w.cell? ⟨C, i * 3 + j, none⟩ = (row (l.getD i none))[j]? := by
  rw [h.grid.cell (by simpa using hi) hj]
  simp [List.getD, hi]
theorem RT.isat {w : World} {T C : Nat} {l : List (Option V)} (h : RT w T C l) {i : Nat} (hi : i < l.length) : w.cell? ⟨C, i * 3, none⟩ = some (.bool (l.getD i none).isSome) := by
  have := h.row_at hi (j := 0) (by omega)
  rw [Nat.add_zero] at this
  rw [this]
  cases l.getD i none <;> rfl
set_option maxHeartbeats 400000 in
theorem put_nil (i : Int) (v : V) (w : World) :
    Calls Try.prog 12 #[.pointer none, .int .i64 i, .agg #[.int .i64 v.1, .string v.2]] w fun e w' => e = .returned (.int .i64 2) ∧ Below w.heap.size w w' := by
  go_enter Try.func12, Try.ntmps12
  go_wp2_with fail
  go_ret
  exact ⟨rfl, by (repeat' (first | (with_reducible exact Below.refl _ _) | (with_reducible assumption) | (with_reducible refine Below.alloc ?_ ?_ _) | (with_reducible refine Below.drew ?_) | (with_reducible refine Below_drewN ?_ _) | (with_reducible refine Below.setCell ?_ ?_ _) | go_size))⟩
set_option maxHeartbeats 400000 in
theorem put_arg (T C : Nat) (l : List (Option V)) (i : Int) (v : V) (w : World) (h : RT w T C l) (hi : i < 0 ∨ (l.length : Int) ≤ i) :
    Calls Try.prog 12 #[.pointer (some ⟨T, 0, none⟩), .int .i64 i, .agg #[.int .i64 v.1, .string v.2]] w fun e w' => e = .returned (.int .i64 1) ∧ Below w.heap.size w w' := by
  have c0 := Blk_cell h.obj 0
  have lt := Blk_lt h.obj
  rcases hi with hi | hi
  · go_enter Try.func12, Try.ntmps12
    go_wp2_with fail
    go_ret
    exact ⟨rfl, by (repeat' (first | (with_reducible exact Below.refl _ _) | (with_reducible assumption) | (with_reducible refine Below.alloc ?_ ?_ _) | (with_reducible refine Below.drew ?_) | (with_reducible refine Below_drewN ?_ _) | (with_reducible refine Below.setCell ?_ ?_ _) | go_size))⟩
  · have hi2 : ¬ i < 0 := by omega
    go_enter Try.func12, Try.ntmps12
    go_wp2_with fail
    go_ret
    exact ⟨rfl, by (repeat' (first | (with_reducible exact Below.refl _ _) | (with_reducible assumption) | (with_reducible refine Below.alloc ?_ ?_ _) | (with_reducible refine Below.drew ?_) | (with_reducible refine Below_drewN ?_ _) | (with_reducible refine Below.setCell ?_ ?_ _) | go_size))⟩
set_option maxHeartbeats 400000 in
theorem put_state (T C : Nat) (l : List (Option V)) (i : Nat) (v x : V) (w : World) (h : RT w T C l) (hi : i < l.length) (hx : l.getD i none = some x) :
    Calls Try.prog 12 #[.pointer (some ⟨T, 0, none⟩), .int .i64 i, .agg #[.int .i64 v.1, .string v.2]] w fun e w' => e = .returned (.int .i64 3) ∧ Below w.heap.size w w' := by
  have c0 := Blk_cell h.obj 0
  have lt := Blk_lt h.obj
  have c1 := h.isat hi
  have lt2 := h.grid.lt
  have i0 : ¬ (i : Int) < 0 := by omega
  have i1 : ¬ (l.length : Int) ≤ i := by omega
  rw [hx] at c1
  simp only [Option.isSome_some] at c1
  clear hx
  go_enter Try.func12, Try.ntmps12
  go_wp2_with fail
  go_ret
  exact ⟨rfl, by (repeat' (first | (with_reducible exact Below.refl _ _) | (with_reducible assumption) | (with_reducible refine Below.alloc ?_ ?_ _) | (with_reducible refine Below.drew ?_) | (with_reducible refine Below_drewN ?_ _) | (with_reducible refine Below.setCell ?_ ?_ _) | go_size))⟩
set_option maxHeartbeats 1000000 in
theorem put_ok (T C : Nat) (l : List (Option V)) (i : Nat) (v : V) (w : World) (h : RT w T C l) (hi : i < l.length) (hx : l.getD i none = none) :
    Calls Try.prog 12 #[.pointer (some ⟨T, 0, none⟩), .int .i64 i, .agg #[.int .i64 v.1, .string v.2]] w fun e w' => e = .returned (.int .i64 0) ∧ Only [C] w w' ∧ RT w' T C (l.set i (some v)) := by
  have c0 := Blk_cell h.obj 0
  have lt := Blk_lt h.obj
  have c1 := h.isat hi
  have f0 : ∀ j, w.frozen? ⟨C, j, none⟩ = false := fun j => h.grid.frozen _
  have lt2 := h.grid.lt
  have i0 : ¬ (i : Int) < 0 := by omega
  have i1 : ¬ (l.length : Int) ≤ i := by omega
  rw [hx] at c1
  simp only [Option.isSome_none] at c1
  have h0 : (l.map row).getD i [] = row none := by rw [List.getD_eq_getElem?_getD]; have := hx; rw [List.getD_eq_getElem?_getD] at this; simp [hi] at this ⊢; rw [this]
  have HR := Lib.hid h0
  clear hx h0
  go_enter Try.func12, Try.ntmps12
  have e1 : _ = some (Value.int .i64 0) := (h.grid.cell (i := i) (by simpa using hi) (j := 1) (by omega)).trans (by rw [HR.out]; rfl)
  have e2 : _ = some (Value.string ByteArray.empty) := (h.grid.cell (i := i) (by simpa using hi) (j := 2) (by omega)).trans (by rw [HR.out]; rfl)
  have hob := Blk_drew (Blk_alloc h.obj (.cells #[.int .i64 v.1, .string v.2] 30))
  have hTC : T ≠ C := blk_neq h.obj h.grid.blk (by decide)
  have hBC : w.heap.size ≠ C := by omega
  have hbx := Blk_drew (Blk_new w 30 #[.int .i64 v.1, .string v.2])
  go_wp2_with fail
  go_region_held3 (fun w' => w'.cell? ⟨T, 0, none⟩ = some (.slice (some ⟨C, 0, none⟩) l.length l.length) ∧ w'.cell? ⟨w.heap.size, 0, none⟩ = some (.int .i64 v.1) ∧ w'.cell? ⟨w.heap.size, 1, none⟩ = some (.string v.2))
    (first
      | (with_reducible assumption)
      | exact ⟨Blk_cell hob 0, Blk_cell hbx 0, Blk_cell hbx 1⟩
      | exact ⟨Blk_cell (Blk_drew (Blk_alloc (Blk_far (Blk_far (Blk_far h.obj hTC _) hTC _) hTC _) _)) 0, by go_simp, by go_simp⟩)
    (fail)
  go_wp2_with fail
  go_ret
  refine ⟨rfl, ?_, ?_, ?_⟩
  · refine Only.drew (Only.alloc (Only.set (Only.set (Only.set (Only.refl _ _) ?_ _) ?_ _) ?_ _) _) <;> simp
  · have := Blk_drew (Blk_alloc (Blk_far (Blk_far (Blk_far h.obj hTC (.bool true) (p := ⟨C, i * 3, none⟩)) hTC (.int .i64 v.1) (p := ⟨C, i * 3 + 1, none⟩)) hTC (.string v.2) (p := ⟨C, i * 3 + 2, none⟩)) (.cells #[.int .i64 v.1, .string v.2] 30))
    rw [List.length_set]
    exact this
  · have hl : i < (l.map row).length := by simpa using hi
    have g1 := h.grid.put hl (j := 0) (by omega) (.bool true) (r := [.bool true, .int .i64 0, .string ByteArray.empty]) (by rw [HR.out]; rfl)
    have g2 := g1.put (i := i) (by simpa using hi) (j := 1) (by omega) (.int .i64 v.1) (r := [.bool true, .int .i64 v.1, .string ByteArray.empty]) (by rw [getD_set_self hl]; rfl)
    have g3 := g2.put (i := i) (by simpa using hi) (j := 2) (by omega) (.string v.2) (r := row (some v)) (by rw [getD_set_self (by simpa using hi)]; rfl)
    simp only [List.set_set] at g3
    rw [← List.map_set] at g3
    exact (g3.alloc _).drew
theorem put_all (T C : Nat) (l l' : List (Option V)) (i e : Int) (v : V) (w : World) (h : RT w T C l) (hp : putR l i v = (e, l')) :
    Calls Try.prog 12 #[.pointer (some ⟨T, 0, none⟩), .int .i64 i, .agg #[.int .i64 v.1, .string v.2]] w fun x w' => x = .returned (.int .i64 e) ∧ Only [C] w w' ∧ RT w' T C l' := by
  unfold putR at hp
  by_cases h1 : i < 0 ∨ (l.length : Int) ≤ i
  · rw [if_pos h1] at hp
    simp only [Prod.mk.injEq] at hp; obtain ⟨rfl, rfl⟩ := hp
    exact (put_arg T C l i v w h h1).mono fun x w' ⟨hx, hw⟩ => ⟨hx, Only.of_below hw, h.below hw⟩
  · rw [if_neg h1] at hp
    have hlt : i.toNat < l.length := by omega
    have hj : ((i.toNat : Nat) : Int) = i := by omega
    cases hx : l.getD i.toNat none with
    | none =>
      rw [hx] at hp
      simp only [Option.isSome_none, Bool.false_eq_true, if_false, Prod.mk.injEq] at hp; obtain ⟨rfl, rfl⟩ := hp
      have := put_ok T C l i.toNat v w h hlt hx
      rwa [hj] at this
    | some x =>
      rw [hx] at hp
      simp only [Option.isSome_some, if_true, Prod.mk.injEq] at hp; obtain ⟨rfl, rfl⟩ := hp
      have := put_state T C l i.toNat v x w h hlt hx
      rw [hj] at this
      exact this.mono fun x w' ⟨hx, hw⟩ => ⟨hx, Only.of_below hw, h.below hw⟩
set_option maxHeartbeats 400000 in
theorem get_nil (i : Int) (w : World) :
    Calls Try.prog 14 #[.pointer none, .int .i64 i] w fun e w' => e = .returned (.tuple #[.agg #[.int .i64 0, .string ByteArray.empty], .int .i64 2]) ∧ Below w.heap.size w w' := by
  go_enter Try.func14, Try.ntmps14
  go_wp2_with fail
  refine bodyPost_ret (v := .tuple #[.agg #[.int .i64 0, .string ByteArray.empty], .int .i64 2]) (by simp [results, Try.results14, go_sem]; rfl) rfl ?_
  exact ⟨rfl, by (repeat' (first | (with_reducible exact Below.refl _ _) | (with_reducible assumption) | (with_reducible refine Below.alloc ?_ ?_ _) | (with_reducible refine Below.drew ?_) | (with_reducible refine Below_drewN ?_ _) | (with_reducible refine Below.setCell ?_ ?_ _) | go_size))⟩
set_option maxHeartbeats 400000 in
theorem get_arg (T C : Nat) (l : List (Option V)) (i : Int) (w : World) (h : RT w T C l) (hi : i < 0 ∨ (l.length : Int) ≤ i) :
    Calls Try.prog 14 #[.pointer (some ⟨T, 0, none⟩), .int .i64 i] w fun e w' => e = .returned (.tuple #[.agg #[.int .i64 0, .string ByteArray.empty], .int .i64 1]) ∧ Below w.heap.size w w' := by
  have c0 := Blk_cell h.obj 0
  have lt := Blk_lt h.obj
  rcases hi with hi | hi
  · go_enter Try.func14, Try.ntmps14
    go_wp2_with fail
    refine bodyPost_ret (v := .tuple #[.agg #[.int .i64 0, .string ByteArray.empty], .int .i64 1]) (by simp [results, Try.results14, go_sem]; rfl) rfl ?_
    exact ⟨rfl, by (repeat' (first | (with_reducible exact Below.refl _ _) | (with_reducible assumption) | (with_reducible refine Below.alloc ?_ ?_ _) | (with_reducible refine Below.drew ?_) | (with_reducible refine Below_drewN ?_ _) | (with_reducible refine Below.setCell ?_ ?_ _) | go_size))⟩
  · have hi2 : ¬ i < 0 := by omega
    go_enter Try.func14, Try.ntmps14
    go_wp2_with fail
    refine bodyPost_ret (v := .tuple #[.agg #[.int .i64 0, .string ByteArray.empty], .int .i64 1]) (by simp [results, Try.results14, go_sem]; rfl) rfl ?_
    exact ⟨rfl, by (repeat' (first | (with_reducible exact Below.refl _ _) | (with_reducible assumption) | (with_reducible refine Below.alloc ?_ ?_ _) | (with_reducible refine Below.drew ?_) | (with_reducible refine Below_drewN ?_ _) | (with_reducible refine Below.setCell ?_ ?_ _) | go_size))⟩
set_option maxHeartbeats 400000 in
theorem get_none (T C : Nat) (l : List (Option V)) (i : Nat) (w : World) (h : RT w T C l) (hi : i < l.length) (hx : l.getD i none = none) :
    Calls Try.prog 14 #[.pointer (some ⟨T, 0, none⟩), .int .i64 i] w fun e w' => e = .returned (.tuple #[.agg #[.int .i64 0, .string ByteArray.empty], .int .i64 4]) ∧ Below w.heap.size w w' := by
  have c0 := Blk_cell h.obj 0
  have lt := Blk_lt h.obj
  have lt2 := h.grid.lt
  have c1 := h.isat hi
  have i0 : ¬ (i : Int) < 0 := by omega
  have i1 : ¬ (l.length : Int) ≤ i := by omega
  rw [hx] at c1
  simp only [Option.isSome_none] at c1
  clear hx
  go_enter Try.func14, Try.ntmps14
  go_wp2_with fail
  refine bodyPost_ret (v := .tuple #[.agg #[.int .i64 0, .string ByteArray.empty], .int .i64 4]) (by simp [results, Try.results14, go_sem]; rfl) rfl ?_
  exact ⟨rfl, by (repeat' (first | (with_reducible exact Below.refl _ _) | (with_reducible assumption) | (with_reducible refine Below.alloc ?_ ?_ _) | (with_reducible refine Below.drew ?_) | (with_reducible refine Below_drewN ?_ _) | (with_reducible refine Below.setCell ?_ ?_ _) | go_size))⟩
set_option maxHeartbeats 400000 in
theorem get_ok (T C : Nat) (l : List (Option V)) (i : Nat) (v : V) (w : World) (h : RT w T C l) (hi : i < l.length) (hx : l.getD i none = some v) :
    Calls Try.prog 14 #[.pointer (some ⟨T, 0, none⟩), .int .i64 i] w fun e w' => e = .returned (.tuple #[.agg #[.int .i64 v.1, .string v.2], .int .i64 0]) ∧ Below w.heap.size w w' := by
  have c0 := Blk_cell h.obj 0
  have lt := Blk_lt h.obj
  have lt2 := h.grid.lt
  have c1 := h.isat hi
  have c2 : w.cell? ⟨C, i * 3 + 1, none⟩ = some (.int .i64 v.1) := by
    have := h.row_at hi (j := 1) (by omega)
    rw [hx] at this
    exact this
  have c3 : w.cell? ⟨C, i * 3 + 2, none⟩ = some (.string v.2) := by
    have := h.row_at hi (j := 2) (by omega)
    rw [hx] at this
    exact this
  have i0 : ¬ (i : Int) < 0 := by omega
  have i1 : ¬ (l.length : Int) ≤ i := by omega
  rw [hx] at c1
  simp only [Option.isSome_some] at c1
  clear hx
  go_enter Try.func14, Try.ntmps14
  go_wp2_with fail
  refine bodyPost_ret (v := .tuple #[.agg #[.int .i64 v.1, .string v.2], .int .i64 0]) (by simp [results, Try.results14, go_sem]) rfl ?_
  exact ⟨rfl, by (repeat' (first | (with_reducible exact Below.refl _ _) | (with_reducible assumption) | (with_reducible refine Below.alloc ?_ ?_ _) | (with_reducible refine Below.drew ?_) | (with_reducible refine Below_drewN ?_ _) | (with_reducible refine Below.setCell ?_ ?_ _) | go_size))⟩
theorem get_all (T C : Nat) (l : List (Option V)) (i e : Int) (v : V) (w : World) (h : RT w T C l) (hp : getR l i = (v, e)) :
    Calls Try.prog 14 #[.pointer (some ⟨T, 0, none⟩), .int .i64 i] w fun x w' => x = .returned (.tuple #[.agg #[.int .i64 v.1, .string v.2], .int .i64 e]) ∧ Below w.heap.size w w' := by
  unfold getR at hp
  by_cases h1 : i < 0 ∨ (l.length : Int) ≤ i
  · rw [if_pos h1] at hp
    simp only [Prod.mk.injEq] at hp; obtain ⟨rfl, rfl⟩ := hp
    exact get_arg T C l i w h h1
  · rw [if_neg h1] at hp
    have hlt : i.toNat < l.length := by omega
    have hj : ((i.toNat : Nat) : Int) = i := by omega
    cases hx : l.getD i.toNat none with
    | none =>
      rw [hx] at hp
      simp only [Prod.mk.injEq] at hp; obtain ⟨rfl, rfl⟩ := hp
      have := get_none T C l i.toNat w h hlt hx
      rwa [hj] at this
    | some x =>
      rw [hx] at hp
      simp only [Prod.mk.injEq] at hp; obtain ⟨rfl, rfl⟩ := hp
      have := get_ok T C l i.toNat x w h hlt hx
      rwa [hj] at this
theorem iC : (Try.prog.info? 82).map (fun i => (i.zero, i.size, i.bytes)) = some (some (.agg (row none).toArray), 3, 32) := by kernel_rfl
set_option maxHeartbeats 400000 in
theorem new_arg (n : Int) (w : World) (hn : n < 0 ∨ 65536 < n) :
    Calls Try.prog 10 #[.int .i64 n] w fun e w' => e = .returned (.tuple #[.pointer none, .int .i64 1]) ∧ w = w' := by
  rcases hn with hn | hn
  · go_enter Try.func10, Try.ntmps10
    go_wp2_with fail
    go_ret2
    exact ⟨rfl, rfl⟩
  · have hn2 : ¬ n < 0 := by omega
    go_enter Try.func10, Try.ntmps10
    go_wp2_with fail
    go_ret2
    exact ⟨rfl, rfl⟩
set_option maxHeartbeats 1000000 in
theorem new_ok (n : Nat) (w : World) (hn : n ≤ 65536) :
    Calls Try.prog 10 #[.int .i64 n] w fun e w' => e = .returned (.tuple #[.pointer (some ⟨w.heap.size + 1, 0, none⟩), .int .i64 0]) ∧ Below w.heap.size w w' ∧ RT w' (w.heap.size + 1) w.heap.size (List.replicate n none) := by
  obtain ⟨i0, hi0, hz0, hz1, hz2⟩ := info_parts iC
  have hmk := run_make_grid (P := Try.prog) Try.underlying40 hi0 hz0 hz1 (by simp [Value.cells, row]) .i64 .i64 n (by rw [hz2]; omega) (by simp only [maxLen]; omega)
  obtain ⟨rows, hrows⟩ : ∃ r, (List.replicate n (Value.agg (row none).toArray).cells.toList).flatten = r := ⟨_, rfl⟩
  rw [hrows] at hmk
  have HR := Lib.hid hrows
  have n0 : ¬ (n : Int) < 0 := by omega
  have n1 : ¬ 65536 < (n : Int) := by omega
  clear hrows hz1 hz2 hz0 hi0
  go_enter Try.func10, Try.ntmps10
  go_wp2_with fail
  go_ret2
  refine ⟨rfl, by (repeat' (first | (with_reducible exact Below.refl _ _) | (with_reducible assumption) | (with_reducible refine Below.alloc ?_ ?_ _) | (with_reducible refine Below.drew ?_) | (with_reducible refine Below_drewN ?_ _) | (with_reducible refine Below.setCell ?_ ?_ _) | go_size)), ?_, ?_, ?_⟩
  · have := Blk_new (w.alloc (.cells rows.toArray 82)) 42 #[.slice (some ⟨w.heap.size, 0, none⟩) n n]
    rw [List.length_replicate]
    simpa using this
  · have := Blk_alloc (Blk_new w 82 rows.toArray) (.cells #[.slice (some ⟨w.heap.size, 0, none⟩) n n] 42)
    rw [← HR.out] at this
    simpa [Value.cells, ← HR.out] using this
  · intro r hr
    obtain ⟨o, _, rfl⟩ := List.mem_map.1 hr
    exact row_len o
set_option maxHeartbeats 1000000 in
theorem left_ok (T C : Nat) (l : List (Option V)) (w : World) (h : RT w T C l) (hs : l.length ≤ 65536) : Calls Try.prog 16 #[.pointer (some ⟨T, 0, none⟩)] w fun e w' => e = .returned (.int .i64 (cnt l)) ∧ w = w' := by
  have c0 := Blk_cell h.obj 0
  go_enter Try.func16, Try.ntmps16
  go_wp2_with fail
  go_loop [3, 4, 5, 6, 7, 8, 9, 10, 11, 12, 13, 14, 15, 16, 17, 18, 19, 20, 21, 22, 23, 24, 25, 26, 27, 28] (fun n i _ _ _ _ _ _ _ _ _ _ _ _ _ _ _ _ _ _ _ _ _ _ _ _ => ∃ k : Nat, k ≤ l.length ∧ i = .int .i64 k ∧ n = .int .i64 (cnt (l.take k))) (fun _ i _ _ _ _ _ _ _ _ _ _ _ _ _ _ _ _ _ _ _ _ _ _ _ _ => l.length - (intOf i).toNat)
  case atStart => exact ⟨0, by omega, rfl, rfl⟩
  case round =>
    obtain ⟨k, hk, rfl, rfl⟩ := hrel
    by_cases hlt : k < l.length
    · have c1 := h.isat hlt
      have hbd := TP.cnt_bd (l.take k)
      have hsn : cnt (l.take (k + 1)) = cnt (l.take k) + if (l.getD k none).isSome then 0 else 1 := by
        rw [List.take_succ_eq_append_getElem hlt, TP.cnt_snoc]; simp [hlt]
      rw [List.length_take] at hbd
      obtain ⟨b, hb⟩ : ∃ b, (l.getD k none).isSome = b := ⟨_, rfl⟩
      obtain ⟨q, hq⟩ : ∃ q, cnt (l.take k) = q := ⟨_, rfl⟩
      rw [hb] at c1 hsn
      rw [hq] at hsn hbd ⊢
      have hq2 : q ≤ 65536 := by omega
      have hq1 := hbd.1
      have HS := Lib.hid hsn
      clear hb hq hsn hbd
      cases b
      all_goals
        go_wp2_with fail
        go_round
        case rel => refine ⟨k + 1, by omega, by go_num, ?_⟩; rw [HS.out]; first | go_num | simp
        case measure => simp [intOf]; omega
    · obtain rfl : k = l.length := by omega
      rw [List.take_length]
      go_wp2_with fail
      go_ret
      exact ⟨rfl, rfl⟩
theorem iE : (Try.prog.info? 30).map (fun i => (i.zero, i.size, i.bytes)) = some (some (.agg #[.int .i64 0, .string ByteArray.empty]), 2, 24) := by kernel_rfl
set_option maxRecDepth 100000 in
set_option maxHeartbeats 1000000 in
theorem all_ok (T C : Nat) (l : List (Option V)) (w : World) (h : RT w T C l) (hsmall : l.length ≤ 65536) :
    Calls Try.prog 19 #[.pointer (some ⟨T, 0, none⟩)] w (TP.AllPost l w) := by
  obtain ⟨i0, hi0, hz0, hz1, hz2⟩ := info_parts iE
  go_enter Try.func19, Try.ntmps19
  go_wp2_with fail
  go_loopw [4, 5, 8, 9, 10, 11, 12, 13, 14, 15, 16, 17, 18, 19, 20, 21, 22, 23, 24, 25, 26, 27, 28, 29, 30, 31, 32, 33, 34, 35, 36] (fun v i _ _ _ _ _ _ _ _ _ _ _ _ _ _ _ _ _ _ _ _ _ _ _ _ _ _ _ _ _ wr => ∃ (k : Nat) (vs : List V), k ≤ l.length ∧ i = .int .i64 k ∧ Below w.heap.size w wr ∧ l.take k = vs.map some ∧ wr.ownsRow w.heap.size 30 2 v k (TP.flat vs)) (fun _ i _ _ _ _ _ _ _ _ _ _ _ _ _ _ _ _ _ _ _ _ _ _ _ _ _ _ _ _ _ _ => l.length - (intOf i).toNat)
  case atStart => exact ⟨0, [], by omega, rfl, Below.refl _ _, by simp, World.ownsRow_nil _ _ _ _⟩
  case round =>
    obtain ⟨k, vs, hk, rfl, hb, htk, hown⟩ := hrel
    have hT := h.below hb
    have c0 := Blk_cell hT.obj 0
    have hz := hb.size
    by_cases hlt : k < l.length
    · have c1 := hT.isat hlt
      cases hv : l.getD k none with
      | none =>
        have HN := Lib.hid (TP.vals_none hlt hv)
        rw [hv] at c1
        simp only [Option.isSome_none] at c1
        clear htk hv hi0 hz0 hz1 hz2
        go_wp2_with fail
        go_ret2
        refine ⟨by (repeat' (first | (with_reducible exact Below.refl _ _) | (with_reducible assumption) | (with_reducible refine Below.alloc ?_ ?_ _) | (with_reducible refine Below.drew ?_) | (with_reducible refine Below_drewN ?_ _) | (with_reducible refine Below.setCell ?_ ?_ _) | go_size)), ?_⟩
        rw [HN.out]
        rfl
      | some x =>
        have c2 : wr.cell? ⟨C, k * 3 + 1, none⟩ = some (.int .i64 x.1) := by
          have := hT.row_at hlt (j := 1) (by omega)
          rw [hv] at this
          exact this
        have c3 : wr.cell? ⟨C, k * 3 + 2, none⟩ = some (.string x.2) := by
          have := hT.row_at hlt (j := 2) (by omega)
          rw [hv] at this
          exact this
        have hfs := TP.firsts_snoc hlt htk hv
        rw [hv] at c1
        simp only [Option.isSome_some] at c1
        have HF := Lib.hid hfs
        clear hfs htk hv
        go_wp2_with (at_builtin; go_must (refine wpList_append_src _ rfl (.tmp 26) (.tmp 35) 43 rfl w.heap.size 30 i0 _ 2 24 Try.underlying43 hi0 hz0 hz1 hz2 rfl (by omega) u4 k _ rfl (hown.alloc _) _ 1 1 [.int .i64 x.1, .string x.2] rfl (Src_new wr 30 #[.int .i64 x.1, .string x.2] 2 rfl) (by simp [Value.oneCell']) (by simp only [maxLen]; omega) (by omega) (by simp; omega) ?_); intro v' w6 hown6 hg6 hat6)
        have hb6 : Below w.heap.size w w6 := by exact (hb.alloc hb.size _).grown hg6 (by simp; omega) (fun q hq => (hown.lt q hq).1)
        have HL := Lib.hid (show TP.flat (vs ++ [x]) = _ from TP.flat_snoc vs x)
        clear hT hown hz hb
        go_roundw
        case rel => exact ⟨k + 1, vs ++ [x], by omega, by go_num, hb6, HF.out, by rw [HL.out]; exact hown6⟩
        case measure => simp [intOf]; omega
    · obtain rfl : k = l.length := by omega
      rw [List.take_length] at htk
      have hvs : vals l = some vs := by rw [htk]; exact TP.vals_map vs
      clear htk
      go_wp2_with fail
      go_ret2
      refine ⟨by (repeat' (first | (with_reducible exact Below.refl _ _) | (with_reducible assumption) | (with_reducible refine Below.alloc ?_ ?_ _) | (with_reducible refine Below.drew ?_) | (with_reducible refine Below_drewN ?_ _) | (with_reducible refine Below.setCell ?_ ?_ _) | go_size)), ?_⟩
      rw [hvs]
      exact ⟨_, rfl, hown⟩
end TR
end Go.Proofs.Ytlbfjmdemljmhaa
