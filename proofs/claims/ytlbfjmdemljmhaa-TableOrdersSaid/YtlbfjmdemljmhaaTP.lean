import Derived.Test.YtlbfjmdemljmhaaA
import Derived.Test.YtlbfjmdemljmhaaCom7
namespace Go.Proofs.Ytlbfjmdemljmhaa
namespace TP
open Go.RowKit Go.BigFrame

abbrev V := (Int × ByteArray)
def row : Option V → List Value
  | none => .int .i32 0 :: [.int .i64 (((0, ByteArray.empty) : V)).1, .string (((0, ByteArray.empty) : V)).2]
  | some v => .int .i32 2 :: [.int .i64 (v).1, .string (v).2]
theorem row_len (o : Option V) : (row o).length = 3 := by cases o <;> rfl
/-- How many are not there. -/
def cnt : List (Option V) → Int
  | [] => 0
  | none :: l => cnt l + 1
  | some _ :: l => cnt l
theorem cnt_bd (l : List (Option V)) : 0 ≤ cnt l ∧ cnt l ≤ l.length := by
  induction l with
  | nil => simp [cnt]
  | cons o l ih => cases o <;> simp only [cnt, List.length_cons] <;> omega
theorem cnt_set (l : List (Option V)) : ∀ (i : Nat) (v : V), i < l.length → l.getD i none = none → cnt (l.set i (some v)) = cnt l - 1 := by
  induction l with
  | nil => intro i v h; simp at h
  | cons o l ih =>
    intro i v hi hn
    cases i with
    | zero => 
      simp at hn; subst hn
      simp only [List.set_cons_zero, cnt]; omega
    | succ i =>
      have := ih i v (by simpa using hi) (by simpa using hn)
      cases o <;> simp only [List.set_cons_succ, cnt, this]; omega
theorem cnt_rep (n : Nat) : cnt (List.replicate n none) = n := by
  induction n with
  | zero => rfl
  | succ n ih => rw [List.replicate_succ, cnt, ih]; omega

theorem cnt_snoc (l : List (Option V)) (o : Option V) : cnt (l ++ [o]) = cnt l + if o.isSome then 0 else 1 := by
  induction l with
  | nil => cases o <;> rfl
  | cons a l ih => cases a <;> simp only [List.cons_append, cnt, ih] <;> omega
/-- The table: the object, its cells. -/
structure TB (w : World) (T C : Nat) (l : List (Option V)) : Prop where
  obj : Blk w T 69 #[.slice (some ⟨C, 0, none⟩) l.length l.length, .int .i64 (cnt l)]
  grid : Grid w C 77 3 (l.map row)
theorem TB.below {w w' : World} {T C : Nat} {l : List (Option V)} (h : TB w T C l) (hb : Below w.heap.size w w') : TB w' T C l :=
  ⟨Blk_below h.obj hb (Blk_lt h.obj), h.grid.below hb⟩
theorem TB.kept {w w' : World} {T C g : Nat} {t : TypeId} {cs : Array Value} {l : List (Option V)} (h : TB w T C l) (hb : w.grownBy w' (some g)) (hg : Blk w g t cs) (h1 : t ≠ 69) (h2 : t ≠ 77) : TB w' T C l :=
  ⟨Blk_grown h.obj hb (by simpa using blk_neq h.obj hg (Ne.symm h1)), h.grid.grown hb (by simpa using blk_neq h.grid.blk hg (Ne.symm h2))⟩
theorem TB.ne {w : World} {T C : Nat} {l : List (Option V)} (h : TB w T C l) : T ≠ C := blk_neq h.obj h.grid.blk (by decide)
theorem TB.row_at {w : World} {T C : Nat} {l : List (Option V)} (h : TB w T C l) {i : Nat} (hi : i < l.length) {j : Nat} (hj : j < 3) : w.cell? ⟨C, i * 3 + j, none⟩ = (row (l.getD i none))[j]? := by
  rw [h.grid.cell (by simpa using hi) hj]
  simp [List.getD, hi]

set_option maxHeartbeats 400000 in
theorem at_nil (i : Int) (w : World) :
    Calls Try.prog 28 #[.pointer none, .int .i64 i] w fun e w' => e = .returned (.tuple #[.pointer none, .int .i64 2]) ∧ w = w' := by
  go_enter Try.func28, Try.ntmps28
  go_wp2
  go_ret2
  exact ⟨rfl, rfl⟩
set_option maxHeartbeats 400000 in
theorem at_arg (T C : Nat) (l : List (Option V)) (i : Int) (w : World) (h : TB w T C l) (hi : i < 0 ∨ (l.length : Int) ≤ i) :
    Calls Try.prog 28 #[.pointer (some ⟨T, 0, none⟩), .int .i64 i] w fun e w' => e = .returned (.tuple #[.pointer none, .int .i64 1]) ∧ w = w' := by
  have c0 := Blk_cell h.obj 0
  rcases hi with hi | hi
  · go_enter Try.func28, Try.ntmps28
    go_wp2
    go_ret2
    exact ⟨rfl, rfl⟩
  · have hi2 : ¬ i < 0 := by omega
    go_enter Try.func28, Try.ntmps28
    go_wp2
    go_ret2
    exact ⟨rfl, rfl⟩
set_option maxHeartbeats 400000 in
theorem at_ok (T C : Nat) (l : List (Option V)) (i : Nat) (w : World) (h : TB w T C l) (hi : i < l.length) :
    Calls Try.prog 28 #[.pointer (some ⟨T, 0, none⟩), .int .i64 i] w fun e w' => e = .returned (.tuple #[.pointer (some ⟨C, i * 3, none⟩), .int .i64 0]) ∧ w = w' := by
  have c0 := Blk_cell h.obj 0
  have i0 : ¬ (i : Int) < 0 := by omega
  have i1 : ¬ (l.length : Int) ≤ i := by omega
  go_enter Try.func28, Try.ntmps28
  go_wp2
  go_ret2
  exact ⟨rfl, rfl⟩
set_option maxHeartbeats 400000 in
theorem size_nil (w : World) : Calls Try.prog 17 #[.pointer none] w fun e w' => e = .returned (.int .i64 0) ∧ w = w' := by
  go_enter Try.func17, Try.ntmps17
  go_wp2
  go_ret
  exact ⟨rfl, rfl⟩
set_option maxHeartbeats 400000 in
theorem size_ok (T C : Nat) (l : List (Option V)) (w : World) (h : TB w T C l) : Calls Try.prog 17 #[.pointer (some ⟨T, 0, none⟩)] w fun e w' => e = .returned (.int .i64 l.length) ∧ w = w' := by
  have c0 := Blk_cell h.obj 0
  go_enter Try.func17, Try.ntmps17
  go_wp2
  go_ret
  exact ⟨rfl, rfl⟩
set_option maxHeartbeats 400000 in
theorem left_nil (w : World) : Calls Try.prog 15 #[.pointer none] w fun e w' => e = .returned (.int .i64 0) ∧ w = w' := by
  go_enter Try.func15, Try.ntmps15
  go_wp2
  go_ret
  exact ⟨rfl, rfl⟩
set_option maxHeartbeats 400000 in
theorem left_ok (T C : Nat) (l : List (Option V)) (w : World) (h : TB w T C l) : Calls Try.prog 15 #[.pointer (some ⟨T, 0, none⟩)] w fun e w' => e = .returned (.int .i64 (cnt l)) ∧ w = w' := by
  have c0 := Blk_cell h.obj 1
  obtain ⟨c, hc⟩ : ∃ c, cnt l = c := ⟨_, rfl⟩
  rw [hc] at c0 ⊢
  clear hc
  go_enter Try.func15, Try.ntmps15
  go_wp2_with (go_at_call 33; refine (load64 _ _ _ c0).mono ?_; rintro e w' ⟨rfl, rfl⟩)
  go_ret
  exact ⟨rfl, rfl⟩
set_option maxHeartbeats 400000 in
theorem put_nil (i : Int) (v : V) (w : World) :
    Calls Try.prog 11 #[.pointer none, .int .i64 i, .agg #[.int .i64 (v).1, .string (v).2]] w fun e w' => e = .returned (.int .i64 2) ∧ Below w.heap.size w w' := by
  go_enter Try.func11, Try.ntmps11
  go_wp2_with (go_at_call 28; refine (at_nil _ _).mono ?_; rintro e w' ⟨rfl, rfl⟩)
  go_ret
  exact ⟨rfl, by (repeat' (first | (with_reducible exact Below.refl _ _) | (with_reducible assumption) | (with_reducible refine Below.alloc ?_ ?_ _) | (with_reducible refine Below.drew ?_) | (with_reducible refine Below_drewN ?_ _) | (with_reducible refine Below.setCell ?_ ?_ _) | go_size))⟩
set_option maxHeartbeats 400000 in
theorem put_arg (T C : Nat) (l : List (Option V)) (i : Int) (v : V) (w : World) (h : TB w T C l) (hi : i < 0 ∨ (l.length : Int) ≤ i) :
    Calls Try.prog 11 #[.pointer (some ⟨T, 0, none⟩), .int .i64 i, .agg #[.int .i64 (v).1, .string (v).2]] w fun e w' => e = .returned (.int .i64 1) ∧ Below w.heap.size w w' := by
  go_enter Try.func11, Try.ntmps11
  go_wp2_with (go_at_call 28; refine (at_arg T C l i _ (h.below (by (repeat' (first | (with_reducible exact Below.refl _ _) | (with_reducible assumption) | (with_reducible refine Below.alloc ?_ ?_ _) | (with_reducible refine Below.drew ?_) | (with_reducible refine Below_drewN ?_ _) | (with_reducible refine Below.setCell ?_ ?_ _) | go_size)))) hi).mono ?_; rintro e w' ⟨rfl, rfl⟩)
  go_ret
  exact ⟨rfl, by (repeat' (first | (with_reducible exact Below.refl _ _) | (with_reducible assumption) | (with_reducible refine Below.alloc ?_ ?_ _) | (with_reducible refine Below.drew ?_) | (with_reducible refine Below_drewN ?_ _) | (with_reducible refine Below.setCell ?_ ?_ _) | go_size))⟩

theorem TB.only {gs : List Nat} {w w' : World} {T C : Nat} {l : List (Option V)} (h : TB w T C l) (ho : Only gs w w') (h1 : T ∉ gs) (h2 : C ∉ gs) : TB w' T C l := ⟨ho.blk h.obj h1, ho.grid h.grid h2⟩
/-- What a Put comes to. -/
def putR (l : List (Option V)) (i : Int) (v : V) : Int × List (Option V) :=
  if i < 0 ∨ (l.length : Int) ≤ i then (1, l) else if (l.getD i.toNat none).isSome then (3, l) else (0, l.set i.toNat (some v))
theorem putR_length (l : List (Option V)) (i : Int) (v : V) : (putR l i v).2.length = l.length := by
  unfold putR; split
  · rfl
  · split
    · rfl
    · simp
set_option maxHeartbeats 400000 in
theorem put_state (T C : Nat) (l : List (Option V)) (i : Nat) (v x : V) (w : World) (h : TB w T C l) (hi : i < l.length) (hx : l.getD i none = some x) :
    Calls Try.prog 11 #[.pointer (some ⟨T, 0, none⟩), .int .i64 i, .agg #[.int .i64 (v).1, .string (v).2]] w fun e w' => e = .returned (.int .i64 3) ∧ Below w.heap.size w w' := by
  have c0 : w.cell? ⟨C, i * 3, none⟩ = some (.int .i32 2) := by
    have := h.row_at hi (j := 0) (by omega)
    rw [hx] at this
    exact this
  have f0 : w.frozen? ⟨C, i * 3, none⟩ = false := h.grid.frozen _
  have lt := h.grid.lt
  clear hx
  go_enter Try.func11, Try.ntmps11
  go_wp2_with (first
    | (go_at_call 28; refine (at_ok T C l i _ (h.below (by (repeat' (first | (with_reducible exact Below.refl _ _) | (with_reducible assumption) | (with_reducible refine Below.alloc ?_ ?_ _) | (with_reducible refine Below.drew ?_) | (with_reducible refine Below_drewN ?_ _) | (with_reducible refine Below.setCell ?_ ?_ _) | go_size)))) hi).mono ?_; rintro e w' ⟨rfl, rfl⟩)
    | (go_at_call 29; refine (cas32_miss _ 2 0 1 _ (by go_simp) (by go_simp) (by omega)).mono ?_; rintro e w' ⟨rfl, rfl⟩))
  go_ret
  exact ⟨rfl, by (repeat' (first | (with_reducible exact Below.refl _ _) | (with_reducible assumption) | (with_reducible refine Below.alloc ?_ ?_ _) | (with_reducible refine Below.drew ?_) | (with_reducible refine Below_drewN ?_ _) | (with_reducible refine Below.setCell ?_ ?_ _) | go_size))⟩

set_option maxHeartbeats 1000000 in
theorem put_ok (T C : Nat) (l : List (Option V)) (i : Nat) (v : V) (w : World) (h : TB w T C l) (hi : i < l.length) (hx : l.getD i none = none) (hsmall : l.length ≤ 65536) :
    Calls Try.prog 11 #[.pointer (some ⟨T, 0, none⟩), .int .i64 i, .agg #[.int .i64 (v).1, .string (v).2]] w fun e w' => e = .returned (.int .i64 0) ∧ Only [T, C] w w' ∧ TB w' T C (l.set i (some v)) := by
  have c0 : w.cell? ⟨C, i * 3, none⟩ = some (.int .i32 0) := by
    have := h.row_at hi (j := 0) (by omega)
    rw [hx] at this
    exact this
  have c1 : w.cell? ⟨C, i * 3 + 1, none⟩ = some (.int .i64 0) := by
    have := h.row_at hi (j := 1) (by omega)
    rw [hx] at this
    exact this
  have c2 : w.cell? ⟨C, i * 3 + 2, none⟩ = some (.string ByteArray.empty) := by
    have := h.row_at hi (j := 2) (by omega)
    rw [hx] at this
    exact this
  have f0 : ∀ j, w.frozen? ⟨C, j, none⟩ = false := fun j => h.grid.frozen _
  have g0 : w.frozen? ⟨T, 1, none⟩ = false := Blk_frozen h.obj 1
  have d0 : w.cell? ⟨T, 1, none⟩ = some (.int .i64 (cnt l)) := Blk_cell h.obj 1
  have d1 : w.cell? ⟨T, 0, none⟩ = some (.slice (some ⟨C, 0, none⟩) l.length l.length) := Blk_cell h.obj 0
  have lt := h.grid.lt
  have lt2 := Blk_lt h.obj
  have hne := h.ne
  have hbd := cnt_bd l
  have hset := cnt_set l i v hi hx
  obtain ⟨n, hn⟩ : ∃ n, cnt l = n := ⟨_, rfl⟩
  have hobj := h.obj
  have hgrid := h.grid
  rw [hn] at d0 hbd hset hobj
  have HX := Lib.hid hx
  have HSET := Lib.hid hset
  have HB := Lib.hid (show wrap64 (n + -1) = n - 1 by rw [show n + -1 = n - 1 by omega]; exact IntWalk.wrap64_in _ ⟨by omega, by omega⟩)
  clear hn hx hset hbd
  go_enter Try.func11, Try.ntmps11
  go_wp2_with (first
    | (go_at_call 28; refine (at_ok T C l i _ (h.below (by (repeat' (first | (with_reducible exact Below.refl _ _) | (with_reducible assumption) | (with_reducible refine Below.alloc ?_ ?_ _) | (with_reducible refine Below.drew ?_) | (with_reducible refine Below_drewN ?_ _) | (with_reducible refine Below.setCell ?_ ?_ _) | go_size)))) hi).mono ?_; rintro e w' ⟨rfl, rfl⟩)
    | (go_at_call 29; refine (cas32 _ 0 1 _ (by go_simp) (by go_simp)).mono ?_; rintro e w' ⟨rfl, rfl⟩)
    | (go_at_call 30; refine (store32 _ 1 2 _ (by go_simp) (by go_simp)).mono ?_; rintro e w' ⟨rfl, rfl⟩)
    | (go_at_call 31; refine (add64 _ n (-1) (n - 1) _ (by go_simp) (by go_simp) HB.out).mono ?_; rintro e w' ⟨rfl, rfl⟩))
  go_ret
  refine ⟨rfl, by (refine Only.alloc (Only.set (Only.set (Only.set (Only.set (Only.set (Only.refl _ _) ?_ _) ?_ _) ?_ _) ?_ _) ?_ _) _ <;> simp), ?_, ?_⟩
  · have hb : Blk w T 69 #[.slice (some ⟨C, 0, none⟩) (l.set i (some v)).length (l.set i (some v)).length, .int .i64 n] := by rw [List.length_set]; exact hobj
    rw [HSET.out]
    exact Blk_alloc (Blk_upd (Blk_far (Blk_far (Blk_far (Blk_far hb (by simpa using hne) _) (by simpa using hne) _) (by simpa using hne) _) (by simpa using hne) _) 1 _ rfl) _
  · have hl : i < (l.map row).length := by simpa using hi
    have h0 : (l.map row).getD i [] = row none := by rw [List.getD_eq_getElem?_getD]; have := HX.out; rw [List.getD_eq_getElem?_getD] at this; simp [hi] at this ⊢; rw [this]
    have g1 := hgrid.put hl (j := 0) (by omega) (.int .i32 1) (r := [.int .i32 1, .int .i64 0, .string ByteArray.empty]) (by rw [h0]; rfl)
    have g2 := g1.put (i := i) (by simpa using hi) (j := 1) (by omega) (.int .i64 v.1) (r := [.int .i32 1, .int .i64 v.1, .string ByteArray.empty]) (by rw [getD_set_self hl]; rfl)
    have g3 := g2.put (i := i) (by simpa using hi) (j := 2) (by omega) (.string v.2) (r := [.int .i32 1, .int .i64 v.1, .string v.2]) (by rw [getD_set_self (by simpa using hi)]; rfl)
    have g4 := g3.put (i := i) (by simpa using hi) (j := 0) (by omega) (.int .i32 2) (r := row (some v)) (by rw [getD_set_self (by simpa using hi)]; rfl)
    simp only [List.set_set] at g4
    rw [← List.map_set] at g4
    exact (g4.far (p := ⟨T, 1, none⟩) (by simpa using Ne.symm hne) _).alloc _

theorem put_all (T C : Nat) (l l' : List (Option V)) (i e : Int) (v : V) (w : World) (h : TB w T C l) (hsmall : l.length ≤ 65536) (hp : putR l i v = (e, l')) :
    Calls Try.prog 11 #[.pointer (some ⟨T, 0, none⟩), .int .i64 i, .agg #[.int .i64 (v).1, .string (v).2]] w fun x w' => x = .returned (.int .i64 e) ∧ Only [T, C] w w' ∧ TB w' T C l' := by
  unfold putR at hp
  by_cases h1 : i < 0 ∨ (l.length : Int) ≤ i
  · rw [if_pos h1] at hp
    simp only [Prod.mk.injEq] at hp; obtain ⟨rfl, rfl⟩ := hp
    exact (put_arg T C l i v w h h1).mono fun x w' ⟨hx, hw⟩ => ⟨hx, Only.of_below hw, h.below hw⟩
  · rw [if_neg h1] at hp
    have hlt : i.toNat < l.length := by omega
    have hj : ((i.toNat : Nat) : Int) = i := by omega
    cases hx : l.getD i.toNat none with
    | none =>
      rw [hx] at hp
      simp only [Option.isSome_none, Bool.false_eq_true, if_false, Prod.mk.injEq] at hp; obtain ⟨rfl, rfl⟩ := hp
      have := put_ok T C l i.toNat v w h hlt hx hsmall
      rwa [hj] at this
    | some x =>
      rw [hx] at hp
      simp only [Option.isSome_some, if_true, Prod.mk.injEq] at hp; obtain ⟨rfl, rfl⟩ := hp
      have := put_state T C l i.toNat v x w h hlt hx
      rw [hj] at this
      exact this.mono fun x w' ⟨hx, hw⟩ => ⟨hx, Only.of_below hw, h.below hw⟩

/-- What a Get comes to. -/
def getR (l : List (Option V)) (i : Int) : V × Int :=
  if i < 0 ∨ (l.length : Int) ≤ i then ((0, ByteArray.empty), 1) else match l.getD i.toNat none with | none => ((0, ByteArray.empty), 4) | some v => (v, 0)
set_option maxHeartbeats 400000 in
theorem get_nil (i : Int) (w : World) :
    Calls Try.prog 13 #[.pointer none, .int .i64 i] w fun e w' => e = .returned (.tuple #[.agg #[.int .i64 (((0, ByteArray.empty) : V)).1, .string (((0, ByteArray.empty) : V)).2], .int .i64 2]) ∧ Below w.heap.size w w' := by
  go_enter Try.func13, Try.ntmps13
  go_wp2_with (go_at_call 28; refine (at_nil _ _).mono ?_; rintro e w' ⟨rfl, rfl⟩)
  refine bodyPost_ret (v := .tuple #[.agg #[.int .i64 0, .string ByteArray.empty], .int .i64 2]) (by simp [results, Try.results13, go_sem]; rfl) rfl ?_
  exact ⟨rfl, by (repeat' (first | (with_reducible exact Below.refl _ _) | (with_reducible assumption) | (with_reducible refine Below.alloc ?_ ?_ _) | (with_reducible refine Below.drew ?_) | (with_reducible refine Below_drewN ?_ _) | (with_reducible refine Below.setCell ?_ ?_ _) | go_size))⟩
set_option maxHeartbeats 400000 in
theorem get_arg (T C : Nat) (l : List (Option V)) (i : Int) (w : World) (h : TB w T C l) (hi : i < 0 ∨ (l.length : Int) ≤ i) :
    Calls Try.prog 13 #[.pointer (some ⟨T, 0, none⟩), .int .i64 i] w fun e w' => e = .returned (.tuple #[.agg #[.int .i64 (((0, ByteArray.empty) : V)).1, .string (((0, ByteArray.empty) : V)).2], .int .i64 1]) ∧ Below w.heap.size w w' := by
  go_enter Try.func13, Try.ntmps13
  go_wp2_with (go_at_call 28; refine (at_arg T C l i _ (h.below (by (repeat' (first | (with_reducible exact Below.refl _ _) | (with_reducible assumption) | (with_reducible refine Below.alloc ?_ ?_ _) | (with_reducible refine Below.drew ?_) | (with_reducible refine Below_drewN ?_ _) | (with_reducible refine Below.setCell ?_ ?_ _) | go_size)))) hi).mono ?_; rintro e w' ⟨rfl, rfl⟩)
  refine bodyPost_ret (v := .tuple #[.agg #[.int .i64 0, .string ByteArray.empty], .int .i64 1]) (by simp [results, Try.results13, go_sem]; rfl) rfl ?_
  exact ⟨rfl, by (repeat' (first | (with_reducible exact Below.refl _ _) | (with_reducible assumption) | (with_reducible refine Below.alloc ?_ ?_ _) | (with_reducible refine Below.drew ?_) | (with_reducible refine Below_drewN ?_ _) | (with_reducible refine Below.setCell ?_ ?_ _) | go_size))⟩
set_option maxHeartbeats 400000 in
theorem get_none (T C : Nat) (l : List (Option V)) (i : Nat) (w : World) (h : TB w T C l) (hi : i < l.length) (hx : l.getD i none = none) :
    Calls Try.prog 13 #[.pointer (some ⟨T, 0, none⟩), .int .i64 i] w fun e w' => e = .returned (.tuple #[.agg #[.int .i64 (((0, ByteArray.empty) : V)).1, .string (((0, ByteArray.empty) : V)).2], .int .i64 4]) ∧ Below w.heap.size w w' := by
  have c0 : w.cell? ⟨C, i * 3, none⟩ = some (.int .i32 0) := by
    have := h.row_at hi (j := 0) (by omega)
    rw [hx] at this
    exact this
  have lt := h.grid.lt
  clear hx
  go_enter Try.func13, Try.ntmps13
  go_wp2_with (first
    | (go_at_call 28; refine (at_ok T C l i _ (h.below (by (repeat' (first | (with_reducible exact Below.refl _ _) | (with_reducible assumption) | (with_reducible refine Below.alloc ?_ ?_ _) | (with_reducible refine Below.drew ?_) | (with_reducible refine Below_drewN ?_ _) | (with_reducible refine Below.setCell ?_ ?_ _) | go_size)))) hi).mono ?_; rintro e w' ⟨rfl, rfl⟩)
    | (go_at_call 32; refine (load32 _ 0 _ (by go_simp)).mono ?_; rintro e w' ⟨rfl, rfl⟩))
  refine bodyPost_ret (v := .tuple #[.agg #[.int .i64 0, .string ByteArray.empty], .int .i64 4]) (by simp [results, Try.results13, go_sem]; rfl) rfl ?_
  exact ⟨rfl, by (repeat' (first | (with_reducible exact Below.refl _ _) | (with_reducible assumption) | (with_reducible refine Below.alloc ?_ ?_ _) | (with_reducible refine Below.drew ?_) | (with_reducible refine Below_drewN ?_ _) | (with_reducible refine Below.setCell ?_ ?_ _) | go_size))⟩
set_option maxHeartbeats 400000 in
theorem get_ok (T C : Nat) (l : List (Option V)) (i : Nat) (v : V) (w : World) (h : TB w T C l) (hi : i < l.length) (hx : l.getD i none = some v) :
    Calls Try.prog 13 #[.pointer (some ⟨T, 0, none⟩), .int .i64 i] w fun e w' => e = .returned (.tuple #[.agg #[.int .i64 (v).1, .string (v).2], .int .i64 0]) ∧ Below w.heap.size w w' := by
  have c0 : w.cell? ⟨C, i * 3, none⟩ = some (.int .i32 2) := by
    have := h.row_at hi (j := 0) (by omega)
    rw [hx] at this
    exact this
  have c1 : w.cell? ⟨C, i * 3 + 1, none⟩ = some (.int .i64 v.1) := by
    have := h.row_at hi (j := 1) (by omega)
    rw [hx] at this
    exact this
  have c2 : w.cell? ⟨C, i * 3 + 2, none⟩ = some (.string v.2) := by
    have := h.row_at hi (j := 2) (by omega)
    rw [hx] at this
    exact this
  have lt := h.grid.lt
  clear hx
  go_enter Try.func13, Try.ntmps13
  go_wp2_with (first
    | (go_at_call 28; refine (at_ok T C l i _ (h.below (by (repeat' (first | (with_reducible exact Below.refl _ _) | (with_reducible assumption) | (with_reducible refine Below.alloc ?_ ?_ _) | (with_reducible refine Below.drew ?_) | (with_reducible refine Below_drewN ?_ _) | (with_reducible refine Below.setCell ?_ ?_ _) | go_size)))) hi).mono ?_; rintro e w' ⟨rfl, rfl⟩)
    | (go_at_call 32; refine (load32 _ 2 _ (by go_simp)).mono ?_; rintro e w' ⟨rfl, rfl⟩))
  refine bodyPost_ret (v := .tuple #[.agg #[.int .i64 v.1, .string v.2], .int .i64 0]) (by simp [results, Try.results13, go_sem]) rfl ?_
  exact ⟨rfl, by (repeat' (first | (with_reducible exact Below.refl _ _) | (with_reducible assumption) | (with_reducible refine Below.alloc ?_ ?_ _) | (with_reducible refine Below.drew ?_) | (with_reducible refine Below_drewN ?_ _) | (with_reducible refine Below.setCell ?_ ?_ _) | go_size))⟩
theorem get_all (T C : Nat) (l : List (Option V)) (i e : Int) (v : V) (w : World) (h : TB w T C l) (hp : getR l i = (v, e)) :
    Calls Try.prog 13 #[.pointer (some ⟨T, 0, none⟩), .int .i64 i] w fun x w' => x = .returned (.tuple #[.agg #[.int .i64 (v).1, .string (v).2], .int .i64 e]) ∧ Below w.heap.size w w' := by
  unfold getR at hp
  by_cases h1 : i < 0 ∨ (l.length : Int) ≤ i
  · rw [if_pos h1] at hp
    simp only [Prod.mk.injEq] at hp; obtain ⟨rfl, rfl⟩ := hp
    exact get_arg T C l i w h h1
  · rw [if_neg h1] at hp
    have hlt : i.toNat < l.length := by omega
    have hj : ((i.toNat : Nat) : Int) = i := by omega
    cases hx : l.getD i.toNat none with
    | none =>
      rw [hx] at hp
      simp only [Prod.mk.injEq] at hp; obtain ⟨rfl, rfl⟩ := hp
      have := get_none T C l i.toNat w h hlt hx
      rwa [hj] at this
    | some x =>
      rw [hx] at hp
      simp only [Prod.mk.injEq] at hp; obtain ⟨rfl, rfl⟩ := hp
      have := get_ok T C l i.toNat x w h hlt hx
      rwa [hj] at this
theorem iC : (Try.prog.info? 77).map (fun i => (i.zero, i.size, i.bytes)) = some (some (.agg (row none).toArray), 3, 32) := by kernel_rfl
set_option maxHeartbeats 400000 in
theorem new_arg (n : Int) (w : World) (hn : n < 0 ∨ 65536 < n) :
    Calls Try.prog 9 #[.int .i64 n] w fun e w' => e = .returned (.tuple #[.pointer none, .int .i64 1]) ∧ w = w' := by
  rcases hn with hn | hn
  · go_enter Try.func9, Try.ntmps9
    go_wp2_with fail
    go_ret2
    exact ⟨rfl, rfl⟩
  · have hn2 : ¬ n < 0 := by omega
    go_enter Try.func9, Try.ntmps9
    go_wp2_with fail
    go_ret2
    exact ⟨rfl, rfl⟩
set_option maxHeartbeats 1000000 in
theorem new_ok (n : Nat) (w : World) (hn : n ≤ 65536) :
    Calls Try.prog 9 #[.int .i64 n] w fun e w' => e = .returned (.tuple #[.pointer (some ⟨w.heap.size + 1, 0, none⟩), .int .i64 0]) ∧ Below w.heap.size w w' ∧ TB w' (w.heap.size + 1) w.heap.size (List.replicate n none) := by
  obtain ⟨i0, hi0, hz0, hz1, hz2⟩ := info_parts iC
  have hmk := run_make_grid (P := Try.prog) Try.underlying62 hi0 hz0 hz1 (by simp [Value.cells, row]) .i64 .i64 n (by rw [hz2]; omega) (by simp only [maxLen]; omega)
  obtain ⟨rows, hrows⟩ : ∃ r, (List.replicate n (Value.agg (row none).toArray).cells.toList).flatten = r := ⟨_, rfl⟩
  rw [hrows] at hmk
  have HR := Lib.hid hrows
  have n0 : ¬ (n : Int) < 0 := by omega
  have n1 : ¬ 65536 < (n : Int) := by omega
  clear hrows hz1 hz2 hz0 hi0
  go_enter Try.func9, Try.ntmps9
  go_wp2_with (go_at_call 27; refine (store64 _ 0 n _ (by go_simp) (by go_simp)).mono ?_; rintro e w' ⟨rfl, rfl⟩)
  go_ret2
  refine ⟨rfl, by (repeat' (first | (with_reducible exact Below.refl _ _) | (with_reducible assumption) | (with_reducible refine Below.alloc ?_ ?_ _) | (with_reducible refine Below.drew ?_) | (with_reducible refine Below_drewN ?_ _) | (with_reducible refine Below.setCell ?_ ?_ _) | go_size)), ?_, ?_, ?_⟩
  · have := Blk_new (w.alloc (.cells rows.toArray 77)) 69 #[.slice (some ⟨w.heap.size, 0, none⟩) n n, .int .i64 n]
    rw [cnt_rep, List.length_replicate]
    simpa using this
  · have := Blk_alloc (Blk_new w 77 rows.toArray) (.cells #[.slice (some ⟨w.heap.size, 0, none⟩) n n, .int .i64 n] 69)
    rw [← HR.out] at this
    simpa [Value.cells, ← HR.out] using this
  · intro r hr
    obtain ⟨o, _, rfl⟩ := List.mem_map.1 hr
    exact row_len o

def flat (vs : List V) : List Value := (vs.map fun v => [.int .i64 (v).1, .string (v).2]).flatten
theorem flat_snoc (vs : List V) (v : V) : flat (vs ++ [v]) = flat vs ++ [.int .i64 (v).1, .string (v).2] := by simp [flat]
theorem flat_one (v : V) : ∀ u ∈ ([.int .i64 (v).1, .string (v).2] : List Value), u.oneCell' = true := by simp [Value.oneCell']
/-- The values, if all are there. -/
def vals : List (Option V) → Option (List V)
  | [] => some []
  | none :: _ => none
  | some v :: l => (vals l).map (v :: ·)
theorem vals_some {l : List (Option V)} {vs : List V} (h : vals l = some vs) : l = vs.map some := by
  induction l generalizing vs with
  | nil => simp [vals] at h; simp [h]
  | cons o l ih =>
    cases o with
    | none => simp [vals] at h
    | some v =>
      simp only [vals] at h
      cases hv : vals l with
      | none => rw [hv] at h; simp at h
      | some ws => rw [hv] at h; simp at h; subst h; rw [ih hv]; rfl
theorem vals_map (vs : List V) : vals (vs.map some) = some vs := by
  induction vs with
  | nil => rfl
  | cons v vs ih => simp only [List.map_cons, vals, ih, Option.map_some]
theorem vals_none {l : List (Option V)} {k : Nat} (hk : k < l.length) (hn : l.getD k none = none) : vals l = none := by
  cases h : vals l with
  | none => rfl
  | some vs =>
    have := vals_some h
    subst this
    have hk' : k < vs.length := by simpa using hk
    simp [List.getD, hk'] at hn
theorem firsts_snoc {l : List (Option V)} {k : Nat} {vs : List V} {v : V} (hk : k < l.length) (h : l.take k = vs.map some) (hv : l.getD k none = some v) : l.take (k + 1) = (vs ++ [v]).map some := by
  rw [List.take_succ_eq_append_getElem hk, h]
  simp [List.getD, hk] at hv
  simp [hv]
/-- What All comes to. -/
def AllPost (l : List (Option V)) (w : World) (e : Ending) (w' : World) : Prop :=
  Below w.heap.size w w' ∧
  match vals l with
  | some vs => ∃ sv, e = .returned (.tuple #[sv, .int .i64 0]) ∧ w'.ownsRow w.heap.size 30 2 sv l.length (flat vs)
  | none => e = .returned (.tuple #[.slice none 0 0, .int .i64 4])
set_option maxHeartbeats 400000 in
theorem all_nil (w : World) :
    Calls Try.prog 18 #[.pointer none] w fun e w' => e = .returned (.tuple #[.slice none 0 0, .int .i64 2]) ∧ w = w' := by
  go_enter Try.func18, Try.ntmps18
  go_wp2_with fail
  go_ret2
  exact ⟨rfl, rfl⟩
theorem iE : (Try.prog.info? 30).map (fun i => (i.zero, i.size, i.bytes)) = some (some (.agg #[.int .i64 (((0, ByteArray.empty) : V)).1, .string (((0, ByteArray.empty) : V)).2]), 2, 24) := by kernel_rfl
set_option maxRecDepth 100000 in
set_option maxHeartbeats 1000000 in
theorem all_ok (T C : Nat) (l : List (Option V)) (w : World) (h : TB w T C l) (hsmall : l.length ≤ 65536) :
    Calls Try.prog 18 #[.pointer (some ⟨T, 0, none⟩)] w (AllPost l w) := by
  obtain ⟨i0, hi0, hz0, hz1, hz2⟩ := info_parts iE
  obtain ⟨M, hM, hmk⟩ := run_make_cap (P := Try.prog) Try.underlying43 hi0 hz0 .i64 .i64 l.length (by rw [hz2]; omega) (by simp only [maxLen]; omega)
  rw [hz1] at hM
  have c0 := Blk_cell h.obj 0
  have HM := Lib.hid hM
  have lt := Blk_lt h.obj
  clear hM
  go_enter Try.func18, Try.ntmps18
  go_wp2_with fail
  go_loopw [4, 5, 6, 7, 21, 22, 23, 24, 25, 26, 27, 28, 29, 30, 31, 32, 33, 34, 35, 36, 37] (fun v _ _ _ i _ _ _ _ _ _ _ _ _ _ _ _ _ _ _ _ wr => ∃ (k : Nat) (vs : List V), k ≤ l.length ∧ i = .int .i64 k ∧ Below w.heap.size w wr ∧ TB wr T C l ∧ l.take k = vs.map some ∧ wr.ownsRow w.heap.size 30 2 v k (flat vs)) (fun _ _ _ _ i _ _ _ _ _ _ _ _ _ _ _ _ _ _ _ _ _ => l.length - (intOf i).toNat)
  case atStart =>
    refine ⟨0, [], by omega, rfl, by (repeat' (first | (with_reducible exact Below.refl _ _) | (with_reducible assumption) | (with_reducible refine Below.alloc ?_ ?_ _) | (with_reducible refine Below.drew ?_) | (with_reducible refine Below_drewN ?_ _) | (with_reducible refine Below.setCell ?_ ?_ _) | go_size)), h.below (by (repeat' (first | (with_reducible exact Below.refl _ _) | (with_reducible assumption) | (with_reducible refine Below.alloc ?_ ?_ _) | (with_reducible refine Below.drew ?_) | (with_reducible refine Below_drewN ?_ _) | (with_reducible refine Below.setCell ?_ ?_ _) | go_size))), by simp, ?_⟩
    exact World.ownsRow_made w M l.length (Nat.le_refl _) (by simp only [maxLen]; omega) HM.out
  case round =>
    obtain ⟨k, vs, hk, rfl, hb, hT, htk, hown⟩ := hrel
    clear hmk c0
    have hz := hb.size
    by_cases hlt : k < l.length
    · cases hv : l.getD k none with
      | none =>
        have hg : getR l (k : Int) = ((0, ByteArray.empty), 4) := by
          unfold getR
          rw [if_neg (by omega), Int.toNat_natCast, hv]
        have hvn := vals_none hlt hv
        have HG := Lib.hid hg
        have HN := Lib.hid hvn
        have HT := Lib.hid htk
        clear hg hvn htk hv hi0 hz0 hz1 hz2
        go_wp2_with fail
        refine (get_all T C l k 4 (0, ByteArray.empty) _ hT HG.out).mono ?_
        rintro e w5 ⟨rfl, h5⟩
        go_wp2_with fail
        go_ret2
        refine ⟨by have := Below_same hb h5; have := this.size; (repeat' (first | (with_reducible exact Below.refl _ _) | (with_reducible assumption) | (with_reducible refine Below.alloc ?_ ?_ _) | (with_reducible refine Below.drew ?_) | (with_reducible refine Below_drewN ?_ _) | (with_reducible refine Below.setCell ?_ ?_ _) | go_size)), ?_⟩
        rw [HN.out]
        rfl
      | some v =>
        have hg : getR l (k : Int) = (v, 0) := by
          unfold getR
          rw [if_neg (by omega), Int.toNat_natCast, hv]
        have hfs := firsts_snoc hlt htk hv
        have HG := Lib.hid hg
        have HF := Lib.hid hfs
        clear hg hfs htk hv
        go_wp2_with fail
        refine (get_all T C l k 0 v _ hT HG.out).mono ?_
        rintro e w5 ⟨rfl, h5⟩
        have hb5 := Below_same hb h5
        have hT5 := hT.below h5
        have hown5 := own_below hown h5
        have hz5 := hb5.size
        clear hb hT hown h5 hz
        go_wp2_with (at_builtin; go_must (refine wpList_append_src _ rfl (.tmp 33) (.tmp 35) 43 rfl w.heap.size 30 i0 _ 2 24 Try.underlying43 hi0 hz0 hz1 hz2 rfl (by omega) u4 k _ rfl ((hown5.alloc _).alloc _) _ 1 1 [.int .i64 (v).1, .string (v).2] rfl (by have hh := Src_new (w5.alloc (.cells #[.int .i64 v.1, .string v.2] 30)) 30 #[.int .i64 v.1, .string v.2] 2 rfl; simpa using hh) (flat_one v) (by simp only [maxLen]; omega) (by omega) (by simp; omega) ?_); intro v' w6 hown6 hg6 hat6)
        have hb6 : Below w.heap.size w w6 := by exact ((hb5.alloc hb5.size _).alloc (by simp; omega) _).grown hg6 (by simp; omega) (fun q hq => (hown5.lt q hq).1)
        have hT6 : TB w6 T C l := h.below hb6
        have HL := Lib.hid (show flat (vs ++ [v]) = _ from flat_snoc vs v)
        clear hb5 hT5 hown5 hz5
        go_roundw
        case rel => exact ⟨k + 1, vs ++ [v], by omega, by go_num, hb6, hT6, HF.out, by rw [HL.out]; exact hown6⟩
        case measure => simp [intOf]; omega
    · obtain rfl : k = l.length := by omega
      rw [List.take_length] at htk
      have hvs : vals l = some vs := by rw [htk]; exact vals_map vs
      clear htk
      go_wp2_with fail
      go_ret2
      refine ⟨by (repeat' (first | (with_reducible exact Below.refl _ _) | (with_reducible assumption) | (with_reducible refine Below.alloc ?_ ?_ _) | (with_reducible refine Below.drew ?_) | (with_reducible refine Below_drewN ?_ _) | (with_reducible refine Below.setCell ?_ ?_ _) | go_size)), ?_⟩
      rw [hvs]
      exact ⟨_, rfl, hown⟩
end TP
end Go.Proofs.Ytlbfjmdemljmhaa
