/-
  Small lemmas on worlds, blocks, slices that came in, for the walks of this seat. No condition.
-/
import Derived.Test.YtedlfkklkoihjaaRows
import Derived.WalkKit
import Derived.WalkSpells
import Derived.WalkLawsBesides
import Derived.Lib.Hide
import Derived.Deep.QuietTactic
import Derived.BigQuiet
import Derived.BigRegion
import Derived.Deep.RegionHeld3
import Derived.Deep.AppendLies
import Derived.Deep.Slices
import Derived.Handy
import Derived.ProofKit
import Derived.OpenShut
set_option linter.unusedVariables false
set_option linter.unusedSimpArgs false
namespace Go.Proofs.Ytedlfkklkoihjaa
open Go.RowKit

/-! ### Blocks that are known whole -/
def Blk (w : World) (g : Nat) (t : TypeId) (cs : Array Value) : Prop := w.heap[g]? = some (.cells cs t (0, 0))
section
variable {w w' : World} {g : Nat} {t : TypeId} {cs : Array Value}
theorem Blk_lt (h : Blk w g t cs) : g < w.heap.size := by
  rcases Nat.lt_or_ge g w.heap.size with hlt | hge
  · exact hlt
  · unfold Blk at h; rw [Array.getElem?_eq_none hge] at h; cases h
theorem Blk_cell (h : Blk w g t cs) (i : Nat) : w.cell? ⟨g, i, none⟩ = cs[i]? := cell_of_row w g i cs t (0, 0) h
theorem Blk_frozen (h : Blk w g t cs) (i : Nat) : w.frozen? ⟨g, i, none⟩ = false := by
  unfold Blk at h; simp [World.frozen?, h]
theorem Blk_new (w : World) (t : TypeId) (cs : Array Value) : Blk (w.alloc (.cells cs t)) w.heap.size t cs := heap_alloc_new w _
theorem Blk_alloc (h : Blk w g t cs) (o : Obj) : Blk (w.alloc o) g t cs := (Below.heap_alloc w o g (Blk_lt h)).trans h
theorem Blk_set (h : Blk w g t cs) (i : Nat) (u : Value) : Blk (w.setCell ⟨g, i, none⟩ u) g t (cs.setIfInBounds i u) := by
  unfold Blk at h ⊢
  simp [World.setCell, Array.getElem?_modify, h]
theorem Blk_far (h : Blk w g t cs) {p : Addr} (hp : g ≠ p.block) (u : Value) : Blk (w.setCell p u) g t cs := (Below.heap_setCell w p u g hp).trans h
theorem Blk_below {B : Nat} (h : Blk w g t cs) (hb : Below B w w') (hg : g < B) : Blk w' g t cs := (hb.block g hg).trans h
theorem Blk_upd (h : Blk w g t cs) (i : Nat) (u : Value) {cs' : Array Value} (e : cs.setIfInBounds i u = cs') : Blk (w.setCell ⟨g, i, none⟩ u) g t cs' := e ▸ Blk_set h i u
theorem Blk_drew (h : Blk w g t cs) : Blk w.drew g t cs := h
theorem Blk_drewN (h : Blk w g t cs) (n : Nat) : Blk (w.drewN n) g t cs := by
  unfold Blk at h ⊢
  induction n with
  | zero => exact h
  | succ n ih => exact ih
end

theorem Below_drewN {B : Nat} {a w : World} (h : Below B a w) (n : Nat) : Below B a (w.drewN n) := by
  induction n with
  | zero => exact h
  | succ n ih => exact ih.drew
/-- One world behind the other, each 'Below' its own size. -/
theorem Below_then {a b c : World} {B : Nat} (h : Below B a b) (k : Below b.heap.size b c) (hB : B ≤ a.heap.size) : Below B a c := h.trans (k.mono (Nat.le_trans hB h.size))
theorem Below_same {a b c : World} (h : Below a.heap.size a b) (k : Below b.heap.size b c) : Below a.heap.size a c := Below_then h k (Nat.le_refl _)

theorem Below_al {w w' : World} {o : Obj} (h : Below (w.alloc o).heap.size (w.alloc o) w') : Below w.heap.size w w' := Below.trans ((Below.refl _ _).alloc (Nat.le_refl _) o) (h.mono (by simp))
theorem Below_al2 {w w' : World} {o o' : Obj} (h : Below ((w.alloc o).alloc o').heap.size ((w.alloc o).alloc o') w') : Below w.heap.size w w' := Below_al (Below_al h)
theorem Below_al3 {w w' : World} {o o' o'' : Obj} (h : Below (((w.alloc o).alloc o').alloc o'').heap.size (((w.alloc o).alloc o').alloc o'') w') : Below w.heap.size w w' := Below_al (Below_al (Below_al h))
/-- A block that a new cell row became, behind a call. -/
theorem Blk_made {w w' : World} {t : TypeId} {cs : Array Value} (h : Below (w.alloc (.cells cs t)).heap.size (w.alloc (.cells cs t)) w') : Blk w' w.heap.size t cs := Blk_below (Blk_new w t cs) h (by simp)

/-! ### Slices of integers that are read -/
structure Ints (kd : IntKind) (w : World) (A : Option Addr) (len : Nat) (l : List Int) : Prop where
  len_eq : l.length = len
  at_ : 0 < len → ∃ b off, A = some ⟨b, off, none⟩ ∧ b < w.heap.size ∧ ∀ k, k < len → w.cell? ⟨b, off + k, none⟩ = some (.int kd (l.getD k 0))

theorem Ints.mono {kd : IntKind} {w w' : World} {A : Option Addr} {len : Nat} {l : List Int} (h : Ints kd w A len l) (hb : Below w.heap.size w w') : Ints kd w' A len l :=
  ⟨h.len_eq, fun h0 => let ⟨b, off, e, hB, hc⟩ := h.at_ h0; ⟨b, off, e, Nat.lt_of_lt_of_le hB hb.size, fun k hk => (hb.cell (p := ⟨b, off + k, none⟩) hB).trans (hc k hk)⟩⟩
theorem wf_at {kd : IntKind} {l : List Int} (h : ∀ x ∈ l, (Lit.int kd x).wf = true) {k : Nat} (hk : k < l.length) : (Lit.int kd (l.getD k 0)).wf = true := by
  have : l.getD k 0 = l[k] := by simp [List.getD, hk]
  rw [this]; exact h _ (List.getElem_mem _)
theorem Ints.of_blk {kd : IntKind} {w : World} {g : Nat} {t : TypeId} {l : List Int} (h : Blk w g t (l.map (Value.int kd)).toArray) :
    Ints kd w (some ⟨g, 0, none⟩) l.length l :=
  ⟨rfl, fun _ => ⟨g, 0, rfl, Blk_lt h, fun k hk => by rw [Nat.zero_add, Blk_cell h k]; simp [hk]⟩⟩
/-- The first of them. -/
theorem Ints.take {kd : IntKind} {w : World} {A : Option Addr} {len : Nat} {l : List Int} (h : Ints kd w A len l) {k : Nat} (hk : k ≤ len) : Ints kd w A k (l.take k) := by
  have h1 := h.len_eq
  refine ⟨by rw [List.length_take]; omega, fun h0 => ?_⟩
  obtain ⟨b, off, e, hB, hc⟩ := h.at_ (by omega)
  refine ⟨b, off, e, hB, fun j hj => ?_⟩
  rw [hc j (by omega)]
  simp [List.getD, hj]
/-- The others of them: 's[k:]' as the model cuts it. -/
theorem Ints.drop {kd : IntKind} {w : World} {A : Option Addr} {len cap : Nat} {l : List Int} (h : Ints kd w A len l) {k : Nat} (hk : k ≤ len) (hcap : len ≤ cap) :
    Ints kd w (if cap = k then A else A.map (·.add k)) (len - k) (l.drop k) := by
  have h1 := h.len_eq
  refine ⟨by rw [List.length_drop]; omega, fun h0 => ?_⟩
  obtain ⟨b, off, rfl, hB, hc⟩ := h.at_ (by omega)
  refine ⟨b, off + k, ?_, hB, fun j hj => ?_⟩
  · rw [if_neg (by omega)]
    simp only [Option.map_some, Addr.add]
    by_cases hk0 : k = 0
    · simp [hk0]
    · simp [hk0]
  · rw [Nat.add_assoc, hc (k + j) (by omega)]
    simp [List.getD, List.getElem?_drop]

/-! ### What a reading of an argument says -/
/-- Every reading at type t is one of E's. -/
def Opens (P : Program) (t : TypeId) {α : Type} (E : World → List Value → α → Prop) : Prop :=
  ∀ {H : Type} (enc : TypeId × Value → H) (w : World) (fuel : Nat) (cs : List Value) (x : DataW H × List MemPlace), DataW.trod enc P w 0 (fun _ => true) true fuel t cs = some x → ∃ a, E w cs a
theorem Opens.val {P : Program} {t : TypeId} {α : Type} {E : World → List Value → α → Prop} (ho : Opens P t E) {H : Type} {enc : TypeId × Value → H} {w : World} {v : Value} {d : DataW H} {ps : List MemPlace}
    (h : DataW.Trod enc P w 0 (fun _ => true) true t v d ps) : ∃ a, E w v.cells.toList a := by
  obtain ⟨fuel, hf⟩ := h
  exact ho enc w fuel _ _ hf
def EInt (k : IntKind) : World → List Value → Int → Prop := fun _ cs a => cs = [.int k a] ∧ (Lit.int k a).wf = true
def EBool : World → List Value → Bool → Prop := fun _ cs a => cs = [.bool a]
def EStr : World → List Value → ByteArray → Prop := fun _ cs a => cs = [.string a] ∧ a.size ≤ maxLen
theorem opens_int {P : Program} {t : TypeId} {k : IntKind} (ht : P.underlying t = some (.int k)) : Opens P t (EInt k) := by
  intro H enc w fuel cs x h
  obtain ⟨a, rfl, _, hw⟩ := DataW.trod_int ht h
  exact ⟨a, rfl, hw⟩
theorem opens_bool {P : Program} {t : TypeId} (ht : P.underlying t = some .bool) : Opens P t EBool := by
  intro H enc w fuel cs x h
  obtain ⟨a, rfl, _⟩ := DataW.trod_bool ht h
  exact ⟨a, rfl⟩
theorem opens_str {P : Program} {t : TypeId} (ht : P.underlying t = some .string) : Opens P t EStr := by
  intro H enc w fuel cs x h
  obtain ⟨a, rfl, _, hw⟩ := DataW.trod_string ht h
  exact ⟨a, rfl, hw⟩
theorem field_of {P : Program} {H : Type} {enc : TypeId × Value → H} {w : World} {n t off k : Nat} {cs : List Value} {y : DataW H × List MemPlace} {f : Field} (e1 : f.type = t) (e2 : f.offset = off) (q : P.cellsOf t = k)
    (h : DataW.trod enc P w 0 (fun _ => true) true n f.type ((cs.drop f.offset).take (P.cellsOf f.type)) = some y) : DataW.trod enc P w 0 (fun _ => true) true n t ((cs.drop off).take k) = some y := by
  rw [e1, e2, q] at h; exact h
/-- A slice: its elements, size cells each. -/
structure SliceRd {α : Type} (sz : Nat) (E : World → List Value → α → Prop) (w : World) (A : Option Addr) (len cap : Nat) (l : List α) : Prop where
  len_eq : l.length = len
  le : len ≤ cap
  le_max : cap ≤ maxLen
  at_ : 0 < len * sz → ∃ b off, A = some ⟨b, off, none⟩ ∧ b < w.heap.size ∧ ∀ i (hi : i < l.length), ∃ cs, cs.length = sz ∧ E w cs l[i] ∧ ∀ j, j < sz → w.cell? ⟨b, off + (i * sz + j), none⟩ = cs[j]?
  all : ∀ i (hi : i < l.length), ∃ cs, E w cs l[i]
def ESlice {α : Type} (sz : Nat) (E : World → List Value → α → Prop) : World → List Value → List α → Prop :=
  fun w cs l => ∃ A len cap, cs = [.slice A len cap] ∧ SliceRd sz E w A len cap l
theorem cell_lt {w : World} {a : Addr} {v : Value} (h : w.cell? a = some v) : a.block < w.heap.size := World.block_lt_of_cell? w _ h
theorem add_off {b off n : Nat} : (⟨b, off, none⟩ : Addr).add n = ⟨b, off + n, none⟩ := by
  unfold Addr.add; by_cases h : n = 0 <;> simp [h]
theorem opens_slice {P : Program} {t e : TypeId} {α : Type} {E : World → List Value → α → Prop} (ht : P.underlying t = some (.slice e)) (sz : Nat) (hs : P.cellsOf e = sz) (he : Opens P e E) : Opens P t (ESlice sz E) := by
  intro H enc w fuel cs x h
  rcases Go.Deep.open_slice ht h with ⟨rfl, _⟩ | ⟨a, len, cap, m, n, D, Pl, rfl, hb, hl, hm, hmm, _, hx⟩
  · exact ⟨[], none, 0, 0, rfl, ⟨rfl, Nat.le_refl _, Nat.zero_le _, fun h0 => by omega, fun i hi => by simp at hi⟩⟩
  · simp only [if_true] at hmm
    subst hmm
    rw [hs] at hx
    have hx' : ∀ i, i < len → ∃ a', ∃ cs', w.cells? 0 (a.add (i * sz)) sz = some cs' ∧ E w cs' a' := by
      intro i hi
      obtain ⟨cs', h1, h2⟩ := hx i (by omega)
      obtain ⟨a', ha'⟩ := he enc w n cs' _ h2
      exact ⟨a', cs', h1, ha'⟩
    by_cases hlen : 0 < len
    · obtain ⟨a0, _⟩ := hx' 0 hlen
      haveI : Inhabited α := ⟨a0⟩
      obtain ⟨f, hf⟩ := Go.Deep.choose_lt (p := fun i a' => ∃ cs', w.cells? 0 (a.add (i * sz)) sz = some cs' ∧ E w cs' a') hx'
      refine ⟨(List.range len).map f, some a, len, _, rfl, ⟨by simp, hl, hm, fun h0 => ?_, fun i hi => ?_⟩⟩
      · have hsz : 0 < sz := Nat.pos_of_mul_pos_left h0
        obtain ⟨cs0, h1, _⟩ := hf 0 hlen
        obtain ⟨_, hl0, hc0⟩ := World.cells?_some h1
        obtain ⟨b, off, spot⟩ := a
        have hsp : spot = none := by
          have := hc0 0 hsz
          rw [List.getElem?_eq_getElem (by omega)] at this
          simpa [Addr.add] using World.cell?_spot this
        subst hsp
        refine ⟨b, off, rfl, ?_, fun i hi => ?_⟩
        · have := hc0 0 hsz
          rw [List.getElem?_eq_getElem (by omega)] at this
          have := cell_lt this
          simpa [Addr.add] using this
        · have hi' : i < len := by simpa using hi
          obtain ⟨cs', h1, h2⟩ := hf i hi'
          obtain ⟨_, hl', hc'⟩ := World.cells?_some h1
          refine ⟨cs', hl', by simpa using h2, fun j hj => ?_⟩
          rw [← hc' j hj, add_off, add_off, Nat.add_assoc]
      · have hi' : i < len := by simpa using hi
        obtain ⟨cs', _, h2⟩ := hf i hi'
        exact ⟨cs', by simpa using h2⟩
    · exact ⟨[], some a, len, _, rfl, ⟨by simp; omega, hl, hm, fun h0 => by simp [show len = 0 by omega] at h0, fun i hi => by simp at hi⟩⟩
theorem SliceRd.ints {k : IntKind} {w : World} {A : Option Addr} {len cap : Nat} {l : List Int} (h : SliceRd 1 (EInt k) w A len cap l) : Ints k w A len l := by
  refine ⟨h.len_eq, fun h0 => ?_⟩
  obtain ⟨b, off, e, hB, hc⟩ := h.at_ (by omega)
  refine ⟨b, off, e, hB, fun i hi => ?_⟩
  have hi' : i < l.length := by rw [h.len_eq]; exact hi
  obtain ⟨cs, hl, ⟨rfl, _⟩, hj⟩ := hc i hi'
  have := hj 0 (by omega)
  simpa [List.getD, hi'] using this
theorem SliceRd.ints_wf {k : IntKind} {sz : Nat} {w : World} {A : Option Addr} {len cap : Nat} {l : List Int} (h : SliceRd sz (EInt k) w A len cap l) : ∀ x ∈ l, (Lit.int k x).wf = true := by
  intro x hx
  obtain ⟨i, hi, rfl⟩ := List.mem_iff_getElem.1 hx
  obtain ⟨cs, hcs⟩ := h.all i hi
  exact hcs.2
/-- What an argument is: its value's form, and what it reads as. -/
theorem slice_val {P : Program} {t e : TypeId} {α : Type} {E : World → List Value → α → Prop} {sz : Nat} (ho : Opens P t (ESlice sz E)) (ht : P.underlying t = some (.slice e)) {H : Type} {enc : TypeId × Value → H} {w : World} {v : Value} {d : DataW H} {ps : List MemPlace} {r : Reach} {base : Nat}
    (hv : Value.okWide P w r base t v) (h : DataW.Trod enc P w 0 (fun _ => true) true t v d ps) : ∃ A len cap l, v = .slice A len cap ∧ SliceRd sz E w A len cap l := by
  obtain ⟨A, len, cap, rfl⟩ := Go.WideShapes.okWide_slice ht hv
  obtain ⟨l, A', len', cap', e1, hl⟩ := ho.val h
  simp [Value.cells] at e1
  obtain ⟨rfl, rfl, rfl⟩ := e1
  exact ⟨_, _, _, l, rfl, hl⟩

/-! ### 's[k:]', 's[:k]', 's[k:j]' under one name for the address (else the walk parts on 'cap = k') -/
def cutAt (A : Option Addr) (cap l sz : Nat) : Option Addr := if cap = l then A else A.map (·.add (l * sz))
theorem run_from {P : Program} {t e : TypeId} {i : TypeInfo} (ht : P.underlying t = some (.slice e)) (hi : P.info? e = some i) (A : Option Addr) (n c k : Nat) (hk : k ≤ n) (w : World) :
    (Instr.slice t (.slice A n c) (some (.int .i64 (k : Int))) none none).run P w = .ok (.slice (cutAt A c k i.size) (n - k) (c - k)) w := by
  have h1 : (k : Int) ≤ (n : Int) := by omega
  simp [Instr.slice, run_underlying ht, Instr.sliceBounds, run_sliceBound, sizeOf, typeInfo, hi, cutAt, h1]
theorem Ints.cut {kd : IntKind} {w : World} {A : Option Addr} {len cap : Nat} {l : List Int} (h : Ints kd w A len l) {k : Nat} (hk : k ≤ len) (hcap : len ≤ cap) :
    Ints kd w (cutAt A cap k 1) (len - k) (l.drop k) := by
  have := h.drop hk hcap
  unfold cutAt
  simpa using this
end Go.Proofs.Ytedlfkklkoihjaa
