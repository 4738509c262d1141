/-
  Styles, nodes and trees as they lie in memory, and what a reading of each says. Written by a program of mine. No condition.
-/
import Derived.Test.YtedlfkklkoihjaaOp
import Derived.Test.YtedlfkklkoihjaaCom9
set_option linter.unusedVariables false
set_option linter.unusedSimpArgs false
namespace Go.Proofs.Ytedlfkklkoihjaa
open Go.RowKit Go.ChangeShapes Go.WideShapes

structure St where
  kind : Int
  flow : Bool
  float : Int
  clear : Int
  w : Int × Int
  h : Int × Int
  minw : Int × Int
  maxw : Int × Int
  minh : Int × Int
  maxh : Int × Int
  m0 : Int × Int
  m1 : Int × Int
  m2 : Int × Int
  m3 : Int × Int
  b0 : Int
  b1 : Int
  b2 : Int
  b3 : Int
  p0 : Int
  p1 : Int
  p2 : Int
  p3 : Int
  align : Int
  line : Int
  wrap : Bool
  justify : Int
  items : Int
  order : Int
  grow : Int
  shrink : Int
  basis : Int × Int
  uA : Option Addr
  uc : Nat
  units : List Int
structure Nd where
  parent : Int
  st : St
instance : Inhabited St := ⟨⟨0, false, 0, 0, (0, 0), (0, 0), (0, 0), (0, 0), (0, 0), (0, 0), (0, 0), (0, 0), (0, 0), (0, 0), 0, 0, 0, 0, 0, 0, 0, 0, 0, 0, false, 0, 0, 0, 0, 0, (0, 0), none, 0, []⟩⟩
instance : Inhabited Nd := ⟨⟨0, default⟩⟩
/-- A style's cells. -/
def scells (s : St) : List Value := [.int .u8 s.kind, .bool s.flow, .int .u8 s.float, .int .u8 s.clear, .int .u8 s.w.1, .int .i64 s.w.2, .int .u8 s.h.1, .int .i64 s.h.2, .int .u8 s.minw.1, .int .i64 s.minw.2, .int .u8 s.maxw.1, .int .i64 s.maxw.2, .int .u8 s.minh.1, .int .i64 s.minh.2, .int .u8 s.maxh.1, .int .i64 s.maxh.2, .int .u8 s.m0.1, .int .i64 s.m0.2, .int .u8 s.m1.1, .int .i64 s.m1.2, .int .u8 s.m2.1, .int .i64 s.m2.2, .int .u8 s.m3.1, .int .i64 s.m3.2, .int .i64 s.b0, .int .i64 s.b1, .int .i64 s.b2, .int .i64 s.b3, .int .i64 s.p0, .int .i64 s.p1, .int .i64 s.p2, .int .i64 s.p3, .int .u8 s.align, .int .i64 s.line, .bool s.wrap, .int .u8 s.justify, .int .u8 s.items, .int .i64 s.order, .int .i64 s.grow, .int .i64 s.shrink, .int .u8 s.basis.1, .int .i64 s.basis.2, .slice s.uA s.units.length s.uc]
def ncells (n : Nd) : List Value := .int .i64 n.parent :: scells n.st
/-- The numbers of a style are of their types. -/
structure St.Wf (s : St) : Prop where
  w0 : (Lit.int .u8 s.kind).wf = true
  w1 : (Lit.int .u8 s.float).wf = true
  w2 : (Lit.int .u8 s.clear).wf = true
  w3 : (Lit.int .u8 s.w.1).wf = true
  w4 : (Lit.int .i64 s.w.2).wf = true
  w5 : (Lit.int .u8 s.h.1).wf = true
  w6 : (Lit.int .i64 s.h.2).wf = true
  w7 : (Lit.int .u8 s.minw.1).wf = true
  w8 : (Lit.int .i64 s.minw.2).wf = true
  w9 : (Lit.int .u8 s.maxw.1).wf = true
  w10 : (Lit.int .i64 s.maxw.2).wf = true
  w11 : (Lit.int .u8 s.minh.1).wf = true
  w12 : (Lit.int .i64 s.minh.2).wf = true
  w13 : (Lit.int .u8 s.maxh.1).wf = true
  w14 : (Lit.int .i64 s.maxh.2).wf = true
  w15 : (Lit.int .u8 s.m0.1).wf = true
  w16 : (Lit.int .i64 s.m0.2).wf = true
  w17 : (Lit.int .u8 s.m1.1).wf = true
  w18 : (Lit.int .i64 s.m1.2).wf = true
  w19 : (Lit.int .u8 s.m2.1).wf = true
  w20 : (Lit.int .i64 s.m2.2).wf = true
  w21 : (Lit.int .u8 s.m3.1).wf = true
  w22 : (Lit.int .i64 s.m3.2).wf = true
  w23 : (Lit.int .i64 s.b0).wf = true
  w24 : (Lit.int .i64 s.b1).wf = true
  w25 : (Lit.int .i64 s.b2).wf = true
  w26 : (Lit.int .i64 s.b3).wf = true
  w27 : (Lit.int .i64 s.p0).wf = true
  w28 : (Lit.int .i64 s.p1).wf = true
  w29 : (Lit.int .i64 s.p2).wf = true
  w30 : (Lit.int .i64 s.p3).wf = true
  w31 : (Lit.int .u8 s.align).wf = true
  w32 : (Lit.int .i64 s.line).wf = true
  w33 : (Lit.int .u8 s.justify).wf = true
  w34 : (Lit.int .u8 s.items).wf = true
  w35 : (Lit.int .i64 s.order).wf = true
  w36 : (Lit.int .i64 s.grow).wf = true
  w37 : (Lit.int .i64 s.shrink).wf = true
  w38 : (Lit.int .u8 s.basis.1).wf = true
  w39 : (Lit.int .i64 s.basis.2).wf = true
theorem scells_len (s : St) : (scells s).length = 43 := rfl
theorem ncells_len (n : Nd) : (ncells n).length = 44 := rfl

theorem part {α : Type} {cs p : List α} {o k m : Nat} (h : (cs.drop o).take k = p) (e : o + k = m) : cs.drop o = p ++ cs.drop m := by
  rw [← h, ← e, ← List.drop_drop, List.take_append_drop]
/-- What a reading of a style says. -/
theorem st_of {w : World} {cs : List Value} {a} (h : E28 w cs a) : ∃ s : St, cs = scells s ∧ s.Wf ∧ SliceRd 1 (EInt .u16) w s.uA s.units.length s.uc s.units := by
  unfold E28 at h
  obtain ⟨hl, hkind, hflow, hfloat, hclear, hw, hh, hminw, hmaxw, hminh, hmaxh, hm, hb, hp, halign, hline, hwrap, hjustify, hitems, horder, hgrow, hshrink, hbasis, hunits⟩ := h

  obtain ⟨ekind, gkind⟩ := hkind
  have eflow := hflow; unfold EBool at eflow
  obtain ⟨efloat, gfloat⟩ := hfloat
  obtain ⟨eclear, gclear⟩ := hclear
  obtain ⟨ew, gw0, gw1⟩ := F23 hw
  obtain ⟨eh, gh0, gh1⟩ := F23 hh
  obtain ⟨eminw, gminw0, gminw1⟩ := F23 hminw
  obtain ⟨emaxw, gmaxw0, gmaxw1⟩ := F23 hmaxw
  obtain ⟨eminh, gminh0, gminh1⟩ := F23 hminh
  obtain ⟨emaxh, gmaxh0, gmaxh1⟩ := F23 hmaxh
  obtain ⟨em, gm0, gm1, gm2, gm3, gm4, gm5, gm6, gm7⟩ := F24 hm
  obtain ⟨eb, gb0, gb1, gb2, gb3⟩ := F25 hb
  obtain ⟨ep, gp0, gp1, gp2, gp3⟩ := F25 hp
  obtain ⟨ealign, galign⟩ := halign
  obtain ⟨eline, gline⟩ := hline
  have ewrap := hwrap; unfold EBool at ewrap
  obtain ⟨ejustify, gjustify⟩ := hjustify
  obtain ⟨eitems, gitems⟩ := hitems
  obtain ⟨eorder, gorder⟩ := horder
  obtain ⟨egrow, ggrow⟩ := hgrow
  obtain ⟨eshrink, gshrink⟩ := hshrink
  obtain ⟨ebasis, gbasis0, gbasis1⟩ := F23 hbasis
  obtain ⟨uA, un, uc, eunits, hu⟩ := hunits
  have jkind := part ekind (m := 1) rfl
  have jflow := part eflow (m := 2) rfl
  have jfloat := part efloat (m := 3) rfl
  have jclear := part eclear (m := 4) rfl
  have jw := part ew (m := 6) rfl
  have jh := part eh (m := 8) rfl
  have jminw := part eminw (m := 10) rfl
  have jmaxw := part emaxw (m := 12) rfl
  have jminh := part eminh (m := 14) rfl
  have jmaxh := part emaxh (m := 16) rfl
  have jm := part em (m := 24) rfl
  have jb := part eb (m := 28) rfl
  have jp := part ep (m := 32) rfl
  have jalign := part ealign (m := 33) rfl
  have jline := part eline (m := 34) rfl
  have jwrap := part ewrap (m := 35) rfl
  have jjustify := part ejustify (m := 36) rfl
  have jitems := part eitems (m := 37) rfl
  have jorder := part eorder (m := 38) rfl
  have jgrow := part egrow (m := 39) rfl
  have jshrink := part eshrink (m := 40) rfl
  have jbasis := part ebasis (m := 42) rfl
  have junits := part eunits (m := 43) rfl
  have jend : cs.drop 43 = [] := List.drop_of_length_le (by omega)
  have jall := (List.drop_zero (l := cs)).symm.trans jkind
  rw [jflow, jfloat, jclear, jw, jh, jminw, jmaxw, jminh, jmaxh, jm, jb, jp, jalign, jline, jwrap, jjustify, jitems, jorder, jgrow, jshrink, jbasis, junits, jend] at jall
  have hul := hu.len_eq
  refine ⟨⟨a.1, a.2.1, a.2.2.1, a.2.2.2.1, a.2.2.2.2.1, a.2.2.2.2.2.1, a.2.2.2.2.2.2.1, a.2.2.2.2.2.2.2.1, a.2.2.2.2.2.2.2.2.1, a.2.2.2.2.2.2.2.2.2.1, a.2.2.2.2.2.2.2.2.2.2.1.1, a.2.2.2.2.2.2.2.2.2.2.1.2.1, a.2.2.2.2.2.2.2.2.2.2.1.2.2.1, a.2.2.2.2.2.2.2.2.2.2.1.2.2.2, a.2.2.2.2.2.2.2.2.2.2.2.1.1, a.2.2.2.2.2.2.2.2.2.2.2.1.2.1, a.2.2.2.2.2.2.2.2.2.2.2.1.2.2.1, a.2.2.2.2.2.2.2.2.2.2.2.1.2.2.2, a.2.2.2.2.2.2.2.2.2.2.2.2.1.1, a.2.2.2.2.2.2.2.2.2.2.2.2.1.2.1, a.2.2.2.2.2.2.2.2.2.2.2.2.1.2.2.1, a.2.2.2.2.2.2.2.2.2.2.2.2.1.2.2.2, a.2.2.2.2.2.2.2.2.2.2.2.2.2.1, a.2.2.2.2.2.2.2.2.2.2.2.2.2.2.1, a.2.2.2.2.2.2.2.2.2.2.2.2.2.2.2.1, a.2.2.2.2.2.2.2.2.2.2.2.2.2.2.2.2.1, a.2.2.2.2.2.2.2.2.2.2.2.2.2.2.2.2.2.1, a.2.2.2.2.2.2.2.2.2.2.2.2.2.2.2.2.2.2.1, a.2.2.2.2.2.2.2.2.2.2.2.2.2.2.2.2.2.2.2.1, a.2.2.2.2.2.2.2.2.2.2.2.2.2.2.2.2.2.2.2.2.1, a.2.2.2.2.2.2.2.2.2.2.2.2.2.2.2.2.2.2.2.2.2.1, uA, uc, a.2.2.2.2.2.2.2.2.2.2.2.2.2.2.2.2.2.2.2.2.2.2⟩, jall.trans (by simp [scells, hul]), ⟨gkind, gfloat, gclear, gw0, gw1, gh0, gh1, gminw0, gminw1, gmaxw0, gmaxw1, gminh0, gminh1, gmaxh0, gmaxh1, gm0, gm1, gm2, gm3, gm4, gm5, gm6, gm7, gb0, gb1, gb2, gb3, gp0, gp1, gp2, gp3, galign, gline, gjustify, gitems, gorder, ggrow, gshrink, gbasis0, gbasis1⟩, ?_⟩
  simp only [hul]
  exact hu

abbrev nd0 : Nd := default
/-- A tree: its nodes, its advances. -/
structure Trd (w : World) (A : Option Addr) (n : Nat) (D : Option Addr) (m : Nat) (L : List Nd) (adv : List Int) : Prop where
  nodes : Els ncells nd0 44 w A n L
  advs : Ints .i64 w D m adv
  units : ∀ i, i < n → Ints .u16 w (L.getD i nd0).st.uA (L.getD i nd0).st.units.length (L.getD i nd0).st.units
/-- What is known of its numbers. -/
structure TrWf (n c m d : Nat) (L : List Nd) (adv : List Int) (v : Int) : Prop where
  nc : n ≤ c
  cmax : c ≤ maxLen
  md : m ≤ d
  dmax : d ≤ maxLen
  adv : ∀ x ∈ adv, (Lit.int .i64 x).wf = true
  view : (Lit.int .i64 v).wf = true
  parent : ∀ i, i < n → (Lit.int .i64 (L.getD i nd0).parent).wf = true
  st : ∀ i, i < n → (L.getD i nd0).st.Wf
  uwf : ∀ i, i < n → ∀ x ∈ (L.getD i nd0).st.units, (Lit.int .u16 x).wf = true
  ulen : ∀ i, i < n → (L.getD i nd0).st.units.length ≤ (L.getD i nd0).st.uc ∧ (L.getD i nd0).st.uc ≤ maxLen
theorem Trd.mono {w w' : World} {A D : Option Addr} {n m : Nat} {L : List Nd} {adv : List Int} (h : Trd w A n D m L adv) (hb : Below w.heap.size w w') : Trd w' A n D m L adv :=
  ⟨h.nodes.mono hb, h.advs.mono hb, fun i hi => (h.units i hi).mono hb⟩
theorem Trd.up {w0 : World} {A D : Option Addr} {n m : Nat} {L : List Nd} {adv : List Int} (h : Trd w0 A n D m L adv) (x : Up w0) : Trd x.w A n D m L adv := h.mono x.ok
end Go.Proofs.Ytedlfkklkoihjaa
