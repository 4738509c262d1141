/-
  A region that draws its order, whose operations read what was there before and whose calls make memory at most: one walk in the order of the text. No condition.
-/
import Derived.Test.YtedlfkklkoihjaaCom3
set_option linter.unusedVariables false
set_option linter.unusedSimpArgs false
namespace Go.Proofs.Ytedlfkklkoihjaa
open Go.RowKit

/-- The worlds above w0: everything that was there is as it was. -/
structure Up (w0 : World) where
  w : World
  ok : Below w0.heap.size w0 w
instance (w0 : World) : Nonempty (Up w0) := ⟨⟨w0, Below.refl _ _⟩⟩
theorem wp_region_up {P : Program} {id : Nat} {Q : Exit → Act → World → Prop} {a : Act} {w : World} {l : List Oper} (hm : P.follows .mixedOrders = true) (hB : Region.lexB .any l.toArray = true)
    (h : wpQuiet P l.toArray (fun w' => ∃ x : Up w, w' = x.w) (fun a' => ∀ w', Below w.heap.size w w' → Q .normal a' w') l a) : (Code.region id l.toArray true).wp P Q a w := by
  refine wp_region_quiet (C := fun w' => ∃ x : Up w, w' = x.w) hm hB ⟨⟨w.drew, (Below.refl _ _).drew⟩, rfl⟩ ?_
  have e : (fun a' => ∀ w', (∃ x : Up w, w' = x.w) → Q .normal a' w') = (fun a' => ∀ w', Below w.heap.size w w' → Q .normal a' w') := by
    funext a'
    apply propext
    exact ⟨fun h w' hb => h w' ⟨⟨w', hb⟩, rfl⟩, fun h w' ⟨x, hx⟩ => hx ▸ h _ x.ok⟩
  rw [e]
  simpa using h
theorem up_cell {w0 : World} (x : Up w0) {p : Addr} {v : Value} (h : w0.cell? p = some v) : x.w.cell? p = some v := (x.ok.cell (cell_lt h)).trans h
/-- At a call: the contract in whatever world above. -/
theorem up_call {P : Program} {f : FuncId} {args : Array Value} {w0 : World} {v : Value} {x : Up w0}
    (h : Calls P f args x.w fun e w' => e = .returned v ∧ Below x.w.heap.size x.w w') : Calls P f args x.w fun e w'' => e = .returned v ∧ ∃ y : Up w0, w'' = y.w :=
  h.mono fun _ w' ⟨he, hb⟩ => ⟨he, ⟨w', Below_same x.ok hb⟩, rfl⟩
theorem up_call_same {P : Program} {f : FuncId} {args : Array Value} {w0 : World} {v : Value} {x : Up w0}
    (h : Calls P f args x.w fun e w' => e = .returned v ∧ x.w = w') : Calls P f args x.w fun e w'' => e = .returned v ∧ ∃ y : Up w0, w'' = y.w :=
  h.mono fun _ _ ⟨he, hb⟩ => ⟨he, x, hb.symm⟩
theorem Ints.up {kd : IntKind} {w0 : World} {A : Option Addr} {n : Nat} {l : List Int} (h : Ints kd w0 A n l) (x : Up w0) : Ints kd x.w A n l := h.mono x.ok
theorem Els.up {α : Type} {f : α → List Value} {d : α} {sz : Nat} {w0 : World} {A : Option Addr} {n : Nat} {l : List α} (h : Els f d sz w0 A n l) (x : Up w0) : Els f d sz x.w A n l := h.mono x.ok
end Go.Proofs.Ytedlfkklkoihjaa
