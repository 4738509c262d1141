/-
  The reach of a slice that came in. No condition.
-/
import Derived.Test.YtelinfnhihmjeaaCom
import Derived.SizedLaws
set_option linter.unusedVariables false
set_option linter.unusedSimpArgs false
namespace Go.Proofs.Ytelinfnhihmjeaa
theorem slice_reach {P : Program} {t e : TypeId} (ht : P.underlying t = some (.slice e)) {H : Type} {enc : TypeId × Value → H} {w : World} {A : Option Addr} {n c b : Nat} {d : DataW H} {ps : List MemPlace}
    (h : DataW.Trod enc P w 0 (fun _ => true) true t (.slice A n c) d ps) {ts : List TypeId} {ds : List (DataW H)} {j : Nat} (hsz : (DataW.weightsEach P ts ds).all (· ≤ reachBytes) = true)
    (h1 : ts[j]? = some t) (h2 : ds[j]? = some d) (hb : P.bytesOf e = b) : c * b ≤ 140737488351232 := by
  obtain ⟨fuel, hf⟩ := h
  rcases Go.Deep.open_slice ht hf with ⟨hcs, _⟩ | ⟨a, len, cap, m, k, D, Pl, hcs, _, hl, _, hmm, hx, _⟩
  · simp [Value.cells] at hcs
    obtain ⟨_, _, rfl⟩ := hcs
    omega
  · simp [Value.cells] at hcs
    obtain ⟨_, rfl, rfl⟩ := hcs
    simp only [Prod.mk.injEq] at hx
    obtain ⟨rfl, _⟩ := hx
    have := sized_slice hsz h1 h2 ht
    simp only [if_true] at hmm
    rw [hb] at this
    simp only [List.length_map, List.length_range, reachBytes] at this
    rw [show n + (m - n) = c by omega] at this
    exact this
end Go.Proofs.Ytelinfnhihmjeaa
