/-
  The sums of sides, across and down (edges.Across). No condition.
-/
import Derived.Test.YtfhbndfhmphnaaaX2
import Derived.Deep.RegionLaw
set_option linter.unusedVariables false
set_option linter.unusedSimpArgs false
namespace Go.Proofs.Ytfhbndfhmphnaaa
open Go.RowKit Go.BigFrame

section
variable {P : Program} (w : World)
theorem step_append_src2 {ops : Array Oper} {o : Oper} {a : Act} {K : Act → World → Prop} {Q : Exit → Act → World → Prop} {E : Prop} (hgd : o.guard = none) (s x : Operand) (t : TypeId)
    (ho : o.op = .call { callee := .builtin .append, args := #[s, x], argTypes := #[t, t] })
    (base : Nat) (e : TypeId) (i : TypeInfo) (z : Value) (size bytes : Nat) (ht : P.underlying t = some (.slice e)) (hi : P.info? e = some i) (hz : i.zero = some z)
    (hsize : i.size = size) (hby : i.bytes = bytes) (hzs : z.cells.size = size) (hsz : 0 < size) (v : Value) (n : Nat) (xs : List Value) (hs : a.eval s = v) (hown : w.ownsRow base e size v n xs)
    (A : Option Addr) (m c : Nat) (news : List Value) (hx : a.eval x = .slice A m c) (hr : Src w A (m * size) news) (h1 : ∀ u ∈ news, u.oneCell' = true)
    (h63 : n + m ≤ maxLen) (hbytes : (n + m) * bytes ≤ 140737488355328) (hbase : base ≤ w.heap.size) (hty : o.type = t)
    (h : ∀ v' w', w'.ownsRow base e size v' (n + m) (xs ++ news) → w.grownBy w' v.ownBlock → (v'.ownBlock = v.ownBlock ∨ v'.ownBlock = some w.heap.size) → K (a.put o.dst v') w') :
    if Region.wanted o (yielded ops a.tmps) = true then Oper.wp P o a w K Q else E := by
  have hw : Region.wanted o (yielded ops a.tmps) = true := by simp [Region.wanted, hgd]
  rw [if_pos hw]
  obtain ⟨v', w', hrun, h2, h3, h4⟩ := run_append_src (P := P) w base t o.type e i z size bytes ht hi hz hsize hby hzs hsz v n xs hown A m c news hr h1 h63 hbytes hbase
  unfold Oper.wp execOp
  simp only [ho, resolve, invoke, builtin, Sem.run_bind, Sem.run_pure, Result.andThen_ok, List.map_toArray, List.map_cons, List.map_nil, hs, hx, hrun]
  exact h v' w' h2 h3 h4
end
def pairs (f g : Q4 → Int) (l : List Q4) : List Int := l.flatMap fun q => [f q, g q]
theorem pairs_step (f g : Q4 → Int) (l : List Q4) (j : Nat) (h : j < l.length) : pairs f g (l.take (j + 1)) = pairs f g (l.take j) ++ [f (l.getD j q0), g (l.getD j q0)] := by
  unfold pairs
  rw [List.take_succ_eq_append_getElem h, List.flatMap_append]
  simp [List.getD, h]
theorem pairs_len (f g : Q4 → Int) : ∀ l : List Q4, (pairs f g l).length = 2 * l.length
  | [] => rfl
  | q :: l => by
    have := pairs_len f g l
    simp only [pairs, List.flatMap_cons, List.length_append, List.length_cons, List.length_nil] at this ⊢
    omega
theorem pairs_wf {f g : Q4 → Int} {l : List Q4} (hf : ∀ q ∈ l, (Lit.int .i64 (f q)).wf = true) (hg : ∀ q ∈ l, (Lit.int .i64 (g q)).wf = true) : ∀ x ∈ pairs f g l, (Lit.int .i64 x).wf = true := by
  intro x hx
  obtain ⟨q, hq, hx⟩ := List.mem_flatMap.1 hx
  simp at hx
  rcases hx with rfl | rfl
  · exact hf q hq
  · exact hg q hq
def wideL (l : List Q4) : List Int := pairs Q4.d Q4.b l
def highL (l : List Q4) : List Int := pairs Q4.a Q4.c l
theorem wide_wf {l : List Q4} (h : ∀ q ∈ l, q.ok) : ∀ x ∈ wideL l, (Lit.int .i64 x).wf = true := pairs_wf (fun q hq => i64_wf2 (h q hq).d) (fun q hq => i64_wf2 (h q hq).b)
theorem high_wf {l : List Q4} (h : ∀ q ∈ l, q.ok) : ∀ x ∈ highL l, (Lit.int .i64 x).wf = true := pairs_wf (fun q hq => i64_wf2 (h q hq).a) (fun q hq => i64_wf2 (h q hq).c)
theorem own_far2 {w w' : World} {base : Nat} {e : TypeId} {size n : Nat} {v : Value} {xs : List Value} {row : Option Nat} (h : w.ownsRow base e size v n xs) (hg : w.grownBy w' row) (hne : ∀ b, v.ownBlock = some b → row ≠ some b) : w'.ownsRow base e size v n xs := own_grown h hg hne
theorem Blk_new2 {w : World} {g : Nat} {t : TypeId} {cs : Array Value} (h : w.heap.size = g) : Blk (w.alloc (.cells cs t)) g t cs := h ▸ Blk_new w t cs
theorem Src_blk {w : World} {g : Nat} {t : TypeId} {cs : Array Value} (h : Blk w g t cs) (k : Nat) (hk : cs.size = k) : Src w (some ⟨g, 0, none⟩) k cs.toList :=
  ⟨by simpa using hk, fun _ => ⟨_, rfl, World.news_of_block (cs := cs) (t := t) (fr := (0, 0)) h⟩⟩
theorem S4 {w : World} {g : Nat} {t : TypeId} {x y z u : Int} (h : Blk w g t #[.int .i64 x, .int .i64 y, .int .i64 z, .int .i64 u]) :
    w.cell? ⟨g, 0, none⟩ = some (.int .i64 x) ∧ w.cell? ⟨g, 1, none⟩ = some (.int .i64 y) ∧ w.cell? ⟨g, 2, none⟩ = some (.int .i64 z) ∧ w.cell? ⟨g, 3, none⟩ = some (.int .i64 u) :=
  ⟨Blk_cell h 0, Blk_cell h 1, Blk_cell h 2, Blk_cell h 3⟩
theorem one2 {a b : Int} : ∀ u ∈ [Value.int .i64 a, Value.int .i64 b], u.oneCell' = true := by simp [Value.oneCell']
set_option maxRecDepth 20000 in
set_option maxHeartbeats 8000000 in
theorem across_any (w : World) {A : Option Addr} {n c : Nat} {l : List Q4} (h : Els qc q0 4 w A n l) (hok : ∀ q ∈ l, q.ok) (hn : n ≤ 65536) :
    Calls Try.prog 12 #[.slice A n c] w fun e w' => e = .returned (.tuple #[.int .i64 (cutV (wideL l).sum), .int .i64 (cutV (highL l).sum), .bool (cutB (wideL l).sum || cutB (highL l).sum)]) ∧ Below w.heap.size w w' := by
  obtain ⟨i0, hi0, hz0, hz1, hz2⟩ := info_parts iL
  have hl := h.len_eq
  have HOK := Lib.hid hok
  clear hok
  go_enter Try.func12, Try.ntmps12
  go_wp2_with fail
  go_loopw [5, 6, 8, 13, 14, 15, 16, 17, 18, 19, 20, 21, 22, 23, 24, 25, 26, 27, 28, 29, 30, 31] (fun v u _ i _ _ _ _ _ _ _ _ _ _ _ _ _ _ _ _ _ _ wr => ∃ j : Nat, j ≤ n ∧ i = .int .i64 j ∧ Below w.heap.size w wr ∧ wr.ownsRow w.heap.size 2 1 v (2 * j) ((wideL (l.take j)).map (Value.int .i64)) ∧ wr.ownsRow w.heap.size 2 1 u (2 * j) ((highL (l.take j)).map (Value.int .i64)) ∧ (∀ b, v.ownBlock = some b → u.ownBlock ≠ some b)) (fun _ _ _ i _ _ _ _ _ _ _ _ _ _ _ _ _ _ _ _ _ _ _ => n - (intOf i).toNat)
  case atStart => exact ⟨0, Nat.zero_le _, rfl, Below.refl _ _, World.ownsRow_nil _ _ _ _, World.ownsRow_nil _ _ _ _, fun b hb => by cases hb⟩
  case round =>
    obtain ⟨j, hj, rfl, hbw, hW, hH, hne⟩ := hrel
    have hbs := hbw.size
    by_cases hjn : j < n
    · obtain ⟨b, off, rfl, hB, hc⟩ := h.at_ (by omega)
      have c0 : wr.cell? ⟨b, off + j * 4, none⟩ = _ := (hbw.cell hB).trans (hc j hjn 0 (by omega))
      have c1 : wr.cell? ⟨b, off + j * 4 + 1, none⟩ = _ := (hbw.cell hB).trans (hc j hjn 1 (by omega))
      have c2 : wr.cell? ⟨b, off + j * 4 + 2, none⟩ = _ := (hbw.cell hB).trans (hc j hjn 2 (by omega))
      have c3 : wr.cell? ⟨b, off + j * 4 + 3, none⟩ = _ := (hbw.cell hB).trans (hc j hjn 3 (by omega))
      have hst := And.intro (pairs_step Q4.d Q4.b l j (by omega)) (pairs_step Q4.a Q4.c l j (by omega))
      generalize l.getD j q0 = q at *
      obtain ⟨x, y, z, t⟩ := q
      simp only [qc, List.getElem?_cons_zero, List.getElem?_cons_succ] at c0 c1 c2 c3
      have HST := Lib.hid hst
      clear hc hst
      go_wp2_with fail
      obtain ⟨ws, hws⟩ : ∃ ws, wr.alloc (.cells #[.int .i64 x, .int .i64 y, .int .i64 z, .int .i64 t] 24) = ws := ⟨_, rfl⟩
      have hS := Blk_new wr 24 #[.int .i64 x, .int .i64 y, .int .i64 z, .int .i64 t]
      have hbS : Below w.heap.size w (wr.alloc (.cells #[.int .i64 x, .int .i64 y, .int .i64 z, .int .i64 t] 24)) := hbw.alloc hbw.size _
      have HWL := Lib.hid (fun b h => hW.lt b h)
      have HHL := Lib.hid (fun b h => hH.lt b h)
      replace hW := hW.alloc (.cells #[.int .i64 x, .int .i64 y, .int .i64 z, .int .i64 t] 24)
      replace hH := hH.alloc (.cells #[.int .i64 x, .int .i64 y, .int .i64 z, .int .i64 t] 24)
      rw [hws] at hS hbS hW hH
      simp only [hws]
      have s0 := Blk_cell hS 0
      have s1 := Blk_cell hS 1
      have s2 := Blk_cell hS 2
      have s3 := Blk_cell hS 3
      have hbss := hbS.size
      have HNE := Lib.hid hne
      have s0a := fun o => Blk_cell (Blk_alloc hS o) 0
      have s1a := fun o => Blk_cell (Blk_alloc hS o) 1
      have s2a := fun o => Blk_cell (Blk_alloc hS o) 2
      have s3a := fun o => Blk_cell (Blk_alloc hS o) 3
      have hsw : wr.heap.size < ws.heap.size := Blk_lt hS
      have hb8 : 0 < 1 := by omega
      have hm2 : 2 * j + 2 ≤ maxLen := by unfold maxLen; omega
      have hb2 : (2 * j + 2) * 8 ≤ 140737488355328 := by omega
      have hW1 := own_drew (hW.alloc (.cells #[.int .i64 t, .int .i64 y] 2))
      have hH1 := own_drew (hH.alloc (.cells #[.int .i64 t, .int .i64 y] 2))
      have hS1 := Blk_drew (Blk_alloc hS (.cells #[.int .i64 t, .int .i64 y] 2))
      have hW2 := own_drew ((hW.alloc (.cells #[.int .i64 t, .int .i64 y] 2)).alloc (.cells #[.int .i64 x, .int .i64 z] 2))
      have hH2 := own_drew ((hH.alloc (.cells #[.int .i64 t, .int .i64 y] 2)).alloc (.cells #[.int .i64 x, .int .i64 z] 2))
      have hS2 := Blk_drew (Blk_alloc (Blk_alloc hS (.cells #[.int .i64 t, .int .i64 y] 2)) (.cells #[.int .i64 x, .int .i64 z] 2))
      have hW3 := own_drew ((hW.alloc (.cells #[.int .i64 x, .int .i64 z] 2)).alloc (.cells #[.int .i64 t, .int .i64 y] 2))
      have hH3 := own_drew ((hH.alloc (.cells #[.int .i64 x, .int .i64 z] 2)).alloc (.cells #[.int .i64 t, .int .i64 y] 2))
      have hS3 := Blk_drew (Blk_alloc (Blk_alloc hS (.cells #[.int .i64 x, .int .i64 z] 2)) (.cells #[.int .i64 t, .int .i64 y] 2))
      have hR1 : Src (ws.alloc (.cells #[.int .i64 t, .int .i64 y] 2)).drew (some ⟨ws.heap.size, 0, none⟩) (2 * 1) [.int .i64 t, .int .i64 y] := Src_blk (Blk_drew (Blk_new ws 2 #[.int .i64 t, .int .i64 y])) 2 rfl
      have hR2 : Src ((ws.alloc (.cells #[.int .i64 t, .int .i64 y] 2)).alloc (.cells #[.int .i64 x, .int .i64 z] 2)).drew (some ⟨ws.heap.size, 0, none⟩) (2 * 1) [.int .i64 t, .int .i64 y] := Src_blk (Blk_drew (Blk_alloc (Blk_new ws 2 #[.int .i64 t, .int .i64 y]) _)) 2 rfl
      have hR3 : Src ((ws.alloc (.cells #[.int .i64 x, .int .i64 z] 2)).alloc (.cells #[.int .i64 t, .int .i64 y] 2)).drew (some ⟨ws.heap.size + 1, 0, none⟩) (2 * 1) [.int .i64 t, .int .i64 y] := Src_blk (Blk_drew (Blk_new2 (w := ws.alloc (.cells #[.int .i64 x, .int .i64 z] 2)) (t := 2) (cs := #[.int .i64 t, .int .i64 y]) (by simp))) 2 rfl
      have hB2 := Blk_drew (Blk_new2 (w := ws.alloc (.cells #[.int .i64 t, .int .i64 y] 2)) (g := ws.heap.size + 1) (t := 2) (cs := #[.int .i64 x, .int .i64 z]) (by simp))
      have hB3 := Blk_drew (Blk_alloc (Blk_new ws 2 #[.int .i64 x, .int .i64 z]) (.cells #[.int .i64 t, .int .i64 y] 2))
      clear hne c0 c1 c2 c3
      go_region_held3 (fun w' => w'.cell? ⟨wr.heap.size, 0, none⟩ = some (.int .i64 x) ∧ w'.cell? ⟨wr.heap.size, 1, none⟩ = some (.int .i64 y) ∧ w'.cell? ⟨wr.heap.size, 2, none⟩ = some (.int .i64 z) ∧ w'.cell? ⟨wr.heap.size, 3, none⟩ = some (.int .i64 t))
        (first
          | (with_reducible assumption)
          | exact S4 (t := 24) (by (repeat' (first | (with_reducible exact hS30) | (with_reducible exact hS23) | (with_reducible exact hS) | (with_reducible refine Blk_drew ?_) | (with_reducible refine Blk_alloc ?_ _)))))
        (first
          | ((refine step_append_src2 _ rfl (.tmp 17) (.tmp 22) 46 rfl w.heap.size 2 i0 _ 1 8 Try.underlying46 hi0 hz0 hz1 hz2 rfl hb8 u5 (2 * j) ((wideL (l.take j)).map (Value.int .i64)) rfl hW1 (some ⟨ws.heap.size, 0, none⟩) 2 2 [.int .i64 t, .int .i64 y] rfl hR1 one2 hm2 hb2 (by first | omega | (simp; omega)) rfl ?_); intro v23 w23 hown23 hg23 hat23; have hH23 := own_grown hH1 hg23 (fun b hb he => HNE.out b he hb); have hS23 := Blk_grown hS1 hg23 (fun he => by have := (HWL.out _ he.symm).2; omega); have hb23 := hg23.size; simp only [World.size_alloc, World.size_drew] at hb23 hat23; skip)
          | ((refine step_append_src2 _ rfl (.tmp 17) (.tmp 22) 46 rfl w.heap.size 2 i0 _ 1 8 Try.underlying46 hi0 hz0 hz1 hz2 rfl hb8 u5 (2 * j) ((wideL (l.take j)).map (Value.int .i64)) rfl hW2 (some ⟨ws.heap.size, 0, none⟩) 2 2 [.int .i64 t, .int .i64 y] rfl hR2 one2 hm2 hb2 (by first | omega | (simp; omega)) rfl ?_); intro v23 w23 hown23 hg23 hat23; have hH23 := own_grown hH2 hg23 (fun b hb he => HNE.out b he hb); have hS23 := Blk_grown hS2 hg23 (fun he => by have := (HWL.out _ he.symm).2; omega); have hb23 := hg23.size; simp only [World.size_alloc, World.size_drew] at hb23 hat23; have hB29 := Src_blk (Blk_grown hB2 hg23 (fun he => by have := (HWL.out _ he.symm).2; omega)) 2 rfl)
          | ((refine step_append_src2 _ rfl (.tmp 17) (.tmp 22) 46 rfl w.heap.size 2 i0 _ 1 8 Try.underlying46 hi0 hz0 hz1 hz2 rfl hb8 u5 (2 * j) ((wideL (l.take j)).map (Value.int .i64)) rfl hW3 (some ⟨ws.heap.size + 1, 0, none⟩) 2 2 [.int .i64 t, .int .i64 y] rfl hR3 one2 hm2 hb2 (by first | omega | (simp; omega)) rfl ?_); intro v23 w23 hown23 hg23 hat23; have hH23 := own_grown hH3 hg23 (fun b hb he => HNE.out b he hb); have hS23 := Blk_grown hS3 hg23 (fun he => by have := (HWL.out _ he.symm).2; omega); have hb23 := hg23.size; simp only [World.size_alloc, World.size_drew] at hb23 hat23; have hB29 := Src_blk (Blk_grown hB3 hg23 (fun he => by have := (HWL.out _ he.symm).2; omega)) 2 rfl)
          | ((refine step_append_src2 _ rfl (.tmp 24) (.tmp 29) 46 rfl w.heap.size 2 i0 _ 1 8 Try.underlying46 hi0 hz0 hz1 hz2 rfl hb8 u6 (2 * j) ((highL (l.take j)).map (Value.int .i64)) rfl (hH23.alloc _) (some ⟨w23.heap.size, 0, none⟩) 2 2 [.int .i64 x, .int .i64 z] rfl (Src_new w23 2 #[.int .i64 x, .int .i64 z] 2 rfl) one2 hm2 hb2 (by first | omega | (simp; omega)) rfl ?_); intro v30 w30 hown30 hg30 hat30; have hS30 := Blk_grown (Blk_alloc hS23 _) hg30 (fun he => by have := (HHL.out _ he.symm).2; omega); have hb30 := hg30.size; (try simp only [World.size_alloc, World.size_drew] at hb30 hat30))
          | ((refine step_append_src2 _ rfl (.tmp 24) (.tmp 29) 46 rfl w.heap.size 2 i0 _ 1 8 Try.underlying46 hi0 hz0 hz1 hz2 rfl hb8 u6 (2 * j) ((highL (l.take j)).map (Value.int .i64)) rfl hH23 (some ⟨ws.heap.size + 1, 0, none⟩) 2 2 [.int .i64 x, .int .i64 z] rfl hB29 one2 hm2 hb2 (by first | omega | (simp; omega)) rfl ?_); intro v30 w30 hown30 hg30 hat30; have hS30 := Blk_grown hS23 hg30 (fun he => by have := (HHL.out _ he.symm).2; omega); have hb30 := hg30.size; (try simp only [World.size_alloc, World.size_drew] at hb30 hat30))
          | ((refine step_append_src2 _ rfl (.tmp 24) (.tmp 29) 46 rfl w.heap.size 2 i0 _ 1 8 Try.underlying46 hi0 hz0 hz1 hz2 rfl hb8 u6 (2 * j) ((highL (l.take j)).map (Value.int .i64)) rfl hH23 (some ⟨ws.heap.size, 0, none⟩) 2 2 [.int .i64 x, .int .i64 z] rfl hB29 one2 hm2 hb2 (by first | omega | (simp; omega)) rfl ?_); intro v30 w30 hown30 hg30 hat30; have hS30 := Blk_grown hS23 hg30 (fun he => by have := (HHL.out _ he.symm).2; omega); have hb30 := hg30.size; (try simp only [World.size_alloc, World.size_drew] at hb30 hat30)))
      all_goals
        have ne6 : ∀ b, v23.ownBlock = some b → u6.ownBlock ≠ some b := fun b hb he => by
          rcases hat23 with e | e
          · rw [e] at hb; exact HNE.out b hb he
          · rw [e] at hb; injection hb with hb; have := (HHL.out b he).2; omega
        have ne30 : ∀ b, v23.ownBlock = some b → v30.ownBlock ≠ some b := fun b hb => by
          rcases hat30 with e | e
          · rw [e]; exact ne6 b hb
          · rw [e]; intro he; injection he with he; have := (hown23.lt b hb).2; omega
        have hW30 := by first | exact own_grown (hown23.alloc _) hg30 (fun b hb => fun he => ne6 b hb he) | exact own_grown hown23 hg30 (fun b hb => fun he => ne6 b hb he)
        have hbw23 : Below w.heap.size w w23 := Below.grown (by (repeat' (first | (with_reducible exact Below.refl _ _) | (with_reducible assumption) | (with_reducible refine Below.alloc ?_ ?_ _) | (with_reducible refine Below.drew ?_) | (with_reducible refine Below_drewN ?_ _) | (with_reducible refine Below.setCell ?_ ?_ _) | go_size))) hg23 (by simp; omega) (fun k hk => (HWL.out k hk).1)
        have hbw30 : Below w.heap.size w w30 := by first | exact Below.grown (hbw23.alloc hbw23.size _) hg30 (by simp; omega) (fun k hk => (HHL.out k hk).1) | exact Below.grown hbw23 hg30 (by omega) (fun k hk => (HHL.out k hk).1)
        have e1 : (wideL (l.take (j + 1))).map (Value.int .i64) = (wideL (l.take j)).map (Value.int .i64) ++ [.int .i64 t, .int .i64 y] := by unfold wideL; rw [HST.out.1, List.map_append]; rfl
        have e2 : (highL (l.take (j + 1))).map (Value.int .i64) = (highL (l.take j)).map (Value.int .i64) ++ [.int .i64 x, .int .i64 z] := by unfold highL; rw [HST.out.2, List.map_append]; rfl
        rw [← e1] at hW30
        rw [← e2] at hown30
        have HQ := Lib.hid (And.intro hW30 (And.intro hown30 (And.intro ne30 hbw30)))
        clear ne6 ne30 hW30 hbw23 hbw30 e1 e2 hat23 hat30 hown23 hown30 hg23 hg30 hH23 hS23 hS30
        go_wp2_with fail
        go_roundw
        case rel => exact ⟨j + 1, by omega, by go_num, HQ.out.2.2.2, HQ.out.1, HQ.out.2.1, HQ.out.2.2.1⟩
        case measure => simp [intOf]; omega
    · obtain rfl : j = n := by omega
      rw [List.take_of_length_le (by omega)] at hW hH
      obtain ⟨G0, g0, rfl, _, _⟩ := own_slice hW
      obtain ⟨G1, g1, rfl, _, _⟩ := own_slice hH
      have s1 := sum_any (c := g0) wr (Ints_of_own hW) (wide_wf HOK.out) (by omega)
      have s2 := fun (w' : World) (h : Below wr.heap.size wr w') => sum_any (c := g1) w' ((Ints_of_own hH).mono h) (high_wf HOK.out) (by omega)
      obtain ⟨V1, e1⟩ : ∃ x, cutV (wideL l).sum = x := ⟨_, rfl⟩
      obtain ⟨B1, e2⟩ : ∃ x, cutB (wideL l).sum = x := ⟨_, rfl⟩
      obtain ⟨V2, e3⟩ : ∃ x, cutV (highL l).sum = x := ⟨_, rfl⟩
      obtain ⟨B2, e4⟩ : ∃ x, cutB (highL l).sum = x := ⟨_, rfl⟩
      rw [e1, e2] at s1
      rw [e3, e4] at s2
      have HV := Lib.hid (And.intro (And.intro e1 e2) (And.intro e3 e4))
      clear hne hW hH e1 e2 e3 e4
      cases B1
      all_goals
        go_wp2_with (first | ((go_at_call 25; (with_reducible refine (s1).mono ?_)); rintro e w4 ⟨rfl, g4⟩) | ((go_at_call 25; (with_reducible refine ((s2 _ g4)).mono ?_)); rintro e w5 ⟨rfl, g5⟩))
        go_ret3
        exact ⟨by rw [HV.out.1.1, HV.out.1.2, HV.out.2.1, HV.out.2.2]; rfl, Below_then hbw (Below_same g4 g5) (Nat.le_refl _)⟩
end Go.Proofs.Ytfhbndfhmphnaaa
