/-
  The walking kit: a call and a new block, whichever comes first.
-/
import Derived.Test.Qxb6500865aWk5
namespace Go.Proofs.Qxb6500865a
set_option linter.unusedSimpArgs false
set_option linter.unusedVariables false
open Go.RowKit
def either (ops : Array Oper) (listed : Array Bool) (i j : Nat) : Bool := Region.ready .any ops listed == [i, j]
section
variable {P : Program} {f : FuncId} {n : Nat} {R : Value → World → Prop} {ρ : Env} {w : World} {k : List Item} {ops : Array Oper} {S : World → Prop} {N fuel : Nat} {listed : Array Bool}
variable {d d' : Nat} {ty ty' : TypeId} {pos pos' : String} {after after' : Array Edge}
theorem D_callF (i : Nat) {g : FuncId} {xs : Array Operand} {ts : Array TypeId} {Z : Value → World → Prop} (args : List Value) (hi : ops[i]? = some ⟨some d, .call { callee := .value (.func g), args := xs, argTypes := ts }, ty, pos, after, none⟩) (hc : only ops listed i = true)
    (hg : EN P g) (ha : xs.toList.map (ev ρ) = args) (hd : Nat.blt d n = true) (hr : Ret P g args.toArray w Z)
    (h : ∀ v w', Z v w' → (Nat.blt i N = true → S w') ∧ D P f n ops S N fuel (listed.setIfInBounds i true) k R (upd ρ d v) w') : D P f n ops S N (fuel + 1) listed k R ρ w := by
  have hr1 : Region.ready .any ops listed = [i] := by simpa [only] using hc
  refine ⟨fun a hA => ⟨fun h0 => (by rw [hr1] at h0; cases h0), fun j hj => ?_⟩⟩
  rw [hr1] at hj
  obtain rfl : j = i := by simpa using hj
  unfold wpOp
  simp only [hi]
  rw [if_pos (show Region.wanted _ (yielded ops a.tmps) = true from rfl)]
  refine .inl ?_
  have e : xs.map (ev ρ) = args.toArray := by
    rw [← ha]; apply Array.ext'; simp
  have h1 := hg args.toArray w
  have hrun : (execOp (ev ρ) ⟨some d, .call { callee := .value (.func g), args := xs, argTypes := ts }, ty, pos, after, none⟩).run P w = .ok (.enter g args.toArray) w := by
    simp [execOp, resolve, e, ev, Deferred.ofValue, invoke, h1]
  unfold Oper.wp
  rw [hA.eval, hrun]
  refine Calls.mono hr ?_
  rintro ex w' ⟨v, rfl, hv⟩
  exact ⟨fun hn => (h v w' hv).1 (by simpa [Nat.blt_eq] using hn), (h v w' hv).2.run _ (hA.put v hd)⟩
theorem D_alloc (i : Nat) {t : TypeId} {z : Value} (hi : ops[i]? = some ⟨some d, .alloc t, ty, pos, after, none⟩) (hc : only ops listed i = true) (hz : ZV P t z) (hd : Nat.blt d n = true)
    (h : ∀ w1, Chg w w1 w.heap.size (.cells z.cells t (0, 0)) → (Nat.blt i N = true → S w1) ∧ D P f n ops S N fuel (listed.setIfInBounds i true) k R (upd ρ d (.pointer (some ⟨w.heap.size, 0, none⟩))) w1) : D P f n ops S N (fuel + 1) listed k R ρ w := by
  refine D_val i _ (w.alloc (.cells z.cells t)) hi hc ?_ hd (h _ (chg_alloc _ _)).1 (h _ (chg_alloc _ _)).2
  have h1 := hz w
  simp [execOp, Instr.alloc, h1, newVar, newRow]
theorem D_storeAll (i : Nat) {t : TypeId} {x y : Operand} {b m : Nat} {c : Array Value} {u : TypeId} (cs : List Value) (hi : ops[i]? = some ⟨none, .store t x y, ty, pos, after, none⟩) (hc : only ops listed i = true) (hs : SZ P t m) (hx : ev ρ x = .pointer (some ⟨b, 0, none⟩)) (hy : ev ρ y = .agg cs.toArray) (hm : cs.length = m) (hv : ∀ v ∈ cs, v.oneCell' = true) (hb : Blk w b c u) (ho : c.size = m)
    (h : ∀ w1, Chg w w1 b (.cells cs.toArray u (0, 0)) → (Nat.blt i N = true → S w1) ∧ D P f n ops S N fuel (listed.setIfInBounds i true) k R ρ w1) : D P f n ops S N (fuel + 1) listed k R ρ w := by
  have h1 := hs w
  have hst := run_storeCells_at P b 0 u cs 0 c w hb (by omega) hv
  simp only [Nat.add_zero] at hst
  have e : (c.toList.take 0 ++ cs ++ c.toList.drop (0 + cs.length)) = cs := by simp; omega
  rw [e] at hst
  have hch := chg_setRow hb cs.toArray
  refine D_skip i _ hi hc ?_ (h _ hch).1 (h _ hch).2
  simp [execOp, Instr.storeAt, Instr.sureAddr, storeVar, hx, hy, h1, Value.cells, hm, hst]
/-- A call (i) and a new block (j): both may come up. -/
theorem D_callAlloc (i j : Nat) {g : FuncId} {xs : Array Operand} {ts : Array TypeId} {Z : Value → World → Prop} {t : TypeId} {z : Value} (args : List Value)
    (hi : ops[i]? = some ⟨some d, .call { callee := .value (.func g), args := xs, argTypes := ts }, ty, pos, after, none⟩) (hj : ops[j]? = some ⟨some d', .alloc t, ty', pos', after', none⟩) (hc : either ops listed i j = true)
    (hg : EN P g) (ha : xs.toList.map (ev ρ) = args) (hd : Nat.blt d n = true) (hr : Ret P g args.toArray w Z) (hz : ZV P t z) (hd' : Nat.blt d' n = true)
    (h : ∀ v w', Z v w' → (Nat.blt i N = true → S w') ∧ D P f n ops S N fuel (listed.setIfInBounds i true) k R (upd ρ d v) w')
    (h2 : ∀ w1, Chg w w1 w.heap.size (.cells z.cells t (0, 0)) → (Nat.blt j N = true → S w1) ∧ D P f n ops S N fuel (listed.setIfInBounds j true) k R (upd ρ d' (.pointer (some ⟨w.heap.size, 0, none⟩))) w1) : D P f n ops S N (fuel + 1) listed k R ρ w := by
  have hr1 : Region.ready .any ops listed = [i, j] := by simpa [either] using hc
  refine ⟨fun a hA => ⟨fun h0 => (by rw [hr1] at h0; cases h0), fun q hq => ?_⟩⟩
  rw [hr1] at hq
  have hq' : q = i ∨ q = j := by simpa using hq
  rcases hq' with rfl | rfl
  · unfold wpOp
    simp only [hi]
    rw [if_pos (show Region.wanted _ (yielded ops a.tmps) = true from rfl)]
    refine .inl ?_
    have e : xs.map (ev ρ) = args.toArray := by
      rw [← ha]; apply Array.ext'; simp
    have h1 := hg args.toArray w
    have hrun : (execOp (ev ρ) ⟨some d, .call { callee := .value (.func g), args := xs, argTypes := ts }, ty, pos, after, none⟩).run P w = .ok (.enter g args.toArray) w := by
      simp [execOp, resolve, e, ev, Deferred.ofValue, invoke, h1]
    unfold Oper.wp
    rw [hA.eval, hrun]
    refine Calls.mono hr ?_
    rintro ex w' ⟨v, rfl, hv⟩
    exact ⟨fun hn => (h v w' hv).1 (by simpa [Nat.blt_eq] using hn), (h v w' hv).2.run _ (hA.put v hd)⟩
  · unfold wpOp
    simp only [hj]
    rw [if_pos (show Region.wanted _ (yielded ops a.tmps) = true from rfl)]
    refine .inl ?_
    have h1 := hz w
    have hrun : (execOp (ev ρ) ⟨some d', .alloc t, ty', pos', after', none⟩).run P w = .ok (.value (.pointer (some ⟨w.heap.size, 0, none⟩))) (w.alloc (.cells z.cells t)) := by
      simp [execOp, Instr.alloc, h1, newVar, newRow]
    have hh := h2 _ (chg_alloc w (.cells z.cells t (0, 0)))
    unfold Oper.wp
    rw [hA.eval, hrun]
    exact ⟨fun hn => hh.1 (by simpa [Nat.blt_eq] using hn), hh.2.run _ (hA.put _ hd')⟩
end
end Go.Proofs.Qxb6500865a
