/-
  The walking kit: guarded operations where the order is drawn.
-/
import Derived.Test.Qxb6500865aWk10
namespace Go.Proofs.Qxb6500865a
set_option linter.unusedSimpArgs false
set_option linter.unusedVariables false
open Go.RowKit
section
variable {P : Program} {f : FuncId} {n : Nat} {R : Value → World → Prop} {ρ : Env} {w : World} {k : List Item} {ops : Array Oper} {S : World → Prop} {N fuel : Nat} {listed : Array Bool}
variable {d d' : Nat} {ty ty' : TypeId} {pos pos' : String} {after after' : Array Edge}
theorem wanted_of {a : Act} {dst : Option Tmp} {op : Op} {j dj : Nat} {want : Bool} (ha : Fits n a ρ) (hj : (ops[j]?).bind (·.dst) = some dj) (hdj : Nat.blt dj n = true) (hv : ρ dj = .bool want) :
    Region.wanted ⟨dst, op, ty, pos, after, some (j, want)⟩ (yielded ops a.tmps) = true := by
  have hs : dj < a.tmps.size := by rw [ha.size]; simpa [Nat.blt_eq] using hdj
  have hx : a.tmps[dj]? = some (.bool want) := by
    have := ha.val dj
    rw [Array.getD_eq_getD_getElem?, Array.getElem?_eq_getElem hs] at this
    rw [Array.getElem?_eq_getElem hs]
    simp only [Option.getD_some] at this
    rw [this, hv]
  simp [Region.wanted, yielded, hj, hx]
theorem D_takeG (i : Nat) {op : Op} {j dj : Nat} {want : Bool} (v : Value) (hi : ops[i]? = some ⟨some d, op, ty, pos, after, some (j, want)⟩) (hc : takes ops N listed i = true) (hS : S w)
    (hj : (ops[j]?).bind (·.dst) = some dj) (hdj : Nat.blt dj n = true) (hv : ρ dj = .bool want)
    (hrun : ∀ w, S w → (execOp (ev ρ) ⟨some d, op, ty, pos, after, none⟩).run P w = .ok (.value v) w) (hd : Nat.blt d n = true)
    (h : D P f n ops S N fuel (listed.setIfInBounds i true) k R (upd ρ d v) w) : D P f n ops S N (fuel + 1) listed k R ρ w := by
  obtain ⟨h1, h2, h3, h4⟩ := takes_spec hc
  refine ⟨fun a ha => ?_⟩
  refine anyG_first (v := v) hi (Region.noSelect_spec h1) h4 (fun c a w hq => by cases hq.1) fuel listed a w (Region.free_spec hi h2) (by simpa using h3) ?_ hS (h.run _ (ha.put v hd))
  refine .inl ⟨wanted_of ha hj hdj hv, fun w hw => ?_⟩
  rw [ha.eval]
  exact hrun w hw
theorem D_callFG (i : Nat) {g : FuncId} {j dj : Nat} {want : Bool} {xs : Array Operand} {ts : Array TypeId} {Z : Value → World → Prop} (args : List Value) (hi : ops[i]? = some ⟨some d, .call { callee := .value (.func g), args := xs, argTypes := ts }, ty, pos, after, some (j, want)⟩) (hc : only ops listed i = true)
    (hj : (ops[j]?).bind (·.dst) = some dj) (hdj : Nat.blt dj n = true) (hv : ρ dj = .bool want)
    (hg : EN P g) (ha : xs.toList.map (ev ρ) = args) (hd : Nat.blt d n = true) (hr : Ret P g args.toArray w Z)
    (h : ∀ v w', Z v w' → (Nat.blt i N = true → S w') ∧ D P f n ops S N fuel (listed.setIfInBounds i true) k R (upd ρ d v) w') : D P f n ops S N (fuel + 1) listed k R ρ w := by
  have hr1 : Region.ready .any ops listed = [i] := by simpa [only] using hc
  refine ⟨fun a hA => ⟨fun h0 => (by rw [hr1] at h0; cases h0), fun q hq => ?_⟩⟩
  rw [hr1] at hq
  obtain rfl : q = i := by simpa using hq
  unfold wpOp
  simp only [hi]
  rw [if_pos (wanted_of hA hj hdj hv)]
  refine .inl ?_
  have e : xs.map (ev ρ) = args.toArray := by
    rw [← ha]; apply Array.ext'; simp
  have h1 := hg args.toArray w
  have hrun : (execOp (ev ρ) ⟨some d, .call { callee := .value (.func g), args := xs, argTypes := ts }, ty, pos, after, some (j, want)⟩).run P w = .ok (.enter g args.toArray) w := by
    simp [execOp, resolve, e, ev, Deferred.ofValue, invoke, h1]
  unfold Oper.wp
  rw [hA.eval, hrun]
  refine Calls.mono hr ?_
  rintro ex w' ⟨v, rfl, hv⟩
  exact ⟨fun hn => (h v w' hv).1 (by simpa [Nat.blt_eq] using hn), (h v w' hv).2.run _ (hA.put v hd)⟩
end
end Go.Proofs.Qxb6500865a
