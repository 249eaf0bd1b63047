/-
  The walking kit, sixth part: copy, an array's element, calls in a region that draws.
-/
import Derived.Test.Qxb6500863aDoorWk5
import Derived.Laws.CopyRow
namespace Go.Proofs.Qxb6500863aDoor
set_option linter.unusedSimpArgs false
set_option linter.unusedVariables false
open Go.RowKit

section
variable {P : Program} {f : Cx} {n : Nat} {R : Value → World → Prop} {ρ : Env} {w : World} {k : List Item} {ops : Array Oper} {rest : List Oper} {C : World → Prop}
variable {d : Nat} {dst : Option Tmp} {gd : Option (Nat × Bool)} {ty : TypeId} {pos : String} {after : Array Edge} {S : World → Prop} {N fuel : Nat} {listed : Array Bool}
theorem X_idx {t e : TypeId} {x y : Operand} {l j : Nat} {cs : Array Value} {v : Value} {q : IntKind} (ht : UN P t (.array l e)) (hs : SZ P e 1) (ha : AG P e false) (hx : ev ρ x = .agg cs) (hy : ev ρ y = .int q j) (hj : j < l) (hv : cs[j]? = some v) :
    (execOp (ev ρ) ⟨dst, .index t x y, ty, pos, after, gd⟩).run P w = .ok (.value v) w := by
  have h1 := ht w
  have h2 := hs w
  have h3 := ha w
  simp [execOp, Instr.index, hx, hy, h1, h2, h3, asIntOf, hj, part, hv]
theorem L_copy {t u e : TypeId} {s x : Operand} {b m c b2 o2 c2 : Nat} {cur : Array Value} {tt : TypeId} (news : List Value) (ht : UN P t (.slice e)) (hs : SZ P e 1) (hd : ev ρ s = .slice (some ⟨b, 0, none⟩) m c) (hx : ev ρ x = .slice (some ⟨b2, o2, none⟩) m c2)
    (hb : Blk w b cur tt) (hm : cur.size = m) (hl : news.length = m) (hn : ∀ j v, news[j]? = some v → w.cell? ⟨b2, o2 + j, none⟩ = some v) (h1c : ∀ v ∈ news, v.oneCell' = true) (hdd : Nat.blt d n = true)
    (h : ∀ w1, Chg w w1 b (.cells news.toArray tt (0, 0)) → L P f n ops rest k R (upd ρ d (.int .i64 m)) w1) :
    L P f n ops (⟨some d, .call { callee := .builtin .copy, args := #[s, x], argTypes := #[t, u] }, ty, pos, after, none⟩ :: rest) k R ρ w := by
  have h1 := ht w
  have h2 := hs w
  have h3 := run_loadCells_list (P := P) w ⟨b2, o2, none⟩ news (fun j v hv => by rw [Addr.add_lit]; exact hn j v hv)
  have h4 := run_storeCells_at P b 0 tt news 0 cur w hb (by omega) h1c
  have e : (cur.toList.take (0 + 0) ++ news ++ cur.toList.drop (0 + 0 + news.length)).toArray = news.toArray := by
    have : cur.toList.drop (0 + 0 + news.length) = [] := List.drop_of_length_le (by simp; omega)
    rw [this]; simp
  rw [e] at h4
  have hch := chg_setRow hb news.toArray
  refine L_val _ (w.setRow b news.toArray) ?_ hdd (h _ hch)
  rw [hl] at h3
  simp [execOp, resolve, invoke, builtin, Builtin.copy_, hd, hx, h1, h2, Builtin.lenOf, Builtin.firstCells, h3, h4, goInt]
theorem LQ_callF {g : FuncId} {xs : Array Operand} {ts : Array TypeId} (args : List Value) (v : Value) (hg : EN P g) (ha : xs.toList.map (ev ρ) = args) (hd : Nat.blt d n = true)
    (hc : ∀ w, C w → Ret P g args.toArray w fun u w' => u = v ∧ C w')
    (h : LQ P f n ops C rest k R (upd ρ d v)) : LQ P f n ops C (⟨some d, .call { callee := .value (.func g), args := xs, argTypes := ts }, ty, pos, after, none⟩ :: rest) k R ρ := by
  refine LQ_call (g := g) (args := args.toArray) v (fun w hw => ?_) hd hc h
  have e : xs.map (ev ρ) = args.toArray := by
    rw [← ha]; apply Array.ext'; simp
  have h1 := hg args.toArray w
  simp [execOp, resolve, e, ev, Deferred.ofValue, invoke, h1]
theorem D_callF (i : Nat) {g : FuncId} {xs : Array Operand} {ts : Array TypeId} {Z : Value → World → Prop} (args : List Value) (hi : ops[i]? = some ⟨some d, .call { callee := .value (.func g), args := xs, argTypes := ts }, ty, pos, after, none⟩) (hc : only ops listed i = true)
    (hg : EN P g) (ha : xs.toList.map (ev ρ) = args) (hd : Nat.blt d n = true) (hr : Ret P g args.toArray w Z)
    (h : ∀ v w', Z v w' → (Nat.blt i N = true → S w') ∧ D P f n ops S N fuel (listed.setIfInBounds i true) k R (upd ρ d v) w') : D P f n ops S N (fuel + 1) listed k R ρ w := by
  have hr1 : Region.ready .any ops listed = [i] := by simpa [only] using hc
  refine ⟨fun a hA => ⟨fun h0 => (by rw [hr1] at h0; cases h0), fun j hj => ?_⟩⟩
  rw [hr1] at hj
  obtain rfl : j = i := by simpa using hj
  unfold wpOp
  simp only [hi]
  rw [if_pos (show Region.wanted _ (yielded ops a.tmps) = true from rfl)]
  refine .inl ?_
  have e : xs.map (ev ρ) = args.toArray := by
    rw [← ha]; apply Array.ext'; simp
  have h1 := hg args.toArray w
  have hrun : (execOp (ev ρ) ⟨some d, .call { callee := .value (.func g), args := xs, argTypes := ts }, ty, pos, after, none⟩).run P w = .ok (.enter g args.toArray) w := by
    simp [execOp, resolve, e, ev, Deferred.ofValue, invoke, h1]
  unfold Oper.wp
  rw [hA.eval, hrun]
  refine Calls.mono hr ?_
  rintro ex w' ⟨v, rfl, hv⟩
  exact ⟨fun hn => (h v w' hv).1 (by simpa [Nat.blt_eq] using hn), (h v w' hv).2.run _ (hA.put v hd)⟩
theorem D_buildSlice (i : Nat) {t : TypeId} {m : Nat} {ps : Array (Nat × Operand)} (c : Array Value) (e : TypeId) (hi : ops[i]? = some ⟨some d, .buildSlice t m ps, ty, pos, after, none⟩) (hc : only ops listed i = true)
    (hv : (Instr.buildSlice t m (ps.map fun (i, x) => (i, ev ρ x))).run P w = .ok (.slice (some ⟨w.heap.size, 0, none⟩) m m) (w.alloc (.cells c e))) (hd : Nat.blt d n = true)
    (h : ∀ w1, Chg w w1 w.heap.size (.cells c e (0, 0)) → (Nat.blt i N = true → S w1) ∧ D P f n ops S N fuel (listed.setIfInBounds i true) k R (upd ρ d (.slice (some ⟨w.heap.size, 0, none⟩) m m)) w1) : D P f n ops S N (fuel + 1) listed k R ρ w := by
  refine D_val i _ _ hi hc ?_ hd (h _ (chg_alloc _ _)).1 (h _ (chg_alloc _ _)).2
  simp only [execOp, Sem.run_bind]
  rw [hv]; rfl
theorem D_alloc (i : Nat) {t : TypeId} {z : Value} (hi : ops[i]? = some ⟨some d, .alloc t, ty, pos, after, none⟩) (hc : only ops listed i = true) (hz : ZV P t z) (hd : Nat.blt d n = true)
    (h : ∀ w1, Chg w w1 w.heap.size (.cells z.cells t (0, 0)) → (Nat.blt i N = true → S w1) ∧ D P f n ops S N fuel (listed.setIfInBounds i true) k R (upd ρ d (.pointer (some ⟨w.heap.size, 0, none⟩))) w1) : D P f n ops S N (fuel + 1) listed k R ρ w := by
  refine D_val i _ (w.alloc (.cells z.cells t)) hi hc ?_ hd (h _ (chg_alloc _ _)).1 (h _ (chg_alloc _ _)).2
  have h1 := hz w
  simp [execOp, Instr.alloc, h1, newVar, newRow]
end
end Go.Proofs.Qxb6500863aDoor
