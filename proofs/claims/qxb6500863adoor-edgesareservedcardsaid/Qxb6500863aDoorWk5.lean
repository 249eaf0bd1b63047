/-
  The walking kit, fifth part: regions that draw their order and write.
-/
import Derived.Test.Qxb6500863aDoorWk4
import Derived.OrdersHeld
namespace Go.Proofs.Qxb6500863aDoor
set_option linter.unusedSimpArgs false
set_option linter.unusedVariables false
open Go.RowKit

/-- Whatever order is drawn; behind each of the first N operations S holds. -/
def anyG (P : Program) (ops : Array Oper) (Q : Exit → Act → World → Prop) (S : World → Prop) (N : Nat) : Nat → Array Bool → Act → World → Prop
  | 0, listed, a, w => Region.ready .any ops listed = [] ∧ Q .normal a w
  | fuel + 1, listed, a, w =>
    (Region.ready .any ops listed = [] → Q .normal a w) ∧
    ∀ i ∈ Region.ready .any ops listed, wpOp P ops Q i (fun a' w' => (i < N → S w') ∧ anyG P ops Q S N fuel (listed.setIfInBounds i true) a' w') a w

section
variable {P : Program} {ops : Array Oper} {Q : Exit → Act → World → Prop} {S : World → Prop} {N : Nat}
theorem wpAny_of_anyG : ∀ (fuel : Nat) (listed : Array Bool) (a : Act) (w : World), anyG P ops Q S N fuel listed a w → wpAny P .any ops Q fuel listed a w
  | 0, _, _, _, h => h
  | fuel + 1, _, _, _, h => ⟨h.1, fun i hi => wpOp_mono (fun a' w' h' => wpAny_of_anyG fuel _ a' w' h'.2) (h.2 i hi)⟩

theorem anyG_first {i : Nat} {oi : Oper} {v : Value} (hi : ops[i]? = some oi) (hsel : ∀ (j : Nat) (o : Oper) cs b, ops[j]? = some o → o.op ≠ .select cs b)
    (hbar : ∀ j oj, ops[j]? = some oj → N ≤ j → ∃ e ∈ oj.after, Region.binds .any e = true ∧ e.on = i)
    (hQ : ∀ c a w, Q (.panic c) (a.put oi.dst v) w → Q (.panic c) a w) :
    ∀ (fuel : Nat) (listed : Array Bool) (a : Act) (w : World),
      (∀ j oj, ops[j]? = some oj → j ≠ i → listed.getD j true = false → (∀ e ∈ oj.after, Region.binds .any e = true → e.on ≠ i) → oi.apart ops oj = true) →
      i ∈ Region.ready .any ops listed → YieldsIf P ops S oi v a → S w →
      anyG P ops Q S N fuel (listed.setIfInBounds i true) (a.put oi.dst v) w → anyG P ops Q S N (fuel + 1) listed a w := by
  intro fuel
  induction fuel with
  | zero =>
    intro listed a w _ hr hy hS H
    refine ⟨fun h => (by rw [h] at hr; cases hr), fun j hj => ?_⟩
    by_cases hji : j = i
    · subst hji; exact hy.wpOp hi hS ⟨fun _ => hS, H⟩
    · have := ready_mono hj hji
      rw [H.1] at this
      cases this
  | succ fuel ih =>
    intro listed a w hfree hr hy hS H
    refine ⟨fun h => (by rw [h] at hr; cases hr), fun j hj => ?_⟩
    by_cases hji : j = i
    · subst hji; exact hy.wpOp hi hS ⟨fun _ => hS, H⟩
    · have h1 := H.2 j (ready_mono hj hji)
      obtain ⟨hjun, oj, hoj, hall⟩ := mem_ready.1 hj
      have hnot : ∀ e ∈ oj.after, Region.binds .any e = true → e.on ≠ i := fun e he hb heq => by
        have h1 := hall e he hb
        have h0 := (mem_ready.1 hr).1
        rw [heq] at h1
        rcases Nat.lt_or_ge i listed.size with h' | h'
        · simp [h'] at h0 h1; rw [h0] at h1; cases h1
        · simp [Array.getElem?_eq_none h'] at h1
      have hjN : j < N := by
        rcases Nat.lt_or_ge j N with h' | h'
        · exact h'
        · obtain ⟨e, he, hb, heq⟩ := hbar j oj hoj h'
          exact absurd heq (hnot e he hb)
      have h2 := wpOp_putIf hoj (hfree j oj hoj hji hjun hnot) (fun cs b => hsel i oi cs b hi) (fun cs b => hsel j oj cs b hoj) hQ hy h1
      have hfree' : ∀ k ok, ops[k]? = some ok → k ≠ i → (listed.setIfInBounds j true).getD k true = false →
          (∀ e ∈ ok.after, Region.binds .any e = true → e.on ≠ i) → oi.apart ops ok = true := fun k ok hk hki hun hno => by
        refine hfree k ok hk hki ?_ hno
        by_cases hjk : j = k
        · subst hjk; exact hjun
        · rw [getD_set_ne true hjk] at hun; exact hun
      refine wpOp_mono (fun a' w' h3 => ⟨h3.2.1, ih (listed.setIfInBounds j true) a' w' hfree' (ready_mono hr (Ne.symm hji)) h3.1 (h3.2.1 hjN) ?_⟩) h2
      rw [Array.setIfInBounds_comm _ _ hji]
      exact h3.2.2
end

/-- What is asked of operation i that is taken first. -/
def takes (ops : Array Oper) (N : Nat) (listed : Array Bool) (i : Nat) : Bool :=
  Region.noSelect ops && Region.free .any ops listed i && (Region.ready .any ops listed).contains i &&
    (List.range ops.size).all fun j => Nat.blt j N || match ops[j]? with | none => true | some o => o.after.any fun e => Region.binds .any e && e.on == i
/-- Only i may come up. -/
def only (ops : Array Oper) (listed : Array Bool) (i : Nat) : Bool := Region.ready .any ops listed == [i]
def none_ (ops : Array Oper) (listed : Array Bool) : Bool := Region.ready .any ops listed == []

structure D (P : Program) (f : Cx) (n : Nat) (ops : Array Oper) (S : World → Prop) (N : Nat) (fuel : Nat) (listed : Array Bool) (k : List Item) (R : Value → World → Prop) (ρ : Env) (w : World) : Prop where
  run : ∀ a, Fits f.ds n a ρ → anyG P ops (fun e a' w' => e = .normal ∧ ∃ ρ', Fits f.ds n a' ρ' ∧ T P f n k R ρ' w') S N fuel listed a w

section
variable {P : Program} {f : Cx} {n : Nat} {R : Value → World → Prop} {ρ : Env} {w : World} {k : List Item} {ops : Array Oper} {S : World → Prop} {N fuel : Nat} {listed : Array Bool}
variable {d : Nat} {ty : TypeId} {pos : String} {after : Array Edge} {gd : Option (Nat × Bool)}

theorem T_draw {id m : Nat} {l : List Oper} (S : World → Prop) (N : Nat) (hm : P.follows .mixedOrders = true) (hl : l.toArray.size = m)
    (h : ∀ w', Sm w w' → D P f n l.toArray S N m (Array.replicate m false) k R ρ w') : T P f n (.code (.region id l.toArray true) :: k) R ρ w := by
  subst hl
  refine ⟨fun a ha cs => ?_⟩
  have hw := wp_region_any (P := P) (id := id) (ops := l.toArray) (Q := fun e a' w' => e = .normal ∧ ∃ ρ', Fits f.ds n a' ρ' ∧ T P f n k R ρ' w') (a := a) (w := w) hm
    (wpAny_of_anyG _ _ _ _ ((h w.drew (sm_drew w)).run a ha))
  obtain ⟨e, a', w', ⟨rfl, ρ', hf', ht⟩, harr⟩ := hw (baseFr f) k cs
  obtain ⟨v, w'', fr, hR, hst, h3, h4⟩ := ht.run a' hf' cs
  exact ⟨v, w'', fr, hR, Steps.trans harr hst, h3, h4⟩

theorem takes_spec {i : Nat} (h : takes ops N listed i = true) : Region.noSelect ops = true ∧ Region.free .any ops listed i = true ∧ (Region.ready .any ops listed).contains i = true ∧
    ∀ j oj, ops[j]? = some oj → N ≤ j → ∃ e ∈ oj.after, Region.binds .any e = true ∧ e.on = i := by
  simp only [takes, Bool.and_eq_true] at h
  obtain ⟨⟨⟨h1, h2⟩, h3⟩, h4⟩ := h
  refine ⟨h1, h2, h3, fun j oj hj hN => ?_⟩
  have hjs : j < ops.size := by
    rcases Nat.lt_or_ge j ops.size with h' | h'
    · exact h'
    · rw [Array.getElem?_eq_none h'] at hj; cases hj
  have := List.all_eq_true.1 h4 j (List.mem_range.2 hjs)
  simp only [hj, Bool.or_eq_true, Nat.blt_eq] at this
  rcases this with h' | h'
  · omega
  · obtain ⟨e, he, hh⟩ := Array.any_eq_true'.1 h'
    simp only [Bool.and_eq_true, beq_iff_eq] at hh
    exact ⟨e, he, hh.1, hh.2⟩

theorem D_take (i : Nat) {op : Op} (v : Value) (hi : ops[i]? = some ⟨some d, op, ty, pos, after, none⟩) (hc : takes ops N listed i = true) (hS : S w)
    (hrun : ∀ w, S w → (execOp (ev ρ) ⟨some d, op, ty, pos, after, none⟩).run P w = .ok (.value v) w) (hd : Nat.blt d n = true)
    (h : D P f n ops S N fuel (listed.setIfInBounds i true) k R (upd ρ d v) w) : D P f n ops S N (fuel + 1) listed k R ρ w := by
  obtain ⟨h1, h2, h3, h4⟩ := takes_spec hc
  refine ⟨fun a ha => ?_⟩
  refine anyG_first (v := v) hi (Region.noSelect_spec h1) h4 (fun c a w hq => by cases hq.1) fuel listed a w (Region.free_spec hi h2) (by simpa using h3) ?_ hS (h.run _ (ha.put v hd))
  refine .inl ⟨rfl, fun w hw => ?_⟩
  rw [ha.eval]
  exact hrun w hw

theorem D_done (hc : none_ ops listed = true) (h : T P f n k R ρ w) : D P f n ops S N fuel listed k R ρ w := by
  have hr : Region.ready .any ops listed = [] := by simpa [none_] using hc
  refine ⟨fun a ha => ?_⟩
  cases fuel with
  | zero => exact ⟨hr, rfl, ρ, ha, h⟩
  | succ m => exact ⟨fun _ => ⟨rfl, ρ, ha, h⟩, by rw [hr]; simp⟩

theorem D_val (i : Nat) {op : Op} (v : Value) (w' : World) (hi : ops[i]? = some ⟨some d, op, ty, pos, after, none⟩) (hc : only ops listed i = true)
    (hrun : (execOp (ev ρ) ⟨some d, op, ty, pos, after, none⟩).run P w = .ok (.value v) w') (hd : Nat.blt d n = true) (hS : Nat.blt i N = true → S w')
    (h : D P f n ops S N fuel (listed.setIfInBounds i true) k R (upd ρ d v) w') : D P f n ops S N (fuel + 1) listed k R ρ w := by
  have hr : Region.ready .any ops listed = [i] := by simpa [only] using hc
  refine ⟨fun a ha => ⟨fun h0 => (by rw [hr] at h0; cases h0), fun j hj => ?_⟩⟩
  rw [hr] at hj
  obtain rfl : j = i := by simpa using hj
  unfold wpOp
  simp only [hi]
  rw [if_pos (show Region.wanted ⟨some d, op, ty, pos, after, none⟩ (yielded ops a.tmps) = true from rfl)]
  refine .inl ?_
  unfold Oper.wp
  rw [ha.eval, hrun]
  exact ⟨fun hn => hS (by simpa [Nat.blt_eq] using hn), h.run _ (ha.put v hd)⟩
theorem D_skip (i : Nat) {op : Op} (w' : World) (hi : ops[i]? = some ⟨none, op, ty, pos, after, none⟩) (hc : only ops listed i = true)
    (hrun : (execOp (ev ρ) ⟨none, op, ty, pos, after, none⟩).run P w = .ok .skip w') (hS : Nat.blt i N = true → S w')
    (h : D P f n ops S N fuel (listed.setIfInBounds i true) k R ρ w') : D P f n ops S N (fuel + 1) listed k R ρ w := by
  have hr : Region.ready .any ops listed = [i] := by simpa [only] using hc
  refine ⟨fun a ha => ⟨fun h0 => (by rw [hr] at h0; cases h0), fun j hj => ?_⟩⟩
  rw [hr] at hj
  obtain rfl : j = i := by simpa using hj
  unfold wpOp
  simp only [hi]
  rw [if_pos (show Region.wanted ⟨none, op, ty, pos, after, none⟩ (yielded ops a.tmps) = true from rfl)]
  refine .inl ?_
  unfold Oper.wp
  rw [ha.eval, hrun]
  exact ⟨fun hn => hS (by simpa [Nat.blt_eq] using hn), h.run _ ha⟩
theorem D_store (i : Nat) {t : TypeId} {x y : Operand} {b o : Nat} {c : Array Value} {u : TypeId} (v : Value) (hi : ops[i]? = some ⟨none, .store t x y, ty, pos, after, none⟩) (hc : only ops listed i = true)
    (hs : SZ P t 1) (hx : ev ρ x = .pointer (some ⟨b, o, none⟩)) (hy : ev ρ y = v) (hv : v.oneCell' = true) (hb : Blk w b c u) (ho : o < c.size)
    (h : ∀ w1, Chg w w1 b (.cells (c.setIfInBounds o v) u (0, 0)) → (Nat.blt i N = true → S w1) ∧ D P f n ops S N fuel (listed.setIfInBounds i true) k R ρ w1) : D P f n ops S N (fuel + 1) listed k R ρ w := by
  have h1 := hs w
  have hcell : w.cell? ⟨b, o, none⟩ = some c[o] := by rw [hb.cell]; simp [ho]
  have hst := run_store P w ⟨b, o, none⟩ v .plain hv
  rw [hcell] at hst
  simp only [hb.frozen] at hst
  have e0 : (⟨b, o, none⟩ : Addr).add 0 = ⟨b, o, none⟩ := rfl
  have hcs : v.cells = #[v] := by cases v <;> first | rfl | (simp [Value.oneCell'] at hv)
  have hch : Chg w (w.setCell ⟨b, o, none⟩ v) b (.cells (c.setIfInBounds o v) u (0, 0)) := by
    rw [setCell_eq_setRow w b o c u (0, 0) v hb]
    exact chg_setRow hb _
  refine D_skip i (w.setCell ⟨b, o, none⟩ v) hi hc ?_ (h _ hch).1 (h _ hch).2
  simp [execOp, Instr.storeAt, Instr.sureAddr, storeVar, hx, hy, h1, hcs, storeCells, e0, hst]
/-- Results: a struct that lies in memory, and a value. -/
theorem T_retCT {fn : Func} {t u : Tmp} {rt : TypeId} {b o m : Nat} (cs : List Value) (hf : P.funcs[f.fn]? = some fn) (hr : fn.results = #[.cell t rt, .tmp u]) (ht : AG P rt true) (hs : SZ P rt m) (hm : cs.length = m)
    (hx : ρ t = .pointer (some ⟨b, o, none⟩)) (hc : ∀ j v, cs[j]? = some v → w.cell? ⟨b, o + j, none⟩ = some v) (hR : R (.tuple #[.agg cs.toArray, ρ u]) w) (hds : f.ds = [] := by rfl) : T P f n (.code .ret :: k) R ρ w := by
  refine T_ret _ hf (fun a ha => ?_) hR hds
  have h1 := ht w
  have h2 := hs w
  have h3 := run_loadCells_list (P := P) w ⟨b, o, none⟩ cs (fun j v hv => by rw [Addr.add_lit]; exact hc j v hv)
  have h4 : a.tmps.getD t undef = .pointer (some ⟨b, o, none⟩) := by rw [ha.val, hx]
  have h5 := ha.val u
  rw [Array.getD_eq_getD_getElem?] at h4 h5
  simp only [results, hr]
  simp [h4, h5, asAddr, loadVar, h1, h2, ← hm, h3]
end
end Go.Proofs.Qxb6500863aDoor
