/-
  A small walking kit of our own: symbolic execution with the frame as a FUNCTION (slot -> value) and the code as the machine's own list of what is left to do.
-/
import Derived.WalkKit
import Derived.Orders
import Derived.Defers
namespace Go.Proofs.Qxb6500863aDoor
set_option linter.unusedSimpArgs false
set_option linter.unusedVariables false
open Go.RowKit

/-! ### Environments -/
abbrev Env := Nat → Value
def upd (ρ : Env) (d : Nat) (v : Value) : Env := fun t => bif Nat.beq t d then v else ρ t
def ev (ρ : Env) : Operand → Value
  | .tmp t => ρ t
  | .const v => v
  | .global g => .pointer (some ⟨g, 0, none⟩)
  | .func f => .func (.func f) #[] #[]
def envOf (vs : List Value) : Env := fun t => vs.getD t undef

/-- Whose frame it is: the function, the way it was called, what it has deferred. -/
structure Cx where
  fn : FuncId
  kd : CallKind
  ds : List Deferred
structure Fits (ds : List Deferred) (n : Nat) (a : Act) (ρ : Env) : Prop where
  size : a.tmps.size = n
  defers : a.defers = ds
  val : ∀ t, a.tmps.getD t undef = ρ t

theorem upd_same (ρ : Env) (d : Nat) (v : Value) : upd ρ d v d = v := by
  simp [upd]
theorem upd_ne (ρ : Env) {d t : Nat} (v : Value) (h : t ≠ d) : upd ρ d v t = ρ t := by
  have : Nat.beq t d = false := by
    cases hb : Nat.beq t d
    · rfl
    · exact absurd (Nat.eq_of_beq_eq_true hb) h
  simp [upd, this]

theorem Fits.eval {ds : List Deferred} {n : Nat} {a : Act} {ρ : Env} (h : Fits ds n a ρ) : a.eval = ev ρ := by
  funext x
  cases x with
  | tmp t => exact h.val t
  | const v => rfl
  | global g => rfl
  | func f => rfl

theorem Fits.put {ds : List Deferred} {n : Nat} {a : Act} {ρ : Env} (h : Fits ds n a ρ) {d : Nat} (v : Value) (hd : Nat.blt d n = true) : Fits ds n (a.put (some d) v) (upd ρ d v) := by
  have hd' : d < n := by simpa [Nat.blt_eq] using hd
  refine ⟨?_, ?_, ?_⟩
  · simpa [Act.put] using h.size
  · simpa [Act.put] using h.defers
  · intro t
    by_cases e : t = d
    · subst e
      rw [upd_same]
      have hs : t < a.tmps.size := by rw [h.size]; exact hd'
      simp [Act.put, Array.getD_eq_getD_getElem?, hs]
    · rw [upd_ne _ _ e]
      rw [← h.val t]
      simp only [Act.put, Array.getD_eq_getD_getElem?]
      rw [Array.getElem?_setIfInBounds_ne (fun hh => e hh.symm)]

theorem Fits.put_none {ds : List Deferred} {n : Nat} {a : Act} {ρ : Env} (h : Fits ds n a ρ) (v : Value) : Fits ds n (a.put none v) ρ := h

theorem fits_start (n : Nat) (vs : List Value) (h : vs.length ≤ n) : Fits [] n { tmps := vs.toArray ++ Array.replicate (n - vs.toArray.size) undef, defers := [] } (envOf vs) := by
  refine ⟨?_, rfl, ?_⟩
  · simp; omega
  · intro t
    simp only [Array.getD_eq_getD_getElem?, envOf, List.getD_eq_getElem?_getD]
    by_cases e : t < vs.length
    · rw [Array.getElem?_append_left (by simpa using e)]
      simp
    · rw [Array.getElem?_append_right (by simp; omega)]
      have h2 : vs[t]? = none := by simp; omega
      rw [h2]
      by_cases e2 : t - vs.length < n - vs.length
      · simp [Array.getElem?_replicate, e2]
      · simp [Array.getElem?_replicate, e2]

/-! ### The judgement: from here the call returns, and R holds of what it returns and of the world -/
def baseFr (f : Cx) : Frame := { (default : Frame) with fn := f.fn, kind := f.kd }

structure T (P : Program) (f : Cx) (n : Nat) (todo : List Item) (R : Value → World → Prop) (ρ : Env) (w : World) : Prop where
  run : ∀ a, Fits f.ds n a ρ → ∀ cs, ∃ v w' fr, R v w' ∧ Steps P (lone ((baseFr f).at a todo) cs w) (lone fr cs w') ∧ fr.fn = f.fn ∧ fr.kind = f.kd ∧ fr.going P w' (.returned v)

/-- A call that returns. -/
def Ret (P : Program) (f : FuncId) (args : Array Value) (w : World) (R : Value → World → Prop) : Prop :=
  Calls P f args w fun e w' => ∃ v, e = .returned v ∧ R v w'

theorem Ret.mono {P : Program} {f : FuncId} {args : Array Value} {w : World} {R R' : Value → World → Prop} (h : Ret P f args w R) (hr : ∀ v w', R v w' → R' v w') : Ret P f args w R' :=
  Calls.mono h fun _ _ ⟨v, he, hv⟩ => ⟨v, he, hr v _ hv⟩

theorem ret_of_T {P : Program} {f : FuncId} {fn : Func} {c : Code} {vs : List Value} {w : World} {R : Value → World → Prop} {n : Nat}
    (hf : P.funcs[f]? = some fn) (hn : fn.ntmps = n) (hb : fn.body = some c) (hl : vs.length ≤ n)
    (h : T P ⟨f, .normal, []⟩ n [.code c] R (envOf vs) w) : Ret P f vs.toArray w R := by
  intro cs
  obtain ⟨v, w', fr, hR, hs, hfn, hkd, hm, hd, hl'⟩ := h.run _ (fits_start n vs hl) cs
  refine ⟨.returned v, w', fr, ⟨v, rfl, hR⟩, ?_, hfn, hm, hd, hkd, hl'⟩
  have henter : Frame.enter P f vs.toArray .normal =
      (baseFr ⟨f, .normal, []⟩).at { tmps := vs.toArray ++ Array.replicate (n - vs.toArray.size) undef, defers := [] } [.code c] := by
    simp [Frame.enter, Frame.at, hf, hb, baseFr, hn]
  show Steps P _ _
  rw [henter]
  exact hs

section
variable {P : Program} {f : Cx} {n : Nat} {R : Value → World → Prop} {ρ : Env} {w : World} {k : List Item}

theorem T.step {todo todo' : List Item} (hs : ∀ a cs, step P (lone ((baseFr f).at a todo) cs w) = .next (lone ((baseFr f).at a todo') cs w))
    (h : T P f n todo' R ρ w) : T P f n todo R ρ w := by
  refine ⟨fun a ha cs => ?_⟩
  obtain ⟨v, w', fr, hR, hst, h1, h2⟩ := h.run a ha cs
  exact ⟨v, w', fr, hR, .head (hs a cs) hst, h1, h2⟩

theorem T_seq {x y : Code} (h : T P f n (.code x :: .code y :: k) R ρ w) : T P f n (.code (.seq x y) :: k) R ρ w := h.step fun _ _ => step_seq
theorem T_skip (h : T P f n k R ρ w) : T P f n (.code .skip :: k) R ρ w := h.step fun _ _ => step_skip
theorem T_block {id : Nat} {c : Code} (h : T P f n (.code c :: .inBlock id :: k) R ρ w) : T P f n (.code (.block id c) :: k) R ρ w := h.step fun _ _ => step_block
theorem T_inBlock {id : Nat} (h : T P f n k R ρ w) : T P f n (.inBlock id :: k) R ρ w := h.step fun _ _ => step_inBlock
theorem T_exit {id : Nat} {k' : List Item} (hk : exitTo id k = some k') (h : T P f n k' R ρ w) : T P f n (.code (.exit id) :: k) R ρ w := h.step fun _ _ => step_exit hk

theorem T_cond {c : Operand} {x y : Code} (t : Bool) (hc : ev ρ c = .bool t) (h : T P f n (.code (if t then x else y) :: k) R ρ w) : T P f n (.code (.cond c x y) :: k) R ρ w := by
  refine ⟨fun a ha cs => ?_⟩
  obtain ⟨v, w', fr, hR, hst, h1, h2⟩ := h.run a ha cs
  exact ⟨v, w', fr, hR, .head (step_cond (by rw [ha.eval]; exact hc)) hst, h1, h2⟩
theorem T_true {c : Operand} {x y : Code} (hc : ev ρ c = .bool true) (h : T P f n (.code x :: k) R ρ w) : T P f n (.code (.cond c x y) :: k) R ρ w := T_cond true hc h
theorem T_false {c : Operand} {x y : Code} (hc : ev ρ c = .bool false) (h : T P f n (.code y :: k) R ρ w) : T P f n (.code (.cond c x y) :: k) R ρ w := T_cond false hc h
/-- Part on a test. -/
theorem T_if {c : Operand} {x y : Code} {t : Bool} (hc : ev ρ c = .bool t) (h1 : t = true → T P f n (.code x :: k) R ρ w) (h2 : t = false → T P f n (.code y :: k) R ρ w) : T P f n (.code (.cond c x y) :: k) R ρ w := by
  cases t
  · exact T_false hc (h2 rfl)
  · exact T_true hc (h1 rfl)

/-- A loop: an invariant with a number that falls. The round ends at '.inLoop c :: k'. -/
theorem T_loop {c : Code} (I : Nat → Env → World → Prop) (m : Nat) (h0 : I m ρ w)
    (round : ∀ m ρ w, I m ρ w → (∀ m' ρ' w', m' < m → I m' ρ' w' → T P f n (.inLoop c :: k) R ρ' w') → T P f n (.code c :: .inLoop c :: k) R ρ w) :
    T P f n (.code (.loop c) :: k) R ρ w := by
  have key : ∀ m ρ w, I m ρ w → T P f n (.code c :: .inLoop c :: k) R ρ w := by
    intro m
    induction m using Nat.strongRecOn with
    | _ m ih =>
      intro ρ w hI
      exact round m ρ w hI fun m' ρ' w' hm hI' => (ih m' hm ρ' w' hI').step fun _ _ => step_inLoop
  exact (key m ρ w h0).step fun _ _ => step_loop

theorem T_ret {fn : Func} (v : Value) (hf : P.funcs[f.fn]? = some fn) (hr : ∀ a, Fits f.ds n a ρ → (results fn a.tmps).run P w = .ok v w) (hR : R v w) (hds : f.ds = [] := by rfl) : T P f n (.code .ret :: k) R ρ w := by
  refine ⟨fun a ha cs => ?_⟩
  refine ⟨v, w, { (baseFr f).at a (.code .ret :: k) with mode := .returning }, hR, .one step_ret, rfl, ?_⟩
  exact ⟨rfl, rfl, ha.defers.trans hds, fn, hf, hr a ha⟩
theorem T_end {fn : Func} (v : Value) (hf : P.funcs[f.fn]? = some fn) (hr : ∀ a, Fits f.ds n a ρ → (results fn a.tmps).run P w = .ok v w) (hR : R v w) (hds : f.ds = [] := by rfl) : T P f n [] R ρ w := by
  refine ⟨fun a ha cs => ?_⟩
  refine ⟨v, w, { (baseFr f).at a [] with mode := .returning }, hR, .one step_end, rfl, ?_⟩
  exact ⟨rfl, rfl, ha.defers.trans hds, fn, hf, hr a ha⟩
theorem T_ret1 {fn : Func} {t : Tmp} (hf : P.funcs[f.fn]? = some fn) (hr : fn.results = #[.tmp t]) (hR : R (ρ t) w) (hds : f.ds = [] := by rfl) : T P f n (.code .ret :: k) R ρ w :=
  T_ret (ρ t) hf (fun a ha => by rw [results_tmp hr, ha.val]) hR hds
theorem T_ret2 {fn : Func} {t u : Tmp} (hf : P.funcs[f.fn]? = some fn) (hr : fn.results = #[.tmp t, .tmp u]) (hR : R (.tuple #[ρ t, ρ u]) w) (hds : f.ds = [] := by rfl) : T P f n (.code .ret :: k) R ρ w :=
  T_ret _ hf (fun a ha => by rw [results_tmp2 hr, ha.val, ha.val]) hR hds
theorem T_ret0 {fn : Func} (hf : P.funcs[f.fn]? = some fn) (hr : fn.results = #[]) (hR : R (.tuple #[]) w) (hds : f.ds = [] := by rfl) : T P f n (.code .ret :: k) R ρ w :=
  T_ret _ hf (fun a _ => by rw [results_none hr]) hR hds
theorem T_end0 {fn : Func} (hf : P.funcs[f.fn]? = some fn) (hr : fn.results = #[]) (hR : R (.tuple #[]) w) (hds : f.ds = [] := by rfl) : T P f n [] R ρ w :=
  T_end _ hf (fun a _ => by rw [results_none hr]) hR hds

/-! ### Regions -/
/-- The operations of a region, in the order of the text; behind them 'k'. -/
structure L (P : Program) (f : Cx) (n : Nat) (ops : Array Oper) (l : List Oper) (k : List Item) (R : Value → World → Prop) (ρ : Env) (w : World) : Prop where
  run : ∀ a, Fits f.ds n a ρ → wpList P ops (fun e a' w' => e = .normal ∧ ∃ ds' ρ', Fits ds' n a' ρ' ∧ T P { f with ds := ds' } n k R ρ' w') l a w

theorem T_region {id : Nat} {l : List Oper} (h : L P f n l.toArray l k R ρ w) : T P f n (.code (.region id l.toArray false) :: k) R ρ w := by
  refine ⟨fun a ha cs => ?_⟩
  have h1 := wpOps_eq_wpList (P := P) (ops := l.toArray) (Q := fun e a' w' => e = .normal ∧ ∃ ds' ρ', Fits ds' n a' ρ' ∧ T P { f with ds := ds' } n k R ρ' w') l 0 (by simp)
  have h2 : wpOps P l.toArray (fun e a' w' => e = .normal ∧ ∃ ds' ρ', Fits ds' n a' ρ' ∧ T P { f with ds := ds' } n k R ρ' w') (List.range l.toArray.size) a w := by
    rw [List.range_eq_range']
    have : l.toArray.size = l.length := by simp
    rw [this, h1]
    exact h.run a ha
  obtain ⟨e, a', w', ⟨rfl, ds', ρ', hf', ht⟩, harr⟩ := wp_ops _ a w h2 (baseFr f) k cs
  obtain ⟨v, w'', fr, hR, hst, h3, h4⟩ := ht.run a' hf' cs
  exact ⟨v, w'', fr, hR, .head step_region (Steps.trans harr hst), h3, h4⟩

variable {ops : Array Oper} {rest : List Oper}

theorem L_nil (h : T P f n k R ρ w) : L P f n ops [] k R ρ w := ⟨fun _ ha => ⟨rfl, f.ds, ρ, ha, h⟩⟩

/-- One operation that yields a value. -/
theorem L_val {d : Nat} {op : Op} {ty : TypeId} {pos : String} {after : Array Edge} (v : Value) (w' : World)
    (hrun : (execOp (ev ρ) ⟨some d, op, ty, pos, after, none⟩).run P w = .ok (.value v) w') (hd : Nat.blt d n = true)
    (h : L P f n ops rest k R (upd ρ d v) w') : L P f n ops (⟨some d, op, ty, pos, after, none⟩ :: rest) k R ρ w := by
  refine ⟨fun a ha => ?_⟩
  refine wpList_plain rfl fun K hK => ?_
  unfold Oper.wp
  rw [ha.eval, hrun]
  exact hK _ _ (h.run _ (ha.put v hd))

/-- One operation without a slot. -/
theorem L_skip {op : Op} {ty : TypeId} {pos : String} {after : Array Edge} (w' : World)
    (hrun : (execOp (ev ρ) ⟨none, op, ty, pos, after, none⟩).run P w = .ok .skip w')
    (h : L P f n ops rest k R ρ w') : L P f n ops (⟨none, op, ty, pos, after, none⟩ :: rest) k R ρ w := by
  refine ⟨fun a ha => ?_⟩
  refine wpList_plain rfl fun K hK => ?_
  unfold Oper.wp
  rw [ha.eval, hrun]
  exact hK _ _ (h.run _ ha)

/-- A call of a Go function by its contract. -/
theorem L_call {d : Nat} {op : Op} {ty : TypeId} {pos : String} {after : Array Edge} {g : FuncId} {args : Array Value} {S : Value → World → Prop}
    (hrun : (execOp (ev ρ) ⟨some d, op, ty, pos, after, none⟩).run P w = .ok (.enter g args) w) (hd : Nat.blt d n = true)
    (hc : Ret P g args w S) (h : ∀ v w', S v w' → L P f n ops rest k R (upd ρ d v) w') : L P f n ops (⟨some d, op, ty, pos, after, none⟩ :: rest) k R ρ w := by
  refine ⟨fun a ha => ?_⟩
  refine wpList_plain rfl fun K hK => ?_
  unfold Oper.wp
  rw [ha.eval, hrun]
  refine Calls.mono hc ?_
  rintro e w' ⟨v, rfl, hv⟩
  exact hK _ _ ((h v w' hv).run _ (ha.put v hd))
theorem L_call0 {op : Op} {ty : TypeId} {pos : String} {after : Array Edge} {g : FuncId} {args : Array Value} {S : Value → World → Prop}
    (hrun : (execOp (ev ρ) ⟨none, op, ty, pos, after, none⟩).run P w = .ok (.enter g args) w)
    (hc : Ret P g args w S) (h : ∀ v w', S v w' → L P f n ops rest k R ρ w') : L P f n ops (⟨none, op, ty, pos, after, none⟩ :: rest) k R ρ w := by
  refine ⟨fun a ha => ?_⟩
  refine wpList_plain rfl fun K hK => ?_
  unfold Oper.wp
  rw [ha.eval, hrun]
  refine Calls.mono hc ?_
  rintro e w' ⟨v, rfl, hv⟩
  exact hK _ _ ((h v w' hv).run _ ha)

/-- A guarded operation whose guard says yes. -/
theorem L_guard {dst : Option Tmp} {op : Op} {ty : TypeId} {pos : String} {after : Array Edge} {j dj : Nat} {want : Bool}
    (hj : (ops[j]?).bind (·.dst) = some dj) (hdj : Nat.blt dj n = true) (hv : ρ dj = .bool want)
    (h : L P f n ops (⟨dst, op, ty, pos, after, none⟩ :: rest) k R ρ w) : L P f n ops (⟨dst, op, ty, pos, after, some (j, want)⟩ :: rest) k R ρ w := by
  refine ⟨fun a ha => ?_⟩
  have h1 := h.run a ha
  have hw : Region.wanted ⟨dst, op, ty, pos, after, some (j, want)⟩ (yielded ops a.tmps) = true := by
    have hs : dj < a.tmps.size := by rw [ha.size]; simpa [Nat.blt_eq] using hdj
    have hx : a.tmps[dj]? = some (.bool want) := by
      have := ha.val dj
      rw [Array.getD_eq_getD_getElem?, Array.getElem?_eq_getElem hs] at this
      rw [Array.getElem?_eq_getElem hs]
      simp only [Option.getD_some] at this
      rw [this, hv]
    simp [Region.wanted, yielded, hj, hx]
  have hw0 : Region.wanted ⟨dst, op, ty, pos, after, none⟩ (yielded ops a.tmps) = true := rfl
  unfold wpList at h1 ⊢
  rw [if_pos hw0] at h1
  rw [if_pos hw]
  exact h1
/-- A guarded operation whose guard says no. -/
theorem L_pass {d : Nat} {op : Op} {ty : TypeId} {pos : String} {after : Array Edge} {j dj : Nat} {want : Bool}
    (hj : (ops[j]?).bind (·.dst) = some dj) (hv : ∀ b, ρ dj = .bool b → b = !want) (hd : Nat.blt d n = true)
    (h : L P f n ops rest k R (upd ρ d undef) w) : L P f n ops (⟨some d, op, ty, pos, after, some (j, want)⟩ :: rest) k R ρ w := by
  refine ⟨fun a ha => ?_⟩
  have hw : Region.wanted ⟨some d, op, ty, pos, after, some (j, want)⟩ (yielded ops a.tmps) = false := by
    simp only [Region.wanted, yielded, hj, Option.bind_some]
    cases hx : a.tmps[dj]? with
    | none => rfl
    | some v =>
      have hv' : ρ dj = v := by
        rw [← ha.val dj, Array.getD_eq_getD_getElem?, hx]; rfl
      cases v <;> try rfl
      rename_i b
      have := hv b hv'
      subst this
      cases want <;> rfl
  unfold wpList
  rw [if_neg (by rw [hw]; simp)]
  exact h.run _ (ha.put undef hd)
end

end Go.Proofs.Qxb6500863aDoor
