/-
  The walking kit, third part: loops over named slots; regions that draw their order; make, append, slices.
-/
import Derived.Test.Qxb6500863aDoorWk2
import Derived.Deep.Quiet
namespace Go.Proofs.Qxb6500863aDoor
set_option linter.unusedSimpArgs false
set_option linter.unusedVariables false
open Go.RowKit

/-- An environment with some slots written out. -/
def sets (ρ : Env) : List Nat → List Value → Env
  | s :: ss, v :: vs => upd (sets ρ ss vs) s v
  | _, _ => ρ
theorem upd_self (ρ : Env) (s : Nat) : upd ρ s (ρ s) = ρ := by
  funext t
  by_cases h : t = s
  · subst h; rw [upd_same]
  · rw [upd_ne _ _ h]
theorem sets_self (ρ : Env) : ∀ ss : List Nat, sets ρ ss (ss.map ρ) = ρ
  | [] => rfl
  | s :: ss => by
    simp only [List.map_cons, sets]
    rw [sets_self ρ ss, upd_self]

section
variable {P : Program} {f : Cx} {n : Nat} {R : Value → World → Prop} {ρ : Env} {w : World} {k : List Item}

/-- A loop whose invariant speaks of some slots. -/
theorem T_loopS {c : Code} (ss : List Nat) (I : Nat → List Value → World → Prop) (m : Nat) (h0 : I m (ss.map ρ) w)
    (round : ∀ m vs ρ w, I m vs w → (∀ m' ρ' w', m' < m → I m' (ss.map ρ') w' → T P f n (.inLoop c :: k) R ρ' w') → T P f n (.code c :: .inLoop c :: k) R (sets ρ ss vs) w) :
    T P f n (.code (.loop c) :: k) R ρ w := by
  refine T_loop (fun m ρ w => I m (ss.map ρ) w) m h0 fun m ρ w hI ih => ?_
  have := round m (ss.map ρ) ρ w hI ih
  rw [sets_self] at this
  exact this
/-- A cut: whatever way one comes here, some slots and the world are all that is known. -/
theorem T_cut {todo : List Item} (ss : List Nat) (I : List Value → World → Prop) (h0 : I (ss.map ρ) w) (rest : ∀ vs ρ w, I vs w → T P f n todo R (sets ρ ss vs) w) : T P f n todo R ρ w := by
  have := rest (ss.map ρ) ρ w h0
  rw [sets_self] at this
  exact this

/-- A struct result that lies in memory. -/
theorem T_retC {fn : Func} {t : Tmp} {rt : TypeId} {b o m : Nat} (cs : List Value) (hf : P.funcs[f.fn]? = some fn) (hr : fn.results = #[.cell t rt]) (ht : AG P rt true) (hs : SZ P rt m) (hm : cs.length = m)
    (hx : ρ t = .pointer (some ⟨b, o, none⟩)) (hc : ∀ j v, cs[j]? = some v → w.cell? ⟨b, o + j, none⟩ = some v) (hR : R (.agg cs.toArray) w) (hds : f.ds = [] := by rfl) : T P f n (.code .ret :: k) R ρ w := by
  refine T_ret _ hf (fun a ha => ?_) hR hds
  have h1 := ht w
  have h2 := hs w
  have h3 := run_loadCells_list (P := P) w ⟨b, o, none⟩ cs (fun j v hv => by rw [Addr.add_lit]; exact hc j v hv)
  have h4 : a.tmps.getD t undef = .pointer (some ⟨b, o, none⟩) := by rw [ha.val, hx]
  rw [Array.getD_eq_getD_getElem?] at h4
  simp only [results, hr]
  simp [h4, asAddr, loadVar, h1, h2, ← hm, h3]

/-! ### Regions that draw their order and whose operations are quiet in a class of worlds -/
structure LQ (P : Program) (f : Cx) (n : Nat) (ops : Array Oper) (C : World → Prop) (l : List Oper) (k : List Item) (R : Value → World → Prop) (ρ : Env) : Prop where
  run : ∀ a, Fits f.ds n a ρ → wpQuiet P ops C (fun a' => ∀ w', C w' → ∃ ρ', Fits f.ds n a' ρ' ∧ T P f n k R ρ' w') l a

theorem T_quiet {id : Nat} {l : List Oper} (C : World → Prop) (hm : P.follows .mixedOrders = true) (hB : Region.lexB .any l.toArray = true) (hC : C w.drew) (h : LQ P f n l.toArray C l k R ρ) :
    T P f n (.code (.region id l.toArray true) :: k) R ρ w := by
  refine ⟨fun a ha cs => ?_⟩
  have hw := wp_region_quiet (P := P) (id := id) (Q := fun e a' w' => e = .normal ∧ ∃ ρ', Fits f.ds n a' ρ' ∧ T P f n k R ρ' w') (a := a) (w := w) (C := C) hm hB hC (by
    have h1 := h.run a ha
    have h2 : (fun a' => ∀ w', C w' → ∃ ρ', Fits f.ds n a' ρ' ∧ T P f n k R ρ' w') = (fun a' => ∀ w', C w' → (Exit.normal = Exit.normal ∧ ∃ ρ', Fits f.ds n a' ρ' ∧ T P f n k R ρ' w')) := by
      funext a'; simp
    rw [h2] at h1
    simpa using h1)
  obtain ⟨e, a', w', ⟨rfl, ρ', hf', ht⟩, harr⟩ := hw (baseFr f) k cs
  obtain ⟨v, w'', fr, hR, hst, h3, h4⟩ := ht.run a' hf' cs
  exact ⟨v, w'', fr, hR, Steps.trans harr hst, h3, h4⟩

variable {ops : Array Oper} {rest : List Oper} {C : World → Prop}
variable {d : Nat} {ty : TypeId} {pos : String} {after : Array Edge}
theorem LQ_nil (h : ∀ w, C w → T P f n k R ρ w) : LQ P f n ops C [] k R ρ := ⟨fun _ ha w hw => ⟨ρ, ha, h w hw⟩⟩
theorem LQ_val {op : Op} (v : Value) (hrun : ∀ w, C w → (execOp (ev ρ) ⟨some d, op, ty, pos, after, none⟩).run P w = .ok (.value v) w) (hd : Nat.blt d n = true)
    (h : LQ P f n ops C rest k R (upd ρ d v)) : LQ P f n ops C (⟨some d, op, ty, pos, after, none⟩ :: rest) k R ρ := by
  refine ⟨fun a ha => ?_⟩
  unfold wpQuiet
  rw [if_pos (show Region.wanted ⟨some d, op, ty, pos, after, none⟩ (yielded ops a.tmps) = true from rfl)]
  refine ⟨v, fun w hw => ?_, h.run _ (ha.put v hd)⟩
  unfold Oper.quietAt
  rw [ha.eval, hrun w hw]
  exact ⟨rfl, rfl⟩
theorem LQ_call {op : Op} {g : FuncId} {args : Array Value} (v : Value) (hrun : ∀ w, C w → (execOp (ev ρ) ⟨some d, op, ty, pos, after, none⟩).run P w = .ok (.enter g args) w) (hd : Nat.blt d n = true)
    (hc : ∀ w, C w → Ret P g args w fun u w' => u = v ∧ C w')
    (h : LQ P f n ops C rest k R (upd ρ d v)) : LQ P f n ops C (⟨some d, op, ty, pos, after, none⟩ :: rest) k R ρ := by
  refine ⟨fun a ha => ?_⟩
  unfold wpQuiet
  rw [if_pos (show Region.wanted ⟨some d, op, ty, pos, after, none⟩ (yielded ops a.tmps) = true from rfl)]
  refine ⟨v, fun w hw => ?_, h.run _ (ha.put v hd)⟩
  unfold Oper.quietAt
  rw [ha.eval, hrun w hw]
  refine ⟨rfl, Calls.mono (hc w hw) ?_⟩
  rintro e w' ⟨u, rfl, rfl, hw'⟩
  exact ⟨rfl, hw'⟩
theorem LQ_guard {dst : Option Tmp} {op : Op} {j dj : Nat} {want : Bool}
    (hj : (ops[j]?).bind (·.dst) = some dj) (hdj : Nat.blt dj n = true) (hv : ρ dj = .bool want)
    (h : LQ P f n ops C (⟨dst, op, ty, pos, after, none⟩ :: rest) k R ρ) : LQ P f n ops C (⟨dst, op, ty, pos, after, some (j, want)⟩ :: rest) k R ρ := by
  refine ⟨fun a ha => ?_⟩
  have h1 := h.run a ha
  have hw : Region.wanted ⟨dst, op, ty, pos, after, some (j, want)⟩ (yielded ops a.tmps) = true := by
    have hs : dj < a.tmps.size := by rw [ha.size]; simpa [Nat.blt_eq] using hdj
    have hx : a.tmps[dj]? = some (.bool want) := by
      have := ha.val dj
      rw [Array.getD_eq_getD_getElem?, Array.getElem?_eq_getElem hs] at this
      rw [Array.getElem?_eq_getElem hs]
      simp only [Option.getD_some] at this
      rw [this, hv]
    simp [Region.wanted, yielded, hj, hx]
  have hw0 : Region.wanted ⟨dst, op, ty, pos, after, none⟩ (yielded ops a.tmps) = true := rfl
  unfold wpQuiet at h1 ⊢
  rw [if_pos hw0] at h1
  rw [if_pos hw]
  exact h1
theorem LQ_pass {op : Op} {j dj : Nat} {want : Bool}
    (hj : (ops[j]?).bind (·.dst) = some dj) (hv : ∀ b, ρ dj = .bool b → b = !want) (hd : Nat.blt d n = true)
    (h : LQ P f n ops C rest k R (upd ρ d undef)) : LQ P f n ops C (⟨some d, op, ty, pos, after, some (j, want)⟩ :: rest) k R ρ := by
  refine ⟨fun a ha => ?_⟩
  have hw : Region.wanted ⟨some d, op, ty, pos, after, some (j, want)⟩ (yielded ops a.tmps) = false := by
    simp only [Region.wanted, yielded, hj, Option.bind_some]
    cases hx : a.tmps[dj]? with
    | none => rfl
    | some v =>
      have hv' : ρ dj = v := by
        rw [← ha.val dj, Array.getD_eq_getD_getElem?, hx]; rfl
      cases v <;> try rfl
      rename_i b
      have := hv b hv'
      subst this
      cases want <;> rfl
  unfold wpQuiet
  rw [if_neg (by rw [hw]; simp)]
  exact h.run _ (ha.put undef hd)

theorem L_passB {op : Op} {j dj : Nat} {want : Bool} (hj : (ops[j]?).bind (·.dst) = some dj) (hv : ρ dj = .bool (!want)) (hd : Nat.blt d n = true)
    (h : L P f n ops rest k R (upd ρ d undef) w) : L P f n ops (⟨some d, op, ty, pos, after, some (j, want)⟩ :: rest) k R ρ w :=
  L_pass hj (fun b hb => by rw [hv] at hb; cases hb; rfl) hd h
theorem L_passU {op : Op} {j dj : Nat} {want : Bool} (hj : (ops[j]?).bind (·.dst) = some dj) (hv : ρ dj = undef) (hd : Nat.blt d n = true)
    (h : L P f n ops rest k R (upd ρ d undef) w) : L P f n ops (⟨some d, op, ty, pos, after, some (j, want)⟩ :: rest) k R ρ w :=
  L_pass hj (fun b hb => by rw [hv] at hb; cases hb) hd h
theorem LQ_passB {op : Op} {j dj : Nat} {want : Bool} (hj : (ops[j]?).bind (·.dst) = some dj) (hv : ρ dj = .bool (!want)) (hd : Nat.blt d n = true)
    (h : LQ P f n ops C rest k R (upd ρ d undef)) : LQ P f n ops C (⟨some d, op, ty, pos, after, some (j, want)⟩ :: rest) k R ρ :=
  LQ_pass hj (fun b hb => by rw [hv] at hb; cases hb; rfl) hd h
theorem LQ_passU {op : Op} {j dj : Nat} {want : Bool} (hj : (ops[j]?).bind (·.dst) = some dj) (hv : ρ dj = undef) (hd : Nat.blt d n = true)
    (h : LQ P f n ops C rest k R (upd ρ d undef)) : LQ P f n ops C (⟨some d, op, ty, pos, after, some (j, want)⟩ :: rest) k R ρ :=
  LQ_pass hj (fun b hb => by rw [hv] at hb; cases hb) hd h
theorem X_cmpR {w : World} {dst : Option Tmp} {gd : Option (Nat × Bool)} {op : BinOp} {t t' : TypeId} {x y : Operand} {q : IntKind} {a b : Int} (r : Bool) (hop : isCmp op = true) (hx : ev ρ x = .int q a) (hy : ev ρ y = .int q b) (hr : cmpB op a b = r) :
    (execOp (ev ρ) ⟨dst, .binOp op t x y t', ty, pos, after, gd⟩).run P w = .ok (.value (.bool r)) w := by
  rw [X_cmp hop hx hy, hr]

theorem run_eqIn_nil (d' : Nat) {w : World} {t e : TypeId} {a : Option Addr} {l c : Nat} (ht : UN P t (.slice e)) : (Op.equalIn (d' + 1) t (.slice a l c) (.slice none 0 0)).run P w = .ok a.isNone w := by
  have h1 := ht w
  cases a <;> simp [Op.equalIn, h1]
theorem run_eqIn_bool (d' : Nat) {w : World} {t : TypeId} {a b : Bool} (ht : UN P t .bool) : (Op.equalIn (d' + 1) t (.bool a) (.bool b)).run P w = .ok (a == b) w := by
  have h1 := ht w
  simp [Op.equalIn, h1]
theorem X_eqNil {w : World} {dst : Option Tmp} {gd : Option (Nat × Bool)} {t t' e : TypeId} {x : Operand} {a : Option Addr} {l c : Nat} (ht : UN P t (.slice e)) (hx : ev ρ x = .slice a l c) :
    (execOp (ev ρ) ⟨dst, .binOp .eql t x (.const (.slice none 0 0)) t', ty, pos, after, gd⟩).run P w = .ok (.value (.bool a.isNone)) w := by
  refine X_eq ?_
  rw [hx]
  have h2 : (Op.equal t (.slice a l c) (.slice none 0 0)).run P w = .ok a.isNone w := run_eqIn_nil 9999 ht
  simp [ev, eqGuard, binOp, h2]
theorem X_neqNil {w : World} {dst : Option Tmp} {gd : Option (Nat × Bool)} {t t' e : TypeId} {x : Operand} {a : Option Addr} {l c : Nat} (ht : UN P t (.slice e)) (hx : ev ρ x = .slice a l c) :
    (execOp (ev ρ) ⟨dst, .binOp .neq t x (.const (.slice none 0 0)) t', ty, pos, after, gd⟩).run P w = .ok (.value (.bool a.isSome)) w := by
  refine X_neq ?_
  rw [hx]
  have h2 : (Op.equal t (.slice a l c) (.slice none 0 0)).run P w = .ok a.isNone w := run_eqIn_nil 9999 ht
  cases a <;> simp [ev, eqGuard, binOp] at h2 ⊢ <;> simp [h2]
theorem X_neqB {w : World} {dst : Option Tmp} {gd : Option (Nat × Bool)} {t t' : TypeId} {x y : Operand} {a b : Bool} (ht : UN P t .bool) (hx : ev ρ x = .bool a) (hy : ev ρ y = .bool b) :
    (execOp (ev ρ) ⟨dst, .binOp .neq t x y t', ty, pos, after, gd⟩).run P w = .ok (.value (.bool (!(a == b)))) w := by
  refine X_neq ?_
  rw [hx, hy]
  have h2 : (Op.equal t (.bool a) (.bool b)).run P w = .ok (a == b) w := run_eqIn_bool 9999 ht
  simp only [eqGuard, binOp, Sem.run_bind, Bool.not_true, Bool.false_eq_true, if_false, Sem.run_pure, Result.andThen_ok, h2]
theorem X_eqB {w : World} {dst : Option Tmp} {gd : Option (Nat × Bool)} {t t' : TypeId} {x y : Operand} {a b : Bool} (ht : UN P t .bool) (hx : ev ρ x = .bool a) (hy : ev ρ y = .bool b) :
    (execOp (ev ρ) ⟨dst, .binOp .eql t x y t', ty, pos, after, gd⟩).run P w = .ok (.value (.bool (a == b))) w := by
  refine X_eq ?_
  rw [hx, hy]
  have h2 : (Op.equal t (.bool a) (.bool b)).run P w = .ok (a == b) w := run_eqIn_bool 9999 ht
  simp only [eqGuard, binOp, Sem.run_bind, Bool.not_true, Bool.false_eq_true, if_false, Sem.run_pure, Result.andThen_ok, h2]

/-! ### make, append, slices -/
theorem L_make {t e : TypeId} {x y : Operand} {q q' : IntKind} {l c sz by_ : Nat} {z : Value} (ht : P.underlying t = some (.slice e)) (hi : (P.info? e).map (fun i => (i.zero, i.size, i.bytes)) = some (some z, sz, by_))
    (hx : ev ρ x = .int q l) (hy : ev ρ y = .int q' c) (hlc : l ≤ c) (hb : by_ * c ≤ 281474976710656) (hm : c ≤ maxLen) (hd : Nat.blt d n = true)
    (h : ∀ w1, Chg w w1 w.heap.size (.cells (madeCells z.cells (c * sz)) e (0, 0)) → L P f n ops rest k R (upd ρ d (.slice (some ⟨w.heap.size, 0, none⟩) l c)) w1) :
    L P f n ops (⟨some d, .makeSlice t x y, ty, pos, after, none⟩ :: rest) k R ρ w := by
  obtain ⟨i, hi1, hi2, hi3, hi4⟩ := info_parts hi
  subst hi3
  subst hi4
  have h63' : (c : Int) ≤ 9223372036854775807 := by
    have h := hm
    simp [maxLen] at h
    omega
  have hb' : (i.bytes : Int) * (c : Int) ≤ 281474976710656 := by
    have h : ((i.bytes * c : Nat) : Int) ≤ 281474976710656 := by omega
    rwa [Int.natCast_mul] at h
  have hr := run_make (P := P) w t e i z ht hi1 hi2 q q' l c (by omega) (by omega) hb' h63'
  simp only [Int.toNat_natCast] at hr
  refine L_val _ _ ?_ hd (h _ (chg_alloc _ _))
  simp only [execOp, hx, hy, Sem.run_bind, hr, Result.andThen_ok]
  rfl
theorem L_append {t e : TypeId} {s x : Operand} {sz by_ : Nat} {z : Value} (base : Nat) (v : Value) (m0 : Nat) (xs : List Value) (ao : Option Addr) (m c : Nat) (news : List Value)
    (ht : P.underlying t = some (.slice e)) (hi : (P.info? e).map (fun i => (i.zero, i.size, i.bytes)) = some (some z, sz, by_)) (hzs : z.cells.size = sz) (hsz : 0 < sz)
    (hs : ev ρ s = v) (hown : w.ownsRow base e sz v m0 xs) (hx : ev ρ x = .slice ao m c) (hl : news.length = m * sz) (hnone : ao = none → m = 0 ∧ c = 0)
    (hc : ∀ a, ao = some a → ∀ j u, news[j]? = some u → w.cell? (a.add j) = some u) (h1 : ∀ u ∈ news, u.oneCell' = true)
    (h63 : m0 + m ≤ maxLen) (hb : (m0 + m) * by_ ≤ 140737488355328) (hbase : base ≤ w.heap.size) (hd : Nat.blt d n = true)
    (h : ∀ v' w1, w1.ownsRow base e sz v' (m0 + m) (xs ++ news) → w.grownBy w1 v.ownBlock → L P f n ops rest k R (upd ρ d v') w1) :
    L P f n ops (⟨some d, .call { callee := .builtin .append, args := #[s, x], argTypes := #[t, t] }, ty, pos, after, none⟩ :: rest) k R ρ w := by
  obtain ⟨i, hi1, hi2, hi3, hi4⟩ := info_parts hi
  cases ao with
  | none =>
    obtain ⟨rfl, rfl⟩ := hnone rfl
    have hn0 : news = [] := List.eq_nil_of_length_eq_zero (by simpa using hl)
    subst hn0
    have hr := run_append_owned_none (P := P) w base t ty e i sz ht hi1 v m0 xs hown
    refine L_val v w ?_ hd (h v w (by simpa using hown) (World.grownBy.refl _ _))
    simp [execOp, resolve, invoke, builtin, hs, hx, hr]
  | some a =>
    obtain ⟨v', w', hr, o1, o2, _⟩ := run_append_own (P := P) w base t ty e i z sz by_ ht hi1 hi2 hi3 hi4 hzs hsz v m0 xs hown a m c news hl (hc a rfl) h1 h63 hb hbase
    refine L_val v' w' ?_ hd (h v' w' o1 o2)
    simp [execOp, resolve, invoke, builtin, hs, hx, hr]
theorem L_append1 {t e : TypeId} {s x : Operand} {sz by_ : Nat} {z : Value} (base : Nat) (v : Value) (m0 : Nat) (xs : List Value) (g : Nat) (news : List Value)
    (ht : P.underlying t = some (.slice e)) (hi : (P.info? e).map (fun i => (i.zero, i.size, i.bytes)) = some (some z, sz, by_)) (hzs : z.cells.size = sz) (hsz : 0 < sz)
    (hs : ev ρ s = v) (hown : w.ownsRow base e sz v m0 xs) (hx : ev ρ x = .slice (some ⟨g, 0, none⟩) 1 1) (hl : news.length = sz) {t' : TypeId} (hblk : Blk w g news.toArray t') (h1 : ∀ u ∈ news, u.oneCell' = true)
    (h63 : m0 + 1 ≤ maxLen) (hb : (m0 + 1) * by_ ≤ 140737488355328) (hbase : base ≤ w.heap.size) (hd : Nat.blt d n = true)
    (h : ∀ v' w1, w1.ownsRow base e sz v' (m0 + 1) (xs ++ news) → w.grownBy w1 v.ownBlock → L P f n ops rest k R (upd ρ d v') w1) :
    L P f n ops (⟨some d, .call { callee := .builtin .append, args := #[s, x], argTypes := #[t, t] }, ty, pos, after, none⟩ :: rest) k R ρ w := by
  refine L_append base v m0 xs (some ⟨g, 0, none⟩) 1 1 news ht hi hzs hsz hs hown hx (by omega) (by simp) ?_ h1 h63 hb hbase hd h
  intro a ha j u hu
  obtain rfl := Option.some.inj ha
  rw [Addr.add_lit]
  simp only [Nat.zero_add]
  rw [hblk.cell]
  simpa using hu
end
/-- The same memory. -/
structure Sm (w x : World) : Prop where
  heap : x.heap = w.heap
  os : x.os = w.os
  tape : x.tape = w.tape
  output : x.output = w.output
theorem sm_drew (w : World) : Sm w w.drew := ⟨rfl, rfl, rfl, rfl⟩
theorem Sm.refl (w : World) : Sm w w := ⟨rfl, rfl, rfl, rfl⟩
theorem Sm.cell {w x : World} (h : Sm w x) (a : Addr) : x.cell? a = w.cell? a := by simp [World.cell?, h.heap]
theorem Sm.blk {w x : World} (h : Sm w x) {b : Nat} {c : Array Value} {t : TypeId} (hb : Blk w b c t) : Blk x b c t := by unfold Blk at *; rw [h.heap]; exact hb
theorem Sm.below {w0 w x : World} {B : Nat} (h : Sm w x) (hb : Below B w0 w) : Below B w0 x := ⟨h.os.trans hb.os, h.tape.trans hb.tape, h.output.trans hb.output, by rw [h.heap]; exact hb.size, fun k hk => by rw [h.heap]; exact hb.block k hk⟩
theorem Sm.owns {w x : World} (h : Sm w x) {base n : Nat} {e : TypeId} {sz : Nat} {v : Value} {xs : List Value} (ho : w.ownsRow base e sz v n xs) : x.ownsRow base e sz v n xs := by unfold World.ownsRow at *; rw [h.heap]; exact ho
theorem grown_blk {w w' : World} {row : Option Nat} {k : Nat} {c : Array Value} {t : TypeId} (hg : w.grownBy w' row) (hb : Blk w k c t) (hne : row ≠ some k) : Blk w' k c t :=
  (hg.block k hb.lt (fun e => hne e.symm)).trans hb
theorem grown_below {w0 w w' : World} {B base n : Nat} {e : TypeId} {sz : Nat} {v : Value} {xs : List Value} (hB : Below B w0 w) (hown : w.ownsRow base e sz v n xs) (hg : w.grownBy w' v.ownBlock) (h0 : B ≤ w.heap.size) (hb : B ≤ base) : Below B w0 w' :=
  hB.grown hg h0 fun k hk => Nat.le_trans hb (hown.lt k hk).1
theorem chg_owns {w w1 : World} {b base n : Nat} {o : Obj} {e : TypeId} {sz : Nat} {v : Value} {xs : List Value} (hc : Chg w w1 b o) (h : w.ownsRow base e sz v n xs) (hne : v.ownBlock ≠ some b) : w1.ownsRow base e sz v n xs := by
  refine ⟨h.1, ?_⟩
  rcases h.2 with h' | ⟨g, cap, cur, rfl, hb, hgg, hrest⟩
  · exact .inl h'
  · refine .inr ⟨g, cap, cur, rfl, hb, ?_, hrest⟩
    rw [hc.oth g (fun e => hne (by simp [Value.ownBlock, e]))]
    exact hgg
theorem owns_made {w w1 : World} {base c sz : Nat} {e : TypeId} {z : Array Value} (hc : Chg w w1 w.heap.size (.cells (madeCells z (c * sz)) e (0, 0))) (hb : base ≤ w.heap.size) (hm : c ≤ maxLen) : w1.ownsRow base e sz (.slice (some ⟨w.heap.size, 0, none⟩) 0 c) 0 [] :=
  ⟨by simp, .inr ⟨w.heap.size, c, _, rfl, hb, hc.here, Nat.zero_le _, hm, size_madeCells _ _, by simp⟩⟩
theorem owns_made_full {w w1 : World} {base c sz : Nat} {e : TypeId} {z : Array Value} (hc : Chg w w1 w.heap.size (.cells (madeCells z (c * sz)) e (0, 0))) (hb : base ≤ w.heap.size) (hm : c ≤ maxLen) : w1.ownsRow base e sz (.slice (some ⟨w.heap.size, 0, none⟩) c c) c (madeCells z (c * sz)).toList :=
  ⟨by simp [size_madeCells], .inr ⟨w.heap.size, c, _, rfl, hb, hc.here, Nat.le_refl _, hm, size_madeCells _ _, List.take_of_length_le (by simp [size_madeCells])⟩⟩
/-- What an owned row's value looks like. -/
theorem owns_val {w : World} {base n : Nat} {e : TypeId} {sz : Nat} {v : Value} {xs : List Value} (h : w.ownsRow base e sz v n xs) : ∃ a c, v = .slice a n c ∧ (a = none → n = 0 ∧ c = 0) ∧ ∀ ad, a = some ad → ∃ g, ad = ⟨g, 0, none⟩ ∧ base ≤ g ∧ g < w.heap.size := by
  rcases h.2 with ⟨rfl, rfl⟩ | ⟨g, cap, cur, rfl, hb, hgg, hrest⟩
  · exact ⟨none, 0, rfl, fun _ => ⟨rfl, rfl⟩, (fun _ h => absurd h (by simp))⟩
  · exact ⟨some ⟨g, 0, none⟩, cap, rfl, (fun h => absurd h (by simp)), fun ad had => ⟨g, (Option.some.inj had).symm, hb, (Array.getElem?_eq_some_iff.1 hgg).1⟩⟩
end Go.Proofs.Qxb6500863aDoor
