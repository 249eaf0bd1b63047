/-
  append that keeps the old row; Hash.Sum; octetsm.Wipe.
-/
import Derived.Test.Qxb6500863aDoorGC
namespace Go.Proofs.Qxb6500863aDoor
set_option linter.unusedSimpArgs false
set_option linter.unusedVariables false
open Go.RowKit
/-- A deferred call that returns. -/
def RetD (P : Program) (g : FuncId) (args : Array Value) (w : World) (Z : Value → World → Prop) : Prop := ∀ u, CallsD P g args u w fun e u' w' => u' = u ∧ ∃ v, e = .returned v ∧ Z v w'
theorem RetD.mono {P : Program} {g : FuncId} {args : Array Value} {w : World} {Z Z' : Value → World → Prop} (h : RetD P g args w Z) (hz : ∀ v w', Z v w' → Z' v w') : RetD P g args w Z' :=
  fun u => (h u).mono fun _ _ _ ⟨h1, v, h2, h3⟩ => ⟨h1, v, h2, hz _ _ h3⟩
theorem both_of_T {P : Program} {f : FuncId} {fn : Func} {c : Code} {vs : List Value} {w : World} {R : Value → World → Prop} {n : Nat}
    (hf : P.funcs[f]? = some fn) (hn : fn.ntmps = n) (hb : fn.body = some c) (hl : vs.length ≤ n)
    (h : ∀ kd, T P ⟨f, kd, []⟩ n [.code c] R (envOf vs) w) : Ret P f vs.toArray w R ∧ RetD P f vs.toArray w R := by
  refine ⟨ret_of_T hf hn hb hl (h .normal), fun u c₀ cs hu => ?_⟩
  obtain ⟨v, w', fr, hR, hs, hfn, hkd, hgo⟩ := (h .deferred).run _ (fits_start n vs hl) (c₀ :: cs)
  have henter : Frame.enter P f vs.toArray .deferred =
      (baseFr ⟨f, .deferred, []⟩).at { tmps := vs.toArray ++ Array.replicate (n - vs.toArray.size) undef, defers := [] } [.code c] := by
    simp [Frame.enter, Frame.at, hf, hb, baseFr, hn]
  have hc : ({ c₀ with mode := u } : Frame) = c₀ := by subst hu; rfl
  refine ⟨.returned v, u, w', fr, ⟨rfl, v, rfl, hR⟩, ?_, hkd, hgo⟩
  rw [hc]
  show Steps P _ _
  rw [henter]
  exact hs
section
variable {P : Program} {f : Cx} {n : Nat} {R : Value → World → Prop} {ρ : Env} {w : World} {k : List Item} {ops : Array Oper} {rest : List Oper} {S : World → Prop} {N fuel : Nat} {listed : Array Bool}
variable {d : Nat} {dst : Option Tmp} {ty : TypeId} {pos : String} {after : Array Edge}
theorem L_defer {op : Op} (d : Deferred) (hrun : (execOp (ev ρ) ⟨none, op, ty, pos, after, none⟩).run P w = .ok (.defer d) w)
    (h : L P { f with ds := d :: f.ds } n ops rest k R ρ w) : L P f n ops (⟨none, op, ty, pos, after, none⟩ :: rest) k R ρ w := by
  refine ⟨fun a ha => ?_⟩
  refine wpList_plain rfl fun K hK => ?_
  unfold Oper.wp
  rw [ha.eval, hrun]
  exact hK _ _ (h.run _ ⟨ha.size, by rw [← ha.defers]; rfl, ha.val⟩)
theorem L_deferF {g : FuncId} {xs : Array Operand} {ts : Array TypeId} (args : List Value) (ha : xs.toList.map (ev ρ) = args)
    (h : L P { f with ds := ⟨.fn (.func g) #[], args.toArray⟩ :: f.ds } n ops rest k R ρ w) : L P f n ops (⟨none, .defer { callee := .value (.func g), args := xs, argTypes := ts }, ty, pos, after, none⟩ :: rest) k R ρ w := by
  refine L_defer _ ?_ h
  have e : xs.map (ev ρ) = args.toArray := by
    rw [← ha]; apply Array.ext'; simp
  simp [execOp, resolve, e, ev, Deferred.ofValue]
theorem T_leave {fn : Func} {g : FuncId} {args : Array Value} {Z : Value → World → Prop} {fv : Fn} {cap dargs : Array Value} (hf : P.funcs[f.fn]? = some fn) (hds : f.ds = [⟨.fn fv cap, dargs⟩]) (hkd : f.kd = .normal)
    (hi : (invoke (.fn fv cap) dargs).run P w = .ok (.enter g args) w) (hc : RetD P g args w Z) (h : ∀ a v w', Fits f.ds n a ρ → Z v w' → ∃ v, (results fn a.tmps).run P w' = .ok v w' ∧ R v w') : T P f n (.code .ret :: k) R ρ w := by
  refine ⟨fun a ha cs => ?_⟩
  have hlv : Leaves P fn a.tmps (fun e w' => ∃ v, e = .returned v ∧ R v w') [⟨.fn fv cap, dargs⟩] .returning w := by
    refine leaves_cons (by simp) hi ((hc .returning).mono ?_)
    rintro e u' w' ⟨rfl, v, rfl, hz⟩
    obtain ⟨v', h1, h2⟩ := h a v w' ha hz
    exact ⟨v', h1, v', rfl, h2⟩
  obtain ⟨e, w', fr', ⟨v, rfl, hR⟩, hs, hfn, hm, hd, hk, hr⟩ := leaves_steps _ _ w { (baseFr f).at a (.code .ret :: k) with mode := .returning } cs rfl (ha.defers.trans hds) rfl hf hkd hlv
  exact ⟨v, w', fr', hR, .head step_ret hs, hfn, hk.trans hkd.symm, hm, hd, hr⟩
theorem T_ret1D {fn : Func} {t : Tmp} {g : FuncId} {args : Array Value} {Z : Value → World → Prop} {fv : Fn} {cap dargs : Array Value} (hf : P.funcs[f.fn]? = some fn) (hr : fn.results = #[.tmp t]) (hds : f.ds = [⟨.fn fv cap, dargs⟩]) (hkd : f.kd = .normal)
    (hi : (invoke (.fn fv cap) dargs).run P w = .ok (.enter g args) w) (hc : RetD P g args w Z) (h : ∀ v w', Z v w' → R (ρ t) w') : T P f n (.code .ret :: k) R ρ w :=
  T_leave hf hds hkd hi hc fun a v w' ha hz => ⟨ρ t, by rw [results_tmp hr, ha.val], h v w' hz⟩
theorem T_ret2D {fn : Func} {t u : Tmp} {g : FuncId} {args : Array Value} {Z : Value → World → Prop} {fv : Fn} {cap dargs : Array Value} (hf : P.funcs[f.fn]? = some fn) (hr : fn.results = #[.tmp t, .tmp u]) (hds : f.ds = [⟨.fn fv cap, dargs⟩]) (hkd : f.kd = .normal)
    (hi : (invoke (.fn fv cap) dargs).run P w = .ok (.enter g args) w) (hc : RetD P g args w Z) (h : ∀ v w', Z v w' → R (.tuple #[ρ t, ρ u]) w') : T P f n (.code .ret :: k) R ρ w :=
  T_leave hf hds hkd hi hc fun a v w' ha hz => ⟨_, by rw [results_tmp2 hr, ha.val, ha.val], h v w' hz⟩
theorem inv_func {g : FuncId} {args : Array Value} (hg : EN P g) : (invoke (.fn (.func g) #[]) args).run P w = .ok (.enter g args) w := by
  have := hg args w
  simpa [invoke] using this
/-- Whatever append onto a row of the call's own does, the old row reads as it read. -/
theorem append_keep (w : World) (base : Nat) (t ty e : TypeId) (i : TypeInfo) (z : Value) (by_ sz : Nat) (ht : P.underlying t = some (.slice e)) (hi : P.info? e = some i) (hz : i.zero = some z) (hsz : i.size = sz) (hby : i.bytes = by_)
    (v : Value) (m0 : Nat) (xs : List Value) (hown : w.ownsRow base e sz v m0 xs) (a : Addr) (m c : Nat) (news : List Value) (hl : news.length = m * sz) (hc : ∀ j u, news[j]? = some u → w.cell? (a.add j) = some u) (h1 : ∀ u ∈ news, u.oneCell' = true)
    (h63 : m0 + m ≤ maxLen) (hb : (m0 + m) * by_ ≤ 140737488355328) {v' : Value} {w' : World} (hr : (Builtin.append_ #[t, t] ty #[v, .slice (some a) m c]).run P w = .ok v' w') : w'.ownsRow base e sz v m0 xs := by
  subst hsz
  subst hby
  have h63' : ((m0 + m : Nat) : Int) ≤ 9223372036854775807 := by simp only [maxLen] at h63; omega
  refine ⟨hown.1, ?_⟩
  rcases hown.2 with h0 | ⟨g, cap, cur, rfl, hbg, hg, hnc, hcm, hcs, htake⟩
  · exact .inl h0
  refine .inr ?_
  by_cases hroom : m0 + m ≤ cap
  · have hfit : m0 * i.size + news.length ≤ cur.size := by rw [hl, hcs, ← Nat.add_mul]; exact Nat.mul_le_mul_right _ hroom
    rw [run_append_room (P := P) w t ty e i ht hi g m0 cap cur hg a m c news hl hc h1 hroom hfit] at hr
    simp only [Result.ok.injEq] at hr
    obtain ⟨-, rfl⟩ := hr
    refine ⟨g, cap, _, rfl, hbg, setRow_heap w g cur _ e _ hg, hnc, hcm, ?_, ?_⟩
    · simp only [List.size_toArray, List.length_append, List.length_take, List.length_drop, Array.length_toList]
      omega
    · rw [htake, List.append_assoc]
      rw [← hown.1]
      exact List.take_left
  · have holds : ∀ j u, xs[j]? = some u → w.cell? ((⟨g, 0, none⟩ : Addr).add j) = some u := hown.cells (g := g) rfl
    rw [run_append_grow (P := P) w t ty e i z ht hi hz ⟨g, 0, none⟩ m0 cap xs hown.1 holds a m c news hl hc (by omega) h63' (growslice_fits (by omega) hb)] at hr
    simp only [Result.ok.injEq] at hr
    obtain ⟨-, rfl⟩ := hr
    exact ⟨g, cap, cur, rfl, hbg, (heap_alloc_old w.drew _ (Array.getElem?_eq_some_iff.1 hg).1).trans hg, hnc, hcm, hcs, htake⟩
theorem run_appendK {t e : TypeId} {s x : Operand} {sz by_ : Nat} {z : Value} (base : Nat) (v : Value) (m0 : Nat) (xs : List Value) (ao : Option Addr) (m c : Nat) (news : List Value)
    (ht : P.underlying t = some (.slice e)) (hi : (P.info? e).map (fun i => (i.zero, i.size, i.bytes)) = some (some z, sz, by_)) (hzs : z.cells.size = sz) (hsz : 0 < sz)
    (hs : ev ρ s = v) (hown : w.ownsRow base e sz v m0 xs) (hx : ev ρ x = .slice ao m c) (hl : news.length = m * sz) (hnone : ao = none → m = 0 ∧ c = 0)
    (hc : ∀ a, ao = some a → ∀ j u, news[j]? = some u → w.cell? (a.add j) = some u) (h1 : ∀ u ∈ news, u.oneCell' = true)
    (h63 : m0 + m ≤ maxLen) (hb : (m0 + m) * by_ ≤ 140737488355328) (hbase : base ≤ w.heap.size) :
    ∃ v' w1, (execOp (ev ρ) ⟨dst, .call { callee := .builtin .append, args := #[s, x], argTypes := #[t, t] }, ty, pos, after, none⟩).run P w = .ok (.value v') w1 ∧ w1.ownsRow base e sz v' (m0 + m) (xs ++ news) ∧ w.grownBy w1 v.ownBlock ∧ (v'.ownBlock = v.ownBlock ∨ v'.ownBlock = some w.heap.size) ∧ w1.ownsRow base e sz v m0 xs := by
  obtain ⟨i, hi1, hi2, hi3, hi4⟩ := info_parts hi
  cases ao with
  | none =>
    obtain ⟨rfl, rfl⟩ := hnone rfl
    have hn0 : news = [] := List.eq_nil_of_length_eq_zero (by simpa using hl)
    subst hn0
    have hr := run_append_owned_none (P := P) w base t ty e i sz ht hi1 v m0 xs hown
    refine ⟨v, w, ?_, by simpa using hown, World.grownBy.refl _ _, .inl rfl, hown⟩
    simp [execOp, resolve, invoke, builtin, hs, hx, hr]
  | some a =>
    obtain ⟨v', w', hr, o1, o2, _, o3⟩ := run_append_own_at (P := P) w base t ty e i z sz by_ ht hi1 hi2 hi3 hi4 hzs hsz v m0 xs hown a m c news hl (hc a rfl) h1 h63 hb hbase
    refine ⟨v', w', ?_, o1, o2, o3, append_keep w base t ty e i z by_ sz ht hi1 hi2 hi3 hi4 v m0 xs hown a m c news hl (hc a rfl) h1 h63 hb hr⟩
    simp [execOp, resolve, invoke, builtin, hs, hx, hr]
theorem L_appendK {t e : TypeId} {s x : Operand} {sz by_ : Nat} {z : Value} (base : Nat) (v : Value) (m0 : Nat) (xs : List Value) (ao : Option Addr) (m c : Nat) (news : List Value)
    (ht : P.underlying t = some (.slice e)) (hi : (P.info? e).map (fun i => (i.zero, i.size, i.bytes)) = some (some z, sz, by_)) (hzs : z.cells.size = sz) (hsz : 0 < sz)
    (hs : ev ρ s = v) (hown : w.ownsRow base e sz v m0 xs) (hx : ev ρ x = .slice ao m c) (hl : news.length = m * sz) (hnone : ao = none → m = 0 ∧ c = 0)
    (hc : ∀ a, ao = some a → ∀ j u, news[j]? = some u → w.cell? (a.add j) = some u) (h1 : ∀ u ∈ news, u.oneCell' = true)
    (h63 : m0 + m ≤ maxLen) (hb : (m0 + m) * by_ ≤ 140737488355328) (hbase : base ≤ w.heap.size) (hd : Nat.blt d n = true)
    (h : ∀ v' w1, w1.ownsRow base e sz v' (m0 + m) (xs ++ news) → w.grownBy w1 v.ownBlock → (v'.ownBlock = v.ownBlock ∨ v'.ownBlock = some w.heap.size) → w1.ownsRow base e sz v m0 xs → L P f n ops rest k R (upd ρ d v') w1) :
    L P f n ops (⟨some d, .call { callee := .builtin .append, args := #[s, x], argTypes := #[t, t] }, ty, pos, after, none⟩ :: rest) k R ρ w := by
  obtain ⟨v', w1, hr, o1, o2, o3, o4⟩ := run_appendK (dst := some d) (pos := pos) (after := after) (ty := ty) base v m0 xs ao m c news ht hi hzs hsz hs hown hx hl hnone hc h1 h63 hb hbase
  exact L_val v' w1 hr hd (h v' w1 o1 o2 o3 o4)
theorem D_appendK (i : Nat) {t e : TypeId} {s x : Operand} {sz by_ : Nat} {z : Value} (base : Nat) (v : Value) (m0 : Nat) (xs : List Value) (ao : Option Addr) (m c : Nat) (news : List Value)
    (hi' : ops[i]? = some ⟨some d, .call { callee := .builtin .append, args := #[s, x], argTypes := #[t, t] }, ty, pos, after, none⟩) (hc' : only ops listed i = true)
    (ht : P.underlying t = some (.slice e)) (hi : (P.info? e).map (fun i => (i.zero, i.size, i.bytes)) = some (some z, sz, by_)) (hzs : z.cells.size = sz) (hsz : 0 < sz)
    (hs : ev ρ s = v) (hown : w.ownsRow base e sz v m0 xs) (hx : ev ρ x = .slice ao m c) (hl : news.length = m * sz) (hnone : ao = none → m = 0 ∧ c = 0)
    (hc : ∀ a, ao = some a → ∀ j u, news[j]? = some u → w.cell? (a.add j) = some u) (h1 : ∀ u ∈ news, u.oneCell' = true)
    (h63 : m0 + m ≤ maxLen) (hb : (m0 + m) * by_ ≤ 140737488355328) (hbase : base ≤ w.heap.size) (hd : Nat.blt d n = true)
    (h : ∀ v' w1, w1.ownsRow base e sz v' (m0 + m) (xs ++ news) → w.grownBy w1 v.ownBlock → (v'.ownBlock = v.ownBlock ∨ v'.ownBlock = some w.heap.size) → w1.ownsRow base e sz v m0 xs → (Nat.blt i N = true → S w1) ∧ D P f n ops S N fuel (listed.setIfInBounds i true) k R (upd ρ d v') w1) :
    D P f n ops S N (fuel + 1) listed k R ρ w := by
  obtain ⟨v', w1, hr, o1, o2, o3, o4⟩ := run_appendK (dst := some d) (pos := pos) (after := after) (ty := ty) base v m0 xs ao m c news ht hi hzs hsz hs hown hx hl hnone hc h1 h63 hb hbase
  exact D_val i v' w1 hi' hc' hr hd (h v' w1 o1 o2 o3 o4).1 (h v' w1 o1 o2 o3 o4).2
end
theorem own_ne {w : World} {base n : Nat} {v : Value} {xs : List Value} (h : w.ownsRow base 5 1 v n xs) {k : Nat} {c : Array Value} {t : TypeId} (hb : Blk w k c t) (ht : t ≠ 5) : v.ownBlock ≠ some k := by
  intro he
  rcases h.2 with ⟨rfl, _⟩ | ⟨g, cap, cur, rfl, _, hgg, _⟩
  · simp [Value.ownBlock] at he
  · simp [Value.ownBlock] at he
    subst he
    unfold Blk at hb
    rw [hgg] at hb
    simp at hb
    exact ht hb.2.symm
theorem blk_ne {w : World} {k k' : Nat} {c c' : Array Value} {t t' : TypeId} (hb : Blk w k c t) (hb' : Blk w k' c' t') (ht : t ≠ t') : k ≠ k' := by
  rintro rfl
  unfold Blk at hb hb'
  rw [hb] at hb'
  simp at hb'
  exact ht hb'.2
set_option maxHeartbeats 2000000 in
/-- Hash.Sum -/
theorem hsum_ret (sn cr : List Int) (base id hb : Nat) (hid : id < 5) (a : Option Addr) (c : Nat) (l dl : List Int) (v : Value) (w : World) (hG : Glob sn cr w) (hH : HashAt w base hb id a c l) (hv : w.ownsRow base 5 1 v dl.length (iv .u8 dl)) (hap : Ap v (.slice a l.length c)) (hl : l.length ≤ 10000000) (hdl : dl.length ≤ 10000000) (hbase : base ≤ w.heap.size) :
    Ret Tryd.prog 72 #[.pointer (some ⟨hb, 0, none⟩), v] w fun v' w' => w'.ownsRow base 5 1 v' (dl ++ dg sn cr id l).length (iv .u8 (dl ++ dg sn cr id l)) ∧ w'.ownsRow base 5 1 v dl.length (iv .u8 dl) ∧ HashAt w' base hb id a c l ∧ Chs (fun k => v.ownBlock = some k) w w' ∧ (v'.ownBlock = v.ownBlock ∨ ∃ k, v'.ownBlock = some k ∧ w.heap.size ≤ k) := by
  refine ret_of_T (vs := [.pointer (some ⟨hb, 0, none⟩), v]) Tryd.func72 Tryd.ntmps72 rfl (Nat.le_of_ble_eq_true rfl) ?_
  have hlt := hH.blk.lt
  have hnone : a = none → l.length = 0 ∧ c = 0 := by
    obtain ⟨a', c', e, h1, _⟩ := owns_val hH.own
    simp only [Value.slice.injEq] at e
    obtain ⟨rfl, -, rfl⟩ := e
    exact h1
  have hdgl := dg_len sn cr hid l
  have hsz := szD_le hid
  have hvb := own_ne hv hH.blk (by decide)
  have kk : ∀ u, Below w.heap.size w u → Blk u hb #[.int .i64 (id : Int), .slice a l.length c] 78 := fun u hu => (hu.block hb hlt).trans hH.blk
  repeat (first | refine T_seq ?_ | refine T_block ?_ | refine T_inBlock ?_ | refine T_skip ?_)
  refine T_region ?_
  refine L_val _ _ (X_assign) rfl ?_
  refine L_nil ?_
  repeat (first | refine T_seq ?_ | refine T_block ?_ | refine T_inBlock ?_ | refine T_skip ?_)
  refine T_draw (fun u => Below w.heap.size w u) 10 rfl rfl fun w1 hsm => ?_
  have hS : Below w.heap.size w w1 := hsm.below (Below.refl _ _)
  refine D_takeT 0 _ rfl (by kernel_rfl) hS (fun w hw => X_move) rfl ?_
  refine D_takeT 1 _ rfl (by kernel_rfl) hS (fun w hw => X_move) rfl ?_
  refine D_takeT 2 _ rfl (by kernel_rfl) hS (fun w hw => X_nilCheck rfl) rfl ?_
  refine D_takeT 3 _ rfl (by kernel_rfl) hS (fun w hw => X_field F78_0 rfl) rfl ?_
  refine D_takeT 4 _ rfl (by kernel_rfl) hS (fun w hw => X_load A29 rfl (((kk _ hw).cell 0))) rfl ?_
  refine D_takeT 5 _ rfl (by kernel_rfl) hS (fun w hw => X_move) rfl ?_
  refine D_takeT 6 _ rfl (by kernel_rfl) hS (fun w hw => X_nilCheck rfl) rfl ?_
  refine D_takeT 7 _ rfl (by kernel_rfl) hS (fun w hw => X_field F78_1 rfl) rfl ?_
  refine D_takeT 8 _ rfl (by kernel_rfl) hS (fun w hw => X_load A25 rfl (((kk _ hw).cell 1))) rfl ?_
  skip
  refine D_callF 9 [.int .i64 (id : Int), .slice a l.length c] rfl (by kernel_rfl) E38 rfl rfl (sum_ret sn cr id hid a l c w1 (hG.below hS) ((ints_owns hH.own rfl).below hS) hnone hl) ?_
  rintro v2 w2 ⟨a2, c2, rfl, o2, b2⟩
  have hS2 : Below w.heap.size w w2 := hS.trans (b2.mono hS.size)
  refine ⟨fun _ => hS2, ?_⟩
  have hv2 : w2.ownsRow base 5 1 v dl.length (iv .u8 dl) := (Chs.of_below (S := fun _ => False) hS2).owns hv (fun _ _ h => h)
  have ok2 := ints_owns o2 rfl
  refine D_appendK 10 base v dl.length (iv .u8 dl) a2 (dg sn cr id l).length c2 (iv .u8 (dg sn cr id l)) rfl (by kernel_rfl) Tryd.underlying25 I5 rfl (by decide) rfl hv2 rfl (by rw [iv_len, Nat.mul_one]) (fun h => by subst h; obtain ⟨_, _, e, h1, _⟩ := owns_val o2; simp only [Value.slice.injEq] at e; obtain ⟨rfl, -, rfl⟩ := e; exact h1 rfl) (ints_src ok2) (iv_one _ _) (by simp only [maxLen]; omega) (by omega) (Nat.le_trans hbase hS2.size) rfl ?_
  intro v3 w3 o3 g3 p3 q3
  refine ⟨fun h => absurd h (by decide), ?_⟩
  refine D_val 11 _ _ rfl (by kernel_rfl) X_assign rfl (fun hb => by cases hb) ?_
  refine D_done (by kernel_rfl) ?_
  have hc3 : Chs (fun k => v.ownBlock = some k) w w3 := (Chs.of_below hS2).trans (Chs.of_grown (S := fun k => v.ownBlock = some k) g3 (fun b h => h)) (fun k _ h => h)
  refine T_ret1 Tryd.func72 rfl ⟨?_, q3, ⟨hc3.blk hH.blk hvb, hH.ge, hc3.owns hH.own (fun b h1 h2 => hap b h2 h1)⟩, hc3, ?_⟩
  · rw [List.length_append, iv_app]; exact o3
  · rcases p3 with h | h
    · exact .inl h
    · exact .inr ⟨_, h, hS2.size⟩
def wz (l : List Int) (i : Nat) : List Int := List.replicate i 0 ++ l.drop i
set_option maxHeartbeats 2000000 in
/-- octetsm.Wipe, of a whole block -/
theorem wipe_ret (p o n c : Nat) (cur : Array Value) (t : TypeId) (w : World) (hk : Blk w p cur t) (hn : o + n ≤ cur.size) (hsm : n ≤ 1000000000) : Ret Tryd.prog 35 #[.slice (some ⟨p, o, none⟩) n c] w fun v w' => Chs (· = p) w w' := by
  refine ret_of_T (vs := [.slice (some ⟨p, o, none⟩) n c]) Tryd.func35 Tryd.ntmps35 rfl (Nat.le_of_ble_eq_true rfl) ?_
  repeat (first | refine T_seq ?_ | refine T_block ?_ | refine T_inBlock ?_ | refine T_skip ?_)
  refine T_region ?_
  refine L_val _ _ (X_move) rfl ?_
  refine L_val _ _ (X_lenS U25 rfl) rfl ?_
  refine L_val _ _ (X_move) rfl ?_
  refine L_nil ?_
  repeat (first | refine T_seq ?_ | refine T_block ?_ | refine T_inBlock ?_ | refine T_skip ?_)
  refine T_loopS [5, 4, 0] (fun m vs z => ∃ (i : Nat) (cz : Array Value), vs = [.int .i64 i, .int .i64 n, .slice (some ⟨p, o, none⟩) n c] ∧ i ≤ n ∧ m = n - i ∧ Blk z p cz t ∧ cz.size = cur.size ∧ Chs (· = p) w z) n
    ⟨0, cur, rfl, by omega, rfl, hk, rfl, Chs.refl _ _⟩ ?_
  rintro m vs ρ z ⟨i, cz, rfl, hi, rfl, kz, sz, cw⟩ ih
  repeat (first | refine T_seq ?_ | refine T_block ?_ | refine T_inBlock ?_ | refine T_skip ?_)
  refine T_region ?_
  refine L_val _ _ (X_cmp rfl rfl rfl) rfl ?_
  refine L_nil ?_
  repeat (first | refine T_seq ?_ | refine T_block ?_ | refine T_inBlock ?_ | refine T_skip ?_)
  refine T_if rfl (fun ht => ?_) (fun hf => ?_)
  case refine_2 =>
    refine T_exit rfl ?_
    exact T_end0 Tryd.func35 rfl cw
  have hlt : i < n := by simpa [cmpB] using ht
  repeat (first | refine T_seq ?_ | refine T_block ?_ | refine T_inBlock ?_ | refine T_skip ?_)
  refine T_region ?_
  refine L_val _ _ (X_move) rfl ?_
  refine L_val _ _ (X_assign) rfl ?_
  refine L_nil ?_
  repeat (first | refine T_seq ?_ | refine T_block ?_ | refine T_inBlock ?_ | refine T_skip ?_)
  refine T_region ?_
  refine L_val _ _ (X_move) rfl ?_
  refine L_val _ _ (X_move) rfl ?_
  refine L_val _ _ (X_index U25 S5 rfl rfl hlt) rfl ?_
  refine L_store (.int .u8 0) S5 rfl rfl rfl kz (by rw [Nat.mul_one]; omega) fun z1 h1 => ?_
  refine L_nil ?_
  repeat (first | refine T_seq ?_ | refine T_block ?_ | refine T_inBlock ?_ | refine T_skip ?_)
  refine T_region ?_
  refine L_val _ _ (X_add rfl rfl (by omega) (by omega)) rfl ?_
  refine L_val _ _ (X_move) rfl ?_
  refine L_nil ?_
  exact ih _ _ _ (by omega) ⟨i + 1, _, rfl, by omega, rfl, h1.new, by simp [sz], cw.trans (Chs.of_chg (S := (· = p)) h1 (.inr rfl)) (fun k _ h => h)⟩
/-- octetsm.Wipe of nothing -/
theorem wipe_nil (c : Nat) (a : Option Addr) (w : World) : Ret Tryd.prog 35 #[.slice a 0 c] w fun v w' => w' = w := by
  refine ret_of_T (vs := [.slice a 0 c]) Tryd.func35 Tryd.ntmps35 rfl (Nat.le_of_ble_eq_true rfl) ?_
  repeat (first | refine T_seq ?_ | refine T_block ?_ | refine T_inBlock ?_ | refine T_skip ?_)
  refine T_region ?_
  refine L_val _ _ (X_move) rfl ?_
  refine L_val _ _ (X_lenS U25 rfl) rfl ?_
  refine L_val _ _ (X_move) rfl ?_
  refine L_nil ?_
  repeat (first | refine T_seq ?_ | refine T_block ?_ | refine T_inBlock ?_ | refine T_skip ?_)
  refine T_loopS [5, 4, 0] (fun m vs z => vs = [.int .i64 0, .int .i64 0, .slice a 0 c] ∧ z = w) 0 ⟨rfl, rfl⟩ ?_
  rintro m vs ρ z ⟨rfl, rfl⟩ ih
  repeat (first | refine T_seq ?_ | refine T_block ?_ | refine T_inBlock ?_ | refine T_skip ?_)
  refine T_region ?_
  refine L_val _ _ (X_cmp rfl rfl rfl) rfl ?_
  refine L_nil ?_
  repeat (first | refine T_seq ?_ | refine T_block ?_ | refine T_inBlock ?_ | refine T_skip ?_)
  refine T_false rfl ?_
  refine T_exit rfl ?_
  exact T_end0 Tryd.func35 rfl rfl
end Go.Proofs.Qxb6500863aDoor
