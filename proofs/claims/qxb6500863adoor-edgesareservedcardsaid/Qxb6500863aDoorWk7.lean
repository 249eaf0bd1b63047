/-
  The walking kit: guarded operations where the order is drawn; a phase of operations that come up in whatever order.
-/
import Derived.Test.Qxb6500863aDoorWk6
namespace Go.Proofs.Qxb6500863aDoor
set_option linter.unusedSimpArgs false
set_option linter.unusedVariables false
open Go.RowKit
section
variable {P : Program} {f : Cx} {n : Nat} {R : Value → World → Prop} {ρ : Env} {w : World} {k : List Item} {ops : Array Oper} {S : World → Prop} {N fuel : Nat} {listed : Array Bool}
variable {d d' : Nat} {ty ty' : TypeId} {pos pos' : String} {after after' : Array Edge}
theorem wanted_of {ds : List Deferred} {a : Act} {dst : Option Tmp} {op : Op} {j dj : Nat} {want : Bool} (ha : Fits ds n a ρ) (hj : (ops[j]?).bind (·.dst) = some dj) (hdj : Nat.blt dj n = true) (hv : ρ dj = .bool want) :
    Region.wanted ⟨dst, op, ty, pos, after, some (j, want)⟩ (yielded ops a.tmps) = true := by
  have hs : dj < a.tmps.size := by rw [ha.size]; simpa [Nat.blt_eq] using hdj
  have hx : a.tmps[dj]? = some (.bool want) := by
    have := ha.val dj
    rw [Array.getD_eq_getD_getElem?, Array.getElem?_eq_getElem hs] at this
    rw [Array.getElem?_eq_getElem hs]
    simp only [Option.getD_some] at this
    rw [this, hv]
  simp [Region.wanted, yielded, hj, hx]
theorem D_takeG (i : Nat) {op : Op} {j dj : Nat} {want : Bool} (v : Value) (hi : ops[i]? = some ⟨some d, op, ty, pos, after, some (j, want)⟩) (hc : takes ops N listed i = true) (hS : S w)
    (hj : (ops[j]?).bind (·.dst) = some dj) (hdj : Nat.blt dj n = true) (hv : ρ dj = .bool want)
    (hrun : ∀ w, S w → (execOp (ev ρ) ⟨some d, op, ty, pos, after, none⟩).run P w = .ok (.value v) w) (hd : Nat.blt d n = true)
    (h : D P f n ops S N fuel (listed.setIfInBounds i true) k R (upd ρ d v) w) : D P f n ops S N (fuel + 1) listed k R ρ w := by
  obtain ⟨h1, h2, h3, h4⟩ := takes_spec hc
  refine ⟨fun a ha => ?_⟩
  refine anyG_first (v := v) hi (Region.noSelect_spec h1) h4 (fun c a w hq => by cases hq.1) fuel listed a w (Region.free_spec hi h2) (by simpa using h3) ?_ hS (h.run _ (ha.put v hd))
  refine .inl ⟨wanted_of ha hj hdj hv, fun w hw => ?_⟩
  rw [ha.eval]
  exact hrun w hw
theorem D_callFG (i : Nat) {g : FuncId} {j dj : Nat} {want : Bool} {xs : Array Operand} {ts : Array TypeId} {Z : Value → World → Prop} (args : List Value) (hi : ops[i]? = some ⟨some d, .call { callee := .value (.func g), args := xs, argTypes := ts }, ty, pos, after, some (j, want)⟩) (hc : only ops listed i = true)
    (hj : (ops[j]?).bind (·.dst) = some dj) (hdj : Nat.blt dj n = true) (hv : ρ dj = .bool want)
    (hg : EN P g) (ha : xs.toList.map (ev ρ) = args) (hd : Nat.blt d n = true) (hr : Ret P g args.toArray w Z)
    (h : ∀ v w', Z v w' → (Nat.blt i N = true → S w') ∧ D P f n ops S N fuel (listed.setIfInBounds i true) k R (upd ρ d v) w') : D P f n ops S N (fuel + 1) listed k R ρ w := by
  have hr1 : Region.ready .any ops listed = [i] := by simpa [only] using hc
  refine ⟨fun a hA => ⟨fun h0 => (by rw [hr1] at h0; cases h0), fun q hq => ?_⟩⟩
  rw [hr1] at hq
  obtain rfl : q = i := by simpa using hq
  unfold wpOp
  simp only [hi]
  rw [if_pos (wanted_of hA hj hdj hv)]
  refine .inl ?_
  have e : xs.map (ev ρ) = args.toArray := by
    rw [← ha]; apply Array.ext'; simp
  have h1 := hg args.toArray w
  have hrun : (execOp (ev ρ) ⟨some d, .call { callee := .value (.func g), args := xs, argTypes := ts }, ty, pos, after, some (j, want)⟩).run P w = .ok (.enter g args.toArray) w := by
    simp [execOp, resolve, e, ev, Deferred.ofValue, invoke, h1]
  unfold Oper.wp
  rw [hA.eval, hrun]
  refine Calls.mono hr ?_
  rintro ex w' ⟨v, rfl, hv⟩
  exact ⟨fun hn => (h v w' hv).1 (by simpa [Nat.blt_eq] using hn), (h v w' hv).2.run _ (hA.put v hd)⟩

/-- One operation: it yields a value, or it is a call that returns. -/
def Step (P : Program) (ρ : Env) (w : World) (o : Oper) (Z : Value → World → Prop) : Prop :=
  (∃ v w', (execOp (ev ρ) o).run P w = .ok (.value v) w' ∧ Z v w') ∨ (∃ g args, (execOp (ev ρ) o).run P w = .ok (.enter g args) w ∧ Ret P g args w Z)
theorem Step.mono {P : Program} {ρ : Env} {w : World} {o : Oper} {Z Z' : Value → World → Prop} (h : Step P ρ w o Z) (hz : ∀ v w', Z v w' → Z' v w') : Step P ρ w o Z' := by
  rcases h with ⟨v, w', h1, h2⟩ | ⟨g, args, h1, h2⟩
  · exact .inl ⟨v, w', h1, hz v w' h2⟩
  · exact .inr ⟨g, args, h1, h2.mono hz⟩
theorem D_cases (hne : Region.ready .any ops listed ≠ []) (h : ∀ i ∈ Region.ready .any ops listed, ∃ o d, ops[i]? = some o ∧ o.dst = some d ∧ o.guard = none ∧ Nat.blt d n = true ∧
    Step P ρ w o (fun v w' => (i < N → S w') ∧ D P f n ops S N fuel (listed.setIfInBounds i true) k R (upd ρ d v) w')) : D P f n ops S N (fuel + 1) listed k R ρ w := by
  refine ⟨fun a hA => ⟨fun h0 => absurd h0 hne, fun i hi => ?_⟩⟩
  obtain ⟨⟨dst, op, ty, pos, after, gd⟩, d, ho, hd, hg, hdn, hst⟩ := h i hi
  simp only at hd hg
  subst hd hg
  unfold wpOp
  simp only [ho]
  rw [if_pos (show Region.wanted ⟨some d, op, ty, pos, after, none⟩ (yielded ops a.tmps) = true from rfl)]
  refine .inl ?_
  unfold Oper.wp
  rw [hA.eval]
  rcases hst with ⟨v, w', hrun, h1, h2⟩ | ⟨g, args, hrun, hr⟩
  · rw [hrun]
    exact ⟨h1, h2.run _ (hA.put v hdn)⟩
  · rw [hrun]
    refine Calls.mono hr ?_
    rintro ex w' ⟨v, rfl, h1, h2⟩
    exact ⟨h1, h2.run _ (hA.put v hdn)⟩
/-- Whether operation o waits for operation j. -/
def waits (o : Oper) (j : Nat) : Bool := o.after.any fun e => Region.binds .any e && e.on == j
/-- What is asked of a phase: its operations are there, unguarded, not listed, each waits for listed ones and for earlier ones of the phase alone; all others that are not listed wait for each of them. -/
def phaseOk (n : Nat) (ops : Array Oper) (listed : Array Bool) (M : List (Nat × Nat)) : Bool :=
  (M.all fun p => match ops[p.1]? with
    | some o => o.dst == some p.2 && o.guard.isNone && !(listed.getD p.1 true) && Nat.blt p.2 n && o.after.all fun e => !Region.binds .any e || listed.getD e.on false || (M.any fun q => q.1 == e.on && Nat.blt e.on p.1)
    | none => false) &&
  decide (M.map (·.1)).Nodup && decide (M.map (·.2)).Nodup &&
  (List.range ops.size).all fun j => listed.getD j true || (M.any fun q => q.1 == j) || match ops[j]? with
    | some o => (M.all fun p => waits o p.1) || (List.range ops.size).any fun q => waits o q && !(listed.getD q true) && !(M.any fun p => p.1 == q)
    | none => true
theorem upd_other {ρ : Env} {d s : Nat} {v : Value} (h : s ≠ d) : upd ρ d v s = ρ s := by
  have : Nat.beq s d = false := by
    cases hb : Nat.beq s d with
    | false => rfl
    | true => exact absurd (Nat.eq_of_beq_eq_true hb) h
  simp [upd, this]
theorem upd_here {ρ : Env} {d : Nat} {v : Value} : upd ρ d v d = v := by
  have : Nat.beq d d = true := by simp
  simp [upd, this]
theorem nodup_inj {α β : Type} {g : α → β} : ∀ {M : List α}, (M.map g).Nodup → ∀ {p q : α}, p ∈ M → q ∈ M → g p = g q → p = q
  | a :: M, hn, p, q, hp, hq, he => by
    rw [List.map_cons, List.nodup_cons] at hn
    rcases List.mem_cons.1 hp with hp1 | hp1
    · rcases List.mem_cons.1 hq with hq1 | hq1
      · rw [hp1, hq1]
      · exact absurd (by rw [← hp1, he]; exact List.mem_map_of_mem hq1) hn.1
    · rcases List.mem_cons.1 hq with hq1 | hq1
      · exact absurd (by rw [← hq1, ← he]; exact List.mem_map_of_mem hp1) hn.1
      · exact nodup_inj hn.2 hp1 hq1 he
theorem filter_none (i : Nat) (done : Nat → Bool) : ∀ (M : List (Nat × Nat)), i ∉ M.map (·.1) → (M.filter fun p => !(done p.1 || p.1 == i)) = M.filter fun p => !done p.1
  | [], _ => rfl
  | a :: M, h => by
    rw [List.map_cons, List.mem_cons, not_or] at h
    have e : (a.1 == i) = false := by simpa using Ne.symm h.1
    rw [List.filter_cons, List.filter_cons, filter_none i done M h.2]
    simp [e]
theorem filter_less (i : Nat) (done : Nat → Bool) (hd : done i = false) : ∀ (M : List (Nat × Nat)), (M.map (·.1)).Nodup → i ∈ M.map (·.1) → (M.filter fun p => !done p.1).length = (M.filter fun p => !(done p.1 || p.1 == i)).length + 1
  | a :: M, hn, hi => by
    rw [List.map_cons, List.nodup_cons] at hn
    rw [List.map_cons, List.mem_cons] at hi
    by_cases ha : a.1 = i
    · subst ha
      rw [List.filter_cons, List.filter_cons, filter_none _ done M hn.1]
      simp [hd]
    · have hi' : i ∈ M.map (·.1) := by
        rcases hi with h | h
        · exact absurd h.symm ha
        · exact h
      have ih := filter_less i done hd M hn.2 hi'
      have e : (a.1 == i) = false := by simpa using ha
      rw [List.filter_cons, List.filter_cons]
      simp only [e, Bool.or_false]
      split
      · simp only [List.length_cons, ih]
      · exact ih
theorem foldl_set_get (M : List (Nat × Nat)) : ∀ (l : Array Bool) (j : Nat), (M.foldl (fun l p => l.setIfInBounds p.1 true) l)[j]? = if M.any (fun q => q.1 == j) then (l[j]?).map (fun _ => true) else l[j]? := by
  induction M with
  | nil => intro l j; simp
  | cons p M ih =>
    intro l j
    rw [List.foldl_cons, ih]
    by_cases hp : p.1 = j
    · subst hp
      rw [Array.getElem?_setIfInBounds_self]
      rcases Nat.lt_or_ge p.1 l.size with h | h
      · simp [h]
      · simp [Nat.not_lt.2 h, Array.getElem?_eq_none h]
    · rw [Array.getElem?_setIfInBounds_ne hp]
      have e : (p.1 == j) = false := by simpa using hp
      simp only [List.any_cons, e, Bool.false_or]
theorem foldl_upd_out (vals : Nat → Value) (M : List (Nat × Nat)) : ∀ (ρ : Env) (s : Nat), (M.any fun q => q.2 == s) = false → (M.foldl (fun ρ p => upd ρ p.2 (vals p.1)) ρ) s = ρ s := by
  induction M with
  | nil => intro ρ s _; rfl
  | cons p M ih =>
    intro ρ s h
    simp only [List.any_cons, Bool.or_eq_false_iff] at h
    rw [List.foldl_cons, ih _ s h.2]
    have : p.2 ≠ s := by simpa using h.1
    exact upd_other (Ne.symm this)
theorem foldl_upd_in (vals : Nat → Value) (M : List (Nat × Nat)) : ∀ (ρ : Env), (M.map (·.2)).Nodup → ∀ p ∈ M, (M.foldl (fun ρ p => upd ρ p.2 (vals p.1)) ρ) p.2 = vals p.1 := by
  induction M with
  | nil => intro ρ _ p hp; cases hp
  | cons q M ih =>
    intro ρ hn p hp
    rw [List.map_cons, List.nodup_cons] at hn
    rw [List.foldl_cons]
    rcases List.mem_cons.1 hp with rfl | hp
    · rw [foldl_upd_out]
      · exact upd_here
      · rw [List.any_eq_false]
        intro r hr he
        apply hn.1
        have : r.2 = p.2 := by simpa using he
        rw [← this]
        exact List.mem_map_of_mem hr
    · exact ih _ hn.2 p hp
theorem D_phase (M : List (Nat × Nat)) (φ : Nat → Value → World → Prop) (hok : phaseOk n ops listed M = true) (hSw : S w)
    (hstab : ∀ i v w w', φ i v w → Below w.heap.size w w' → φ i v w')
    (hstep : ∀ i d o, (i, d) ∈ M → ops[i]? = some o → ∀ ρ' w', (∀ s, (M.any fun q => q.2 == s) = false → ρ' s = ρ s) → (∀ j e, (j, e) ∈ M → waits o j = true → φ j (ρ' e) w') → S w' → Below w.heap.size w w' →
      Step P ρ' w' o (fun v w'' => φ i v w'' ∧ S w'' ∧ Below w'.heap.size w' w''))
    (hfin : ∀ (vals : Nat → Value) w', (∀ i d, (i, d) ∈ M → φ i (vals i) w') → S w' → Below w.heap.size w w' →
      D P f n ops S N fuel (M.foldl (fun l p => l.setIfInBounds p.1 true) listed) k R (M.foldl (fun ρ p => upd ρ p.2 (vals p.1)) ρ) w') :
    D P f n ops S N (fuel + M.length) listed k R ρ w := by
  simp only [phaseOk, Bool.and_eq_true, decide_eq_true_eq] at hok
  obtain ⟨⟨⟨hM, hn1⟩, hn2⟩, hrest⟩ := hok
  have hMs : ∀ p ∈ M, ∃ o, ops[p.1]? = some o ∧ o.dst = some p.2 ∧ o.guard = none ∧ listed.getD p.1 true = false ∧ Nat.blt p.2 n = true ∧ ∀ e ∈ o.after, Region.binds .any e = true → listed.getD e.on false = true ∨ ∃ q ∈ M, q.1 = e.on ∧ e.on < p.1 := by
    intro p hp
    have h := List.all_eq_true.1 hM p hp
    cases ho : ops[p.1]? with
    | none => rw [ho] at h; simp at h
    | some o =>
      rw [ho] at h
      simp only [Bool.and_eq_true, Bool.not_eq_true', beq_iff_eq, Option.isNone_iff_eq_none] at h
      obtain ⟨⟨⟨⟨h1, h2⟩, h3⟩, h4⟩, h5⟩ := h
      refine ⟨o, rfl, h1, h2, h3, h4, fun e he hb => ?_⟩
      have := Array.all_eq_true'.1 h5 e he
      simp only [hb, Bool.not_true, Bool.false_or, Bool.or_eq_true, List.any_eq_true, Bool.and_eq_true, beq_iff_eq, Nat.blt_eq] at this
      rcases this with h | ⟨q, hq, h6, h7⟩
      · exact .inl h
      · exact .inr ⟨q, hq, h6, h7⟩
  -- by the number of those that are left
  have key : ∀ (c : Nat) (done : Nat → Bool) (l' : Array Bool) (ρ' : Env) (w' : World), (M.filter fun p => !done p.1).length = c →
      (∀ j : Nat, l'[j]? = if done j && (M.any fun q => q.1 == j) then (listed[j]?).map (fun _ => true) else listed[j]?) → (∀ s, (M.any fun q => q.2 == s) = false → ρ' s = ρ s) →
      (∀ i d, (i, d) ∈ M → done i = true → φ i (ρ' d) w') → S w' → Below w.heap.size w w' → D P f n ops S N (fuel + c) l' k R ρ' w' := by
    intro c
    induction c with
    | zero =>
      intro done l' ρ' w' hc hl hρ hφ hS hB
      have hall : ∀ p ∈ M, done p.1 = true := by
        intro p hp
        have h0 : (M.filter fun p => !done p.1) = [] := List.eq_nil_of_length_eq_zero hc
        have := List.filter_eq_nil_iff.1 h0 p hp
        simpa using this
      have e1 : l' = M.foldl (fun l p => l.setIfInBounds p.1 true) listed := by
        apply Array.ext_getElem?
        intro j
        rw [hl, foldl_set_get]
        by_cases hj : (M.any fun q => q.1 == j) = true
        · obtain ⟨q, hq, hqj⟩ := List.any_eq_true.1 hj
          have hd := hall q hq
          have : q.1 = j := by simpa using hqj
          rw [this] at hd
          simp [hd, hj]
        · simp [hj]
      let vals : Nat → Value := fun i => match M.find? (fun p => p.1 == i) with | some p => ρ' p.2 | none => undef
      have hv : ∀ p ∈ M, vals p.1 = ρ' p.2 := by
        intro p hp
        show (match M.find? (fun q => q.1 == p.1) with | some p => ρ' p.2 | none => undef) = ρ' p.2
        cases hf : M.find? (fun q => q.1 == p.1) with
        | none => have := List.find?_eq_none.1 hf p hp; simp at this
        | some q =>
          have hq := List.mem_of_find?_eq_some hf
          have hqp : q.1 = p.1 := by simpa using List.find?_some hf
          have : q = p := nodup_inj hn1 hq hp hqp
          rw [this]
      have e2 : ρ' = M.foldl (fun ρ p => upd ρ p.2 (vals p.1)) ρ := by
        funext s
        by_cases hs : (M.any fun q => q.2 == s) = true
        · obtain ⟨q, hq, hqs⟩ := List.any_eq_true.1 hs
          have : q.2 = s := by simpa using hqs
          subst this
          rw [foldl_upd_in vals M ρ hn2 q hq, hv q hq]
        · have hs' : (M.any fun q => q.2 == s) = false := by cases h : (M.any fun q => q.2 == s) with | true => exact absurd h hs | false => rfl
          rw [foldl_upd_out vals M ρ s hs', hρ s hs']
      rw [e1, e2]
      refine hfin vals w' (fun i d hid => ?_) hS hB
      have := hφ i d hid (hall (i, d) hid)
      rw [hv (i, d) hid]
      exact this
    | succ c ih =>
      intro done l' ρ' w' hc hl hρ hφ hS hB
      have hsz : ∀ j, l'.getD j true = false → listed.getD j true = false := by
        intro j hj
        have := hl j
        simp only [Array.getD_eq_getD_getElem?] at hj ⊢
        rw [this] at hj
        split at hj
        · cases h : listed[j]? <;> simp [h] at hj
        · exact hj
      have hlf : ∀ j, listed.getD j false = true → l'.getD j false = true := by
        intro j hj
        simp only [Array.getD_eq_getD_getElem?] at hj ⊢
        rw [hl j]
        split
        · cases h : listed[j]? <;> simp [h] at hj ⊢
        · exact hj
      have hdone : ∀ p ∈ M, (l'.getD p.1 true = false ↔ done p.1 = false) := by
        intro p hp
        obtain ⟨o, ho, _, _, hun, _⟩ := hMs p hp
        have hany : (M.any fun q => q.1 == p.1) = true := List.any_eq_true.2 ⟨p, hp, by simp⟩
        simp only [Array.getD_eq_getD_getElem?] at hun ⊢
        rw [hl, hany, Bool.and_true]
        cases h : listed[p.1]? with
        | none => simp [h] at hun
        | some b =>
          simp [h] at hun
          subst hun
          cases done p.1 <;> simp
      have hdone2 : ∀ p ∈ M, l'.getD p.1 false = true → done p.1 = true := by
        intro p hp h
        cases hd : done p.1 with
        | true => rfl
        | false =>
          have h1 := (hdone p hp).2 hd
          simp only [Array.getD_eq_getD_getElem?] at h h1
          cases h2 : l'[p.1]? with
          | none => simp [h2] at h
          | some b => simp [h2] at h h1; rw [h1] at h; cases h
      -- what is left is not empty
      have hne : ∃ p ∈ M, done p.1 = false ∧ ∀ q ∈ M, done q.1 = false → p.1 ≤ q.1 := by
        have hex : ∃ m, ∃ p ∈ M, done p.1 = false ∧ p.1 = m := by
          have : (M.filter fun p => !done p.1) ≠ [] := fun h => by rw [h] at hc; simp at hc
          obtain ⟨p, hp⟩ := List.exists_mem_of_ne_nil _ this
          rw [List.mem_filter] at hp
          exact ⟨p.1, p, hp.1, by simpa using hp.2, rfl⟩
        have hmin : ∀ m, (∃ p ∈ M, done p.1 = false ∧ p.1 = m) → ∃ p ∈ M, done p.1 = false ∧ ∀ q ∈ M, done q.1 = false → p.1 ≤ q.1 := by
          intro m
          induction m using Nat.strongRecOn with
          | _ m ihm =>
            rintro ⟨p, hp, hd, hpm⟩
            by_cases hq : ∃ q ∈ M, done q.1 = false ∧ q.1 < p.1
            · obtain ⟨q, hq1, hq2, hq3⟩ := hq
              exact ihm q.1 (by omega) ⟨q, hq1, hq2, rfl⟩
            · refine ⟨p, hp, hd, fun q hq1 hq2 => ?_⟩
              rcases Nat.lt_or_ge q.1 p.1 with h | h
              · exact absurd ⟨q, hq1, hq2, h⟩ hq
              · exact h
        obtain ⟨m, hm⟩ := hex
        exact hmin m hm
      have hnil : Region.ready .any ops l' ≠ [] := by
        obtain ⟨p, hp, hd, hmin⟩ := hne
        obtain ⟨o, ho, _, _, hun, _, haf⟩ := hMs p hp
        have : p.1 ∈ Region.ready .any ops l' := by
          rw [mem_ready]
          refine ⟨(hdone p hp).2 hd, o, ho, fun e he hb => ?_⟩
          rcases haf e he hb with h | ⟨q, hq, hqe, hlt⟩
          · exact hlf _ h
          · have hdq : done q.1 = true := by
              cases hdd : done q.1 with
              | true => rfl
              | false => have := hmin q hq hdd; omega
            obtain ⟨_, _, _, _, hunq, _⟩ := hMs q hq
            have hany : (M.any fun r => r.1 == q.1) = true := List.any_eq_true.2 ⟨q, hq, by simp⟩
            rw [← hqe]
            simp only [Array.getD_eq_getD_getElem?] at hunq ⊢
            rw [hl, hany, hdq]
            cases h : listed[q.1]? with
            | none => simp [h] at hunq
            | some b => simp
        intro h
        rw [h] at this
        cases this
      show D P f n ops S N ((fuel + c) + 1) l' k R ρ' w'
      refine D_cases hnil fun i hi => ?_
      obtain ⟨hun, o, ho, hall⟩ := mem_ready.1 hi
      have hiM : ∃ p ∈ M, p.1 = i := by
        have hlt : i < ops.size := (Array.getElem?_eq_some_iff.1 ho).1
        have := List.all_eq_true.1 hrest i (List.mem_range.2 hlt)
        simp only [hsz i hun, Bool.false_or, ho, Bool.or_eq_true] at this
        rcases this with h | h | h
        · obtain ⟨p, hp, hpi⟩ := List.any_eq_true.1 h
          exact ⟨p, hp, by simpa using hpi⟩
        rotate_left
        · exfalso
          obtain ⟨q, _, hq⟩ := List.any_eq_true.1 h
          simp only [Bool.and_eq_true, Bool.not_eq_true'] at hq
          obtain ⟨⟨hw, hq1⟩, hq2⟩ := hq
          obtain ⟨e, he, hee⟩ := Array.any_eq_true'.1 hw
          simp only [Bool.and_eq_true, beq_iff_eq] at hee
          have h2 := hall e he hee.1
          rw [hee.2] at h2
          simp only [Array.getD_eq_getD_getElem?] at h2 hq1
          rw [hl q, hq2, Bool.and_false] at h2
          simp only [Bool.false_eq_true, if_false] at h2
          cases h3 : listed[q]? with
          | none => simp [h3] at h2
          | some b => simp [h3] at h2 hq1; rw [hq1] at h2; cases h2
        · exfalso
          obtain ⟨p, hp, hd, _⟩ := hne
          have hw := List.all_eq_true.1 h p hp
          obtain ⟨e, he, hee⟩ := Array.any_eq_true'.1 hw
          simp only [Bool.and_eq_true, beq_iff_eq] at hee
          have h2 := hall e he hee.1
          rw [hee.2] at h2
          have := hdone2 p hp h2
          rw [hd] at this
          cases this
      obtain ⟨⟨i', d⟩, hp, rfl⟩ := hiM
      obtain ⟨o2, ho2, hdst, hgd, hun0, hdn, haf⟩ := hMs _ hp
      obtain rfl : o = o2 := Option.some.inj (ho.symm.trans ho2)
      refine ⟨o, d, ho, hdst, hgd, hdn, ?_⟩
      refine (hstep i' d o hp ho ρ' w' hρ (fun j e hje hw => ?_) hS hB).mono ?_
      · obtain ⟨ed, hed, hee⟩ := Array.any_eq_true'.1 hw
        simp only [Bool.and_eq_true, beq_iff_eq] at hee
        have h2 := hall ed hed hee.1
        rw [hee.2] at h2
        exact hφ j e hje (hdone2 (j, e) hje h2)
      · rintro v w'' ⟨h1, h2, h3⟩
        have hdi : done i' = false := (hdone _ hp).1 hun
        refine ⟨fun _ => h2, ih (fun j => done j || j == i') _ _ _ ?_ ?_ ?_ ?_ h2 (hB.trans (h3.mono hB.size))⟩
        · -- one fewer is left
          have := filter_less i' done hdi M hn1 (List.mem_map.2 ⟨_, hp, rfl⟩)
          omega
        · intro j
          by_cases hji : i' = j
          · subst hji
            have hany : (M.any fun q => q.1 == i') = true := List.any_eq_true.2 ⟨_, hp, by simp⟩
            rw [Array.getElem?_setIfInBounds_self, hany]
            simp only [beq_self_eq_true, Bool.or_true, Bool.and_true, if_true]
            have h4 := hl i'
            rw [hany, hdi] at h4
            simp only [Bool.false_and, Bool.false_eq_true, if_false] at h4
            rcases Nat.lt_or_ge i' l'.size with h | h
            · rw [if_pos h]
              rw [Array.getElem?_eq_getElem h] at h4
              rw [← h4]
              rfl
            · rw [if_neg (Nat.not_lt.2 h)]
              rw [Array.getElem?_eq_none h] at h4
              rw [← h4]
              rfl
          · rw [Array.getElem?_setIfInBounds_ne hji, hl j]
            have : (j == i') = false := by simpa using Ne.symm hji
            simp only [this, Bool.or_false]
        · intro s hs
          have hsd : s ≠ d := by
            intro h
            subst h
            rw [List.any_eq_false] at hs
            exact hs _ hp (by simp)
          rw [upd_other hsd]
          exact hρ s hs
        · intro j e hje hd
          by_cases hji : j = i'
          · subst hji
            have : e = d := congrArg Prod.snd (nodup_inj hn1 hje hp rfl)
            subst this
            rw [upd_here]
            exact h1
          · have hd' : done j = true := by simpa [hji] using hd
            have hed : e ≠ d := by
              intro h
              subst h
              exact hji (congrArg Prod.fst (nodup_inj hn2 hje hp rfl))
            rw [upd_other hed]
            exact hstab j _ w' w'' (hφ j e hje hd') h3
  have hc0 : (M.filter fun p => !(fun _ : Nat => false) p.1).length = M.length := by simp
  exact key M.length (fun _ => false) listed ρ w hc0 (fun j => by simp) (fun s _ => rfl) (fun i d _ h => by cases h) hSw (Below.refl _ _)
end
end Go.Proofs.Qxb6500863aDoor
