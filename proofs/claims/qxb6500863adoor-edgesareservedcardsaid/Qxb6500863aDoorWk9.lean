/-
  The walking kit: taking an operation first where later ones wait for it by way of others.
-/
import Derived.Test.Qxb6500863aDoorWk7
namespace Go.Proofs.Qxb6500863aDoor
set_option linter.unusedSimpArgs false
set_option linter.unusedVariables false
open Go.RowKit
/-- Whether j waits for i, be it by way of others. -/
def reach (ops : Array Oper) (i : Nat) : Nat → Nat → Bool
  | 0, _ => false
  | fuel + 1, j => match ops[j]? with
    | some o => (o.after.any fun e => Region.binds .any e && e.on == i) || (o.after.any fun e => Region.binds .any e && reach ops i fuel e.on)
    | none => false
/-- Whatever is listed, all that it waits for is listed. -/
def Closed (ops : Array Oper) (listed : Array Bool) : Prop := ∀ d od, ops[d]? = some od → listed.getD d false = true → ∀ e ∈ od.after, Region.binds .any e = true → listed.getD e.on false = true
def closedB (ops : Array Oper) (listed : Array Bool) : Bool := (List.range ops.size).all fun d => !(listed.getD d false) || match ops[d]? with
  | some o => o.after.all fun e => !(Region.binds .any e) || listed.getD e.on false
  | none => true
theorem closed_of {ops : Array Oper} {listed : Array Bool} (h : closedB ops listed = true) : Closed ops listed := by
  intro d od hd hl e he hb
  have hlt : d < ops.size := (Array.getElem?_eq_some_iff.1 hd).1
  have h1 := List.all_eq_true.1 h d (List.mem_range.2 hlt)
  simp only [hl, hd, Bool.not_true, Bool.false_or] at h1
  have h2 := Array.all_eq_true'.1 h1 e he
  simpa [hb] using h2
theorem reach_un {ops : Array Oper} {listed : Array Bool} {i : Nat} (hcl : Closed ops listed) (hi : listed.getD i false = false) : ∀ (fuel j : Nat), reach ops i fuel j = true → ∃ o, ops[j]? = some o ∧ ∃ e ∈ o.after, Region.binds .any e = true ∧ listed.getD e.on false = false
  | 0, j, h => by simp [reach] at h
  | fuel + 1, j, h => by
    unfold reach at h
    cases ho : ops[j]? with
    | none => rw [ho] at h; simp at h
    | some o =>
      rw [ho] at h
      simp only [Bool.or_eq_true] at h
      refine ⟨o, rfl, ?_⟩
      rcases h with h | h
      · obtain ⟨e, he, hh⟩ := Array.any_eq_true'.1 h
        simp only [Bool.and_eq_true, beq_iff_eq] at hh
        exact ⟨e, he, hh.1, by rw [hh.2]; exact hi⟩
      · obtain ⟨e, he, hh⟩ := Array.any_eq_true'.1 h
        simp only [Bool.and_eq_true] at hh
        refine ⟨e, he, hh.1, ?_⟩
        obtain ⟨o', ho', e', he', hb', hu'⟩ := reach_un hcl hi fuel e.on hh.2
        cases hl : listed.getD e.on false with
        | false => rfl
        | true =>
          have := hcl e.on o' ho' hl e' he' hb'
          rw [hu'] at this
          cases this
theorem closed_set {ops : Array Oper} {listed : Array Bool} {j : Nat} (hcl : Closed ops listed) (hj : j ∈ Region.ready .any ops listed) : Closed ops (listed.setIfInBounds j true) := by
  obtain ⟨hun, o, ho, hall⟩ := mem_ready.1 hj
  have mono : ∀ q, listed.getD q false = true → (listed.setIfInBounds j true).getD q false = true := by
    intro q hq
    by_cases hqj : j = q
    · subst hqj
      rcases Nat.lt_or_ge j listed.size with h | h
      · simp [Array.getD, h]
      · simp [Array.getD, Nat.not_lt.2 h] at hq
    · simp only [Array.getD_eq_getD_getElem?] at hq ⊢
      rw [Array.getElem?_setIfInBounds_ne hqj]
      exact hq
  intro d od hd hl e he hb
  by_cases hdj : j = d
  · subst hdj
    rw [ho] at hd
    obtain rfl := Option.some.inj hd
    exact mono _ (hall e he hb)
  · refine mono _ (hcl d od hd ?_ e he hb)
    simp only [Array.getD_eq_getD_getElem?] at hl ⊢
    rwa [Array.getElem?_setIfInBounds_ne hdj] at hl
section
variable {P : Program} {ops : Array Oper} {Q : Exit → Act → World → Prop} {S : World → Prop} {N : Nat}
theorem anyG_firstT {i : Nat} {oi : Oper} {v : Value} (hi : ops[i]? = some oi) (hsel : ∀ (j : Nat) (o : Oper) cs b, ops[j]? = some o → o.op ≠ .select cs b)
    (F : Nat) (hbar : ∀ j oj, ops[j]? = some oj → N ≤ j → reach ops i F j = true)
    (hQ : ∀ c a w, Q (.panic c) (a.put oi.dst v) w → Q (.panic c) a w) :
    ∀ (fuel : Nat) (listed : Array Bool) (a : Act) (w : World), Closed ops listed →
      (∀ j oj, ops[j]? = some oj → j ≠ i → listed.getD j true = false → (∀ e ∈ oj.after, Region.binds .any e = true → e.on ≠ i) → oi.apart ops oj = true) →
      i ∈ Region.ready .any ops listed → YieldsIf P ops S oi v a → S w →
      anyG P ops Q S N fuel (listed.setIfInBounds i true) (a.put oi.dst v) w → anyG P ops Q S N (fuel + 1) listed a w := by
  intro fuel
  induction fuel with
  | zero =>
    intro listed a w _ _ hr hy hS H
    refine ⟨fun h => (by rw [h] at hr; cases hr), fun j hj => ?_⟩
    by_cases hji : j = i
    · subst hji; exact hy.wpOp hi hS ⟨fun _ => hS, H⟩
    · have := ready_mono hj hji
      rw [H.1] at this
      cases this
  | succ fuel ih =>
    intro listed a w hcl hfree hr hy hS H
    refine ⟨fun h => (by rw [h] at hr; cases hr), fun j hj => ?_⟩
    by_cases hji : j = i
    · subst hji; exact hy.wpOp hi hS ⟨fun _ => hS, H⟩
    · have h1 := H.2 j (ready_mono hj hji)
      obtain ⟨hjun, oj, hoj, hall⟩ := mem_ready.1 hj
      have hiun : listed.getD i false = false := by
        have h0 := (mem_ready.1 hr).1
        simp only [Array.getD_eq_getD_getElem?] at h0 ⊢
        cases h : listed[i]? with
        | none => rfl
        | some b => simp [h] at h0 ⊢; exact h0
      have hnot : ∀ e ∈ oj.after, Region.binds .any e = true → e.on ≠ i := fun e he hb heq => by
        have h1 := hall e he hb
        rw [heq, hiun] at h1
        cases h1
      have hjN : j < N := by
        rcases Nat.lt_or_ge j N with h' | h'
        · exact h'
        · obtain ⟨o', ho', e, he, hb, hu⟩ := reach_un hcl hiun F j (hbar j oj hoj h')
          rw [hoj] at ho'
          obtain rfl := Option.some.inj ho'
          have := hall e he hb
          rw [hu] at this
          cases this
      have h2 := wpOp_putIf hoj (hfree j oj hoj hji hjun hnot) (fun cs b => hsel i oi cs b hi) (fun cs b => hsel j oj cs b hoj) hQ hy h1
      have hfree' : ∀ k ok, ops[k]? = some ok → k ≠ i → (listed.setIfInBounds j true).getD k true = false →
          (∀ e ∈ ok.after, Region.binds .any e = true → e.on ≠ i) → oi.apart ops ok = true := fun k ok hk hki hun hno => by
        refine hfree k ok hk hki ?_ hno
        by_cases hjk : j = k
        · subst hjk; exact hjun
        · rw [getD_set_ne true hjk] at hun; exact hun
      refine wpOp_mono (fun a' w' h3 => ⟨h3.2.1, ih (listed.setIfInBounds j true) a' w' (closed_set hcl hj) hfree' (ready_mono hr (Ne.symm hji)) h3.1 (h3.2.1 hjN) ?_⟩) h2
      rw [Array.setIfInBounds_comm _ _ hji]
      exact h3.2.2
end
/-- What is asked of operation i that is taken first. -/
def takesT (ops : Array Oper) (N : Nat) (listed : Array Bool) (i : Nat) : Bool :=
  Region.noSelect ops && Region.free .any ops listed i && (Region.ready .any ops listed).contains i && closedB ops listed &&
    (List.range ops.size).all fun j => Nat.blt j N || reach ops i ops.size j
section
variable {P : Program} {f : Cx} {n : Nat} {R : Value → World → Prop} {ρ : Env} {w : World} {k : List Item} {ops : Array Oper} {S : World → Prop} {N fuel : Nat} {listed : Array Bool}
variable {d : Nat} {ty : TypeId} {pos : String} {after : Array Edge}
theorem D_takeT (i : Nat) {op : Op} (v : Value) (hi : ops[i]? = some ⟨some d, op, ty, pos, after, none⟩) (hc : takesT ops N listed i = true) (hS : S w)
    (hrun : ∀ w, S w → (execOp (ev ρ) ⟨some d, op, ty, pos, after, none⟩).run P w = .ok (.value v) w) (hd : Nat.blt d n = true)
    (h : D P f n ops S N fuel (listed.setIfInBounds i true) k R (upd ρ d v) w) : D P f n ops S N (fuel + 1) listed k R ρ w := by
  simp only [takesT, Bool.and_eq_true] at hc
  obtain ⟨⟨⟨⟨h1, h2⟩, h3⟩, h4⟩, h5⟩ := hc
  refine ⟨fun a ha => ?_⟩
  refine anyG_firstT (v := v) hi (Region.noSelect_spec h1) ops.size (fun j oj hj hN => ?_) (fun c a w hq => by cases hq.1) fuel listed a w (closed_of h4) (Region.free_spec hi h2) (by simpa using h3) ?_ hS (h.run _ (ha.put v hd))
  · have hjs : j < ops.size := (Array.getElem?_eq_some_iff.1 hj).1
    have := List.all_eq_true.1 h5 j (List.mem_range.2 hjs)
    simp only [Bool.or_eq_true, Nat.blt_eq] at this
    rcases this with h' | h'
    · omega
    · exact h'
  · refine .inl ⟨rfl, fun w hw => ?_⟩
    rw [ha.eval]
    exact hrun w hw
end
end Go.Proofs.Qxb6500863aDoor
