/-
  Linking in plain words.
-/
import Derived.Test.Qxb6500865aLk7
import Derived.Test.Qxb6500865aW20b
namespace Go.Proofs.Qxb6500865a
set_option linter.unusedSimpArgs false
set_option linter.unusedVariables false
open Go.RowKit

def Leg.core (g : Leg) : Int × Int × Tx := (g.id, g.chain, g.tx)
/-- The same legs but for their needs. -/
def Like (ls gs : List Leg) : Prop := ls.map Leg.core = gs.map Leg.core
theorem Like.len {ls gs : List Leg} (h : Like ls gs) : ls.length = gs.length := by have := congrArg List.length h; simpa using this
theorem Like.symm {ls gs : List Leg} (h : Like ls gs) : Like gs ls := Eq.symm h
theorem Like.trans {ls gs hs : List Leg} (h : Like ls gs) (h' : Like gs hs) : Like ls hs := Eq.trans h h'
theorem Like.ids {ls gs : List Leg} (h : Like ls gs) : ls.map (·.id) = gs.map (·.id) := by
  have := congrArg (List.map Prod.fst) h
  simpa [List.map_map, Function.comp_def, Leg.core] using this
theorem Like.at {ls gs : List Leg} (h : Like ls gs) {k : Nat} {l g : Leg} (hl : ls[k]? = some l) (hg : gs[k]? = some g) : l.core = g.core := by
  have := congrArg (·[k]?) h
  simpa [hl, hg] using this
theorem core_sends {l g : Leg} (h : l.core = g.core) (m : Msg) : sendsB l m = sendsB g m := by
  simp only [Leg.core, Prod.mk.injEq] at h
  simp only [sendsB, h.2.1, h.2.2]
theorem core_exp {l g : Leg} (h : l.core = g.core) : expOf l = expOf g := by
  simp only [Leg.core, Prod.mk.injEq] at h
  simp only [expOf, h.2.1, h.2.2]
theorem Like.get {ls gs : List Leg} (h : Like ls gs) {k : Nat} {l : Leg} (hl : ls[k]? = some l) : ∃ g, gs[k]? = some g ∧ l.core = g.core := by
  have hk := (List.getElem?_eq_some_iff.1 hl).1
  rw [h.len] at hk
  exact ⟨gs[k], by simp [hk], h.at hl (by simp [hk])⟩
theorem Like.none {ls gs : List Leg} (h : Like ls gs) {k : Nat} (hl : ls[k]? = none) : gs[k]? = none := by
  rw [List.getElem?_eq_none_iff] at *
  rw [← h.len]; exact hl
theorem Like.named {ls gs : List Leg} (h : Like ls gs) (m : Msg) : namedSends ls m = namedSends gs m := by
  funext x
  unfold namedSends
  rw [h.ids]
  cases findAt (gs.map (·.id)) x with
  | none => rfl
  | some k =>
    cases hl : ls[k]? with
    | none => simp [hl, h.none hl]
    | some l =>
      obtain ⟨g, hg, e⟩ := h.get hl
      simp [hl, hg, core_sends e]

/-- Whether leg k is one that leg i may be made to need. -/
def isSender (gs : List Leg) (i : Nat) (m : Msg) (k : Nat) : Bool := match gs[k]? with
  | some g => (findAt (gs.map (·.id)) g.id == some k) && (k != i) && sendsB g m
  | none => false
theorem Like.sender {ls gs : List Leg} (h : Like ls gs) (i : Nat) (m : Msg) : isSender ls i m = isSender gs i m := by
  funext k
  unfold isSender
  cases hl : ls[k]? with
  | none => rw [h.none hl]
  | some l =>
    obtain ⟨g, hg, e⟩ := h.get hl
    rw [hg]
    have e1 : l.id = g.id := by simp only [Leg.core, Prod.mk.injEq] at e; exact e.1
    simp only [h.ids, core_sends e, e1]
/-- The needs that leg i has behind the linking. -/
def linkN (gs : List Leg) (i : Nat) (g : Leg) : List Int := match expOf g with
  | none => g.needs
  | some m => if g.needs.any (namedSends gs m) then g.needs else match (List.range gs.length).find? (isSender gs i m) with
    | none => g.needs
    | some k => g.needs ++ (gs[k]?.map (·.id)).toList
theorem Like.ats {ls gs : List Leg} (h : Like ls gs) (k : Nat) : (ls[k]?.map (·.id)) = (gs[k]?.map (·.id)) := by
  have := congrArg (·[k]?) h.ids
  simpa using this
theorem Like.linkN {ls gs : List Leg} (h : Like ls gs) {i : Nat} {l g : Leg} (hc : l.core = g.core) (hn : l.needs = g.needs) : linkN ls i l = linkN gs i g := by
  unfold Go.Proofs.Qxb6500865a.linkN
  rw [core_exp hc, hn]
  cases expOf g with
  | none => rfl
  | some m => simp only [h.named, h.sender, h.len, h.ats]
/-- ls is gs linked. -/
structure Linked (gs ls : List Leg) : Prop where
  like : Like ls gs
  needs : ∀ (j : Nat) (g l : Leg), gs[j]? = some g → ls[j]? = some l → l.needs = linkN gs j g
theorem linkN_cases (gs : List Leg) (i : Nat) (g : Leg) : linkN gs i g = g.needs ∨ ∃ x, linkN gs i g = g.needs ++ [x] := by
  unfold linkN
  split
  · exact .inl rfl
  split
  · exact .inl rfl
  split
  · exact .inl rfl
  · rename_i k hk
    cases gs[k]? with
    | none => exact .inl (by simp)
    | some u => exact .inr ⟨u.id, by simp⟩
theorem sender_named {gs : List Leg} {i k : Nat} {m : Msg} {u : Leg} (hu : gs[k]? = some u) (h : isSender gs i m k = true) : namedSends gs m u.id = true := by
  unfold isSender at h
  rw [hu] at h
  simp only [Bool.and_eq_true, beq_iff_eq] at h
  unfold namedSends
  rw [h.1.1]
  simp [hu, h.2]
/-- Linking what is linked adds nothing. -/
theorem Linked.idem {gs ls : List Leg} (h : Linked gs ls) {j : Nat} {l : Leg} (hl : ls[j]? = some l) : linkN ls j l = l.needs := by
  obtain ⟨g, hg, hc⟩ := h.like.get hl
  have hn := h.needs j g l hg hl
  unfold linkN
  rw [core_exp hc]
  cases he : expOf g with
  | none => rfl
  | some m =>
    simp only [h.like.named, h.like.sender, h.like.len]
    split
    · rfl
    · rename_i hno
      have hlk : linkN gs j g = _ := rfl
      unfold linkN at hlk
      simp only [he] at hlk
      by_cases ha : g.needs.any (namedSends gs m) = true
      · exfalso
        apply hno
        rw [hn]
        unfold linkN
        simp only [he, ha, if_true]
      · cases hf : (List.range gs.length).find? (isSender gs j m) with
        | none => simp
        | some k =>
          exfalso
          apply hno
          have hk := List.find?_some hf
          have hkl : k < gs.length := by have := List.mem_of_find?_eq_some hf; simpa using this
          have e : linkN gs j g = g.needs ++ [gs[k].id] := by
            unfold linkN
            simp [he, ha, hf, hkl]
          rw [hn, e, List.any_append]
          have := sender_named (u := gs[k]) (by simp [hkl]) hk
          simp [this]
theorem Linked.twice {gs ls ms : List Leg} (h : Linked gs ls) (h' : Linked ls ms) : ls.map Leg.data = ms.map Leg.data := by
  apply List.ext_getElem?
  intro k
  rw [List.getElem?_map, List.getElem?_map]
  cases hl : ls[k]? with
  | none => rw [h'.like.symm.none hl]
  | some l =>
    obtain ⟨u, hu, hc⟩ := h'.like.symm.get hl
    have h1 := h'.needs k l u hl hu
    rw [h.idem hl] at h1
    rw [hu]
    simp only [Option.map_some, Option.some.injEq]
    simp only [Leg.core, Prod.mk.injEq] at hc
    simp [Leg.data, h1, hc.1, hc.2.1, hc.2.2]
/-- Where a leg is unanswered behind the linking and all names are apart, no other leg sends its message. -/
theorem Linked.no_sender {gs ls : List Leg} (h : Linked gs ls) {i k : Nat} {l u : Leg} (hl : ls[i]? = some l) (hu : ls[k]? = some u) (hun : unans ls l = true) (hall : ∀ (j : Nat) (hj : j < ls.length), findAt (ls.map (·.id)) ls[j].id = some j) (hki : k ≠ i) :
    ∃ m, expOf l = some m ∧ sendsB u m = false := by
  unfold unans at hun
  cases he : expOf l with
  | none => rw [he] at hun; simp at hun
  | some m =>
    rw [he] at hun
    refine ⟨m, rfl, ?_⟩
    have hno : l.needs.any (namedSends ls m) = false := by simpa using hun
    cases hs : sendsB u m with
    | false => rfl
    | true =>
      exfalso
      have hid := h.idem hl
      unfold linkN at hid
      simp only [he, hno] at hid
      have hk := (List.getElem?_eq_some_iff.1 hu).1
      have hsk : isSender ls i m k = true := by
        unfold isSender
        rw [hu]
        have e := hall k hk
        rw [(List.getElem?_eq_some_iff.1 hu).2] at e
        simp [e, hki, hs]
      cases hf : (List.range ls.length).find? (isSender ls i m) with
      | none =>
        have := List.find?_eq_none.1 hf k (by simpa using hk)
        exact this hsk
      | some q =>
        have hql : q < ls.length := by have := List.mem_of_find?_eq_some hf; simpa using this
        rw [hf] at hid
        simp [hql] at hid
end Go.Proofs.Qxb6500865a
