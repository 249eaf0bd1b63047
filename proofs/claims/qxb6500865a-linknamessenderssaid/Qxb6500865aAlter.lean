/-
  Legs of the call's own that are written over.
-/
import Derived.Test.Qxb6500865aW20
namespace Go.Proofs.Qxb6500865a
set_option linter.unusedSimpArgs false
set_option linter.unusedVariables false
open Go.RowKit

theorem set_flatten {α : Type} {sz : Nat} (v : α) : ∀ (css : List (List α)) (_ : ∀ cs ∈ css, cs.length = sz) (i j : Nat) (hi : i < css.length) (_ : j < sz), css.flatten.set (i * sz + j) v = (css.set i (css[i].set j v)).flatten
  | cs :: css, hl, 0, j, hi, hj => by
    have h := hl cs (by simp)
    simp [List.set_append, show j < cs.length by omega]
  | cs :: css, hl, i + 1, j, hi, hj => by
    have h := hl cs (by simp)
    have e : (i + 1) * sz + j = cs.length + (i * sz + j) := by rw [h, Nat.add_mul]; omega
    simp only [List.flatten_cons, e, List.set_cons_succ, List.getElem_cons_succ]
    rw [List.set_append_right _ _ (by omega), Nat.add_sub_cancel_left, set_flatten v css (fun c hc => hl c (by simp [hc])) i j (by simpa using hi) hj]

/-- The row that a slice of our own lies in. -/
theorem owns_blk {w : World} {base n c : Nat} {e : TypeId} {sz : Nat} {a : Option Addr} {xs : List Value} (h : w.ownsRow base e sz (.slice a n c) n xs) (hn : 0 < n) : ∃ g cur, a = some ⟨g, 0, none⟩ ∧ base ≤ g ∧ Blk w g cur e ∧ n * sz ≤ cur.size ∧ cur.size = c * sz ∧ n ≤ c ∧ c ≤ maxLen ∧ cur.toList.take (n * sz) = xs := by
  rcases h.2 with ⟨h1, rfl⟩ | ⟨g, cap, cur, hv, hb, hgg, hnc, hcm, hcs, htk⟩
  · omega
  · simp only [Value.slice.injEq] at hv
    obtain ⟨rfl, -, rfl⟩ := hv
    exact ⟨g, cur, rfl, hb, hgg, by rw [hcs]; exact Nat.mul_le_mul_right _ hnc, hcs, hnc, hcm, htk⟩

theorem owns_set {w w1 : World} {base n c g o : Nat} {e : TypeId} {sz : Nat} {xs : List Value} {cur : Array Value} {v : Value} (h : w.ownsRow base e sz (.slice (some ⟨g, 0, none⟩) n c) n xs) (hb : Blk w g cur e) (hc : Chg w w1 g (.cells (cur.setIfInBounds o v) e (0, 0))) :
    w1.ownsRow base e sz (.slice (some ⟨g, 0, none⟩) n c) n (xs.set o v) := by
  refine ⟨by simpa using h.1, ?_⟩
  rcases h.2 with ⟨h1, _⟩ | ⟨g', cap, cur', hv, hbg, hgg, hnc, hcm, hcs, htk⟩
  · simp at h1
  · simp only [Value.slice.injEq, Option.some.injEq, Addr.mk.injEq] at hv
    obtain ⟨⟨rfl, -, -⟩, -, rfl⟩ := hv
    unfold Blk at hb
    rw [hgg] at hb
    simp only [Option.some.injEq, Obj.cells.injEq, and_true] at hb
    subst hb
    refine .inr ⟨g, c, _, rfl, hbg, hc.here, hnc, hcm, by simpa using hcs, ?_⟩
    rw [Array.toList_setIfInBounds, List.take_set, htk]

def Leg.hdr (g : Leg) : Option Addr × Nat × Nat := (g.na, g.needs.length, g.nc)
/-- A copy of legs, whatever it holds by now. -/
def Cop (w : World) (base : Nat) (a : Option Addr) (c : Nat) (H : List (Option Addr × Nat × Nat)) : Prop := ∃ ls : List Leg, LegsOwn w base a c ls ∧ ls.map Leg.hdr = H

theorem legs_len (ls : List Leg) : ∀ cs ∈ ls.map Leg.cells, cs.length = 22 := by simp only [List.mem_map]; rintro cs ⟨g, _, rfl⟩; exact g.cells_length

/-- One cell of one leg written over, by which the leg stays one with the same header. -/
theorem legs_set {w w1 : World} {base c g i j o : Nat} {cur : Array Value} {v : Value} {ls : List Leg} (L' : Leg) (ho : o = i * 22 + j) (h : LegsOwn w base (some ⟨g, 0, none⟩) c ls) (hi : i < ls.length) (hj : j < 22) (hb : Blk w g cur 62) (hc : Chg w w1 g (.cells (cur.setIfInBounds o v) 62 (0, 0)))
    (hL : ls[i].cells.set j v = L'.cells) (hh : L'.hdr = ls[i].hdr) (hnd : L'.needs = ls[i].needs) : LegsOwn w1 base (some ⟨g, 0, none⟩) c (ls.set i L') ∧ (ls.set i L').map Leg.hdr = ls.map Leg.hdr := by
  subst ho
  refine ⟨⟨?_, ?_⟩, ?_⟩
  · have e := owns_set h.own hb hc
    rw [set_flatten v _ (legs_len ls) i j (by simpa using hi) hj] at e
    simp only [List.length_set]
    have e2 : (ls.map Leg.cells).set i ((ls.map Leg.cells)[i]'(by simpa using hi) |>.set j v) = (ls.set i L').map Leg.cells := by
      rw [List.map_set]
      congr 1
      simp [hL]
    rw [e2] at e
    exact e
  · intro u hu
    rcases List.mem_or_eq_of_mem_set hu with hu | rfl
    · exact owns_chg hc (.inl hb) (by decide) (h.needs u hu)
    · have e := h.needs ls[i] (by simp)
      have e2 : NeedsOwn w base u := by
        unfold NeedsOwn at *
        simp only [Leg.hdr, Prod.mk.injEq] at hh
        rw [hh.1, hh.2.2, hnd]
        exact e
      exact owns_chg hc (.inl hb) (by decide) e2
  · rw [List.map_set, hh]
    apply List.ext_getElem?
    intro k
    rw [List.getElem?_set]
    split
    · rename_i hk
      subst hk
      simp [hi]
    · rfl

/-- One need written over. -/
theorem needs_set {w w1 : World} {base c h j : Nat} {a : Option Addr} {cur : Array Value} {y : Int} {ls : List Leg} (hl : LegsOwn w base a c ls) (hb : Blk w h cur 59) (hc : Chg w w1 h (.cells (cur.setIfInBounds j (.int .u8 y)) 59 (0, 0))) :
    ∃ ls' : List Leg, LegsOwn w1 base a c ls' ∧ ls'.map Leg.hdr = ls.map Leg.hdr := by
  let f : Leg → Leg := fun g => if g.na = some ⟨h, 0, none⟩ then { g with needs := g.needs.set j y } else g
  have hf : ∀ g, (f g).hdr = g.hdr := fun g => by
    show (if _ then _ else _ : Leg).hdr = _
    split <;> simp [Leg.hdr]
  have hfc : ∀ g, (f g).cells = g.cells := fun g => by
    show (if _ then _ else _ : Leg).cells = _
    split <;> simp [Leg.cells]
  refine ⟨ls.map f, ⟨?_, ?_⟩, ?_⟩
  · have e := owns_chg hc (.inl hb) (by decide) hl.own
    have e2 : (ls.map f).map Leg.cells = ls.map Leg.cells := by
      rw [List.map_map]; exact List.map_congr_left fun g _ => hfc g
    rw [e2]
    simpa using e
  · intro u hu
    obtain ⟨g, hg, rfl⟩ := List.mem_map.1 hu
    have e := hl.needs g hg
    show NeedsOwn w1 base (if _ then _ else _)
    split
    · rename_i hna
      unfold NeedsOwn at e ⊢
      simp only [hna, List.length_set] at e ⊢
      have e2 := owns_set e hb hc
      rw [List.map_set]
      exact e2
    · rename_i hna
      refine chg_owns hc e fun hv => ?_
      have := owns_val e
      obtain ⟨a', c', hv', _, hz⟩ := this
      simp only [Value.slice.injEq] at hv'
      obtain ⟨rfl, -, rfl⟩ := hv'
      cases hq : g.na with
      | none => rw [hq] at hv; simp [Value.ownBlock] at hv
      | some ad =>
        obtain ⟨g', rfl, _, _⟩ := hz ad hq
        rw [hq] at hv
        simp [Value.ownBlock] at hv
        subst hv
        exact hna hq
  · rw [List.map_map]; exact List.map_congr_left fun g _ => hf g
end Go.Proofs.Qxb6500865a
