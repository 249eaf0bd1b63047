/-
  Legs in memory of the call's own.
-/
import Derived.Test.Qxb6500865aDa
namespace Go.Proofs.Qxb6500865a
set_option linter.unusedSimpArgs false
set_option linter.unusedVariables false
open Go.RowKit

theorem get_flatten {α : Type} {sz : Nat} : ∀ (css : List (List α)) (_ : ∀ cs ∈ css, cs.length = sz) (i j : Nat) (_ : j < sz), css.flatten[i * sz + j]? = (css[i]?).bind (·[j]?)
  | [], _, i, j, _ => by simp
  | cs :: css, hl, 0, j, hj => by
    have h := hl cs (by simp)
    simp [List.getElem?_append_left (show j < cs.length by omega)]
  | cs :: css, hl, i + 1, j, hj => by
    have h := hl cs (by simp)
    have e : (i + 1) * sz + j = cs.length + (i * sz + j) := by rw [h, Nat.add_mul]; omega
    rw [List.flatten_cons, e, List.getElem?_append_right (by omega)]
    simp only [Nat.add_sub_cancel_left, List.getElem?_cons_succ]
    exact get_flatten css (fun c hc => hl c (by simp [hc])) i j hj
theorem length_flatten {α : Type} {sz : Nat} : ∀ (css : List (List α)) (_ : ∀ cs ∈ css, cs.length = sz), css.flatten.length = css.length * sz
  | [], _ => by simp
  | cs :: css, hl => by
    rw [List.flatten_cons, List.length_append, hl cs (by simp), length_flatten css (fun c hc => hl c (by simp [hc])), List.length_cons, Nat.add_mul]
    omega

theorem owns_arr {w : World} {base : Nat} {e : TypeId} {sz n c : Nat} {a : Option Addr} {css : List (List Value)} (h : w.ownsRow base e sz (.slice a n c) n css.flatten) (hl : ∀ cs ∈ css, cs.length = sz) (hn : css.length = n) : Arr w a sz css := by
  refine ⟨fun i cs hi => ?_⟩
  have hi' := (List.getElem?_eq_some_iff.1 hi).1
  rcases h.2 with ⟨e1, e2⟩ | ⟨g, cap, cur, hv, hb, hg, hrest⟩
  · omega
  · simp only [Value.slice.injEq] at hv
    obtain ⟨rfl, -, rfl⟩ := hv
    refine ⟨g, 0, rfl, (Array.getElem?_eq_some_iff.1 hg).1, fun j x hx => ?_⟩
    have hj : j < sz := by
      have := (List.getElem?_eq_some_iff.1 hx).1
      rw [hl cs (List.mem_of_getElem? hi)] at this
      exact this
    have hlt : i * sz + j < n * sz := by
      have : (i + 1) * sz ≤ n * sz := Nat.mul_le_mul_right _ (by omega)
      rw [Nat.add_mul] at this
      omega
    rw [Nat.zero_add, h.cellAt _ hlt, get_flatten css hl i j hj, hi]
    exact hx

theorem Leg.cells_length (g : Leg) : g.cells.length = 22 := by simp [Leg.cells, Tx.cells, Msg.cells]
theorem Tx.cells_length (t : Tx) : t.cells.length = 19 := by simp [Tx.cells, Msg.cells]
theorem Msg.cells_length (t : Msg) : t.cells.length = 9 := by simp [Msg.cells]
theorem OpD.cells_length (g : OpD) : g.cells.length = 36 := by simp [OpD.cells, Tx.cells, Msg.cells]
theorem Msg.cells_one (t : Msg) : ∀ v ∈ t.cells, v.oneCell' = true := by simp [Msg.cells, Value.oneCell']
theorem Tx.cells_one (t : Tx) : ∀ v ∈ t.cells, v.oneCell' = true := by simp [Tx.cells, Msg.cells, Value.oneCell']
theorem Leg.cells_one (t : Leg) : ∀ v ∈ t.cells, v.oneCell' = true := by simp [Leg.cells, Tx.cells, Msg.cells, Value.oneCell']
theorem OpD.cells_one (t : OpD) : ∀ v ∈ t.cells, v.oneCell' = true := by simp [OpD.cells, Tx.cells, Msg.cells, Value.oneCell']
theorem flat_ints (q : IntKind) : ∀ l : List Int, (ints q l).flatten = l.map (Value.int q)
  | [] => rfl
  | x :: l => by
    have := flat_ints q l
    unfold ints at *
    simp [this]
theorem len_ints (q : IntKind) (l : List Int) : ∀ cs ∈ ints q l, cs.length = 1 := by simp [ints]

/-- The plain content of a leg. -/
def Leg.data (g : Leg) : Int × Int × Tx × List Int := (g.id, g.chain, g.tx, g.needs)

/-- The needs of a leg in memory of our own. -/
def NeedsOwn (w : World) (base : Nat) (g : Leg) : Prop := w.ownsRow base 59 1 (.slice g.na g.needs.length g.nc) g.needs.length (g.needs.map (Value.int .u8))
structure LegsOwn (w : World) (base : Nat) (a : Option Addr) (c : Nat) (gs : List Leg) : Prop where
  own : w.ownsRow base 62 22 (.slice a gs.length c) gs.length (gs.map Leg.cells).flatten
  needs : ∀ g ∈ gs, NeedsOwn w base g
theorem NeedsOwn.arr {w : World} {base : Nat} {g : Leg} (h : NeedsOwn w base g) : Arr w g.na 1 (ints .u8 g.needs) :=
  owns_arr (n := g.needs.length) (by rw [flat_ints]; exact h) (len_ints _ _) (by simp [ints])
theorem LegsOwn.legs {w : World} {base : Nat} {a : Option Addr} {c : Nat} {gs : List Leg} (h : LegsOwn w base a c gs) : Legs w a gs :=
  ⟨owns_arr h.own (by simp only [List.mem_map]; rintro cs ⟨g, _, rfl⟩; exact g.cells_length) (by simp), fun g hg => (h.needs g hg).arr⟩

/-- Rows of our own are kept by a change at a block of another type, or at another block. -/
theorem owns_chg {w w1 : World} {b base n : Nat} {c : Array Value} {t e : TypeId} {sz : Nat} {v : Value} {xs : List Value} {o : Obj} (hc : Chg w w1 b o) (hb : Blk w b c t ∨ w.heap.size ≤ b) (hte : t ≠ e) (h : w.ownsRow base e sz v n xs) : w1.ownsRow base e sz v n xs := by
  refine chg_owns hc h fun hv => ?_
  rcases h.2 with ⟨rfl, _⟩ | ⟨g, cap, cur, rfl, hbg, hg, _⟩
  · simp [Value.ownBlock] at hv
  · simp [Value.ownBlock] at hv
    subst hv
    rcases hb with hb | hb
    · unfold Blk at hb
      rw [hg] at hb
      simp at hb
      exact hte hb.2.symm
    · have := (Array.getElem?_eq_some_iff.1 hg).1
      omega
/-- A new block. -/
theorem owns_new {w w1 : World} {base n : Nat} {e : TypeId} {sz : Nat} {v : Value} {xs : List Value} {o : Obj} (hc : Chg w w1 w.heap.size o) (h : w.ownsRow base e sz v n xs) : w1.ownsRow base e sz v n xs :=
  chg_owns hc h fun hv => by have := (h.lt _ hv).2; omega
theorem owns_grown {w w1 : World} {base base' n n' : Nat} {e e' : TypeId} {sz sz' : Nat} {v v' : Value} {xs xs' : List Value} (h' : w.ownsRow base' e' sz' v' n' xs') (hg : w.grownBy w1 v'.ownBlock) (hee : e' ≠ e) (h : w.ownsRow base e sz v n xs) : w1.ownsRow base e sz v n xs := by
  refine h.kept hg ?_
  rcases h.2 with ⟨rfl, _⟩ | ⟨g, cap, cur, rfl, hbg, hgg, _⟩
  · exact .inl rfl
  · refine .inr fun he => ?_
    rcases h'.2 with ⟨rfl, _⟩ | ⟨g', cap', cur', rfl, hbg', hgg', _⟩
    · simp [Value.ownBlock] at he
    · simp [Value.ownBlock] at he
      subst he
      rw [hgg] at hgg'
      simp at hgg'
      exact hee hgg'.2.symm
theorem chg_keeps {w w1 : World} {B : Nat} {o : Obj} (hc : Chg w w1 B o) (hB : w.heap.size ≤ B) : Keeps w w1 := ⟨hc.size, fun b i hb => hc.cell i (by omega)⟩
end Go.Proofs.Qxb6500865a
