/-
  The data of this seat's laws in plain words, and how they lie in memory.
-/
import Derived.Test.Qxb6500865aFa
namespace Go.Proofs.Qxb6500865a
set_option linter.unusedSimpArgs false
set_option linter.unusedVariables false
open Go.RowKit

/-- The elements of a slice, each a list of 'sz' cells, lie in memory. -/
structure Arr (w : World) (a : Option Addr) (sz : Nat) (css : List (List Value)) : Prop where
  cell : ∀ i cs, css[i]? = some cs → ∃ b o, a = some ⟨b, o, none⟩ ∧ b < w.heap.size ∧ ∀ j x, cs[j]? = some x → w.cell? ⟨b, o + i * sz + j, none⟩ = some x

/-- Every cell of w reads in w' as it did. -/
def Keeps (w w' : World) : Prop := w.heap.size ≤ w'.heap.size ∧ ∀ b i, b < w.heap.size → w'.cell? ⟨b, i, none⟩ = w.cell? ⟨b, i, none⟩
theorem Keeps.refl (w : World) : Keeps w w := ⟨Nat.le_refl _, fun _ _ _ => rfl⟩
theorem Keeps.trans {a b c : World} (h : Keeps a b) (h' : Keeps b c) : Keeps a c := ⟨Nat.le_trans h.1 h'.1, fun x i hx => (h'.2 x i (Nat.lt_of_lt_of_le hx h.1)).trans (h.2 x i hx)⟩
theorem keeps_below {w w' : World} (h : Below w.heap.size w w') : Keeps w w' := ⟨h.size, fun _ i hb => below_cell h i hb⟩
theorem Sm.keeps {w x : World} (h : Sm w x) : Keeps w x := ⟨by rw [h.heap]; exact Nat.le_refl _, fun b i _ => h.cell _⟩
theorem Arr.keep {w w' : World} {a : Option Addr} {sz : Nat} {css : List (List Value)} (h : Arr w a sz css) (hk : Keeps w w') : Arr w' a sz css :=
  ⟨fun i cs hi => let ⟨b, o, ha, hb, hc⟩ := h.cell i cs hi; ⟨b, o, ha, Nat.lt_of_lt_of_le hb hk.1, fun j x hx => (hk.2 b _ hb).trans (hc j x hx)⟩⟩

structure Msg where
  kind : Int
  frm : Int
  to : Int
  sender : Int
  receiver : Int
  seq : Int
  token : Int
  amount : Int
  payload : ByteArray
def Msg.cells (m : Msg) : List Value := [.int .u8 m.kind, .int .u8 m.frm, .int .u8 m.to, .int .u8 m.sender, .int .u8 m.receiver, .int .u64 m.seq, .int .u8 m.token, .int .u64 m.amount, .string m.payload]
structure Tx where
  kind : Int
  chain : Int
  frm : Int
  nonce : Int
  fee : Int
  to : Int
  dest : Int
  token : Int
  amount : Int
  payload : ByteArray
  msg : Msg
def Tx.cells (t : Tx) : List Value := .int .u8 t.kind :: .int .u8 t.chain :: .int .u8 t.frm :: .int .u64 t.nonce :: .int .u64 t.fee :: .int .u8 t.to :: .int .u8 t.dest :: .int .u8 t.token :: .int .u64 t.amount :: .string t.payload :: t.msg.cells
structure Leg where
  id : Int
  chain : Int
  tx : Tx
  needs : List Int
  na : Option Addr
  nc : Nat
def Leg.cells (g : Leg) : List Value := .int .u8 g.id :: .int .u8 g.chain :: (g.tx.cells ++ [.slice g.na g.needs.length g.nc])
def ints (q : IntKind) (l : List Int) : List (List Value) := l.map fun x => [.int q x]
structure Legs (w : World) (a : Option Addr) (gs : List Leg) : Prop where
  arr : Arr w a 22 (gs.map Leg.cells)
  ok : ∀ g ∈ gs, Arr w g.na 1 (ints .u8 g.needs)
theorem Legs.keep {w w' : World} {a : Option Addr} {gs : List Leg} (h : Legs w a gs) (hk : Keeps w w') : Legs w' a gs := ⟨h.arr.keep hk, fun g hg => (h.ok g hg).keep hk⟩
structure OpD where
  kind : Int
  chain : Int
  la : Option Addr
  lc : Nat
  legs : List Leg
  gasA : Int
  gasB : Int
  tx : Tx
  msg : Msg
  gacc : Int
  gtok : Int
  gamt : Int
def OpD.cells (x : OpD) : List Value := .int .u8 x.kind :: .int .u8 x.chain :: .slice x.la x.legs.length x.lc :: .int .u64 x.gasA :: .int .u64 x.gasB :: (x.tx.cells ++ x.msg.cells ++ [.int .u8 x.gacc, .int .u8 x.gtok, .int .u64 x.gamt])
structure Ops (w : World) (a : Option Addr) (xs : List OpD) : Prop where
  arr : Arr w a 36 (xs.map OpD.cells)
  ok : ∀ x ∈ xs, Legs w x.la x.legs
theorem Ops.keep {w w' : World} {a : Option Addr} {xs : List OpD} (h : Ops w a xs) (hk : Keeps w w') : Ops w' a xs := ⟨h.arr.keep hk, fun g hg => (h.ok g hg).keep hk⟩
theorem Ops.at {w : World} {a : Option Addr} {xs : List OpD} (h : Ops w a xs) {i : Nat} {x : OpD} (hi : xs[i]? = some x) :
    ∃ b o, a = some ⟨b, o, none⟩ ∧ b < w.heap.size ∧ ∀ j v, x.cells[j]? = some v → w.cell? ⟨b, o + i * 36 + j, none⟩ = some v :=
  h.arr.cell i x.cells (by simp [hi])
/-- No string or slice of it is longer than memory can bear. -/
def Leg.big (g : Leg) : Prop := g.tx.payload.size ≤ 140737488355328 ∧ g.tx.msg.payload.size ≤ 140737488355328 ∧ g.needs.length ≤ 140737488355328
structure OpD.big (x : OpD) : Prop where
  legs : x.legs.length ≤ 140737488355328
  each : ∀ g ∈ x.legs, g.big
  tx : x.tx.payload.size ≤ 140737488355328
  txm : x.tx.msg.payload.size ≤ 140737488355328
  msg : x.msg.payload.size ≤ 140737488355328
/-- What the size guard grants. -/
structure OpD.small (x : OpD) : Prop where
  legs : x.legs.length ≤ 65536
  needs : ∀ g ∈ x.legs, g.needs.length ≤ 65536
/-- One leg's cells. -/
theorem Legs.at {w : World} {a : Option Addr} {gs : List Leg} (h : Legs w a gs) {i : Nat} {g : Leg} (hi : gs[i]? = some g) :
    ∃ b o, a = some ⟨b, o, none⟩ ∧ b < w.heap.size ∧ ∀ j x, g.cells[j]? = some x → w.cell? ⟨b, o + i * 22 + j, none⟩ = some x :=
  h.arr.cell i g.cells (by simp [hi])

/-- Where a name is first borne. -/
def findAt (ids : List Int) (x : Int) : Option Nat := ids.findIdx? (· == x)

theorem findAt_none_of {ids : List Int} {x : Int} (h : ∀ (i : Nat) y, ids[i]? = some y → y ≠ x) : findAt ids x = none := by
  unfold findAt
  rw [List.findIdx?_eq_none_iff]
  intro y hy
  obtain ⟨i, hi⟩ := List.getElem?_of_mem hy
  simpa using h i y hi
theorem findAt_some_of {ids : List Int} {x : Int} {i : Nat} (hi : ids[i]? = some x) (h : ∀ (j : Nat) y, j < i → ids[j]? = some y → y ≠ x) : findAt ids x = some i := by
  unfold findAt
  rw [List.findIdx?_eq_some_iff_getElem]
  obtain ⟨hl, he⟩ := List.getElem?_eq_some_iff.1 hi
  refine ⟨hl, by simp [he], fun j hj => ?_⟩
  have := h j ids[j] hj (by simp)
  simpa using this
end Go.Proofs.Qxb6500865a
