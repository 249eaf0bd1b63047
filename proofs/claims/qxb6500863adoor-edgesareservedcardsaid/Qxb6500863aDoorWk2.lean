/-
  The walking kit, second part: one rule an operation.
-/
import Derived.Test.Qxb6500863aDoorWk
namespace Go.Proofs.Qxb6500863aDoor
set_option linter.unusedSimpArgs false
set_option linter.unusedVariables false
open Go.RowKit

/-! ### Blocks -/
/-- Block b is a row of cells c, none frozen. -/
def Blk (w : World) (b : Nat) (c : Array Value) (t : TypeId) : Prop := w.heap[b]? = some (.cells c t (0, 0))
/-- The world has turned at block b alone (a new block, or one written). -/
structure Chg (w w1 : World) (b : Nat) (o : Obj) : Prop where
  here : w1.heap[b]? = some o
  oth : ∀ k, k ≠ b → w1.heap[k]? = w.heap[k]?
  size : w.heap.size ≤ w1.heap.size
  os : w1.os = w.os
  tape : w1.tape = w.tape
  output : w1.output = w.output

theorem Blk.lt {w : World} {b : Nat} {c : Array Value} {t : TypeId} (h : Blk w b c t) : b < w.heap.size := (Array.getElem?_eq_some_iff.1 h).1
theorem Blk.cell {w : World} {b : Nat} {c : Array Value} {t : TypeId} (h : Blk w b c t) (i : Nat) : w.cell? ⟨b, i, none⟩ = c[i]? := cell_of_row w b i c t (0, 0) h
theorem Blk.frozen {w : World} {b : Nat} {c : Array Value} {t : TypeId} (h : Blk w b c t) (i : Nat) : w.frozen? ⟨b, i, none⟩ = false := frozen_of_row w b i c t h
theorem Chg.blk {w w1 : World} {b k : Nat} {o : Obj} {c : Array Value} {t : TypeId} (h : Chg w w1 b o) (hk : Blk w k c t) (hne : k ≠ b) : Blk w1 k c t := (h.oth k hne).trans hk
theorem Chg.new {w w1 : World} {b : Nat} {c : Array Value} {t : TypeId} (h : Chg w w1 b (.cells c t (0, 0))) : Blk w1 b c t := h.here
theorem Chg.cell {w w1 : World} {b k : Nat} {o : Obj} (h : Chg w w1 b o) (i : Nat) (hne : k ≠ b) : w1.cell? ⟨k, i, none⟩ = w.cell? ⟨k, i, none⟩ := World.cell?_of_block (h.oth k hne)
theorem Chg.below {w0 w w1 : World} {b B : Nat} {o : Obj} (h : Chg w w1 b o) (hB : Below B w0 w) (hb : B ≤ b) : Below B w0 w1 :=
  ⟨h.os.trans hB.os, h.tape.trans hB.tape, h.output.trans hB.output, Nat.le_trans hB.size h.size, fun k hk => (h.oth k (by omega)).trans (hB.block k hk)⟩
theorem Chg.lt {w w1 : World} {b : Nat} {o : Obj} (h : Chg w w1 b o) : b < w1.heap.size := (Array.getElem?_eq_some_iff.1 h.here).1
theorem Chg.trans {w w1 w2 : World} {b : Nat} {o o' : Obj} (h : Chg w w1 b o) (h' : Chg w1 w2 b o') : Chg w w2 b o' :=
  ⟨h'.here, fun k hk => (h'.oth k hk).trans (h.oth k hk), Nat.le_trans h.size h'.size, h'.os.trans h.os, h'.tape.trans h.tape, h'.output.trans h.output⟩
theorem chg_alloc (w : World) (o : Obj) : Chg w (w.alloc o) w.heap.size o := by
  refine ⟨heap_alloc_new w o, fun k hk => ?_, by simp, rfl, rfl, rfl⟩
  rcases Nat.lt_or_ge k w.heap.size with h | h
  · exact Go.heap_alloc_old w o h
  · have h1 : (w.alloc o).heap[k]? = none := by apply Array.getElem?_eq_none; simp; omega
    have h2 : w.heap[k]? = none := Array.getElem?_eq_none h
    rw [h1, h2]
theorem chg_setRow {w : World} {b : Nat} {c : Array Value} {t : TypeId} (h : Blk w b c t) (c' : Array Value) : Chg w (w.setRow b c') b (.cells c' t (0, 0)) := by
  refine ⟨setRow_heap w b c c' t (0, 0) h, fun k hk => ?_, by simp, rfl, rfl, rfl⟩
  simp [World.setRow, Array.getElem?_modify, Ne.symm hk]
theorem below_cell {B : Nat} {w w' : World} (h : Below B w w') {b : Nat} (i : Nat) (hb : b < B) : w'.cell? ⟨b, i, none⟩ = w.cell? ⟨b, i, none⟩ := World.cell?_of_block (h.block b hb)

/-! ### Closed facts about a program's types -/
def SZ (P : Program) (t : TypeId) (m : Nat) : Prop := ∀ w, (sizeOf t).run P w = .ok m w
def AG (P : Program) (t : TypeId) (b : Bool) : Prop := ∀ w, (isAgg t).run P w = .ok b w
def UN (P : Program) (t : TypeId) (d : TypeDesc) : Prop := ∀ w, (underlying t).run P w = .ok d w
def ZV (P : Program) (t : TypeId) (z : Value) : Prop := ∀ w, (zeroValue t).run P w = .ok z w
def FO (P : Program) (s : TypeId) (i off : Nat) : Prop := ∀ b o w, (Instr.fieldAt s (.pointer (some ⟨b, o, none⟩)) i).run P w = .ok (.pointer (some ⟨b, o + off, none⟩)) w
def EN (P : Program) (g : FuncId) : Prop := ∀ args w, (callFunc g args).run P w = .ok (.enter g args) w

section
variable {P : Program} {f : Cx} {n : Nat} {R : Value → World → Prop} {ρ : Env} {w : World} {k : List Item} {ops : Array Oper} {rest : List Oper}
variable {d : Nat} {dst : Option Tmp} {gd : Option (Nat × Bool)} {ty : TypeId} {pos : String} {after : Array Edge}

theorem X_move {x : Operand} : (execOp (ev ρ) ⟨dst, .move x, ty, pos, after, gd⟩).run P w = .ok (.value (ev ρ x)) w := rfl
theorem X_assign {x : Operand} : (execOp (ev ρ) ⟨dst, .assign x, ty, pos, after, gd⟩).run P w = .ok (.value (ev ρ x)) w := rfl
theorem X_pick {c x y : Operand} {b : Bool} (hc : ev ρ c = .bool b) : (execOp (ev ρ) ⟨dst, .pick c x y, ty, pos, after, gd⟩).run P w = .ok (.value (bif b then ev ρ x else ev ρ y)) w := (by simp only [execOp, hc]; cases b <;> rfl)
theorem X_not {t : TypeId} {x : Operand} {b : Bool} (hx : ev ρ x = .bool b) : (execOp (ev ρ) ⟨dst, .unOp .not t x, ty, pos, after, gd⟩).run P w = .ok (.value (.bool !b)) w := (by simp only [execOp, hx]; rfl)
/-! integers -/
def cmpB : BinOp → Int → Int → Bool
  | .eql, a, b => a == b
  | .neq, a, b => a != b
  | .lss, a, b => decide (a < b)
  | .leq, a, b => decide (a ≤ b)
  | .gtr, a, b => decide (b < a)
  | .geq, a, b => decide (b ≤ a)
  | _, _, _ => false
def isCmp : BinOp → Bool
  | .eql | .neq | .lss | .leq | .gtr | .geq => true
  | _ => false
theorem X_cmp {op : BinOp} {t t' : TypeId} {x y : Operand} {q : IntKind} {a b : Int} (hop : isCmp op = true) (hx : ev ρ x = .int q a) (hy : ev ρ y = .int q b) : (execOp (ev ρ) ⟨dst, .binOp op t x y t', ty, pos, after, gd⟩).run P w = .ok (.value (.bool (cmpB op a b))) w := by
  cases op <;> simp [isCmp] at hop <;> simp [execOp, hx, hy, eqGuard, binOp, Op.intCmp, cmpB]
def arB : BinOp → Int → Int → Int
  | .add, a, b => a + b
  | .sub, a, b => a - b
  | .mul, a, b => a * b
  | _, _, _ => 0
def isAr : BinOp → Bool
  | .add | .sub | .mul => true
  | _ => false
theorem X_ar {op : BinOp} {t t' : TypeId} {x y : Operand} {q : IntKind} {a b : Int} (hop : isAr op = true) (hx : ev ρ x = .int q a) (hy : ev ρ y = .int q b) : (execOp (ev ρ) ⟨dst, .binOp op t x y t', ty, pos, after, gd⟩).run P w = .ok (.value (.int q (q.wrap (arB op a b)))) w := by
  cases op <;> simp [isAr] at hop <;> simp [execOp, hx, hy, eqGuard, binOp, Op.intArith, arB]
theorem wrap_i64 {a : Int} (h0 : -9223372036854775808 ≤ a) (h1 : a < 9223372036854775808) : IntKind.i64.wrap a = a := by
  rw [IntKind.wrap_i64]; omega
/-- int's arithmetic where nothing wraps. -/
theorem X_add {t t' : TypeId} {x y : Operand} {a b : Int} (hx : ev ρ x = .int .i64 a) (hy : ev ρ y = .int .i64 b) (h0 : -9223372036854775808 ≤ a + b) (h1 : a + b < 9223372036854775808) :
    (execOp (ev ρ) ⟨dst, .binOp .add t x y t', ty, pos, after, gd⟩).run P w = .ok (.value (.int .i64 (a + b))) w := by
  rw [X_ar rfl hx hy]
  simp only [arB, wrap_i64 h0 h1]
theorem X_sub {t t' : TypeId} {x y : Operand} {a b : Int} (hx : ev ρ x = .int .i64 a) (hy : ev ρ y = .int .i64 b) (h0 : -9223372036854775808 ≤ a - b) (h1 : a - b < 9223372036854775808) :
    (execOp (ev ρ) ⟨dst, .binOp .sub t x y t', ty, pos, after, gd⟩).run P w = .ok (.value (.int .i64 (a - b))) w := by
  rw [X_ar rfl hx hy]
  simp only [arB, wrap_i64 h0 h1]
theorem X_mul {t t' : TypeId} {x y : Operand} {a b : Int} (hx : ev ρ x = .int .i64 a) (hy : ev ρ y = .int .i64 b) (h0 : -9223372036854775808 ≤ a * b) (h1 : a * b < 9223372036854775808) :
    (execOp (ev ρ) ⟨dst, .binOp .mul t x y t', ty, pos, after, gd⟩).run P w = .ok (.value (.int .i64 (a * b))) w := by
  rw [X_ar rfl hx hy]
  simp only [arB, wrap_i64 h0 h1]
/-- bits: the result as a BitVec says it. -/
def bitB : BinOp → (q : IntKind) → Int → Int → Int
  | .and, q, a, b => q.wrap ((BitVec.ofInt q.bits a &&& BitVec.ofInt q.bits b).toNat : Int)
  | .or, q, a, b => q.wrap ((BitVec.ofInt q.bits a ||| BitVec.ofInt q.bits b).toNat : Int)
  | .xor, q, a, b => q.wrap ((BitVec.ofInt q.bits a ^^^ BitVec.ofInt q.bits b).toNat : Int)
  | .andNot, q, a, b => q.wrap ((BitVec.ofInt q.bits a &&& ~~~BitVec.ofInt q.bits b).toNat : Int)
  | _, _, _, _ => 0
def isBit : BinOp → Bool
  | .and | .or | .xor | .andNot => true
  | _ => false
theorem X_bit {op : BinOp} {t t' : TypeId} {x y : Operand} {q : IntKind} {a b : Int} (hop : isBit op = true) (hx : ev ρ x = .int q a) (hy : ev ρ y = .int q b) : (execOp (ev ρ) ⟨dst, .binOp op t x y t', ty, pos, after, gd⟩).run P w = .ok (.value (.int q (bitB op q a b))) w := by
  cases op <;> simp [isBit] at hop <;> simp [execOp, hx, hy, eqGuard, binOp, Op.intBits, bitB]
theorem X_shl {t t' : TypeId} {x y : Operand} {q q' : IntKind} {a b : Int} (hx : ev ρ x = .int q a) (hy : ev ρ y = .int q' b) (hb : 0 ≤ b) : (execOp (ev ρ) ⟨dst, .binOp .shl t x y t', ty, pos, after, gd⟩).run P w = .ok (.value (.int q (q.wrap (a * 2 ^ (min b.toNat q.bits))))) w := by
  simp [execOp, hx, hy, eqGuard, binOp, Op.shift, show ¬ b < 0 by omega]
theorem X_shr {t t' : TypeId} {x y : Operand} {q q' : IntKind} {a b : Int} (hx : ev ρ x = .int q a) (hy : ev ρ y = .int q' b) (hb : 0 ≤ b) : (execOp (ev ρ) ⟨dst, .binOp .shr t x y t', ty, pos, after, gd⟩).run P w = .ok (.value (.int q (a.fdiv (2 ^ (min b.toNat q.bits))))) w := by
  simp [execOp, hx, hy, eqGuard, binOp, Op.shift, show ¬ b < 0 by omega]
theorem X_quo {t t' : TypeId} {x y : Operand} {q : IntKind} {a b : Int} (hx : ev ρ x = .int q a) (hy : ev ρ y = .int q b) (hb : b ≠ 0) : (execOp (ev ρ) ⟨dst, .binOp .quo t x y t', ty, pos, after, gd⟩).run P w = .ok (.value (.int q (q.wrap (a.tdiv b)))) w := by
  simp [execOp, hx, hy, eqGuard, binOp, Op.intDiv, hb]
theorem X_rem {t t' : TypeId} {x y : Operand} {q : IntKind} {a b : Int} (hx : ev ρ x = .int q a) (hy : ev ρ y = .int q b) (hb : b ≠ 0) : (execOp (ev ρ) ⟨dst, .binOp .rem t x y t', ty, pos, after, gd⟩).run P w = .ok (.value (.int q (a.tmod b))) w := by
  simp [execOp, hx, hy, eqGuard, binOp, Op.intDiv, hb]
theorem X_convInt {s t : TypeId} {x : Operand} {q q' : IntKind} {a : Int} {D : TypeDesc} (hs : UN P s D) (ht : UN P t (.int q')) (hx : ev ρ x = .int q a) : (execOp (ev ρ) ⟨dst, .convert s t x, ty, pos, after, gd⟩).run P w = .ok (.value (.int q' (q'.wrap a))) w := by
  have h1 := hs w
  have h2 := ht w
  simp [execOp, convert, hx, h1, h2, Conv.intToInt]
/-- '==', '!=' by whatever '.equal' says. -/
theorem X_eq {t t' : TypeId} {x y : Operand} {b : Bool} (hx : (do eqGuard .eql t x y (ev ρ x) (ev ρ y); binOp .eql t (ev ρ x) (ev ρ y)).run P w = .ok (.bool b) w) : (execOp (ev ρ) ⟨dst, .binOp .eql t x y t', ty, pos, after, gd⟩).run P w = .ok (.value (.bool b)) w := by
  simp only [execOp, Sem.run_bind] at hx ⊢
  rw [hx]; rfl
theorem X_neq {t t' : TypeId} {x y : Operand} {b : Bool} (hx : (do eqGuard .neq t x y (ev ρ x) (ev ρ y); binOp .neq t (ev ρ x) (ev ρ y)).run P w = .ok (.bool b) w) : (execOp (ev ρ) ⟨dst, .binOp .neq t x y t', ty, pos, after, gd⟩).run P w = .ok (.value (.bool b)) w := by
  simp only [execOp, Sem.run_bind] at hx ⊢
  rw [hx]; rfl
/-! lengths, tuples, interfaces -/
theorem X_lenS {t : TypeId} {x : Operand} {e : TypeId} {a : Option Addr} {l c : Nat} (ht : UN P t (.slice e)) (hx : ev ρ x = .slice a l c) : (execOp (ev ρ) ⟨dst, .call { callee := .builtin .len, args := #[x], argTypes := #[t] }, ty, pos, after, gd⟩).run P w = .ok (.value (.int .i64 l)) w := by
  have h1 := ht w
  simp [execOp, resolve, invoke, builtin, Builtin.len_, hx, h1, goInt]
theorem X_lenStr {t : TypeId} {x : Operand} {s : ByteArray} (ht : UN P t .string) (hx : ev ρ x = .string s) : (execOp (ev ρ) ⟨dst, .call { callee := .builtin .len, args := #[x], argTypes := #[t] }, ty, pos, after, gd⟩).run P w = .ok (.value (.int .i64 s.size)) w := by
  have h1 := ht w
  simp [execOp, resolve, invoke, builtin, Builtin.len_, hx, h1, goInt]
theorem X_extract {x : Operand} {i : Nat} {vs : Array Value} {v : Value} (hx : ev ρ x = .tuple vs) (hv : vs[i]? = some v) : (execOp (ev ρ) ⟨dst, .extract x i, ty, pos, after, gd⟩).run P w = .ok (.value v) w := by
  simp [execOp, Instr.extract, hx, hv]
theorem X_mkIface {t : TypeId} {x : Operand} {D : TypeDesc} (ht : UN P t D) (hD : ∀ ms, D ≠ .interface ms) : (execOp (ev ρ) ⟨dst, .makeInterface t x, ty, pos, after, gd⟩).run P w = .ok (.value (.iface t (ev ρ x))) w := by
  have h1 := ht w
  simp only [execOp, Instr.makeInterface, Sem.run_bind, h1, Result.andThen_ok]
  cases D <;> first | rfl | exact absurd rfl (hD _)
theorem X_nilCheck {x : Operand} {a : Addr} (hx : ev ρ x = .pointer (some a)) : (execOp (ev ρ) ⟨dst, .nilCheck x, ty, pos, after, gd⟩).run P w = .ok (.value (.pointer (some a))) w := by
  simp [execOp, hx]
/-! addresses -/
theorem X_field {s : TypeId} {x : Operand} {i off b o : Nat} (hf : FO P s i off) (hx : ev ρ x = .pointer (some ⟨b, o, none⟩)) : (execOp (ev ρ) ⟨dst, .fieldAddr s x i, ty, pos, after, gd⟩).run P w = .ok (.value (.pointer (some ⟨b, o + off, none⟩))) w := by
  simp only [execOp, hx, Sem.run_bind, hf b o w, Result.andThen_ok]
  rfl
theorem X_index {t : TypeId} {x y : Operand} {e : TypeId} {sz b o l c j : Nat} {q : IntKind} (ht : UN P t (.slice e)) (hs : SZ P e sz) (hx : ev ρ x = .slice (some ⟨b, o, none⟩) l c) (hy : ev ρ y = .int q j) (hj : j < l) : (execOp (ev ρ) ⟨dst, .indexAddr t x y, ty, pos, after, gd⟩).run P w = .ok (.value (.pointer (some ⟨b, o + j * sz, none⟩))) w := by
  have h1 := ht w
  have h2 := hs w
  simp [execOp, Instr.indexAt, hx, hy, h1, h2, asIntOf, hj, Addr.add_lit]
theorem X_indexA {t : TypeId} {x y : Operand} {e : TypeId} {sz b o l j : Nat} {q : IntKind} (ht : UN P t (.array l e)) (hs : SZ P e sz) (hx : ev ρ x = .pointer (some ⟨b, o, none⟩)) (hy : ev ρ y = .int q j) (hj : j < l) : (execOp (ev ρ) ⟨dst, .indexAddr t x y, ty, pos, after, gd⟩).run P w = .ok (.value (.pointer (some ⟨b, o + j * sz, none⟩))) w := by
  have h1 := ht w
  have h2 := hs w
  simp [execOp, Instr.indexAt, Instr.sureAddr, hx, hy, h1, h2, asIntOf, hj, Addr.add_lit]
/-! loads and stores -/
theorem X_load {t : TypeId} {x : Operand} {b o : Nat} {v : Value} (ht : AG P t false) (hx : ev ρ x = .pointer (some ⟨b, o, none⟩)) (hc : w.cell? ⟨b, o, none⟩ = some v) : (execOp (ev ρ) ⟨dst, .load t x, ty, pos, after, gd⟩).run P w = .ok (.value v) w := by
  have h1 := ht w
  simp [execOp, Instr.loadAt, Instr.sureAddr, loadVar, hx, h1, hc]
theorem X_loadAgg {t : TypeId} {x : Operand} {b o m : Nat} (cs : List Value) (ht : AG P t true) (hs : SZ P t m) (hm : cs.length = m) (hx : ev ρ x = .pointer (some ⟨b, o, none⟩)) (hc : ∀ j v, cs[j]? = some v → w.cell? ⟨b, o + j, none⟩ = some v) : (execOp (ev ρ) ⟨dst, .load t x, ty, pos, after, gd⟩).run P w = .ok (.value (.agg cs.toArray)) w := by
  have h1 := ht w
  have h2 := hs w
  have h3 := run_loadCells_list (P := P) w ⟨b, o, none⟩ cs (fun j v hv => by rw [Addr.add_lit]; exact hc j v hv)
  simp [execOp, Instr.loadAt, Instr.sureAddr, loadVar, hx, h1, h2, ← hm, h3]
/-- A store of one cell into a block of our own. -/
theorem L_store {t : TypeId} {x y : Operand} {b o : Nat} {c : Array Value} {u : TypeId} (v : Value) (hs : SZ P t 1) (hx : ev ρ x = .pointer (some ⟨b, o, none⟩)) (hy : ev ρ y = v) (hv : v.oneCell' = true) (hb : Blk w b c u) (ho : o < c.size)
    (h : ∀ w1, Chg w w1 b (.cells (c.setIfInBounds o v) u (0, 0)) → L P f n ops rest k R ρ w1) : L P f n ops (⟨none, .store t x y, ty, pos, after, none⟩ :: rest) k R ρ w := by
  have h1 := hs w
  have hcell : w.cell? ⟨b, o, none⟩ = some c[o] := by rw [hb.cell]; simp [ho]
  have hst := run_store P w ⟨b, o, none⟩ v .plain hv
  rw [hcell] at hst
  simp only [hb.frozen] at hst
  have e0 : (⟨b, o, none⟩ : Addr).add 0 = ⟨b, o, none⟩ := rfl
  have hcs : v.cells = #[v] := by cases v <;> first | rfl | (simp [Value.oneCell'] at hv)
  refine L_skip (w.setCell ⟨b, o, none⟩ v) ?_ (h _ ?_)
  · simp [execOp, Instr.storeAt, Instr.sureAddr, storeVar, hx, hy, h1, hcs, storeCells, e0, hst]
  · rw [setCell_eq_setRow w b o c u (0, 0) v hb]
    exact chg_setRow hb _
/-- A store of several cells into a block of our own. -/
theorem L_storeAgg {t : TypeId} {x y : Operand} {b o m : Nat} {c : Array Value} {u : TypeId} (cs : List Value) (hs : SZ P t m) (hx : ev ρ x = .pointer (some ⟨b, o, none⟩)) (hy : ev ρ y = .agg cs.toArray) (hm : cs.length = m) (hv : ∀ v ∈ cs, v.oneCell' = true) (hb : Blk w b c u) (ho : o + m ≤ c.size)
    (h : ∀ w1, Chg w w1 b (.cells (c.toList.take o ++ cs ++ c.toList.drop (o + m)).toArray u (0, 0)) → L P f n ops rest k R ρ w1) : L P f n ops (⟨none, .store t x y, ty, pos, after, none⟩ :: rest) k R ρ w := by
  have h1 := hs w
  have hst := run_storeCells_at P b o u cs 0 c w hb (by omega) hv
  simp only [Nat.add_zero] at hst
  rw [hm] at hst
  refine L_skip _ ?_ (h _ (chg_setRow hb _))
  simp [execOp, Instr.storeAt, Instr.sureAddr, storeVar, hx, hy, h1, Value.cells, hm, hst]
/-- A whole block of our own written over. -/
theorem L_storeAll {t : TypeId} {x y : Operand} {b m : Nat} {c : Array Value} {u : TypeId} (cs : List Value) (hs : SZ P t m) (hx : ev ρ x = .pointer (some ⟨b, 0, none⟩)) (hy : ev ρ y = .agg cs.toArray) (hm : cs.length = m) (hv : ∀ v ∈ cs, v.oneCell' = true) (hb : Blk w b c u) (ho : c.size = m)
    (h : ∀ w1, Chg w w1 b (.cells cs.toArray u (0, 0)) → L P f n ops rest k R ρ w1) : L P f n ops (⟨none, .store t x y, ty, pos, after, none⟩ :: rest) k R ρ w := by
  refine L_storeAgg cs hs hx hy hm hv hb (by omega) fun w1 hc => h w1 ?_
  have e : (c.toList.take 0 ++ cs ++ c.toList.drop (0 + m)) = cs := by simp; omega
  rw [e] at hc
  exact hc
theorem L_alloc {t : TypeId} {z : Value} (hz : ZV P t z) (hd : Nat.blt d n = true)
    (h : ∀ w1, Chg w w1 w.heap.size (.cells z.cells t (0, 0)) → L P f n ops rest k R (upd ρ d (.pointer (some ⟨w.heap.size, 0, none⟩))) w1) : L P f n ops (⟨some d, .alloc t, ty, pos, after, none⟩ :: rest) k R ρ w := by
  refine L_val _ (w.alloc (.cells z.cells t)) ?_ hd (h _ (chg_alloc _ _))
  have h1 := hz w
  simp [execOp, Instr.alloc, h1, newVar, newRow]
theorem L_box {t : TypeId} {x : Operand} (hd : Nat.blt d n = true)
    (h : ∀ w1, Chg w w1 w.heap.size (.cells (ev ρ x).cells t (0, 0)) → L P f n ops rest k R (upd ρ d (.pointer (some ⟨w.heap.size, 0, none⟩))) w1) : L P f n ops (⟨some d, .box t x, ty, pos, after, none⟩ :: rest) k R ρ w := by
  refine L_val _ (w.alloc (.cells (ev ρ x).cells t)) ?_ hd (h _ (chg_alloc _ _))
  simp [execOp, Instr.box, newVar, newRow]
/-- 'build': whatever the kernel reckons. -/
theorem X_build {t : TypeId} {ps : Array (Nat × Operand)} (v : Value) (hv : (Instr.build t (ps.map fun (i, x) => (i, ev ρ x))).run P w = .ok v w) : (execOp (ev ρ) ⟨dst, .build t ps, ty, pos, after, gd⟩).run P w = .ok (.value v) w := by
  simp only [execOp, Sem.run_bind]
  rw [hv]; rfl
theorem L_buildSlice {t : TypeId} {m : Nat} {ps : Array (Nat × Operand)} (c : Array Value) (e : TypeId) (hv : (Instr.buildSlice t m (ps.map fun (i, x) => (i, ev ρ x))).run P w = .ok (.slice (some ⟨w.heap.size, 0, none⟩) m m) (w.alloc (.cells c e))) (hd : Nat.blt d n = true)
    (h : ∀ w1, Chg w w1 w.heap.size (.cells c e (0, 0)) → L P f n ops rest k R (upd ρ d (.slice (some ⟨w.heap.size, 0, none⟩) m m)) w1) : L P f n ops (⟨some d, .buildSlice t m ps, ty, pos, after, none⟩ :: rest) k R ρ w := by
  refine L_val _ _ ?_ hd (h _ (chg_alloc _ _))
  simp only [execOp, Sem.run_bind]
  rw [hv]; rfl
/-- A call of a named function. -/
theorem L_callF {g : FuncId} {xs : Array Operand} {ts : Array TypeId} {S : Value → World → Prop} (args : List Value) (hg : EN P g) (ha : xs.toList.map (ev ρ) = args) (hd : Nat.blt d n = true)
    (hc : Ret P g args.toArray w S) (h : ∀ v w', S v w' → L P f n ops rest k R (upd ρ d v) w') : L P f n ops (⟨some d, .call { callee := .value (.func g), args := xs, argTypes := ts }, ty, pos, after, none⟩ :: rest) k R ρ w := by
  refine L_call (g := g) (args := args.toArray) ?_ hd hc h
  have e : xs.map (ev ρ) = args.toArray := by
    rw [← ha]; apply Array.ext'; simp
  have h1 := hg args.toArray w
  simp [execOp, resolve, e, ev, Deferred.ofValue, invoke, h1]
theorem L_callF0 {g : FuncId} {xs : Array Operand} {ts : Array TypeId} {S : Value → World → Prop} (args : List Value) (hg : EN P g) (ha : xs.toList.map (ev ρ) = args)
    (hc : Ret P g args.toArray w S) (h : ∀ v w', S v w' → L P f n ops rest k R ρ w') : L P f n ops (⟨none, .call { callee := .value (.func g), args := xs, argTypes := ts }, ty, pos, after, none⟩ :: rest) k R ρ w := by
  refine L_call0 (g := g) (args := args.toArray) ?_ hc h
  have e : xs.map (ev ρ) = args.toArray := by
    rw [← ha]; apply Array.ext'; simp
  have h1 := hg args.toArray w
  simp [execOp, resolve, e, ev, Deferred.ofValue, invoke, h1]
end
end Go.Proofs.Qxb6500863aDoor
