/-
  The hash is total: ror, compress.
-/
import Derived.Test.Qxb6500866aDoorFa
import Derived.Test.Qxb6500866aDoorWk6
import Derived.Laws.BitsLemmas
namespace Go.Proofs.Qxb6500866aDoor
set_option linter.unusedSimpArgs false
set_option linter.unusedVariables false
open Go.RowKit

theorem gblk {w : World} {b : Nat} {cs : List Value} {t : TypeId} (h : Blk w b cs.toArray t) (i : Nat) {v : Value} (hv : cs[i]? = some v) : w.cell? ⟨b, i, none⟩ = some v := by
  rw [h.cell]; simpa using hv
theorem gblk0 {w : World} {b : Nat} {cs : List Value} {t : TypeId} (h : Blk w b cs.toArray t) : ∀ j v, cs[j]? = some v → w.cell? ⟨b, 0 + j, none⟩ = some v := by
  intro j v hv
  rw [Nat.zero_add]
  exact gblk h j hv
theorem below_blk {B : Nat} {w w' : World} {k : Nat} {c : Array Value} {t : TypeId} (h : Below B w w') (hb : Blk w k c t) (hk : k < B) : Blk w' k c t := (h.block k hk).trans hb
theorem blk_set {w w1 : World} {b i : Nat} {l : List Value} {t : TypeId} {v : Value} (h : Chg w w1 b (.cells (l.toArray.setIfInBounds i v) t (0, 0))) : Blk w1 b (l.set i v).toArray t := by
  have := h.new
  simpa using this
theorem Sm.chg {w w1 w2 : World} {b : Nat} {o : Obj} (h : Sm w w1) (h2 : Chg w1 w2 b o) : Chg w w2 b o :=
  ⟨h2.here, fun k hk => (h2.oth k hk).trans (by rw [h.heap]), by rw [← h.heap]; exact h2.size, h2.os.trans h.os, h2.tape.trans h.tape, h2.output.trans h.output⟩
theorem Sm.drew {w x : World} (h : Sm w x) : Sm w x.drew := ⟨h.heap, h.os, h.tape, h.output⟩
/-- Nothing that stood has turned, but block b. -/
structure But (b : Nat) (w w' : World) : Prop where
  os : w'.os = w.os
  tape : w'.tape = w.tape
  output : w'.output = w.output
  size : w.heap.size ≤ w'.heap.size
  oth : ∀ k, k < w.heap.size → k ≠ b → w'.heap[k]? = w.heap[k]?
theorem But.refl (b : Nat) (w : World) : But b w w := ⟨rfl, rfl, rfl, Nat.le_refl _, fun _ _ _ => rfl⟩
theorem But.chg {w w1 w2 : World} {b b2 : Nat} {o : Obj} (h : But b w w1) (h2 : Chg w1 w2 b2 o) (hb : b2 = b ∨ w.heap.size ≤ b2) : But b w w2 :=
  ⟨h2.os.trans h.os, h2.tape.trans h.tape, h2.output.trans h.output, Nat.le_trans h.size h2.size, fun k hk hne => (h2.oth k (by omega)).trans (h.oth k hk hne)⟩
theorem But.sm {w w1 w2 : World} {b : Nat} (h : But b w w1) (h2 : Sm w1 w2) : But b w w2 :=
  ⟨h2.os.trans h.os, h2.tape.trans h.tape, h2.output.trans h.output, by rw [h2.heap]; exact h.size, fun k hk hne => by rw [h2.heap]; exact h.oth k hk hne⟩
theorem But.below {w w1 : World} {b B : Nat} (h : But b w w1) (hb : B ≤ b) (hB : B ≤ w.heap.size) : Below B w w1 := ⟨h.os, h.tape, h.output, h.size, fun k hk => h.oth k (by omega) (by omega)⟩
theorem But.cell {w w1 : World} {b k : Nat} (h : But b w w1) (i : Nat) (hk : k < w.heap.size) (hne : k ≠ b) : w1.cell? ⟨k, i, none⟩ = w.cell? ⟨k, i, none⟩ := World.cell?_of_block (h.oth k hk hne)
/-- l bytes can be read, none of them in block S. -/
def RdB (w : World) (S : Nat) (ap : Option Addr) (l : Nat) : Prop := ∀ j, j < l → ∃ b o x, ap = some ⟨b, o, none⟩ ∧ b ≠ S ∧ b < w.heap.size ∧ w.cell? ⟨b, o + j, none⟩ = some (.int .u8 x)

theorem and15 (t : Nat) (ht : t < 4294967296) : bitB .and .i64 (t : Int) 15 = ((t % 16 : Nat) : Int) := by
  have e : (BitVec.ofInt 64 (t : Int) &&& BitVec.ofInt 64 15).toNat = t % 16 := by
    rw [BitVec.toNat_and]
    have h1 : (BitVec.ofInt 64 (t : Int)).toNat = t := by simp; omega
    have h2 : (BitVec.ofInt 64 15).toNat = 2 ^ 4 - 1 := by decide
    rw [h1, h2, Nat.and_two_pow_sub_one_eq_mod]
  show IntKind.i64.wrap (((BitVec.ofInt 64 (t : Int) &&& BitVec.ofInt 64 15).toNat : Nat) : Int) = _
  rw [e, IntKind.wrap_i64]
  omega
theorem X_and15 {P : Program} {ρ : Env} {w : World} {dst : Option Tmp} {gd : Option (Nat × Bool)} {ty : TypeId} {pos : String} {after : Array Edge} {t t' : TypeId} {x y : Operand} (a : Nat) (ha : a < 4294967296) (hx : ev ρ x = .int .i64 (a : Int)) (hy : ev ρ y = .int .i64 15) :
    (execOp (ev ρ) ⟨dst, .binOp .and t x y t', ty, pos, after, gd⟩).run P w = .ok (.value (.int .i64 ((a % 16 : Nat) : Int))) w := by
  rw [X_bit rfl hx hy, and15 a ha]

theorem T_ifJ {P : Program} {f : FuncId} {n : Nat} {R : Value → World → Prop} {ρ : Env} {w : World} {k : List Item} {c : Operand} {x y : Code} {t : Bool} (ss : List Nat) (I : List Value → World → Prop) (hc : ev ρ c = .bool t) (rest : ∀ vs ρ w, I vs w → T P f n k R (sets ρ ss vs) w)
    (h1 : t = true → (∀ ρ w, I (ss.map ρ) w → T P f n k R ρ w) → T P f n (.code x :: k) R ρ w) (h2 : t = false → (∀ ρ w, I (ss.map ρ) w → T P f n k R ρ w) → T P f n (.code y :: k) R ρ w) : T P f n (.code (.cond c x y) :: k) R ρ w := by
  have join : ∀ ρ w, I (ss.map ρ) w → T P f n k R ρ w := fun ρ w hI => by
    have := rest _ ρ w hI
    rw [sets_self] at this
    exact this
  exact T_if hc (fun h => h1 h join) (fun h => h2 h join)
def rorV (x n : Int) : Int := bitB .or .u32 (x.fdiv (2 ^ (min n.toNat IntKind.u32.bits))) (IntKind.u32.wrap (x * 2 ^ (min (IntKind.u64.wrap (32 - n)).toNat IntKind.u32.bits)))
theorem wrap64_nonneg (a : Int) : 0 ≤ IntKind.u64.wrap a := by
  simp only [IntKind.wrap, IntKind.bits, IntKind.signed]
  simp
  omega
theorem ror_ret (x n : Int) (hn : 0 ≤ n) (w : World) : Ret Tryd.prog 16 #[.int .u32 x, .int .u64 n] w fun v w' => v = .int .u32 (rorV x n) ∧ w = w' := by
  refine ret_of_T (vs := [.int .u32 x, .int .u64 n]) Tryd.func16 Tryd.ntmps16 rfl (Nat.le_of_ble_eq_true rfl) ?_
  repeat (first | refine T_seq ?_ | refine T_block ?_ | refine T_inBlock ?_ | refine T_skip ?_)
  refine T_region ?_
  refine L_val _ _ (X_assign) rfl ?_
  refine L_nil ?_
  repeat (first | refine T_seq ?_ | refine T_block ?_ | refine T_inBlock ?_ | refine T_skip ?_)
  refine T_region ?_
  refine L_val _ _ (X_move) rfl ?_
  refine L_val _ _ (X_move) rfl ?_
  refine L_val _ _ (X_shr rfl rfl hn) rfl ?_
  refine L_val _ _ (X_move) rfl ?_
  refine L_val _ _ (X_move) rfl ?_
  refine L_val _ _ (X_ar rfl rfl rfl) rfl ?_
  refine L_val _ _ (X_shl rfl rfl (wrap64_nonneg _)) rfl ?_
  refine L_val _ _ (X_bit rfl rfl rfl) rfl ?_
  refine L_val _ _ (X_assign) rfl ?_
  refine L_nil ?_
  exact T_ret1 Tryd.func16 rfl ⟨rfl, rfl⟩

/-- Sixteen words. -/
def wcells (ws : List Int) : List Value := ws.map (Value.int .u32)
theorem wget {w : World} {b i : Nat} {ws : List Int} {t : TypeId} (h : Blk w b (wcells ws).toArray t) (hi : i < ws.length) : w.cell? ⟨b, 0 + i * 1, none⟩ = some (.int .u32 ws[i]) := by
  have e : 0 + i * 1 = i := by omega
  rw [e]
  exact gblk h i (by simp [wcells, hi])
theorem wset {w w1 : World} {b i : Nat} {ws : List Int} {t : TypeId} {x : Int} (h : Chg w w1 b (.cells ((wcells ws).toArray.setIfInBounds (0 + i * 1) (.int .u32 x)) t (0, 0))) : Blk w1 b (wcells (ws.set i x)).toArray t := by
  have e : 0 + i * 1 = i := by omega
  rw [e] at h
  have := blk_set h
  rw [show (wcells ws).set i (.int .u32 x) = wcells (ws.set i x) by simp [wcells, List.map_set]] at this
  exact this
/-- Package digest's table of constants. -/
def RoundAt (w : World) : Prop := ∀ i, i < 64 → ∃ x, w.cell? ⟨1, 0 + i * 1, none⟩ = some (.int .u32 x)

theorem X_sliceLX {P : Program} {ρ : Env} {w : World} {dst : Option Tmp} {gd : Option (Nat × Bool)} {ty : TypeId} {pos : String} {after : Array Edge} {t e : TypeId} {x y : Operand} {sz b o len cap l : Nat} {q : IntKind} (ht : UN P t (.slice e)) (hs : SZ P e sz) (hx : ev ρ x = .slice (some ⟨b, o, none⟩) len cap) (hy : ev ρ y = .int q l) (hl : l ≤ len) :
    (execOp (ev ρ) ⟨dst, .slice t x (some y) none none, ty, pos, after, gd⟩).run P w = .ok (.value (.slice (if cap = l then some ⟨b, o, none⟩ else some ⟨b, o + l * sz, none⟩) (len - l) (cap - l))) w := by
  have h1 := ht w
  have h2 := hs w
  have hb := run_bound (P := P) (w := w) (k := q) (code := .sliceB) hl
  simp [execOp, Instr.sliceAt, Instr.slice, Instr.sliceBounds, hx, hy, h1, h2, hb, Addr.add_lit]

set_option maxHeartbeats 16000000 in
set_option maxRecDepth 10000 in
/-- compress: total -/
theorem compress_ret (SB : Nat) (s0 s1 s2 s3 s4 s5 s6 s7 : Int) (rest : List Value) (tt : TypeId) (ap : Option Addr) (l c : Nat) (w : World) (hlc : l ≤ c) (hl6 : l ≤ 65536) (hS : Blk w SB ([Value.int .u32 s0, .int .u32 s1, .int .u32 s2, .int .u32 s3, .int .u32 s4, .int .u32 s5, .int .u32 s6, .int .u32 s7] ++ rest).toArray tt) (hR : RoundAt w) (hR1 : 1 < w.heap.size) (hS1 : SB ≠ 1) (hp : RdB w SB ap l) :
    Ret Tryd.prog 13 #[.pointer (some ⟨SB, 0, none⟩), .slice ap l c] w fun v w' => v = .tuple #[] ∧ But SB w w' ∧ ∃ s0 s1 s2 s3 s4 s5 s6 s7 : Int, Blk w' SB ([Value.int .u32 s0, .int .u32 s1, .int .u32 s2, .int .u32 s3, .int .u32 s4, .int .u32 s5, .int .u32 s6, .int .u32 s7] ++ rest).toArray tt := by
  refine ret_of_T (vs := [.pointer (some ⟨SB, 0, none⟩), .slice ap l c]) Tryd.func13 Tryd.ntmps13 rfl (Nat.le_of_ble_eq_true rfl) ?_
  have zS := hS.lt
  repeat (first | refine T_seq ?_ | refine T_block ?_ | refine T_inBlock ?_ | refine T_skip ?_)
  refine T_region ?_
  refine L_alloc Z57 rfl fun w1 h1 => ?_
  refine L_nil ?_
  have kw1 : Blk w1 w.heap.size (wcells (List.replicate 16 0)).toArray 57 := h1.new
  have bt1 : But SB w w1 := (But.refl SB w).chg h1 (.inr (Nat.le_refl _))
  have hS1' := h1.blk hS (by omega)
  clear h1
  repeat (first | refine T_seq ?_ | refine T_block ?_ | refine T_inBlock ?_ | refine T_skip ?_)
  refine T_loopS [0, 1, 4] (fun m vs y => ∃ (ap : Option Addr) (l c : Nat) (s0 s1 s2 s3 s4 s5 s6 s7 : Int) (ws : List Int), vs = [.pointer (some ⟨SB, 0, none⟩), .slice ap l c, .pointer (some ⟨w.heap.size, 0, none⟩)] ∧ l ≤ c ∧ l ≤ 65536 ∧ m = l ∧ RdB w SB ap l ∧ But SB w y ∧ ws.length = 16 ∧ Blk y w.heap.size (wcells ws).toArray 57 ∧ Blk y SB ([Value.int .u32 s0, .int .u32 s1, .int .u32 s2, .int .u32 s3, .int .u32 s4, .int .u32 s5, .int .u32 s6, .int .u32 s7] ++ rest).toArray tt) l
    ⟨ap, l, c, s0, s1, s2, s3, s4, s5, s6, s7, _, rfl, hlc, hl6, rfl, hp, bt1, by simp, kw1, hS1'⟩ ?_
  clear hp hlc hl6 hS kw1 bt1 hS1'
  clear s0 s1 s2 s3 s4 s5 s6 s7 ap l c
  rintro m vs ρ y ⟨ap, l, c, s0, s1, s2, s3, s4, s5, s6, s7, ws, rfl, hlc, hl6, rfl, hp, bt, hwl, kw, kS⟩ ih
  repeat (first | refine T_seq ?_ | refine T_block ?_ | refine T_inBlock ?_ | refine T_skip ?_)
  refine T_region ?_
  refine L_val _ _ (X_move) rfl ?_
  refine L_val _ _ (X_lenS U25 rfl) rfl ?_
  refine L_val _ _ (X_cmp rfl rfl rfl) rfl ?_
  refine L_nil ?_
  refine T_if rfl (fun ht => ?_) (fun hf => ?_)
  case refine_2 =>
    refine T_exit rfl ?_
    repeat (first | refine T_seq ?_ | refine T_block ?_ | refine T_inBlock ?_ | refine T_skip ?_)
    exact T_end0 Tryd.func13 rfl ⟨rfl, bt, _, _, _, _, _, _, _, _, kS⟩
  have h64 : 64 ≤ m := by simp [cmpB] at ht; omega
  obtain ⟨pb, po, _, rfl, hpS, hpb, _⟩ := hp 0 (by omega)
  have hcell : ∀ j, j < m → ∃ x, w.cell? ⟨pb, po + j, none⟩ = some (.int .u8 x) := by
    intro j hj
    obtain ⟨b, o, x, he, _, _, hc⟩ := hp j hj
    cases he
    exact ⟨x, hc⟩
  repeat (first | refine T_seq ?_ | refine T_block ?_ | refine T_inBlock ?_ | refine T_skip ?_)
  refine T_region ?_
  refine L_val _ _ (X_move) rfl ?_
  refine L_nil ?_
  repeat (first | refine T_seq ?_ | refine T_block ?_ | refine T_inBlock ?_ | refine T_skip ?_)
  refine T_loopS [24, 0, 1, 4] (fun m' vs z => ∃ (i : Nat) (ws : List Int), vs = [.int .i64 i, .pointer (some ⟨SB, 0, none⟩), .slice (some ⟨pb, po, none⟩) m c, .pointer (some ⟨w.heap.size, 0, none⟩)] ∧ i ≤ 16 ∧ m' = 16 - i ∧ But SB w z ∧ ws.length = 16 ∧ Blk z w.heap.size (wcells ws).toArray 57 ∧ Blk z SB ([Value.int .u32 s0, .int .u32 s1, .int .u32 s2, .int .u32 s3, .int .u32 s4, .int .u32 s5, .int .u32 s6, .int .u32 s7] ++ rest).toArray tt) 16
    ⟨0, ws, rfl, by omega, rfl, bt, hwl, kw, kS⟩ ?_
  clear bt hwl kw kS
  clear ws
  rintro m' vs ρ1 z ⟨i, ws, rfl, hi, rfl, bt, hwl, kw, kS⟩ ih1
  repeat (first | refine T_seq ?_ | refine T_block ?_ | refine T_inBlock ?_ | refine T_skip ?_)
  refine T_region ?_
  refine L_val _ _ (X_cmp rfl rfl rfl) rfl ?_
  refine L_nil ?_
  repeat (first | refine T_seq ?_ | refine T_block ?_ | refine T_inBlock ?_ | refine T_skip ?_)
  refine T_if rfl (fun ht1 => ?_) (fun hf1 => ?_)
  case refine_1 =>
    have hlt1 : i < 16 := by simp [cmpB] at ht1; omega
    obtain ⟨x0, hx0⟩ := hcell (4 * i) (by omega)
    obtain ⟨x1, hx1⟩ := hcell (4 * i + 1) (by omega)
    obtain ⟨x2, hx2⟩ := hcell (4 * i + 2) (by omega)
    obtain ⟨x3, hx3⟩ := hcell (4 * i + 3) (by omega)
    have bz : ∀ {z2 : World}, Sm z z2 → ∀ j, z2.cell? ⟨pb, j, none⟩ = w.cell? ⟨pb, j, none⟩ := fun {z2} h j => (h.cell _).trans (bt.cell j hpb hpS)
    have q0 : ∀ z2, Sm z z2 → z2.cell? ⟨pb, po + 4 * i * 1 + 0 * 1, none⟩ = some (.int .u8 x0) := fun z2 h => by rw [bz h]; simpa using hx0
    have q1 : ∀ z2, Sm z z2 → z2.cell? ⟨pb, po + 4 * i * 1 + 1 * 1, none⟩ = some (.int .u8 x1) := fun z2 h => by rw [bz h]; simpa [Nat.add_assoc] using hx1
    have q2 : ∀ z2, Sm z z2 → z2.cell? ⟨pb, po + 4 * i * 1 + 2 * 1, none⟩ = some (.int .u8 x2) := fun z2 h => by rw [bz h]; simpa [Nat.add_assoc] using hx2
    have q3 : ∀ z2, Sm z z2 → z2.cell? ⟨pb, po + 4 * i * 1 + 3 * 1, none⟩ = some (.int .u8 x3) := fun z2 h => by rw [bz h]; simpa [Nat.add_assoc] using hx3
    repeat (first | refine T_seq ?_ | refine T_block ?_ | refine T_inBlock ?_ | refine T_skip ?_)
    refine T_region ?_
    refine L_val _ _ (X_move) rfl ?_
    refine L_val _ _ (X_assign) rfl ?_
    refine L_nil ?_
    repeat (first | refine T_seq ?_ | refine T_block ?_ | refine T_inBlock ?_ | refine T_skip ?_)
    refine T_region ?_
    refine L_val _ _ (X_move) rfl ?_
    refine L_val _ _ (X_move) rfl ?_
    refine L_val _ _ (X_mul rfl rfl (by omega) (by omega)) rfl ?_
    refine L_val _ _ (X_move) rfl ?_
    refine L_val _ _ (X_mul rfl rfl (by omega) (by omega)) rfl ?_
    refine L_val _ _ (X_add rfl rfl (by omega) (by omega)) rfl ?_
    refine L_val _ _ (X_sliceLH (l := 4 * i) (h := 4 * i + 4) U25 S5 rfl rfl rfl (by omega) (by omega) (by omega)) rfl ?_
    refine L_val _ _ (X_assign) rfl ?_
    refine L_nil ?_
    have e4 : 4 * i + 4 - 4 * i = 4 := by omega
    repeat (first | refine T_seq ?_ | refine T_block ?_ | refine T_inBlock ?_ | refine T_skip ?_)
    refine T_draw (fun u => Sm z u) 23 rfl rfl fun z1 hsm => ?_
    refine D_take 0 _ rfl (by kernel_rfl) hsm (fun w hw => X_move) rfl ?_
    refine D_take 1 _ rfl (by kernel_rfl) hsm (fun w hw => X_move) rfl ?_
    refine D_take 2 _ rfl (by kernel_rfl) hsm (fun w hw => X_index U25 S5 rfl rfl (show 0 < 4 * i + 4 - 4 * i by omega)) rfl ?_
    refine D_take 3 _ rfl (by kernel_rfl) hsm (fun w hw => X_load A5 rfl ((q0 _ hw))) rfl ?_
    refine D_take 4 _ rfl (by kernel_rfl) hsm (fun w hw => X_convInt U5 U39 rfl) rfl ?_
    refine D_take 5 _ rfl (by kernel_rfl) hsm (fun w hw => X_shl rfl rfl (by decide)) rfl ?_
    refine D_take 6 _ rfl (by kernel_rfl) hsm (fun w hw => X_move) rfl ?_
    refine D_take 7 _ rfl (by kernel_rfl) hsm (fun w hw => X_index U25 S5 rfl rfl (show 1 < 4 * i + 4 - 4 * i by omega)) rfl ?_
    refine D_take 8 _ rfl (by kernel_rfl) hsm (fun w hw => X_load A5 rfl ((q1 _ hw))) rfl ?_
    refine D_take 9 _ rfl (by kernel_rfl) hsm (fun w hw => X_convInt U5 U39 rfl) rfl ?_
    refine D_take 10 _ rfl (by kernel_rfl) hsm (fun w hw => X_shl rfl rfl (by decide)) rfl ?_
    refine D_take 11 _ rfl (by kernel_rfl) hsm (fun w hw => X_bit rfl rfl rfl) rfl ?_
    refine D_take 12 _ rfl (by kernel_rfl) hsm (fun w hw => X_move) rfl ?_
    refine D_take 13 _ rfl (by kernel_rfl) hsm (fun w hw => X_index U25 S5 rfl rfl (show 2 < 4 * i + 4 - 4 * i by omega)) rfl ?_
    refine D_take 14 _ rfl (by kernel_rfl) hsm (fun w hw => X_load A5 rfl ((q2 _ hw))) rfl ?_
    refine D_take 15 _ rfl (by kernel_rfl) hsm (fun w hw => X_convInt U5 U39 rfl) rfl ?_
    refine D_take 16 _ rfl (by kernel_rfl) hsm (fun w hw => X_shl rfl rfl (by decide)) rfl ?_
    refine D_take 17 _ rfl (by kernel_rfl) hsm (fun w hw => X_bit rfl rfl rfl) rfl ?_
    refine D_take 18 _ rfl (by kernel_rfl) hsm (fun w hw => X_move) rfl ?_
    refine D_take 19 _ rfl (by kernel_rfl) hsm (fun w hw => X_index U25 S5 rfl rfl (show 3 < 4 * i + 4 - 4 * i by omega)) rfl ?_
    refine D_take 20 _ rfl (by kernel_rfl) hsm (fun w hw => X_load A5 rfl ((q3 _ hw))) rfl ?_
    refine D_take 21 _ rfl (by kernel_rfl) hsm (fun w hw => X_convInt U5 U39 rfl) rfl ?_
    refine D_take 22 _ rfl (by kernel_rfl) hsm (fun w hw => X_bit rfl rfl rfl) rfl ?_
    refine D_val 23 _ _ rfl (by kernel_rfl) (X_indexA U57 S39 rfl rfl (by omega)) rfl (fun hb => by cases hb) ?_
    refine D_store 24 _ rfl (by kernel_rfl) S39 rfl rfl rfl (hsm.blk kw) (by simp [wcells]; omega) fun z2 h2 => ⟨fun hb => (by cases hb), ?_⟩
    refine D_done (by kernel_rfl) ?_
    have kw2 := wset h2
    have h2' := hsm.chg h2
    have zSz := kS.lt
    repeat (first | refine T_seq ?_ | refine T_block ?_ | refine T_inBlock ?_ | refine T_skip ?_)
    refine T_region ?_
    refine L_val _ _ (X_add rfl rfl (by omega) (by omega)) rfl ?_
    refine L_val _ _ (X_move) rfl ?_
    refine L_nil ?_
    exact ih1 _ _ _ (by omega) ⟨i + 1, _, rfl, by omega, rfl, bt.chg h2' (.inr (Nat.le_refl _)), by simpa using hwl, kw2, h2'.blk kS (by omega)⟩
  refine T_exit rfl ?_
  have zSz := kS.lt
  have zwz := kw.lt
  repeat (first | refine T_seq ?_ | refine T_block ?_ | refine T_inBlock ?_ | refine T_skip ?_)
  refine T_quiet (fun u => Sm z u) rfl (by kernel_rfl) (sm_drew z) ?_
  refine LQ_val _ (fun w hw => X_move) rfl ?_
  refine LQ_val _ (fun w hw => X_nilCheck rfl) rfl ?_
  refine LQ_val _ (fun w hw => X_indexA U40 S39 rfl rfl (show 0 < 8 by decide)) rfl ?_
  refine LQ_val _ (fun w hw => X_load A39 rfl ((hw.cell _).trans (gblk kS 0 rfl))) rfl ?_
  refine LQ_val _ (fun w hw => X_move) rfl ?_
  refine LQ_val _ (fun w hw => X_nilCheck rfl) rfl ?_
  refine LQ_val _ (fun w hw => X_indexA U40 S39 rfl rfl (show 1 < 8 by decide)) rfl ?_
  refine LQ_val _ (fun w hw => X_load A39 rfl ((hw.cell _).trans (gblk kS 1 rfl))) rfl ?_
  refine LQ_val _ (fun w hw => X_move) rfl ?_
  refine LQ_val _ (fun w hw => X_nilCheck rfl) rfl ?_
  refine LQ_val _ (fun w hw => X_indexA U40 S39 rfl rfl (show 2 < 8 by decide)) rfl ?_
  refine LQ_val _ (fun w hw => X_load A39 rfl ((hw.cell _).trans (gblk kS 2 rfl))) rfl ?_
  refine LQ_val _ (fun w hw => X_move) rfl ?_
  refine LQ_val _ (fun w hw => X_nilCheck rfl) rfl ?_
  refine LQ_val _ (fun w hw => X_indexA U40 S39 rfl rfl (show 3 < 8 by decide)) rfl ?_
  refine LQ_val _ (fun w hw => X_load A39 rfl ((hw.cell _).trans (gblk kS 3 rfl))) rfl ?_
  refine LQ_val _ (fun w hw => X_assign) rfl ?_
  refine LQ_val _ (fun w hw => X_assign) rfl ?_
  refine LQ_val _ (fun w hw => X_assign) rfl ?_
  refine LQ_val _ (fun w hw => X_assign) rfl ?_
  refine LQ_nil fun z1 hz1 => ?_
  repeat (first | refine T_seq ?_ | refine T_block ?_ | refine T_inBlock ?_ | refine T_skip ?_)
  refine T_quiet (fun u => Sm z u) rfl (by kernel_rfl) (hz1.drew) ?_
  refine LQ_val _ (fun w hw => X_move) rfl ?_
  refine LQ_val _ (fun w hw => X_nilCheck rfl) rfl ?_
  refine LQ_val _ (fun w hw => X_indexA U40 S39 rfl rfl (show 4 < 8 by decide)) rfl ?_
  refine LQ_val _ (fun w hw => X_load A39 rfl ((hw.cell _).trans (gblk kS 4 rfl))) rfl ?_
  refine LQ_val _ (fun w hw => X_move) rfl ?_
  refine LQ_val _ (fun w hw => X_nilCheck rfl) rfl ?_
  refine LQ_val _ (fun w hw => X_indexA U40 S39 rfl rfl (show 5 < 8 by decide)) rfl ?_
  refine LQ_val _ (fun w hw => X_load A39 rfl ((hw.cell _).trans (gblk kS 5 rfl))) rfl ?_
  refine LQ_val _ (fun w hw => X_move) rfl ?_
  refine LQ_val _ (fun w hw => X_nilCheck rfl) rfl ?_
  refine LQ_val _ (fun w hw => X_indexA U40 S39 rfl rfl (show 6 < 8 by decide)) rfl ?_
  refine LQ_val _ (fun w hw => X_load A39 rfl ((hw.cell _).trans (gblk kS 6 rfl))) rfl ?_
  refine LQ_val _ (fun w hw => X_move) rfl ?_
  refine LQ_val _ (fun w hw => X_nilCheck rfl) rfl ?_
  refine LQ_val _ (fun w hw => X_indexA U40 S39 rfl rfl (show 7 < 8 by decide)) rfl ?_
  refine LQ_val _ (fun w hw => X_load A39 rfl ((hw.cell _).trans (gblk kS 7 rfl))) rfl ?_
  refine LQ_val _ (fun w hw => X_assign) rfl ?_
  refine LQ_val _ (fun w hw => X_assign) rfl ?_
  refine LQ_val _ (fun w hw => X_assign) rfl ?_
  refine LQ_val _ (fun w hw => X_assign) rfl ?_
  refine LQ_nil fun z2 hz2 => ?_
  repeat (first | refine T_seq ?_ | refine T_block ?_ | refine T_inBlock ?_ | refine T_skip ?_)
  refine T_region ?_
  refine L_val _ _ (X_assign) rfl ?_
  refine L_nil ?_
  repeat (first | refine T_seq ?_ | refine T_block ?_ | refine T_inBlock ?_ | refine T_skip ?_)
  refine T_loopS [15, 7, 8, 9, 10, 11, 12, 13, 14, 0, 1, 4] (fun m' vs u => ∃ (t : Nat) (a0 a1 a2 a3 a4 a5 a6 a7 : Int) (ws : List Int), vs = [.int .i64 t, .int .u32 a0, .int .u32 a1, .int .u32 a2, .int .u32 a3, .int .u32 a4, .int .u32 a5, .int .u32 a6, .int .u32 a7, .pointer (some ⟨SB, 0, none⟩), .slice (some ⟨pb, po, none⟩) m c, .pointer (some ⟨w.heap.size, 0, none⟩)] ∧ t ≤ 64 ∧ m' = 64 - t ∧ But SB w u ∧ ws.length = 16 ∧ Blk u w.heap.size (wcells ws).toArray 57 ∧ Blk u SB ([Value.int .u32 s0, .int .u32 s1, .int .u32 s2, .int .u32 s3, .int .u32 s4, .int .u32 s5, .int .u32 s6, .int .u32 s7] ++ rest).toArray tt) 64
    ⟨0, _, _, _, _, _, _, _, _, ws, rfl, by omega, rfl, bt.sm hz2, hwl, hz2.blk kw, hz2.blk kS⟩ ?_
  clear bt hwl kw kS hz1 hz2 zSz zwz
  clear ws
  rintro m' vs ρ2 u ⟨t, a0, a1, a2, a3, a4, a5, a6, a7, ws, rfl, htl, rfl, bt, hwl, kw, kS⟩ ih2
  have zSu := kS.lt
  have zwu := kw.lt
  have hRu : RoundAt u := fun i hi => by
    obtain ⟨x, hx⟩ := hR i hi
    exact ⟨x, (bt.cell _ hR1 (Ne.symm hS1)).trans hx⟩
  repeat (first | refine T_seq ?_ | refine T_block ?_ | refine T_inBlock ?_ | refine T_skip ?_)
  refine T_region ?_
  refine L_val _ _ (X_move) rfl ?_
  refine L_val _ _ (X_cmp rfl rfl rfl) rfl ?_
  refine L_nil ?_
  refine T_if rfl (fun ht2 => ?_) (fun hf2 => ?_)
  case refine_1 =>
    have hlt2 : t < 64 := by simp [cmpB] at ht2; omega
    have hm16 : t % 16 < 16 := Nat.mod_lt _ (by decide)
    have hg0 := wget (i := t % 16) kw (by omega)
    generalize ws[t % 16] = x0 at *
    repeat (first | refine T_seq ?_ | refine T_block ?_ | refine T_inBlock ?_ | refine T_skip ?_)
    refine T_region ?_
    refine L_val _ _ (X_move) rfl ?_
    refine L_val _ _ (X_and15 t (by omega) rfl rfl) rfl ?_
    refine L_val _ _ (X_indexA U57 S39 rfl rfl hm16) rfl ?_
    refine L_val _ _ (X_load A39 rfl (hg0)) rfl ?_
    refine L_val _ _ (X_assign) rfl ?_
    refine L_nil ?_
    repeat (first | refine T_seq ?_ | refine T_block ?_ | refine T_inBlock ?_ | refine T_skip ?_)
    refine T_region ?_
    refine L_val _ _ (X_move) rfl ?_
    refine L_val _ _ (X_cmp rfl rfl rfl) rfl ?_
    refine L_nil ?_
    refine T_ifJ [16, 15, 7, 8, 9, 10, 11, 12, 13, 14, 0, 1, 4] (fun vs u' => ∃ (x : Int) (ws : List Int), vs = [.int .u32 x, .int .i64 t, .int .u32 a0, .int .u32 a1, .int .u32 a2, .int .u32 a3, .int .u32 a4, .int .u32 a5, .int .u32 a6, .int .u32 a7, .pointer (some ⟨SB, 0, none⟩), .slice (some ⟨pb, po, none⟩) m c, .pointer (some ⟨w.heap.size, 0, none⟩)] ∧ But SB w u' ∧ ws.length = 16 ∧ Blk u' w.heap.size (wcells ws).toArray 57 ∧ Blk u' SB ([Value.int .u32 s0, .int .u32 s1, .int .u32 s2, .int .u32 s3, .int .u32 s4, .int .u32 s5, .int .u32 s6, .int .u32 s7] ++ rest).toArray tt) rfl ?_ (fun ht3 join => ?_) (fun hf3 join => ?_)
    · clear bt hwl kw kS hRu hg0
      rintro vs ρ3 u' ⟨x, ws, rfl, bt, hwl, kw, kS⟩
      obtain ⟨rc, hrc⟩ := hR t hlt2
      have hrc' : ∀ z, Sm u' z → z.cell? ⟨1, 0 + t * 1, none⟩ = some (.int .u32 rc) := fun z hz => (hz.cell _).trans ((bt.cell _ hR1 (Ne.symm hS1)).trans hrc)
      repeat (first | refine T_seq ?_ | refine T_block ?_ | refine T_inBlock ?_ | refine T_skip ?_)
      refine T_quiet (fun q => Sm u' q) rfl (by kernel_rfl) (sm_drew u') ?_
      refine LQ_val _ (fun w hw => X_move) rfl ?_
      refine LQ_val _ (fun w hw => X_move) rfl ?_
      refine LQ_callF [.int .u32 a4, .int .u64 6] (.int .u32 (rorV a4 6)) E16 rfl rfl (fun w hw => (ror_ret _ 6 (by decide) w).mono fun u w' hu => ⟨hu.1, hu.2 ▸ hw⟩) ?_
      refine LQ_val _ (fun w hw => X_move) rfl ?_
      refine LQ_callF [.int .u32 a4, .int .u64 11] (.int .u32 (rorV a4 11)) E16 rfl rfl (fun w hw => (ror_ret _ 11 (by decide) w).mono fun u w' hu => ⟨hu.1, hu.2 ▸ hw⟩) ?_
      refine LQ_val _ (fun w hw => X_bit rfl rfl rfl) rfl ?_
      refine LQ_val _ (fun w hw => X_move) rfl ?_
      refine LQ_callF [.int .u32 a4, .int .u64 25] (.int .u32 (rorV a4 25)) E16 rfl rfl (fun w hw => (ror_ret _ 25 (by decide) w).mono fun u w' hu => ⟨hu.1, hu.2 ▸ hw⟩) ?_
      refine LQ_val _ (fun w hw => X_bit rfl rfl rfl) rfl ?_
      refine LQ_val _ (fun w hw => X_ar rfl rfl rfl) rfl ?_
      refine LQ_val _ (fun w hw => X_move) rfl ?_
      refine LQ_val _ (fun w hw => X_move) rfl ?_
      refine LQ_val _ (fun w hw => X_move) rfl ?_
      refine LQ_val _ (fun w hw => X_move) rfl ?_
      refine LQ_val _ (fun w hw => X_bit rfl rfl rfl) rfl ?_
      refine LQ_val _ (fun w hw => X_bit rfl rfl rfl) rfl ?_
      refine LQ_val _ (fun w hw => X_bit rfl rfl rfl) rfl ?_
      refine LQ_val _ (fun w hw => X_ar rfl rfl rfl) rfl ?_
      refine LQ_val _ (fun w hw => X_move) rfl ?_
      refine LQ_val _ (fun w hw => X_indexA U59 S39 rfl rfl hlt2) rfl ?_
      refine LQ_val _ (fun w hw => X_load A39 rfl (hrc' _ hw)) rfl ?_
      refine LQ_val _ (fun w hw => X_ar rfl rfl rfl) rfl ?_
      refine LQ_val _ (fun w hw => X_move) rfl ?_
      refine LQ_val _ (fun w hw => X_ar rfl rfl rfl) rfl ?_
      refine LQ_val _ (fun w hw => X_assign) rfl ?_
      refine LQ_nil fun u4 hu4 => ?_
      repeat (first | refine T_seq ?_ | refine T_block ?_ | refine T_inBlock ?_ | refine T_skip ?_)
      refine T_region ?_
      refine L_val _ _ (X_move) rfl ?_
      refine L_callF [.int .u32 a0, .int .u64 2] E16 rfl rfl (ror_ret _ 2 (by decide) _) ?_
      rintro v u9 ⟨rfl, rfl⟩
      refine L_val _ _ (X_move) rfl ?_
      refine L_callF [.int .u32 a0, .int .u64 13] E16 rfl rfl (ror_ret _ 13 (by decide) _) ?_
      rintro v u9 ⟨rfl, rfl⟩
      refine L_val _ _ (X_bit rfl rfl rfl) rfl ?_
      refine L_val _ _ (X_move) rfl ?_
      refine L_callF [.int .u32 a0, .int .u64 22] E16 rfl rfl (ror_ret _ 22 (by decide) _) ?_
      rintro v u9 ⟨rfl, rfl⟩
      refine L_val _ _ (X_bit rfl rfl rfl) rfl ?_
      refine L_val _ _ (X_move) rfl ?_
      refine L_val _ _ (X_move) rfl ?_
      refine L_val _ _ (X_bit rfl rfl rfl) rfl ?_
      refine L_val _ _ (X_move) rfl ?_
      refine L_val _ _ (X_move) rfl ?_
      refine L_val _ _ (X_move) rfl ?_
      refine L_val _ _ (X_bit rfl rfl rfl) rfl ?_
      refine L_val _ _ (X_bit rfl rfl rfl) rfl ?_
      refine L_val _ _ (X_bit rfl rfl rfl) rfl ?_
      refine L_val _ _ (X_ar rfl rfl rfl) rfl ?_
      refine L_val _ _ (X_assign) rfl ?_
      refine L_nil ?_
      repeat (first | refine T_seq ?_ | refine T_block ?_ | refine T_inBlock ?_ | refine T_skip ?_)
      refine T_region ?_
      refine L_val _ _ (X_move) rfl ?_
      refine L_val _ _ (X_move) rfl ?_
      refine L_val _ _ (X_move) rfl ?_
      refine L_val _ _ (X_move) rfl ?_
      refine L_val _ _ (X_move) rfl ?_
      refine L_val _ _ (X_ar rfl rfl rfl) rfl ?_
      refine L_val _ _ (X_assign) rfl ?_
      refine L_val _ _ (X_assign) rfl ?_
      refine L_val _ _ (X_assign) rfl ?_
      refine L_val _ _ (X_assign) rfl ?_
      refine L_nil ?_
      repeat (first | refine T_seq ?_ | refine T_block ?_ | refine T_inBlock ?_ | refine T_skip ?_)
      refine T_region ?_
      refine L_val _ _ (X_move) rfl ?_
      refine L_val _ _ (X_move) rfl ?_
      refine L_val _ _ (X_move) rfl ?_
      refine L_val _ _ (X_move) rfl ?_
      refine L_val _ _ (X_move) rfl ?_
      refine L_val _ _ (X_ar rfl rfl rfl) rfl ?_
      refine L_val _ _ (X_assign) rfl ?_
      refine L_val _ _ (X_assign) rfl ?_
      refine L_val _ _ (X_assign) rfl ?_
      refine L_val _ _ (X_assign) rfl ?_
      refine L_nil ?_
      repeat (first | refine T_seq ?_ | refine T_block ?_ | refine T_inBlock ?_ | refine T_skip ?_)
      refine T_region ?_
      refine L_val _ _ (X_move) rfl ?_
      refine L_val _ _ (X_add rfl rfl (by omega) (by omega)) rfl ?_
      refine L_val _ _ (X_assign) rfl ?_
      refine L_nil ?_
      exact ih2 _ _ _ (by omega) ⟨t + 1, _, _, _, _, _, _, _, _, ws, rfl, by omega, rfl, bt.sm hu4, hwl, hu4.blk kw, hu4.blk kS⟩
    · have h16 : 16 ≤ t := by simp [cmpB] at ht3; omega
      have hg1 := wget (i := (t + 14) % 16) kw (by omega)
      have hg2 := wget (i := (t + 1) % 16) kw (by omega)
      have hg3 := wget (i := (t + 9) % 16) kw (by omega)
      generalize ws[(t + 14) % 16] = y1 at *
      generalize ws[(t + 1) % 16] = y2 at *
      generalize ws[(t + 9) % 16] = y3 at *
      repeat (first | refine T_seq ?_ | refine T_block ?_ | refine T_inBlock ?_ | refine T_skip ?_)
      refine T_quiet (fun q => Sm u q) rfl (by kernel_rfl) (sm_drew u) ?_
      refine LQ_val _ (fun w hw => X_move) rfl ?_
      refine LQ_val _ (fun w hw => X_add rfl rfl (by omega) (by omega)) rfl ?_
      refine LQ_val _ (fun w hw => X_and15 (t + 14) (by omega) rfl rfl) rfl ?_
      refine LQ_val _ (fun w hw => X_indexA U57 S39 rfl rfl (show (t + 14) % 16 < 16 by omega)) rfl ?_
      refine LQ_val _ (fun w hw => X_load A39 rfl ((hw.cell _).trans hg1)) rfl ?_
      refine LQ_val _ (fun w hw => X_move) rfl ?_
      refine LQ_val _ (fun w hw => X_add rfl rfl (by omega) (by omega)) rfl ?_
      refine LQ_val _ (fun w hw => X_and15 (t + 1) (by omega) rfl rfl) rfl ?_
      refine LQ_val _ (fun w hw => X_indexA U57 S39 rfl rfl (show (t + 1) % 16 < 16 by omega)) rfl ?_
      refine LQ_val _ (fun w hw => X_load A39 rfl ((hw.cell _).trans hg2)) rfl ?_
      refine LQ_val _ (fun w hw => X_assign) rfl ?_
      refine LQ_val _ (fun w hw => X_assign) rfl ?_
      refine LQ_nil fun u3 hu3 => ?_
      have kw3 := hu3.blk kw
      repeat (first | refine T_seq ?_ | refine T_block ?_ | refine T_inBlock ?_ | refine T_skip ?_)
      refine T_region ?_
      refine L_val _ _ (X_move) rfl ?_
      refine L_val _ _ (X_move) rfl ?_
      refine L_callF [.int .u32 y1, .int .u64 17] E16 rfl rfl (ror_ret _ 17 (by decide) _) ?_
      rintro v u9 ⟨rfl, rfl⟩
      refine L_val _ _ (X_move) rfl ?_
      refine L_callF [.int .u32 y1, .int .u64 19] E16 rfl rfl (ror_ret _ 19 (by decide) _) ?_
      rintro v u9 ⟨rfl, rfl⟩
      refine L_val _ _ (X_bit rfl rfl rfl) rfl ?_
      refine L_val _ _ (X_move) rfl ?_
      refine L_val _ _ (X_shr rfl rfl (by decide)) rfl ?_
      refine L_val _ _ (X_bit rfl rfl rfl) rfl ?_
      refine L_val _ _ (X_ar rfl rfl rfl) rfl ?_
      refine L_val _ _ (X_assign) rfl ?_
      refine L_nil ?_
      repeat (first | refine T_seq ?_ | refine T_block ?_ | refine T_inBlock ?_ | refine T_skip ?_)
      refine T_region ?_
      refine L_val _ _ (X_move) rfl ?_
      refine L_val _ _ (X_move) rfl ?_
      refine L_val _ _ (X_add rfl rfl (by omega) (by omega)) rfl ?_
      refine L_val _ _ (X_and15 (t + 9) (by omega) rfl rfl) rfl ?_
      refine L_val _ _ (X_indexA U57 S39 rfl rfl (show (t + 9) % 16 < 16 by omega)) rfl ?_
      refine L_val _ _ (X_load A39 rfl ((hu3.cell _).trans hg3)) rfl ?_
      refine L_val _ _ (X_ar rfl rfl rfl) rfl ?_
      refine L_val _ _ (X_assign) rfl ?_
      refine L_nil ?_
      repeat (first | refine T_seq ?_ | refine T_block ?_ | refine T_inBlock ?_ | refine T_skip ?_)
      refine T_region ?_
      refine L_val _ _ (X_move) rfl ?_
      refine L_val _ _ (X_move) rfl ?_
      refine L_callF [.int .u32 y2, .int .u64 7] E16 rfl rfl (ror_ret _ 7 (by decide) _) ?_
      rintro v u9 ⟨rfl, rfl⟩
      refine L_val _ _ (X_move) rfl ?_
      refine L_callF [.int .u32 y2, .int .u64 18] E16 rfl rfl (ror_ret _ 18 (by decide) _) ?_
      rintro v u9 ⟨rfl, rfl⟩
      refine L_val _ _ (X_bit rfl rfl rfl) rfl ?_
      refine L_val _ _ (X_move) rfl ?_
      refine L_val _ _ (X_shr rfl rfl (by decide)) rfl ?_
      refine L_val _ _ (X_bit rfl rfl rfl) rfl ?_
      refine L_val _ _ (X_ar rfl rfl rfl) rfl ?_
      refine L_val _ _ (X_assign) rfl ?_
      refine L_nil ?_
      refine T_region ?_
      refine L_val _ _ (X_move) rfl ?_
      refine L_val _ _ (X_and15 t (by omega) rfl rfl) rfl ?_
      refine L_val _ _ (X_move) rfl ?_
      refine L_val _ _ (X_indexA U57 S39 rfl rfl hm16) rfl ?_
      refine L_store _ S39 rfl rfl rfl kw3 (by simp [wcells]; omega) fun u5 h5 => ?_
      refine L_nil ?_
      have kw5 := wset h5
      exact join _ _ ⟨_, _, rfl, (bt.sm hu3).chg h5 (.inr (Nat.le_refl _)), by simpa using hwl, kw5, h5.blk (hu3.blk kS) (by omega)⟩
    · refine T_skip ?_
      exact join _ _ ⟨_, ws, rfl, bt, hwl, kw, kS⟩
  refine T_exit rfl ?_
  repeat (first | refine T_seq ?_ | refine T_block ?_ | refine T_inBlock ?_ | refine T_skip ?_)
  refine T_draw (fun q => Sm u q) 8 rfl rfl fun d0 e0 => ?_
  refine D_take 0 _ rfl (by kernel_rfl) e0 (fun w hw => X_move) rfl ?_
  refine D_take 1 _ rfl (by kernel_rfl) e0 (fun w hw => X_nilCheck rfl) rfl ?_
  refine D_take 2 _ rfl (by kernel_rfl) e0 (fun w hw => X_indexA U40 S39 rfl rfl (show 0 < 8 by decide)) rfl ?_
  refine D_take 3 _ rfl (by kernel_rfl) e0 (fun w hw => X_load A39 rfl ((hw.cell _).trans (gblk kS 0 rfl))) rfl ?_
  refine D_take 4 _ rfl (by kernel_rfl) e0 (fun w hw => X_move) rfl ?_
  refine D_take 5 _ rfl (by kernel_rfl) e0 (fun w hw => X_ar rfl rfl rfl) rfl ?_
  refine D_val 6 _ _ rfl (by kernel_rfl) (X_nilCheck rfl) rfl (fun hb => e0) ?_
  refine D_val 7 _ _ rfl (by kernel_rfl) (X_indexA U40 S39 rfl rfl (show 0 < 8 by decide)) rfl (fun hb => e0) ?_
  refine D_store 8 _ rfl (by kernel_rfl) S39 rfl rfl rfl (e0.blk kS) (by simp) fun f0 g0 => ⟨fun hb => (by cases hb), ?_⟩
  refine D_done (by kernel_rfl) ?_
  have k1 := blk_set (e0.chg g0)
  have bt1 := bt.chg (e0.chg g0) (.inl rfl)
  have kw1 := (e0.chg g0).blk kw (by omega)
  repeat (first | refine T_seq ?_ | refine T_block ?_ | refine T_inBlock ?_ | refine T_skip ?_)
  refine T_draw (fun q => Sm f0 q) 8 rfl rfl fun d1 e1 => ?_
  refine D_take 0 _ rfl (by kernel_rfl) e1 (fun w hw => X_move) rfl ?_
  refine D_take 1 _ rfl (by kernel_rfl) e1 (fun w hw => X_nilCheck rfl) rfl ?_
  refine D_take 2 _ rfl (by kernel_rfl) e1 (fun w hw => X_indexA U40 S39 rfl rfl (show 1 < 8 by decide)) rfl ?_
  refine D_take 3 _ rfl (by kernel_rfl) e1 (fun w hw => X_load A39 rfl ((hw.cell _).trans (gblk k1 1 rfl))) rfl ?_
  refine D_take 4 _ rfl (by kernel_rfl) e1 (fun w hw => X_move) rfl ?_
  refine D_take 5 _ rfl (by kernel_rfl) e1 (fun w hw => X_ar rfl rfl rfl) rfl ?_
  refine D_val 6 _ _ rfl (by kernel_rfl) (X_nilCheck rfl) rfl (fun hb => e1) ?_
  refine D_val 7 _ _ rfl (by kernel_rfl) (X_indexA U40 S39 rfl rfl (show 1 < 8 by decide)) rfl (fun hb => e1) ?_
  refine D_store 8 _ rfl (by kernel_rfl) S39 rfl rfl rfl (e1.blk k1) (by simp) fun f1 g1 => ⟨fun hb => (by cases hb), ?_⟩
  refine D_done (by kernel_rfl) ?_
  have k2 := blk_set (e1.chg g1)
  have bt2 := bt1.chg (e1.chg g1) (.inl rfl)
  have kw2 := (e1.chg g1).blk kw1 (by omega)
  repeat (first | refine T_seq ?_ | refine T_block ?_ | refine T_inBlock ?_ | refine T_skip ?_)
  refine T_draw (fun q => Sm f1 q) 8 rfl rfl fun d2 e2 => ?_
  refine D_take 0 _ rfl (by kernel_rfl) e2 (fun w hw => X_move) rfl ?_
  refine D_take 1 _ rfl (by kernel_rfl) e2 (fun w hw => X_nilCheck rfl) rfl ?_
  refine D_take 2 _ rfl (by kernel_rfl) e2 (fun w hw => X_indexA U40 S39 rfl rfl (show 2 < 8 by decide)) rfl ?_
  refine D_take 3 _ rfl (by kernel_rfl) e2 (fun w hw => X_load A39 rfl ((hw.cell _).trans (gblk k2 2 rfl))) rfl ?_
  refine D_take 4 _ rfl (by kernel_rfl) e2 (fun w hw => X_move) rfl ?_
  refine D_take 5 _ rfl (by kernel_rfl) e2 (fun w hw => X_ar rfl rfl rfl) rfl ?_
  refine D_val 6 _ _ rfl (by kernel_rfl) (X_nilCheck rfl) rfl (fun hb => e2) ?_
  refine D_val 7 _ _ rfl (by kernel_rfl) (X_indexA U40 S39 rfl rfl (show 2 < 8 by decide)) rfl (fun hb => e2) ?_
  refine D_store 8 _ rfl (by kernel_rfl) S39 rfl rfl rfl (e2.blk k2) (by simp) fun f2 g2 => ⟨fun hb => (by cases hb), ?_⟩
  refine D_done (by kernel_rfl) ?_
  have k3 := blk_set (e2.chg g2)
  have bt3 := bt2.chg (e2.chg g2) (.inl rfl)
  have kw3 := (e2.chg g2).blk kw2 (by omega)
  repeat (first | refine T_seq ?_ | refine T_block ?_ | refine T_inBlock ?_ | refine T_skip ?_)
  refine T_draw (fun q => Sm f2 q) 8 rfl rfl fun d3 e3 => ?_
  refine D_take 0 _ rfl (by kernel_rfl) e3 (fun w hw => X_move) rfl ?_
  refine D_take 1 _ rfl (by kernel_rfl) e3 (fun w hw => X_nilCheck rfl) rfl ?_
  refine D_take 2 _ rfl (by kernel_rfl) e3 (fun w hw => X_indexA U40 S39 rfl rfl (show 3 < 8 by decide)) rfl ?_
  refine D_take 3 _ rfl (by kernel_rfl) e3 (fun w hw => X_load A39 rfl ((hw.cell _).trans (gblk k3 3 rfl))) rfl ?_
  refine D_take 4 _ rfl (by kernel_rfl) e3 (fun w hw => X_move) rfl ?_
  refine D_take 5 _ rfl (by kernel_rfl) e3 (fun w hw => X_ar rfl rfl rfl) rfl ?_
  refine D_val 6 _ _ rfl (by kernel_rfl) (X_nilCheck rfl) rfl (fun hb => e3) ?_
  refine D_val 7 _ _ rfl (by kernel_rfl) (X_indexA U40 S39 rfl rfl (show 3 < 8 by decide)) rfl (fun hb => e3) ?_
  refine D_store 8 _ rfl (by kernel_rfl) S39 rfl rfl rfl (e3.blk k3) (by simp) fun f3 g3 => ⟨fun hb => (by cases hb), ?_⟩
  refine D_done (by kernel_rfl) ?_
  have k4 := blk_set (e3.chg g3)
  have bt4 := bt3.chg (e3.chg g3) (.inl rfl)
  have kw4 := (e3.chg g3).blk kw3 (by omega)
  repeat (first | refine T_seq ?_ | refine T_block ?_ | refine T_inBlock ?_ | refine T_skip ?_)
  refine T_draw (fun q => Sm f3 q) 8 rfl rfl fun d4 e4 => ?_
  refine D_take 0 _ rfl (by kernel_rfl) e4 (fun w hw => X_move) rfl ?_
  refine D_take 1 _ rfl (by kernel_rfl) e4 (fun w hw => X_nilCheck rfl) rfl ?_
  refine D_take 2 _ rfl (by kernel_rfl) e4 (fun w hw => X_indexA U40 S39 rfl rfl (show 4 < 8 by decide)) rfl ?_
  refine D_take 3 _ rfl (by kernel_rfl) e4 (fun w hw => X_load A39 rfl ((hw.cell _).trans (gblk k4 4 rfl))) rfl ?_
  refine D_take 4 _ rfl (by kernel_rfl) e4 (fun w hw => X_move) rfl ?_
  refine D_take 5 _ rfl (by kernel_rfl) e4 (fun w hw => X_ar rfl rfl rfl) rfl ?_
  refine D_val 6 _ _ rfl (by kernel_rfl) (X_nilCheck rfl) rfl (fun hb => e4) ?_
  refine D_val 7 _ _ rfl (by kernel_rfl) (X_indexA U40 S39 rfl rfl (show 4 < 8 by decide)) rfl (fun hb => e4) ?_
  refine D_store 8 _ rfl (by kernel_rfl) S39 rfl rfl rfl (e4.blk k4) (by simp) fun f4 g4 => ⟨fun hb => (by cases hb), ?_⟩
  refine D_done (by kernel_rfl) ?_
  have k5 := blk_set (e4.chg g4)
  have bt5 := bt4.chg (e4.chg g4) (.inl rfl)
  have kw5 := (e4.chg g4).blk kw4 (by omega)
  repeat (first | refine T_seq ?_ | refine T_block ?_ | refine T_inBlock ?_ | refine T_skip ?_)
  refine T_draw (fun q => Sm f4 q) 8 rfl rfl fun d5 e5 => ?_
  refine D_take 0 _ rfl (by kernel_rfl) e5 (fun w hw => X_move) rfl ?_
  refine D_take 1 _ rfl (by kernel_rfl) e5 (fun w hw => X_nilCheck rfl) rfl ?_
  refine D_take 2 _ rfl (by kernel_rfl) e5 (fun w hw => X_indexA U40 S39 rfl rfl (show 5 < 8 by decide)) rfl ?_
  refine D_take 3 _ rfl (by kernel_rfl) e5 (fun w hw => X_load A39 rfl ((hw.cell _).trans (gblk k5 5 rfl))) rfl ?_
  refine D_take 4 _ rfl (by kernel_rfl) e5 (fun w hw => X_move) rfl ?_
  refine D_take 5 _ rfl (by kernel_rfl) e5 (fun w hw => X_ar rfl rfl rfl) rfl ?_
  refine D_val 6 _ _ rfl (by kernel_rfl) (X_nilCheck rfl) rfl (fun hb => e5) ?_
  refine D_val 7 _ _ rfl (by kernel_rfl) (X_indexA U40 S39 rfl rfl (show 5 < 8 by decide)) rfl (fun hb => e5) ?_
  refine D_store 8 _ rfl (by kernel_rfl) S39 rfl rfl rfl (e5.blk k5) (by simp) fun f5 g5 => ⟨fun hb => (by cases hb), ?_⟩
  refine D_done (by kernel_rfl) ?_
  have k6 := blk_set (e5.chg g5)
  have bt6 := bt5.chg (e5.chg g5) (.inl rfl)
  have kw6 := (e5.chg g5).blk kw5 (by omega)
  repeat (first | refine T_seq ?_ | refine T_block ?_ | refine T_inBlock ?_ | refine T_skip ?_)
  refine T_draw (fun q => Sm f5 q) 8 rfl rfl fun d6 e6 => ?_
  refine D_take 0 _ rfl (by kernel_rfl) e6 (fun w hw => X_move) rfl ?_
  refine D_take 1 _ rfl (by kernel_rfl) e6 (fun w hw => X_nilCheck rfl) rfl ?_
  refine D_take 2 _ rfl (by kernel_rfl) e6 (fun w hw => X_indexA U40 S39 rfl rfl (show 6 < 8 by decide)) rfl ?_
  refine D_take 3 _ rfl (by kernel_rfl) e6 (fun w hw => X_load A39 rfl ((hw.cell _).trans (gblk k6 6 rfl))) rfl ?_
  refine D_take 4 _ rfl (by kernel_rfl) e6 (fun w hw => X_move) rfl ?_
  refine D_take 5 _ rfl (by kernel_rfl) e6 (fun w hw => X_ar rfl rfl rfl) rfl ?_
  refine D_val 6 _ _ rfl (by kernel_rfl) (X_nilCheck rfl) rfl (fun hb => e6) ?_
  refine D_val 7 _ _ rfl (by kernel_rfl) (X_indexA U40 S39 rfl rfl (show 6 < 8 by decide)) rfl (fun hb => e6) ?_
  refine D_store 8 _ rfl (by kernel_rfl) S39 rfl rfl rfl (e6.blk k6) (by simp) fun f6 g6 => ⟨fun hb => (by cases hb), ?_⟩
  refine D_done (by kernel_rfl) ?_
  have k7 := blk_set (e6.chg g6)
  have bt7 := bt6.chg (e6.chg g6) (.inl rfl)
  have kw7 := (e6.chg g6).blk kw6 (by omega)
  repeat (first | refine T_seq ?_ | refine T_block ?_ | refine T_inBlock ?_ | refine T_skip ?_)
  refine T_draw (fun q => Sm f6 q) 8 rfl rfl fun d7 e7 => ?_
  refine D_take 0 _ rfl (by kernel_rfl) e7 (fun w hw => X_move) rfl ?_
  refine D_take 1 _ rfl (by kernel_rfl) e7 (fun w hw => X_nilCheck rfl) rfl ?_
  refine D_take 2 _ rfl (by kernel_rfl) e7 (fun w hw => X_indexA U40 S39 rfl rfl (show 7 < 8 by decide)) rfl ?_
  refine D_take 3 _ rfl (by kernel_rfl) e7 (fun w hw => X_load A39 rfl ((hw.cell _).trans (gblk k7 7 rfl))) rfl ?_
  refine D_take 4 _ rfl (by kernel_rfl) e7 (fun w hw => X_move) rfl ?_
  refine D_take 5 _ rfl (by kernel_rfl) e7 (fun w hw => X_ar rfl rfl rfl) rfl ?_
  refine D_val 6 _ _ rfl (by kernel_rfl) (X_nilCheck rfl) rfl (fun hb => e7) ?_
  refine D_val 7 _ _ rfl (by kernel_rfl) (X_indexA U40 S39 rfl rfl (show 7 < 8 by decide)) rfl (fun hb => e7) ?_
  refine D_store 8 _ rfl (by kernel_rfl) S39 rfl rfl rfl (e7.blk k7) (by simp) fun f7 g7 => ⟨fun hb => (by cases hb), ?_⟩
  refine D_done (by kernel_rfl) ?_
  have k8 := blk_set (e7.chg g7)
  have bt8 := bt7.chg (e7.chg g7) (.inl rfl)
  have kw8 := (e7.chg g7).blk kw7 (by omega)
  repeat (first | refine T_seq ?_ | refine T_block ?_ | refine T_inBlock ?_ | refine T_skip ?_)
  refine T_region ?_
  refine L_val _ _ (X_move) rfl ?_
  refine L_val _ _ (X_sliceLX (l := 64) U25 S5 rfl rfl (show 64 ≤ m by omega)) rfl ?_
  refine L_val _ _ (X_assign) rfl ?_
  refine L_nil ?_
  repeat (first | refine T_seq ?_ | refine T_block ?_ | refine T_inBlock ?_ | refine T_skip ?_)
  refine ih _ _ _ ?_ ⟨_, _, _, _, _, _, _, _, _, _, _, ws, rfl, ?_, ?_, rfl, ?_, bt8, hwl, kw8, k8⟩
  · omega
  · omega
  · omega
  · intro j hj
    have hc64 : c ≠ 64 := by omega
    obtain ⟨x, hx⟩ := hcell (64 + j) (by omega)
    refine ⟨pb, po + 64 * 1, x, by simp [hc64], hpS, hpb, ?_⟩
    rw [show po + 64 * 1 + j = po + (64 + j) by omega]
    exact hx
end Go.Proofs.Qxb6500866aDoor
