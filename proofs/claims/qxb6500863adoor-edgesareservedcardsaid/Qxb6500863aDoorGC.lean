/-
  Calls by way of an interface; the streaming hash.
-/
import Derived.Test.Qxb6500863aDoorGB
namespace Go.Proofs.Qxb6500863aDoor
set_option linter.unusedSimpArgs false
set_option linter.unusedVariables false
open Go.RowKit
/-- The method of that name of what lies behind an interface value is function g. -/
def MT (P : Program) (t : TypeId) (name : String) (g : FuncId) : Prop := ∀ (b : Nat) (w : World), (method (P.types.size + Made.depth) t (.pointer (some ⟨b, 0, none⟩)) name).run P w = .ok (g, .pointer (some ⟨b, 0, none⟩)) w
theorem MT61w : MT Tryd.prog 61 "Write" 73 := fun _ _ => by kernel_rfl
theorem MT61s : MT Tryd.prog 61 "Sum" 72 := fun _ _ => by kernel_rfl
theorem MT61r : MT Tryd.prog 61 "Reset" 70 := fun _ _ => by kernel_rfl
theorem MT61z : MT Tryd.prog 61 "Size" 71 := fun _ _ => by kernel_rfl
theorem MT61b : MT Tryd.prog 61 "BlockSize" 69 := fun _ _ => by kernel_rfl
theorem MT44w : MT Tryd.prog 44 "Write" 32 := fun _ _ => by kernel_rfl
section
variable {P : Program} {f : Cx} {n : Nat} {R : Value → World → Prop} {ρ : Env} {w : World} {k : List Item} {ops : Array Oper} {rest : List Oper} {S : World → Prop} {N fuel : Nat} {listed : Array Bool}
variable {d : Nat} {dst : Option Tmp} {gd : Option (Nat × Bool)} {ty : TypeId} {pos : String} {after : Array Edge}
theorem X_callI {x : Operand} {name : String} {xs : Array Operand} {ts : Array TypeId} {t : TypeId} {b : Nat} {g : FuncId} (args : List Value) (hm : MT P t name g) (hg : EN P g) (hx : ev ρ x = .iface t (.pointer (some ⟨b, 0, none⟩))) (ha : xs.toList.map (ev ρ) = args) :
    (execOp (ev ρ) ⟨dst, .call { callee := .invoke x name, args := xs, argTypes := ts }, ty, pos, after, gd⟩).run P w = .ok (.enter g (.pointer (some ⟨b, 0, none⟩) :: args).toArray) w := by
  have e : xs.map (ev ρ) = args.toArray := by
    rw [← ha]; apply Array.ext'; simp
  have h1 := hg (.pointer (some ⟨b, 0, none⟩) :: args).toArray w
  have h2 := hm b w
  simp [execOp, resolve, invoke, callMethod, e, hx]
  rw [h2]
  simp
  have e2 : (#[Value.pointer (some ⟨b, 0, none⟩)] ++ args.toArray) = (.pointer (some ⟨b, 0, none⟩) :: args).toArray := by simp
  simpa [e2] using h1
theorem L_callI {x : Operand} {name : String} {xs : Array Operand} {ts : Array TypeId} {t : TypeId} {b : Nat} {g : FuncId} {Z : Value → World → Prop} (args : List Value) (hm : MT P t name g) (hg : EN P g) (hx : ev ρ x = .iface t (.pointer (some ⟨b, 0, none⟩))) (ha : xs.toList.map (ev ρ) = args) (hd : Nat.blt d n = true)
    (hc : Ret P g (.pointer (some ⟨b, 0, none⟩) :: args).toArray w Z) (h : ∀ v w', Z v w' → L P f n ops rest k R (upd ρ d v) w') : L P f n ops (⟨some d, .call { callee := .invoke x name, args := xs, argTypes := ts }, ty, pos, after, none⟩ :: rest) k R ρ w :=
  L_call (X_callI args hm hg hx ha) hd hc h
theorem D_callR (i : Nat) {op : Op} {g : FuncId} {args : Array Value} {Z : Value → World → Prop} (hi : ops[i]? = some ⟨some d, op, ty, pos, after, none⟩) (hc : only ops listed i = true)
    (hrun : (execOp (ev ρ) ⟨some d, op, ty, pos, after, none⟩).run P w = .ok (.enter g args) w) (hd : Nat.blt d n = true) (hr : Ret P g args w Z)
    (h : ∀ v w', Z v w' → (Nat.blt i N = true → S w') ∧ D P f n ops S N fuel (listed.setIfInBounds i true) k R (upd ρ d v) w') : D P f n ops S N (fuel + 1) listed k R ρ w := by
  have hr1 : Region.ready .any ops listed = [i] := by simpa [only] using hc
  refine ⟨fun a hA => ⟨fun h0 => (by rw [hr1] at h0; cases h0), fun j hj => ?_⟩⟩
  rw [hr1] at hj
  obtain rfl : j = i := by simpa using hj
  unfold wpOp
  simp only [hi]
  rw [if_pos (show Region.wanted _ (yielded ops a.tmps) = true from rfl)]
  refine .inl ?_
  unfold Oper.wp
  rw [hA.eval, hrun]
  refine Calls.mono hr ?_
  rintro ex w' ⟨v, rfl, hv⟩
  exact ⟨fun hn => (h v w' hv).1 (by simpa [Nat.blt_eq] using hn), (h v w' hv).2.run _ (hA.put v hd)⟩
theorem X_nilCheckI {x : Operand} {t : TypeId} {v : Value} (hx : ev ρ x = .iface t v) : (execOp (ev ρ) ⟨dst, .nilCheck x, ty, pos, after, gd⟩).run P w = .ok (.value (.iface t v)) w := by
  simp [execOp, hx]
theorem X_makeFunc {fn : Fn} {first captured : Array Operand} : (execOp (ev ρ) ⟨dst, .makeFunc fn first captured, ty, pos, after, gd⟩).run P w = .ok (.value (.func fn (first.toList.map (ev ρ)).toArray (captured.toList.map (ev ρ)).toArray)) w := by
  have e : ∀ xs : Array Operand, xs.map (ev ρ) = (xs.toList.map (ev ρ)).toArray := fun xs => by apply Array.ext'; simp
  simp only [execOp, Instr.makeFunc, e]
  rfl
theorem L_callV {g : FuncId} {x : Operand} {xs : Array Operand} {ts : Array TypeId} {Z : Value → World → Prop} (args cap : List Value) (hg : EN P g) (hx : ev ρ x = .func (.func g) #[] cap.toArray) (ha : xs.toList.map (ev ρ) = args) (hd : Nat.blt d n = true)
    (hc : Ret P g (args ++ cap).toArray w Z) (h : ∀ v w', Z v w' → L P f n ops rest k R (upd ρ d v) w') : L P f n ops (⟨some d, .call { callee := .value x, args := xs, argTypes := ts }, ty, pos, after, none⟩ :: rest) k R ρ w := by
  refine L_call (g := g) (args := (args ++ cap).toArray) ?_ hd hc h
  have e : xs.map (ev ρ) = args.toArray := by
    rw [← ha]; apply Array.ext'; simp
  have h1 := hg (args ++ cap).toArray w
  simp [execOp, resolve, e, hx, Deferred.ofValue, invoke, h1]
end
theorem U61 : UN Tryd.prog 61 (.pointer 78) := fun _ => by kernel_rfl
theorem E69 : EN Tryd.prog 69 := fun _ _ => by kernel_rfl
theorem E70 : EN Tryd.prog 70 := fun _ _ => by kernel_rfl
theorem E71 : EN Tryd.prog 71 := fun _ _ => by kernel_rfl
theorem E72 : EN Tryd.prog 72 := fun _ _ => by kernel_rfl
theorem E73 : EN Tryd.prog 73 := fun _ _ => by kernel_rfl
theorem E29 : EN Tryd.prog 29 := fun _ _ => by kernel_rfl
/-- Nothing that stood has turned but for blocks in S. -/
structure Chs (S : Nat → Prop) (w w' : World) : Prop where
  os : w'.os = w.os
  tape : w'.tape = w.tape
  output : w'.output = w.output
  size : w.heap.size ≤ w'.heap.size
  oth : ∀ k, k < w.heap.size → ¬ S k → w'.heap[k]? = w.heap[k]?
theorem Chs.refl (S : Nat → Prop) (w : World) : Chs S w w := ⟨rfl, rfl, rfl, Nat.le_refl _, fun _ _ _ => rfl⟩
theorem Chs.trans {S S' : Nat → Prop} {w w1 w2 : World} (h : Chs S w w1) (h' : Chs S' w1 w2) (hs : ∀ k, k < w.heap.size → S' k → S k) : Chs S w w2 :=
  ⟨h'.os.trans h.os, h'.tape.trans h.tape, h'.output.trans h.output, Nat.le_trans h.size h'.size, fun k hk hn => (h'.oth k (Nat.lt_of_lt_of_le hk h.size) (fun h2 => hn (hs k hk h2))).trans (h.oth k hk hn)⟩
theorem Chs.below {S : Nat → Prop} {w0 w w' : World} {B : Nat} (h : Chs S w w') (h0 : Below B w0 w) (hB : B ≤ w.heap.size) (hs : ∀ k, S k → B ≤ k) : Below B w0 w' :=
  ⟨h.os.trans h0.os, h.tape.trans h0.tape, h.output.trans h0.output, Nat.le_trans h0.size h.size, fun k hk => (h.oth k (by omega) (fun h2 => by have := hs k h2; omega)).trans (h0.block k hk)⟩
theorem Chs.of_below {S : Nat → Prop} {w w' : World} (h : Below w.heap.size w w') : Chs S w w' := ⟨h.os, h.tape, h.output, h.size, fun k hk _ => h.block k hk⟩
theorem Chs.of_chg {S : Nat → Prop} {w w' : World} {b : Nat} {o : Obj} (h : Chg w w' b o) (hb : w.heap.size ≤ b ∨ S b) : Chs S w w' :=
  ⟨h.os, h.tape, h.output, h.size, fun k hk hn => h.oth k (fun e => hb.elim (fun h1 => by omega) (fun h1 => hn (e ▸ h1)))⟩
theorem Chs.of_grown {S : Nat → Prop} {w w' : World} {r : Option Nat} (h : w.grownBy w' r) (hs : ∀ b, r = some b → S b) : Chs S w w' :=
  ⟨h.os, h.tape, h.output, h.size, fun k hk hn => h.block k hk (fun e => hn (hs k e.symm))⟩
theorem Chs.blk {S : Nat → Prop} {w w' : World} {k : Nat} {c : Array Value} {t : TypeId} (h : Chs S w w') (hb : Blk w k c t) (hn : ¬ S k) : Blk w' k c t := (h.oth k hb.lt hn).trans hb
theorem Chs.owns {S : Nat → Prop} {w w' : World} {base n : Nat} {e : TypeId} {sz : Nat} {v : Value} {xs : List Value} (h : Chs S w w') (ho : w.ownsRow base e sz v n xs) (hn : ∀ b, v.ownBlock = some b → ¬ S b) : w'.ownsRow base e sz v n xs := by
  refine ⟨ho.1, ?_⟩
  rcases ho.2 with h' | ⟨g, cap, cur, rfl, hg, hgg, rest⟩
  · exact .inl h'
  · exact .inr ⟨g, cap, cur, rfl, hg, (h.oth g (Array.getElem?_eq_some_iff.1 hgg).1 (hn g rfl)).trans hgg, rest⟩
theorem Chs.ints {S : Nat → Prop} {q : IntKind} {w w' : World} {a : Option Addr} {l : List Int} (h : Chs S w w') (hi : Ints q w a l) (hn : ∀ ad, a = some ad → ¬ S ad.block) : Ints q w' a l := by
  refine ⟨fun j x hx => ?_⟩
  obtain ⟨b, o, rfl, hb, hc⟩ := hi.cell j x hx
  exact ⟨b, o, rfl, Nat.lt_of_lt_of_le hb h.size, (World.cell?_of_block (h.oth b hb (hn _ rfl))).trans hc⟩
/-- A streaming hash at block hb. -/
structure HashAt (w : World) (base hb id : Nat) (a : Option Addr) (c : Nat) (l : List Int) : Prop where
  blk : Blk w hb #[.int .i64 (id : Int), .slice a l.length c] 78
  ge : base ≤ hb
  own : w.ownsRow base 5 1 (.slice a l.length c) l.length (iv .u8 l)
/-- The blocks that writing to it may turn. -/
def HashAt.fp (hb : Nat) (v : Value) (k : Nat) : Prop := k = hb ∨ v.ownBlock = some k
/-- digestm.New -/
theorem new_ret (id : Nat) (w : World) : Ret Tryd.prog 30 #[.int .i64 (id : Int)] w fun v w' => v = .pointer (some ⟨w.heap.size, 0, none⟩) ∧ Blk w' w.heap.size #[.int .i64 (id : Int), .slice none 0 0] 78 ∧ Below w.heap.size w w' := by
  refine ret_of_T (vs := [.int .i64 (id : Int)]) Tryd.func30 Tryd.ntmps30 rfl (Nat.le_of_ble_eq_true rfl) ?_
  repeat (first | refine T_seq ?_ | refine T_block ?_ | refine T_inBlock ?_ | refine T_skip ?_)
  refine T_region ?_
  refine L_val _ _ (X_assign) rfl ?_
  refine L_nil ?_
  repeat (first | refine T_seq ?_ | refine T_block ?_ | refine T_inBlock ?_ | refine T_skip ?_)
  refine T_region ?_
  refine L_val _ _ (X_move) rfl ?_
  refine L_val _ _ (X_build (.agg #[.int .i64 (id : Int), .slice none 0 0]) (by kernel_rfl)) rfl ?_
  refine L_box rfl fun w1 h1 => ?_
  refine L_val _ _ (X_assign) rfl ?_
  refine L_nil ?_
  exact T_ret1 Tryd.func30 rfl ⟨rfl, h1.new, h1.below (Below.refl _ _) (Nat.le_refl _)⟩
/-- hashOf$1 -/
theorem mk_ret (id cb : Nat) (w : World) (hk : Blk w cb #[.int .i64 (id : Int)] 29) : Ret Tryd.prog 29 #[.pointer (some ⟨cb, 0, none⟩)] w fun v w' => v = .iface 61 (.pointer (some ⟨w.heap.size, 0, none⟩)) ∧ Blk w' w.heap.size #[.int .i64 (id : Int), .slice none 0 0] 78 ∧ Below w.heap.size w w' := by
  refine ret_of_T (vs := [.pointer (some ⟨cb, 0, none⟩)]) Tryd.func29 Tryd.ntmps29 rfl (Nat.le_of_ble_eq_true rfl) ?_
  repeat (first | refine T_seq ?_ | refine T_block ?_ | refine T_inBlock ?_ | refine T_skip ?_)
  refine T_region ?_
  refine L_val _ _ (X_assign) rfl ?_
  refine L_nil ?_
  repeat (first | refine T_seq ?_ | refine T_block ?_ | refine T_inBlock ?_ | refine T_skip ?_)
  refine T_region ?_
  refine L_val _ _ (X_load A29 rfl (hk.cell 0)) rfl ?_
  refine L_callF [.int .i64 (id : Int)] E30 rfl rfl (new_ret id w) ?_
  rintro v w1 ⟨rfl, k1, b1⟩
  refine L_val _ _ (X_mkIface U61 (by simp)) rfl ?_
  refine L_val _ _ (X_assign) rfl ?_
  refine L_nil ?_
  exact T_ret1 Tryd.func29 rfl ⟨rfl, k1, b1⟩
/-- hashOf -/
theorem hashOf_ret (id : Nat) (w : World) : Ret Tryd.prog 10 #[.int .i64 (id : Int)] w fun v w' => v = .func (.func 29) #[] #[.pointer (some ⟨w.heap.size, 0, none⟩)] ∧ Blk w' w.heap.size #[.int .i64 (id : Int)] 29 ∧ Below w.heap.size w w' := by
  refine ret_of_T (vs := [.int .i64 (id : Int)]) Tryd.func10 Tryd.ntmps10 rfl (Nat.le_of_ble_eq_true rfl) ?_
  repeat (first | refine T_seq ?_ | refine T_block ?_ | refine T_inBlock ?_ | refine T_skip ?_)
  refine T_region ?_
  refine L_box rfl fun w1 h1 => ?_
  refine L_val _ _ (X_assign) rfl ?_
  refine L_nil ?_
  repeat (first | refine T_seq ?_ | refine T_block ?_ | refine T_inBlock ?_ | refine T_skip ?_)
  refine T_region ?_
  refine L_val _ _ (X_makeFunc) rfl ?_
  refine L_val _ _ (X_assign) rfl ?_
  refine L_nil ?_
  exact T_ret1 Tryd.func10 rfl ⟨rfl, h1.new, h1.below (Below.refl _ _) (Nat.le_refl _)⟩
theorem hbs_ret (id hb : Nat) (hid : id < 5) (v1 : Value) (w : World) (hk : Blk w hb #[.int .i64 (id : Int), v1] 78) : Ret Tryd.prog 69 #[.pointer (some ⟨hb, 0, none⟩)] w fun v w' => v = .int .i64 (blkD id : Int) ∧ Below w.heap.size w w' := by
  refine ret_of_T (vs := [.pointer (some ⟨hb, 0, none⟩)]) Tryd.func69 Tryd.ntmps69 rfl (Nat.le_of_ble_eq_true rfl) ?_
  repeat (first | refine T_seq ?_ | refine T_block ?_ | refine T_inBlock ?_ | refine T_skip ?_)
  refine T_region ?_
  refine L_val _ _ (X_assign) rfl ?_
  refine L_nil ?_
  repeat (first | refine T_seq ?_ | refine T_block ?_ | refine T_inBlock ?_ | refine T_skip ?_)
  refine T_region ?_
  refine L_val _ _ (X_move) rfl ?_
  refine L_val _ _ (X_nilCheck rfl) rfl ?_
  refine L_val _ _ (X_field F78_0 rfl) rfl ?_
  refine L_val _ _ (X_load A29 rfl (hk.cell 0)) rfl ?_
  refine L_callF [.int .i64 (id : Int)] E7 rfl rfl (bs_ret id hid w) ?_
  rintro v w1 ⟨rfl, b1⟩
  refine L_val _ _ (X_assign) rfl ?_
  refine L_nil ?_
  exact T_ret1 Tryd.func69 rfl ⟨rfl, b1⟩
theorem hsz_ret (id hb : Nat) (hid : id < 5) (v1 : Value) (w : World) (hk : Blk w hb #[.int .i64 (id : Int), v1] 78) : Ret Tryd.prog 71 #[.pointer (some ⟨hb, 0, none⟩)] w fun v w' => v = .int .i64 (szD id : Int) ∧ Below w.heap.size w w' := by
  refine ret_of_T (vs := [.pointer (some ⟨hb, 0, none⟩)]) Tryd.func71 Tryd.ntmps71 rfl (Nat.le_of_ble_eq_true rfl) ?_
  repeat (first | refine T_seq ?_ | refine T_block ?_ | refine T_inBlock ?_ | refine T_skip ?_)
  refine T_region ?_
  refine L_val _ _ (X_assign) rfl ?_
  refine L_nil ?_
  repeat (first | refine T_seq ?_ | refine T_block ?_ | refine T_inBlock ?_ | refine T_skip ?_)
  refine T_region ?_
  refine L_val _ _ (X_move) rfl ?_
  refine L_val _ _ (X_nilCheck rfl) rfl ?_
  refine L_val _ _ (X_field F78_0 rfl) rfl ?_
  refine L_val _ _ (X_load A29 rfl (hk.cell 0)) rfl ?_
  refine L_callF [.int .i64 (id : Int)] E22 rfl rfl (size_ret id hid w) ?_
  rintro v w1 ⟨rfl, b1⟩
  refine L_val _ _ (X_assign) rfl ?_
  refine L_nil ?_
  exact T_ret1 Tryd.func71 rfl ⟨rfl, b1⟩
/-- Hash.Reset -/
theorem hrs_ret (id hb : Nat) (v1 : Value) (w : World) (hk : Blk w hb #[.int .i64 (id : Int), v1] 78) : Ret Tryd.prog 70 #[.pointer (some ⟨hb, 0, none⟩)] w fun v w' => Blk w' hb #[.int .i64 (id : Int), .slice none 0 0] 78 ∧ Chs (· = hb) w w' := by
  refine ret_of_T (vs := [.pointer (some ⟨hb, 0, none⟩)]) Tryd.func70 Tryd.ntmps70 rfl (Nat.le_of_ble_eq_true rfl) ?_
  repeat (first | refine T_seq ?_ | refine T_block ?_ | refine T_inBlock ?_ | refine T_skip ?_)
  refine T_region ?_
  refine L_val _ _ (X_move) rfl ?_
  refine L_val _ _ (X_nilCheck rfl) rfl ?_
  refine L_val _ _ (X_field F78_1 rfl) rfl ?_
  refine L_store (.slice none 0 0) S25 rfl rfl rfl hk (by simp) fun w1 h1 => ?_
  refine L_nil ?_
  exact T_end0 Tryd.func70 rfl ⟨h1.new, Chs.of_chg h1 (.inr rfl)⟩
/-- Hash.Write -/
theorem hwr_ret (base id hb : Nat) (a : Option Addr) (c : Nat) (l : List Int) (p : Sl) (w : World) (hH : HashAt w base hb id a c l) (hp : Sl.ok w p) (hl : l.length + p.2.1.length ≤ 10000000) (hbase : base ≤ w.heap.size) :
    Ret Tryd.prog 73 #[.pointer (some ⟨hb, 0, none⟩), p.val] w fun v w' => ∃ a' c', HashAt w' base hb id a' c' (l ++ p.2.1) ∧ ((Value.slice a' (l ++ p.2.1).length c').ownBlock = (Value.slice a l.length c).ownBlock ∨ (Value.slice a' (l ++ p.2.1).length c').ownBlock = some w.heap.size) ∧ Chs (HashAt.fp hb (.slice a l.length c)) w w' := by
  refine ret_of_T (vs := [.pointer (some ⟨hb, 0, none⟩), p.val]) Tryd.func73 Tryd.ntmps73 rfl (Nat.le_of_ble_eq_true rfl) ?_
  have hlt := hH.blk.lt
  have hnb : (Value.slice a l.length c).ownBlock ≠ some hb := by
    intro he
    rcases hH.own.2 with ⟨e1, _⟩ | ⟨g, cap, cur, e1, _, hgg, _⟩
    · rw [e1] at he; simp [Value.ownBlock] at he
    · rw [e1] at he; simp [Value.ownBlock] at he
      subst he
      have := hH.blk
      unfold Blk at this
      rw [hgg] at this
      simp at this
  repeat (first | refine T_seq ?_ | refine T_block ?_ | refine T_inBlock ?_ | refine T_skip ?_)
  refine T_region ?_
  refine L_val _ _ (X_move) rfl ?_
  refine L_val _ _ (X_move) rfl ?_
  refine L_val _ _ (X_nilCheck rfl) rfl ?_
  refine L_val _ _ (X_field F78_1 rfl) rfl ?_
  refine L_val _ _ (X_load A25 rfl (hH.blk.cell 1)) rfl ?_
  refine L_val _ _ (X_move) rfl ?_
  refine L_appendA base (.slice a l.length c) l.length (iv .u8 l) p.1 p.2.1.length p.2.2 (iv .u8 p.2.1) Tryd.underlying25 I5 rfl (by decide) rfl hH.own rfl (by rw [iv_len, Nat.mul_one]) hp.2 (ints_src hp.1) (iv_one _ _) (by simp only [maxLen]; omega) (by omega) hbase rfl fun v1 w1 o1 g1 p1 => ?_
  obtain ⟨a1, c1, rfl, -, -⟩ := owns_val o1
  have k1 := grown_blk g1 hH.blk hnb
  refine L_val _ _ (X_nilCheck rfl) rfl ?_
  refine L_val _ _ (X_field F78_1 rfl) rfl ?_
  refine L_store (.slice a1 (l.length + p.2.1.length) c1) S25 rfl rfl rfl k1 (by simp) fun w2 h2 => ?_
  refine L_nil ?_
  have hll : (l ++ p.2.1).length = l.length + p.2.1.length := List.length_append
  have hnb1 : (Value.slice a1 (l.length + p.2.1.length) c1).ownBlock ≠ some hb := by
    rcases p1 with e | e
    · rw [e]; exact hnb
    · rw [e]; intro h; have := Option.some.inj h; omega
  refine T_end0 Tryd.func73 rfl ⟨a1, c1, ⟨?_, hH.ge, ?_⟩, ?_, ?_⟩
  · rw [hll]; exact h2.new
  · rw [hll, iv_app]; exact chg_owns h2 o1 hnb1
  · rw [hll]; exact p1
  · exact (Chs.of_grown g1 (fun b hb' => .inr hb')).trans (Chs.of_chg (S := HashAt.fp hb (.slice a l.length c)) h2 (.inr (.inl rfl))) (fun k _ h => h)
end Go.Proofs.Qxb6500863aDoor
