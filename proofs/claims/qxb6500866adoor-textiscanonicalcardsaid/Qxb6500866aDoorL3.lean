/-
  TextIsCanonical, walked.
-/
import Derived.Test.Qxb6500866aDoorT3
import Derived.Laws.StructEq
import Derived.ChangeKeysEq
namespace Go.Proofs.Qxb6500866aDoor
set_option linter.unusedSimpArgs false
set_option linter.unusedVariables false
open Go.RowKit

structure Arr (w : World) (a : Option Addr) (sz : Nat) (css : List (List Value)) : Prop where
  cell : ∀ i cs, css[i]? = some cs → ∃ b o, a = some ⟨b, o, none⟩ ∧ b < w.heap.size ∧ ∀ j x, cs[j]? = some x → w.cell? ⟨b, o + i * sz + j, none⟩ = some x
theorem Arr.below {w w' : World} {a : Option Addr} {sz : Nat} {css : List (List Value)} (h : Arr w a sz css) (hb : Below w.heap.size w w') : Arr w' a sz css :=
  ⟨fun i cs hi => let ⟨b, o, ha, hbb, hc⟩ := h.cell i cs hi; ⟨b, o, ha, Nat.lt_of_lt_of_le hbb hb.size, fun j x hx => (below_cell hb _ hbb).trans (hc j x hx)⟩⟩
def ints (q : IntKind) (l : List Int) : List (List Value) := l.map fun x => [.int q x]
structure OpT where
  kind : Int
  da : Option Addr
  dc : Nat
  data : List Int
  pa : Option Addr
  pc : Nat
  parts : List (Option Addr × Nat × Nat)
  b : Int
  n : Int
def pcells (l : List (Option Addr × Nat × Nat)) : List (List Value) := l.map fun p => [.slice p.1 p.2.1 p.2.2]
def OpT.cells (x : OpT) : List Value := [.int .u8 x.kind, .slice x.da x.data.length x.dc, .slice x.pa x.parts.length x.pc, .int .u8 x.b, .int .u64 x.n]
theorem OpT.cells_one (x : OpT) : ∀ v ∈ x.cells, v.oneCell' = true := by simp [OpT.cells, Value.oneCell']
structure OpOk (w : World) (x : OpT) : Prop where
  data : Arr w x.da 1 (ints .u8 x.data)
  byt : Byt x.data
  none : x.da = none → x.data = []
  cap : x.data.length ≤ x.dc
  parts : Arr w x.pa 1 (pcells x.parts)
  dbig : x.data.length ≤ 140737488355328
  pbig : x.parts.length ≤ 140737488355328
  each : ∀ p ∈ x.parts, p.2.1 ≤ 140737488355328
structure Script (w : World) (a : Option Addr) (xs : List OpT) : Prop where
  arr : Arr w a 5 (xs.map OpT.cells)
  ok : ∀ x ∈ xs, OpOk w x
  len : xs.length ≤ 140737488355328
theorem Script.at {w : World} {a : Option Addr} {xs : List OpT} (h : Script w a xs) {i : Nat} {x : OpT} (hi : xs[i]? = some x) :
    ∃ b o, a = some ⟨b, o, none⟩ ∧ b < w.heap.size ∧ ∀ j v, x.cells[j]? = some v → w.cell? ⟨b, o + i * 5 + j, none⟩ = some v :=
  h.arr.cell i x.cells (by simp [hi])

set_option maxHeartbeats 4000000 in
/-- The size guard. -/
theorem small_ret (a : Option Addr) (c : Nat) (xs : List OpT) (w : World) (hs : Script w a xs) :
    Ret Tryd.prog 4 #[.slice a xs.length c] w fun v w' => ∃ t, v = .bool t ∧ w = w' ∧ (t = true → xs.length ≤ 65536 ∧ ∀ x ∈ xs, x.data.length ≤ 65536) := by
  refine ret_of_T (vs := [.slice a xs.length c]) Tryd.func4 Tryd.ntmps4 rfl (Nat.le_of_ble_eq_true rfl) ?_
  have stop : ∀ ρ k, ρ 2 = .bool false → T Tryd.prog 4 59 (.code .ret :: k) (fun v w' => ∃ t, v = .bool t ∧ w = w' ∧ (t = true → xs.length ≤ 65536 ∧ ∀ x ∈ xs, x.data.length ≤ 65536)) ρ w :=
    fun ρ k h => T_ret1 Tryd.func4 rfl ⟨false, h, rfl, fun h => by cases h⟩
  have hxl := hs.len
  repeat (first | refine T_seq ?_ | refine T_block ?_ | refine T_inBlock ?_ | refine T_skip ?_)
  refine T_region ?_
  refine L_val _ _ (X_assign) rfl ?_
  refine L_nil ?_
  repeat (first | refine T_seq ?_ | refine T_block ?_ | refine T_inBlock ?_ | refine T_skip ?_)
  refine T_region ?_
  refine L_val _ _ (X_move) rfl ?_
  refine L_val _ _ (X_lenS U22 rfl) rfl ?_
  refine L_val _ _ (X_assign) rfl ?_
  refine L_nil ?_
  repeat (first | refine T_seq ?_ | refine T_block ?_ | refine T_inBlock ?_ | refine T_skip ?_)
  refine T_region ?_
  refine L_val _ _ (X_move) rfl ?_
  refine L_val _ _ (X_cmp rfl rfl rfl) rfl ?_
  refine L_nil ?_
  refine T_if rfl (fun ht => ?_) (fun hf => ?_)
  · repeat (first | refine T_seq ?_ | refine T_block ?_ | refine T_inBlock ?_ | refine T_skip ?_)
    refine T_region ?_
    refine L_val _ _ (X_assign) rfl ?_
    refine L_nil ?_
    exact stop _ _ rfl
  have hlen : xs.length ≤ 65536 := by simp [cmpB] at hf; omega
  repeat (first | refine T_seq ?_ | refine T_block ?_ | refine T_inBlock ?_ | refine T_skip ?_)
  refine T_region ?_
  refine L_val _ _ (X_assign) rfl ?_
  refine L_nil ?_
  repeat (first | refine T_seq ?_ | refine T_block ?_ | refine T_inBlock ?_ | refine T_skip ?_)
  refine T_loopS [3, 4, 0] (fun m vs w' => ∃ (nn : Int) (i : Nat), vs = [.int .i64 nn, .int .i64 i, .slice a xs.length c] ∧ w = w' ∧ 0 ≤ nn ∧ nn ≤ 65536 ∧ i ≤ xs.length ∧ m = xs.length - i ∧ ∀ (j : Nat) x, j < i → xs[j]? = some x → x.data.length ≤ 65536) xs.length
    ⟨xs.length, 0, rfl, rfl, by omega, by omega, by omega, by omega, fun j x h => by omega⟩ ?_
  rintro m vs ρ w' ⟨nn, i, rfl, rfl, hn0, hn1, hi, rfl, hsm⟩ ih
  repeat (first | refine T_seq ?_ | refine T_block ?_ | refine T_inBlock ?_ | refine T_skip ?_)
  refine T_region ?_
  refine L_val _ _ (X_move) rfl ?_
  refine L_val _ _ (X_move) rfl ?_
  refine L_val _ _ (X_lenS U22 rfl) rfl ?_
  refine L_val _ _ (X_cmp rfl rfl rfl) rfl ?_
  refine L_nil ?_
  refine T_if rfl (fun ht => ?_) (fun hf => ?_)
  case refine_2 =>
    refine T_exit rfl ?_
    repeat (first | refine T_seq ?_ | refine T_block ?_ | refine T_inBlock ?_ | refine T_skip ?_)
    refine T_region ?_
    refine L_val _ _ (X_assign) rfl ?_
    refine L_nil ?_
    refine T_ret1 Tryd.func4 rfl ⟨true, rfl, rfl, fun _ => ⟨hlen, fun x hx => ?_⟩⟩
    have hge : ¬ i < xs.length := by simpa [cmpB] using hf
    obtain ⟨j, hj⟩ := List.getElem?_of_mem hx
    exact hsm j x (by have := (List.getElem?_eq_some_iff.1 hj).1; omega) hj
  have hlt : i < xs.length := by simpa [cmpB] using ht
  obtain ⟨b, o, rfl, hb, hc⟩ := hs.at (i := i) (x := xs[i]) (by simp)
  have hok := hs.ok xs[i] (by simp)
  have hB1 := hok.dbig
  have hB2 := hok.pbig
  generalize hX : xs[i] = X at *
  have hXi : xs[i]? = some X := by rw [← hX]; simp
  repeat (first | refine T_seq ?_ | refine T_block ?_ | refine T_inBlock ?_ | refine T_skip ?_)
  refine T_region ?_
  refine L_val _ _ (X_move) rfl ?_
  refine L_val _ _ (X_move) rfl ?_
  refine L_val _ _ (X_move) rfl ?_
  refine L_val _ _ (X_index U22 S29 rfl rfl hlt) rfl ?_
  refine L_val _ _ (X_field F29_1 rfl) rfl ?_
  refine L_val _ _ (X_load A25 rfl (hc 1 _ rfl)) rfl ?_
  refine L_val _ _ (X_lenS U25 rfl) rfl ?_
  refine L_val _ _ (X_add rfl rfl (by omega) (by omega)) rfl ?_
  refine L_val _ _ (X_assign) rfl ?_
  refine L_nil ?_
  repeat (first | refine T_seq ?_ | refine T_block ?_ | refine T_inBlock ?_ | refine T_skip ?_)
  refine T_region ?_
  refine L_val _ _ (X_move) rfl ?_
  refine L_val _ _ (X_cmp rfl rfl rfl) rfl ?_
  refine L_nil ?_
  refine T_if rfl (fun ht1 => ?_) (fun hf1 => ?_)
  · repeat (first | refine T_seq ?_ | refine T_block ?_ | refine T_inBlock ?_ | refine T_skip ?_)
    refine T_region ?_
    refine L_val _ _ (X_assign) rfl ?_
    refine L_nil ?_
    exact stop _ _ rfl
  have hl1 : nn + X.data.length ≤ 65536 := by simp [cmpB] at hf1; omega
  repeat (first | refine T_seq ?_ | refine T_block ?_ | refine T_inBlock ?_ | refine T_skip ?_)
  refine T_region ?_
  refine L_val _ _ (X_move) rfl ?_
  refine L_val _ _ (X_move) rfl ?_
  refine L_val _ _ (X_move) rfl ?_
  refine L_val _ _ (X_index U22 S29 rfl rfl hlt) rfl ?_
  refine L_val _ _ (X_field F29_2 rfl) rfl ?_
  refine L_val _ _ (X_load A26 rfl (hc 2 _ rfl)) rfl ?_
  refine L_val _ _ (X_lenS U26 rfl) rfl ?_
  refine L_val _ _ (X_add rfl rfl (by omega) (by omega)) rfl ?_
  refine L_val _ _ (X_assign) rfl ?_
  refine L_nil ?_
  repeat (first | refine T_seq ?_ | refine T_block ?_ | refine T_inBlock ?_ | refine T_skip ?_)
  refine T_region ?_
  refine L_val _ _ (X_move) rfl ?_
  refine L_val _ _ (X_cmp rfl rfl rfl) rfl ?_
  refine L_nil ?_
  refine T_if rfl (fun ht1 => ?_) (fun hf1 => ?_)
  · repeat (first | refine T_seq ?_ | refine T_block ?_ | refine T_inBlock ?_ | refine T_skip ?_)
    refine T_region ?_
    refine L_val _ _ (X_assign) rfl ?_
    refine L_nil ?_
    exact stop _ _ rfl
  have hl2 : nn + X.data.length + X.parts.length ≤ 65536 := by simp [cmpB] at hf1; omega
  repeat (first | refine T_seq ?_ | refine T_block ?_ | refine T_inBlock ?_ | refine T_skip ?_)
  refine T_region ?_
  refine L_val _ _ (X_assign) rfl ?_
  refine L_nil ?_
  repeat (first | refine T_seq ?_ | refine T_block ?_ | refine T_inBlock ?_ | refine T_skip ?_)
  refine T_loopS [3, 4, 0, 5] (fun m vs w' => ∃ (n2 : Int) (j : Nat), vs = [.int .i64 n2, .int .i64 i, .slice (some ⟨b, o, none⟩) xs.length c, .int .i64 j] ∧ w = w' ∧ 0 ≤ n2 ∧ n2 ≤ 65536 ∧ j ≤ X.parts.length ∧ m = X.parts.length - j) X.parts.length
    ⟨nn + X.data.length + X.parts.length, 0, rfl, rfl, by omega, by omega, by omega, rfl⟩ ?_
  rintro m vs ρ2 w' ⟨n2, j, rfl, rfl, hn20, hn21, hj, rfl⟩ ih2
  repeat (first | refine T_seq ?_ | refine T_block ?_ | refine T_inBlock ?_ | refine T_skip ?_)
  refine T_region ?_
  refine L_val _ _ (X_move) rfl ?_
  refine L_val _ _ (X_move) rfl ?_
  refine L_val _ _ (X_move) rfl ?_
  refine L_val _ _ (X_index U22 S29 rfl rfl hlt) rfl ?_
  refine L_val _ _ (X_field F29_2 rfl) rfl ?_
  refine L_val _ _ (X_load A26 rfl (hc 2 _ rfl)) rfl ?_
  refine L_val _ _ (X_lenS U26 rfl) rfl ?_
  refine L_val _ _ (X_cmp rfl rfl rfl) rfl ?_
  refine L_nil ?_
  refine T_if rfl (fun ht2 => ?_) (fun hf2 => ?_)
  case refine_2 =>
    refine T_exit rfl ?_
    repeat (first | refine T_seq ?_ | refine T_block ?_ | refine T_inBlock ?_ | refine T_skip ?_)
    refine T_region ?_
    refine L_val _ _ (X_move) rfl ?_
    refine L_val _ _ (X_add rfl rfl (by omega) (by omega)) rfl ?_
    refine L_val _ _ (X_assign) rfl ?_
    refine L_nil ?_
    refine ih _ _ _ (by omega) ⟨n2, i + 1, rfl, rfl, by omega, by omega, by omega, rfl, ?_⟩
    intro j x hj hx
    rcases Nat.lt_succ_iff_lt_or_eq.1 hj with h | rfl
    · exact hsm j x h hx
    · rw [hXi] at hx
      cases hx
      omega
  have hltj : j < X.parts.length := by simpa [cmpB] using ht2
  obtain ⟨pb, po, hpa, hpb, hpc⟩ := hok.parts.cell j [.slice X.parts[j].1 X.parts[j].2.1 X.parts[j].2.2] (by simp [pcells, hltj])
  have hpe := hok.each X.parts[j] (by simp)
  have e2 := hc 2 _ rfl
  rw [hpa] at e2
  have hp0 := hpc 0 _ rfl
  generalize X.parts[j] = pp at *
  repeat (first | refine T_seq ?_ | refine T_block ?_ | refine T_inBlock ?_ | refine T_skip ?_)
  refine T_region ?_
  refine L_val _ _ (X_move) rfl ?_
  refine L_val _ _ (X_move) rfl ?_
  refine L_val _ _ (X_move) rfl ?_
  refine L_val _ _ (X_index U22 S29 rfl rfl hlt) rfl ?_
  refine L_val _ _ (X_field F29_2 rfl) rfl ?_
  refine L_val _ _ (X_load A26 rfl (e2)) rfl ?_
  refine L_val _ _ (X_move) rfl ?_
  refine L_val _ _ (X_index U26 S25 rfl rfl hltj) rfl ?_
  refine L_val _ _ (X_load A25 rfl (hp0)) rfl ?_
  refine L_val _ _ (X_lenS U25 rfl) rfl ?_
  refine L_val _ _ (X_add rfl rfl (by omega) (by omega)) rfl ?_
  refine L_val _ _ (X_assign) rfl ?_
  refine L_nil ?_
  repeat (first | refine T_seq ?_ | refine T_block ?_ | refine T_inBlock ?_ | refine T_skip ?_)
  refine T_region ?_
  refine L_val _ _ (X_move) rfl ?_
  refine L_val _ _ (X_cmp rfl rfl rfl) rfl ?_
  refine L_nil ?_
  refine T_if rfl (fun ht3 => ?_) (fun hf3 => ?_)
  · repeat (first | refine T_seq ?_ | refine T_block ?_ | refine T_inBlock ?_ | refine T_skip ?_)
    refine T_region ?_
    refine L_val _ _ (X_assign) rfl ?_
    refine L_nil ?_
    exact stop _ _ rfl
  have hl3 : n2 + pp.2.1 ≤ 65536 := by simp [cmpB] at hf3; omega
  repeat (first | refine T_seq ?_ | refine T_block ?_ | refine T_inBlock ?_ | refine T_skip ?_)
  refine T_region ?_
  refine L_val _ _ (X_move) rfl ?_
  refine L_val _ _ (X_add rfl rfl (by omega) (by omega)) rfl ?_
  refine L_val _ _ (X_assign) rfl ?_
  refine L_nil ?_
  exact ih2 _ _ _ (by omega) ⟨n2 + pp.2.1, j + 1, rfl, rfl, by omega, by omega, by omega, rfl⟩

theorem g31 : Tryd.prog.eqGuardType Tryd.prog.depth 31 = false := by kernel_rfl
theorem c5 : Tryd.prog.cellsOf 5 = 1 := by kernel_rfl
theorem eq_items (d : Nat) (bs : List Int) (w : World) : ∀ is : List Nat, (∀ i ∈ is, i < bs.length) → (Op.eqItems (d + 1) 5 1 (u8s bs).toArray (u8s bs).toArray is).run Tryd.prog w = .ok true w
  | [], _ => rfl
  | i :: is, h => by
    have e5 : ∀ a b w, (Op.equalIn (d + 1) 5 (.int .u8 a) (.int .u8 b)).run Tryd.prog w = .ok (a == b) w := fun a b w => run_equalIn_int w d 5 .u8 .u8 a b Tryd.underlying5
    have x5 : ∀ w, (isAgg 5).run Tryd.prog w = .ok false w := A5
    have s5 : ∀ w, (sizeOf 5).run Tryd.prog w = .ok 1 w := S5
    have hi := h i (by simp)
    have hg : (u8s bs).toArray[i * 1]? = some (.int .u8 bs[i]) := by simp [u8s, hi]
    have hp : (part 5 (u8s bs).toArray (i * 1)).run Tryd.prog w = .ok (.int .u8 bs[i]) w := by
      have hg2 : (u8s bs)[i]? = some (.int .u8 bs[i]) := by simp [u8s, hi]
      simp only [part, Sem.run_bind, x5, s5, Result.andThen_ok]
      simp [hg2]
    simp only [Op.eqItems, Sem.run_bind, hp, Result.andThen_ok, e5]
    simp
    exact eq_items d bs w is fun j hj => h j (by simp [hj])
theorem X_neq31 {ρ : Env} {w : World} {dst : Option Tmp} {gd : Option (Nat × Bool)} {ty : TypeId} {pos : String} {after : Array Edge} {t' : TypeId} {x y : Operand} (bs : List Int) (hl : bs.length = 32) (hx : ev ρ x = .agg (u8s bs).toArray) (hy : ev ρ y = .agg (u8s bs).toArray) :
    (execOp (ev ρ) ⟨dst, .binOp .neq 31 x y t', ty, pos, after, gd⟩).run Tryd.prog w = .ok (.value (.bool false)) w := by
  obtain ⟨i, hi⟩ : ∃ i, Tryd.prog.info? 5 = some i := ⟨_, rfl⟩
  have he : (Op.equalIn 10000 31 (.agg (u8s bs).toArray) (.agg (u8s bs).toArray)).run Tryd.prog w = .ok true w := by
    rw [show (10000 : Nat) = 9999 + 1 from rfl, run_equalIn_array (P := Tryd.prog) (w := w) 9999 _ _ Tryd.underlying31 hi, c5]
    exact eq_items 9998 bs w _ (by intro j hj; simp at hj; omega)
  exact X_neq (by rw [hx, hy, Sem.run_bind, run_eqGuard_agg w _ _ _ _ _ _ g31, Result.andThen_ok, run_neq_struct, he, Result.andThen_ok]; rfl)
theorem X_neqS {ρ : Env} {w : World} {dst : Option Tmp} {gd : Option (Nat × Bool)} {ty : TypeId} {pos : String} {after : Array Edge} {t' : TypeId} {x y : Operand} (s : ByteArray) (hx : ev ρ x = .string s) (hy : ev ρ y = .string s) :
    (execOp (ev ρ) ⟨dst, .binOp .neq 9 x y t', ty, pos, after, gd⟩).run Tryd.prog w = .ok (.value (.bool false)) w :=
  X_neq (by rw [hx, hy]; simp [eqGuard, binOp, Op.stringOp])
theorem textOf_byt {bs : List Int} (h : Byt bs) : Byt (textOf bs) := by
  intro b hb
  simp only [textOf, List.mem_flatMap, List.mem_cons, List.not_mem_nil, or_false] at hb
  obtain ⟨a, ha, hb⟩ := hb
  have := h a ha
  rcases hb with rfl | rfl <;> exact hexd_byte (by omega) (by omega)
theorem hexd_inj {a b : Int} (h0 : 0 ≤ a) (h1 : a < 16) (h2 : 0 ≤ b) (h3 : b < 16) (h : hexd a = hexd b) : a = b := by
  have h4 := nib_hexd h0 h1
  rw [h, nib_hexd h2 h3] at h4
  exact (Option.some.inj h4).symm
theorem textOf_inj : ∀ (us vs : List Int), Byt us → Byt vs → us.length = vs.length → textOf us = textOf vs → us = vs
  | [], [], _, _, _, _ => rfl
  | [], _ :: _, _, _, hl, _ => by simp at hl
  | _ :: _, [], _, _, hl, _ => by simp at hl
  | a :: us, b :: vs, ha, hb, hl, h => by
    simp only [textOf, List.flatMap_cons, List.cons_append, List.nil_append, List.cons.injEq] at h
    have h1 := ha a (by simp)
    have h2 := hb b (by simp)
    have e1 := hexd_inj (by omega) (by omega) (by omega) (by omega) h.1
    have e2 := hexd_inj (by omega) (by omega) (by omega) (by omega) h.2.1
    have e3 := textOf_inj us vs (fun x hx => ha x (by simp [hx])) (fun x hx => hb x (by simp [hx])) (by simpa using hl) h.2.2
    rw [e3, show a = b by omega]
theorem X_toStr0 {P : Program} {ρ : Env} {w : World} {dst : Option Tmp} {gd : Option (Nat × Bool)} {ty : TypeId} {pos : String} {after : Array Edge} {s t e : TypeId} {x : Operand} (ap : Option Addr) (c : Nat) (xs : List Int) (hs : P.underlying s = some (.slice e)) (he : P.underlying e = some (.int .u8)) (ht : P.underlying t = some .string) (hx : ev ρ x = .slice ap xs.length c)
    (hA : Arr w ap 1 (ints .u8 xs)) (hn : ap = none → xs = []) :
    (execOp (ev ρ) ⟨dst, .convert s t x, ty, pos, after, gd⟩).run P w = .ok (.value (.string (strOfNums xs))) w := by
  cases xs with
  | nil =>
    cases ap with
    | none => exact X_toStr none _ c [] hs he ht hx rfl (fun a h => by cases h) (fun _ => rfl)
    | some a =>
      have h1 := run_convert_bytes_string w s t e (some a) 0 c hs he ht
      have h2 := run_bytesToString (P := P) w a 0 c [] (by simp [loadCells, loadCellsFrom])
      rw [h2] at h1
      simp only [execOp, hx, Sem.run_bind, List.length_nil, h1, Result.andThen_ok]
      rfl
  | cons y ys =>
    refine X_toStr ap _ c (y :: ys) hs he ht hx rfl (fun a ha => ?_) hn
    obtain ⟨b, o, hab, _, _⟩ := hA.cell 0 [.int .u8 y] rfl
    rw [ha] at hab
    refine ⟨b, o, Option.some.inj hab, fun i hi => ?_⟩
    obtain ⟨b2, o2, hab2, _, hc2⟩ := hA.cell i [.int .u8 ((y :: ys)[i])] (by simp only [ints, List.getElem?_map, List.getElem?_eq_getElem hi]; rfl)
    rw [ha, hab] at hab2
    cases Option.some.inj hab2
    have := hc2 0 _ rfl
    simp only [Nat.mul_one, Nat.add_zero] at this
    rw [this, List.getD_eq_getElem?_getD, List.getElem?_eq_getElem hi]
    rfl
theorem Arr.rda {w : World} {ap : Option Addr} {xs : List Int} (h : Arr w ap 1 (ints .u8 xs)) : RdA w ap xs.length := fun j hj => by
  obtain ⟨b, o, ha, hb, hc⟩ := h.cell j [.int .u8 xs[j]] (by simp [ints, hj])
  exact ⟨b, o, xs[j], ha, hb, by have := hc 0 _ rfl; simpa using this⟩
theorem Arr.src {w : World} {a : Option Addr} {l : List Int} (h : Arr w a 1 (ints .u8 l)) : ∀ ad, a = some ad → ∀ j u, (u8s l)[j]? = some u → w.cell? (ad.add j) = some u := by
  intro ad ha j u hu
  have hj := (List.getElem?_eq_some_iff.1 hu).1
  rw [u8s_len] at hj
  obtain ⟨b, o, ha', _, hc⟩ := h.cell j [.int .u8 l[j]] (by simp [ints, hj])
  rw [ha] at ha'
  obtain rfl := Option.some.inj ha'
  have := hc 0 _ rfl
  rw [Addr.add_lit]
  simp only [Nat.mul_one, Nat.add_zero] at this
  rw [this]
  simpa [u8s, hj] using hu
theorem Arr.blk {w : World} {a : Option Addr} {l : List Int} (h : Arr w a 1 (ints .u8 l)) : ∀ ad, a = some ad → 0 < l.length → ad.block < w.heap.size := by
  intro ad ha hl
  obtain ⟨b, o, ha', hb, _⟩ := h.cell 0 [.int .u8 l[0]] (by simp [ints, hl])
  rw [ha] at ha'
  obtain rfl := Option.some.inj ha'
  exact hb
end Go.Proofs.Qxb6500866aDoor
