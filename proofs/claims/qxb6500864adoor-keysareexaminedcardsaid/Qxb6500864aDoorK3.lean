/-
  KeysAreExamined, walked.
-/
import Derived.Test.Qxb6500864aDoorKn
namespace Go.Proofs.Qxb6500864aDoor
set_option linter.unusedSimpArgs false
set_option linter.unusedVariables false
open Go.RowKit

structure OpT where
  kind : Int
  etype : Int
  ka : Option Addr
  kc : Nat
  key : List Int
  usage : Int
  id : Int
  flags : Int
  ec : Int
  rrc : Int
  seq : Int
  ca : Option Addr
  cl : Nat
  cc : Nat
  da : Option Addr
  dl : Nat
  dc : Nat
  off : Int
  val : Int
  acc : Bool
def OpT.cells (x : OpT) : List Value := [.int .i64 x.kind, .int .i64 x.etype, .slice x.ka x.key.length x.kc, .int .u32 x.usage, .int .u16 x.id, .int .u8 x.flags, .int .u16 x.ec, .int .u16 x.rrc, .int .u64 x.seq, .slice x.ca x.cl x.cc, .slice x.da x.dl x.dc, .int .i64 x.off, .int .u8 x.val, .bool x.acc]
theorem OpT.cells_one (x : OpT) : ∀ v ∈ x.cells, v.oneCell' = true := by simp [OpT.cells, Value.oneCell']
structure Script (w : World) (a : Option Addr) (xs : List OpT) : Prop where
  arr : Arr w a 14 (xs.map OpT.cells)
  keys : ∀ x ∈ xs, Arr w x.ka 1 (ints .u8 x.key)
  len : xs.length ≤ 140737488355328
  big : ∀ x ∈ xs, x.key.length ≤ 140737488355328 ∧ x.cl ≤ 140737488355328 ∧ x.dl ≤ 140737488355328
theorem Script.at {w : World} {a : Option Addr} {xs : List OpT} (h : Script w a xs) {i : Nat} {x : OpT} (hi : xs[i]? = some x) :
    ∃ b o, a = some ⟨b, o, none⟩ ∧ b < w.heap.size ∧ ∀ j v, x.cells[j]? = some v → w.cell? ⟨b, o + i * 14 + j, none⟩ = some v :=
  h.arr.cell i x.cells (by simp [hi])
theorem Script.below {w w' : World} {a : Option Addr} {xs : List OpT} (h : Script w a xs) (hb : Below w.heap.size w w') : Script w' a xs :=
  ⟨h.arr.below hb, fun x hx => (h.keys x hx).below hb, h.len, h.big⟩

set_option maxHeartbeats 4000000 in
/-- The size guard. -/
theorem small_ret (a : Option Addr) (c : Nat) (xs : List OpT) (w : World) (hs : Script w a xs) :
    Ret Tryd.prog 4 #[.slice a xs.length c] w fun v w' => ∃ t, v = .bool t ∧ w = w' ∧ (t = true → xs.length ≤ 65536 ∧ ∀ x ∈ xs, x.key.length ≤ 65536) := by
  refine ret_of_T (vs := [.slice a xs.length c]) Tryd.func4 Tryd.ntmps4 rfl (Nat.le_of_ble_eq_true rfl) ?_
  have stop : ∀ ρ k, ρ 2 = .bool false → T Tryd.prog 4 45 (.code .ret :: k) (fun v w' => ∃ t, v = .bool t ∧ w = w' ∧ (t = true → xs.length ≤ 65536 ∧ ∀ x ∈ xs, x.key.length ≤ 65536)) ρ w :=
    fun ρ k h => T_ret1 Tryd.func4 rfl ⟨false, h, rfl, fun h => by cases h⟩
  have hxl := hs.len
  repeat (first | refine T_seq ?_ | refine T_block ?_ | refine T_inBlock ?_ | refine T_skip ?_)
  refine T_region ?_
  refine L_val _ _ (X_assign) rfl ?_
  refine L_nil ?_
  repeat (first | refine T_seq ?_ | refine T_block ?_ | refine T_inBlock ?_ | refine T_skip ?_)
  refine T_region ?_
  refine L_val _ _ (X_move) rfl ?_
  refine L_val _ _ (X_lenS U22 rfl) rfl ?_
  refine L_val _ _ (X_assign) rfl ?_
  refine L_nil ?_
  repeat (first | refine T_seq ?_ | refine T_block ?_ | refine T_inBlock ?_ | refine T_skip ?_)
  refine T_region ?_
  refine L_val _ _ (X_move) rfl ?_
  refine L_val _ _ (X_cmp rfl rfl rfl) rfl ?_
  refine L_nil ?_
  refine T_if rfl (fun ht => ?_) (fun hf => ?_)
  · repeat (first | refine T_seq ?_ | refine T_block ?_ | refine T_inBlock ?_ | refine T_skip ?_)
    refine T_region ?_
    refine L_val _ _ (X_assign) rfl ?_
    refine L_nil ?_
    exact stop _ _ rfl
  have hlen : xs.length ≤ 65536 := by simp [cmpB] at hf; omega
  repeat (first | refine T_seq ?_ | refine T_block ?_ | refine T_inBlock ?_ | refine T_skip ?_)
  refine T_region ?_
  refine L_val _ _ (X_assign) rfl ?_
  refine L_nil ?_
  repeat (first | refine T_seq ?_ | refine T_block ?_ | refine T_inBlock ?_ | refine T_skip ?_)
  refine T_loopS [3, 4, 0] (fun m vs w' => ∃ (nn : Int) (i : Nat), vs = [.int .i64 nn, .int .i64 i, .slice a xs.length c] ∧ w = w' ∧ 0 ≤ nn ∧ nn ≤ 65536 ∧ i ≤ xs.length ∧ m = xs.length - i ∧ ∀ (j : Nat) x, j < i → xs[j]? = some x → x.key.length ≤ 65536) xs.length
    ⟨xs.length, 0, rfl, rfl, by omega, by omega, by omega, by omega, fun j x h => by omega⟩ ?_
  rintro m vs ρ w' ⟨nn, i, rfl, rfl, hn0, hn1, hi, rfl, hsm⟩ ih
  repeat (first | refine T_seq ?_ | refine T_block ?_ | refine T_inBlock ?_ | refine T_skip ?_)
  refine T_region ?_
  refine L_val _ _ (X_move) rfl ?_
  refine L_val _ _ (X_move) rfl ?_
  refine L_val _ _ (X_lenS U22 rfl) rfl ?_
  refine L_val _ _ (X_cmp rfl rfl rfl) rfl ?_
  refine L_nil ?_
  refine T_if rfl (fun ht => ?_) (fun hf => ?_)
  case refine_2 =>
    refine T_exit rfl ?_
    repeat (first | refine T_seq ?_ | refine T_block ?_ | refine T_inBlock ?_ | refine T_skip ?_)
    refine T_region ?_
    refine L_val _ _ (X_assign) rfl ?_
    refine L_nil ?_
    refine T_ret1 Tryd.func4 rfl ⟨true, rfl, rfl, fun _ => ⟨hlen, fun x hx => ?_⟩⟩
    have hge : ¬ i < xs.length := by simpa [cmpB] using hf
    obtain ⟨j, hj⟩ := List.getElem?_of_mem hx
    exact hsm j x (by have := (List.getElem?_eq_some_iff.1 hj).1; omega) hj
  have hlt : i < xs.length := by simpa [cmpB] using ht
  obtain ⟨b, o, rfl, hb, hc⟩ := hs.at (i := i) (x := xs[i]) (by simp)
  obtain ⟨hB1, hB2, hB3⟩ := hs.big xs[i] (by simp)
  generalize hX : xs[i] = X at *
  have hXi : xs[i]? = some X := by rw [← hX]; simp
  repeat (first | refine T_seq ?_ | refine T_block ?_ | refine T_inBlock ?_ | refine T_skip ?_)
  refine T_region ?_
  refine L_val _ _ (X_move) rfl ?_
  refine L_val _ _ (X_move) rfl ?_
  refine L_val _ _ (X_move) rfl ?_
  refine L_val _ _ (X_index U22 S30 rfl rfl hlt) rfl ?_
  refine L_val _ _ (X_field F30_2 rfl) rfl ?_
  refine L_val _ _ (X_load A25 rfl (hc 2 _ rfl)) rfl ?_
  refine L_val _ _ (X_lenS U25 rfl) rfl ?_
  refine L_val _ _ (X_add rfl rfl (by omega) (by omega)) rfl ?_
  refine L_val _ _ (X_assign) rfl ?_
  refine L_nil ?_
  repeat (first | refine T_seq ?_ | refine T_block ?_ | refine T_inBlock ?_ | refine T_skip ?_)
  refine T_region ?_
  refine L_val _ _ (X_move) rfl ?_
  refine L_val _ _ (X_cmp rfl rfl rfl) rfl ?_
  refine L_nil ?_
  refine T_if rfl (fun ht1 => ?_) (fun hf1 => ?_)
  · repeat (first | refine T_seq ?_ | refine T_block ?_ | refine T_inBlock ?_ | refine T_skip ?_)
    refine T_region ?_
    refine L_val _ _ (X_assign) rfl ?_
    refine L_nil ?_
    exact stop _ _ rfl
  have hl1 : nn + X.key.length ≤ 65536 := by simp [cmpB] at hf1; omega
  repeat (first | refine T_seq ?_ | refine T_block ?_ | refine T_inBlock ?_ | refine T_skip ?_)
  refine T_region ?_
  refine L_val _ _ (X_move) rfl ?_
  refine L_val _ _ (X_move) rfl ?_
  refine L_val _ _ (X_move) rfl ?_
  refine L_val _ _ (X_index U22 S30 rfl rfl hlt) rfl ?_
  refine L_val _ _ (X_field F30_9 rfl) rfl ?_
  refine L_val _ _ (X_load A25 rfl (hc 9 _ rfl)) rfl ?_
  refine L_val _ _ (X_lenS U25 rfl) rfl ?_
  refine L_val _ _ (X_add rfl rfl (by omega) (by omega)) rfl ?_
  refine L_val _ _ (X_assign) rfl ?_
  refine L_nil ?_
  repeat (first | refine T_seq ?_ | refine T_block ?_ | refine T_inBlock ?_ | refine T_skip ?_)
  refine T_region ?_
  refine L_val _ _ (X_move) rfl ?_
  refine L_val _ _ (X_cmp rfl rfl rfl) rfl ?_
  refine L_nil ?_
  refine T_if rfl (fun ht1 => ?_) (fun hf1 => ?_)
  · repeat (first | refine T_seq ?_ | refine T_block ?_ | refine T_inBlock ?_ | refine T_skip ?_)
    refine T_region ?_
    refine L_val _ _ (X_assign) rfl ?_
    refine L_nil ?_
    exact stop _ _ rfl
  have hl2 : nn + X.key.length + X.cl ≤ 65536 := by simp [cmpB] at hf1; omega
  repeat (first | refine T_seq ?_ | refine T_block ?_ | refine T_inBlock ?_ | refine T_skip ?_)
  refine T_region ?_
  refine L_val _ _ (X_move) rfl ?_
  refine L_val _ _ (X_move) rfl ?_
  refine L_val _ _ (X_move) rfl ?_
  refine L_val _ _ (X_index U22 S30 rfl rfl hlt) rfl ?_
  refine L_val _ _ (X_field F30_10 rfl) rfl ?_
  refine L_val _ _ (X_load A25 rfl (hc 10 _ rfl)) rfl ?_
  refine L_val _ _ (X_lenS U25 rfl) rfl ?_
  refine L_val _ _ (X_add rfl rfl (by omega) (by omega)) rfl ?_
  refine L_val _ _ (X_assign) rfl ?_
  refine L_nil ?_
  repeat (first | refine T_seq ?_ | refine T_block ?_ | refine T_inBlock ?_ | refine T_skip ?_)
  refine T_region ?_
  refine L_val _ _ (X_move) rfl ?_
  refine L_val _ _ (X_cmp rfl rfl rfl) rfl ?_
  refine L_nil ?_
  refine T_if rfl (fun ht1 => ?_) (fun hf1 => ?_)
  · repeat (first | refine T_seq ?_ | refine T_block ?_ | refine T_inBlock ?_ | refine T_skip ?_)
    refine T_region ?_
    refine L_val _ _ (X_assign) rfl ?_
    refine L_nil ?_
    exact stop _ _ rfl
  have hl3 : nn + X.key.length + X.cl + X.dl ≤ 65536 := by simp [cmpB] at hf1; omega
  repeat (first | refine T_seq ?_ | refine T_block ?_ | refine T_inBlock ?_ | refine T_skip ?_)
  refine T_region ?_
  refine L_val _ _ (X_move) rfl ?_
  refine L_val _ _ (X_add rfl rfl (by omega) (by omega)) rfl ?_
  refine L_val _ _ (X_assign) rfl ?_
  refine L_nil ?_
  refine ih _ _ _ (by omega) ⟨nn + X.key.length + X.cl + X.dl, i + 1, rfl, rfl, by omega, by omega, by omega, rfl, ?_⟩
  intro j x hj hx
  rcases Nat.lt_succ_iff_lt_or_eq.1 hj with h | rfl
  · exact hsm j x h hx
  · rw [hXi] at hx
    cases hx
    omega

/-- What the two variables hold. -/
structure Glob (w : World) (sb so sc : Nat) : Prop where
  sup : SupAt w
  size : 1 < w.heap.size
  srv : w.cell? ⟨0, 0, none⟩ = some (.slice (some ⟨sb, so, none⟩) 6 sc)
  blk : sb < w.heap.size
  cells : ∀ i x, svl[i]? = some x → w.cell? ⟨sb, so + i, none⟩ = some (.int .i64 x)
theorem Glob.below {w w' : World} {sb so sc : Nat} (h : Glob w sb so sc) (hb : Below w.heap.size w w') : Glob w' sb so sc :=
  ⟨fun j v hv => (below_cell hb _ h.size).trans (h.sup j v hv), Nat.lt_of_lt_of_le h.size hb.size, (below_cell hb _ (by have := h.size; omega)).trans h.srv, Nat.lt_of_lt_of_le h.blk hb.size, fun i x hx => (below_cell hb _ h.blk).trans (h.cells i x hx)⟩

theorem err_nil (r : Nat) (hr : r ≤ 2) (x : Tmp) (w : World) : (do eqGuard .neq 33 (.tmp x) (.const .nilIface) (errOf r) .nilIface; binOp .neq 33 (errOf r) .nilIface).run Tryd.prog w = .ok (.bool (decide (r ≠ 0))) w := by
  obtain rfl | rfl | rfl : r = 0 ∨ r = 1 ∨ r = 2 := by omega
  · kernel_rfl
  · kernel_rfl
  · kernel_rfl
theorem X_neqBR {P : Program} {ρ : Env} {w : World} {dst : Option Tmp} {gd : Option (Nat × Bool)} {ty : TypeId} {pos : String} {after : Array Edge} {t t' : TypeId} {x y : Operand} {a b : Bool} (r : Bool) (ht : UN P t .bool) (hx : ev ρ x = .bool a) (hy : ev ρ y = .bool b) (hr : (!(a == b)) = r) :
    (execOp (ev ρ) ⟨dst, .binOp .neq t x y t', ty, pos, after, gd⟩).run P w = .ok (.value (.bool r)) w := by
  rw [X_neqB ht hx hy, hr]
theorem key_ne {k : Nat} (h : k = 16 ∨ k = 32) : ∀ j, j < 5 → ∃ n : Nat, [Value.int .i64 0, .int .i64 ((k : Int) - 1), .int .i64 ((k : Int) + 1), .int .i64 (2 * (k : Int)), .int .i64 (48 - (k : Int))][j]? = some (.int .i64 n) ∧ n ≠ k ∧ n ≤ 64 := by
  rcases h with rfl | rfl
  · intro j hj
    match j, hj with
    | 0, _ => exact ⟨0, rfl, by decide, by decide⟩
    | 1, _ => exact ⟨15, rfl, by decide, by decide⟩
    | 2, _ => exact ⟨17, rfl, by decide, by decide⟩
    | 3, _ => exact ⟨32, rfl, by decide, by decide⟩
    | 4, _ => exact ⟨32, rfl, by decide, by decide⟩
  · intro j hj
    match j, hj with
    | 0, _ => exact ⟨0, rfl, by decide, by decide⟩
    | 1, _ => exact ⟨31, rfl, by decide, by decide⟩
    | 2, _ => exact ⟨33, rfl, by decide, by decide⟩
    | 3, _ => exact ⟨64, rfl, by decide, by decide⟩
    | 4, _ => exact ⟨16, rfl, by decide, by decide⟩
theorem svl_sz {x : Int} (h : x ∈ svl) : (look x).isSome = true ∧ svd x = true ∧ ((szOf x).1 = 16 ∨ (szOf x).1 = 32) := by
  simp only [svl, List.mem_cons, List.not_mem_nil, or_false] at h
  rcases h with rfl | rfl | rfl | rfl | rfl | rfl <;> decide

set_option maxHeartbeats 8000000 in
set_option maxRecDepth 10000 in
/-- tokenlaw.KeysAreExamined -/
theorem law_ret (a : Option Addr) (c : Nat) (xs : List OpT) (w : World) (hs : Script w a xs) (sb so sc : Nat) (hG : Glob w sb so sc) :
    Ret Tryd.prog 3 #[.slice a xs.length c] w fun v w' => v = .bool true ∧ Below w.heap.size w w' := by
  refine ret_of_T (vs := [.slice a xs.length c]) Tryd.func3 Tryd.ntmps3 rfl (Nat.le_of_ble_eq_true rfl) ?_
  repeat (first | refine T_seq ?_ | refine T_block ?_ | refine T_inBlock ?_ | refine T_skip ?_)
  refine T_region ?_
  refine L_val _ _ (X_assign) rfl ?_
  refine L_nil ?_
  repeat (first | refine T_seq ?_ | refine T_block ?_ | refine T_inBlock ?_ | refine T_skip ?_)
  refine T_region ?_
  refine L_val _ _ (X_move) rfl ?_
  refine L_callF [.slice a xs.length c] E4 rfl rfl (small_ret a c xs w hs) ?_
  rintro v w1 ⟨t, rfl, rfl, hsmall⟩
  refine L_val _ _ (X_not rfl) rfl ?_
  refine L_nil ?_
  cases t with
  | false =>
    refine T_true rfl ?_
    repeat (first | refine T_seq ?_ | refine T_block ?_ | refine T_inBlock ?_ | refine T_skip ?_)
    refine T_region ?_
    refine L_val _ _ (X_assign) rfl ?_
    refine L_nil ?_
    exact T_ret1 Tryd.func3 rfl ⟨rfl, Below.refl _ _⟩
  | true =>
  obtain ⟨hxl, hxs⟩ := hsmall rfl
  refine T_false rfl ?_
  repeat (first | refine T_seq ?_ | refine T_block ?_ | refine T_inBlock ?_ | refine T_skip ?_)
  refine T_region ?_
  refine L_val _ _ (X_move) rfl ?_
  refine L_val _ _ (X_lenS U22 rfl) rfl ?_
  refine L_val _ _ (X_move) rfl ?_
  refine L_nil ?_
  repeat (first | refine T_seq ?_ | refine T_block ?_ | refine T_inBlock ?_ | refine T_skip ?_)
  refine T_loopS [30, 29, 28] (fun m vs x => ∃ i : Nat, vs = [.int .i64 i, .int .i64 xs.length, .slice a xs.length c] ∧ i ≤ xs.length ∧ m = xs.length - i ∧ Below w.heap.size w x) xs.length ⟨0, rfl, by omega, rfl, Below.refl _ _⟩ ?_
  rintro m vs ρ x ⟨i, rfl, hi, rfl, bx⟩ ih
  repeat (first | refine T_seq ?_ | refine T_block ?_ | refine T_inBlock ?_ | refine T_skip ?_)
  refine T_region ?_
  refine L_val _ _ (X_cmp rfl rfl rfl) rfl ?_
  refine L_nil ?_
  repeat (first | refine T_seq ?_ | refine T_block ?_ | refine T_inBlock ?_ | refine T_skip ?_)
  refine T_if rfl (fun ht => ?_) (fun hf => ?_)
  case refine_2 =>
    refine T_exit rfl ?_
    repeat (first | refine T_seq ?_ | refine T_block ?_ | refine T_inBlock ?_ | refine T_skip ?_)
    refine T_region ?_
    refine L_val _ _ (X_assign) rfl ?_
    refine L_nil ?_
    exact T_ret1 Tryd.func3 rfl ⟨rfl, bx⟩
  have hlt : i < xs.length := by simpa [cmpB] using ht
  have hox := hs.below bx
  obtain ⟨p, q, rfl, hp, hc⟩ := hox.at (i := i) (x := xs[i]) (by simp)
  have hkey := hs.keys xs[i] (by simp)
  have hkl := hxs xs[i] (by simp)
  generalize xs[i] = X at *
  have sx := bx.size
  repeat (first | refine T_seq ?_ | refine T_block ?_ | refine T_inBlock ?_ | refine T_skip ?_)
  refine T_region ?_
  refine L_val _ _ (X_index U22 S30 rfl rfl hlt) rfl ?_
  refine L_val _ _ (X_loadAgg X.cells A30 S30 rfl rfl hc) rfl ?_
  refine L_alloc Z30 rfl fun w2 h2 => ?_
  refine L_storeAll X.cells S30 rfl rfl rfl (OpT.cells_one _) h2.new rfl fun w3 h3 => ?_
  refine L_nil ?_
  have h23 := h2.trans h3
  have b3 : Below w.heap.size w w3 := h23.below bx sx
  have k4 : Blk w3 x.heap.size X.cells.toArray 30 := h23.new
  clear h2 h3 h23 hc hox
  generalize x.heap.size = B4 at *
  repeat (first | refine T_seq ?_ | refine T_block ?_ | refine T_inBlock ?_ | refine T_skip ?_)
  refine T_region ?_
  refine L_val _ _ (X_field F30_1 rfl) rfl ?_
  refine L_val _ _ (X_load A3 rfl (gblk k4 1 rfl)) rfl ?_
  refine L_val _ _ (X_field F30_2 rfl) rfl ?_
  refine L_val _ _ (X_load A25 rfl (gblk k4 2 rfl)) rfl ?_
  refine L_callF [.int .i64 X.etype, .slice X.ka X.key.length X.kc] E5 rfl rfl (new_ret X.etype X.ka X.kc X.key w3 (hG.below b3).sup (hG.below b3).size (hkey.below b3) hkl) ?_
  rintro v w4 ⟨pv, rfl, b4, hp0, hp1⟩
  refine L_val _ _ (X_move) rfl ?_
  refine L_val _ _ (X_extract rfl rfl) rfl ?_
  refine L_val _ _ (X_extract rfl rfl) rfl ?_
  refine L_val _ _ (X_assign) rfl ?_
  refine L_val _ _ (X_assign) rfl ?_
  refine L_nil ?_
  have s3 := b3.size
  have s4 := b4.size
  have k44 := below_blk b4 k4 k4.lt
  have b4w : Below w.heap.size w w4 := b3.trans (b4.mono s3)
  have hr := newErr_le X.etype X.key.length
  have hpn : ∀ x y w, (do eqGuard .eql 31 x y pv (.pointer none); binOp .eql 31 pv (.pointer none)).run Tryd.prog w = .ok (.bool (decide (newErr X.etype X.key.length ≠ 0))) w := by
    intro x y w
    by_cases h0 : newErr X.etype X.key.length = 0
    · obtain ⟨b, kv, rfl, _, _⟩ := hp1 h0
      rw [h0]
      kernel_rfl
    · rw [hp0 h0, decide_eq_true h0]
      kernel_rfl
  have hst := status_ret _ hr
  have hen := fun x w => err_nil _ hr x w
  have hck := fun z => check_ret X.etype X.ka X.key.length X.kc z
  generalize newErr X.etype X.key.length = r at *
  repeat (first | refine T_seq ?_ | refine T_block ?_ | refine T_inBlock ?_ | refine T_skip ?_)
  have hin : Below w4.heap.size w4 w4.drew := (sm_drew w4).below (Below.refl _ _)
  refine T_quiet (fun z => Below w4.heap.size w4 z) rfl (by kernel_rfl) (hin) ?_
  refine LQ_val _ (fun w hw => X_move) rfl ?_
  refine LQ_callF [errOf r] (.int .i64 (stOf r)) E6 rfl rfl (fun w hw => (hst w).mono fun u w' hu => ⟨hu.1, hu.2 ▸ hw⟩) ?_
  refine LQ_val _ (fun w hw => X_field F30_1 rfl) rfl ?_
  refine LQ_val _ (fun w hw => X_load A3 rfl (gblk (below_blk hw k44 k44.lt) 1 rfl)) rfl ?_
  refine LQ_val _ (fun w hw => X_field F30_2 rfl) rfl ?_
  refine LQ_val _ (fun w hw => X_load A25 rfl (gblk (below_blk hw k44 k44.lt) 2 rfl)) rfl ?_
  refine LQ_callF [.int .i64 X.etype, .slice X.ka X.key.length X.kc] (.int .i64 (stOf r)) E7 rfl rfl (fun w hw => (hck w).mono fun u w' hu => ⟨hu.1, hw.trans (hu.2.mono hw.size)⟩) ?_
  refine LQ_val _ (fun w hw => X_cmpR false rfl rfl rfl (bne_self_eq_false _)) rfl ?_
  refine LQ_val _ (fun w hw => X_move) rfl ?_
  refine LQ_guard rfl rfl rfl ?_
  refine LQ_val _ (fun w hw => X_move) rfl ?_
  refine LQ_guard rfl rfl rfl ?_
  refine LQ_val _ (fun w hw => X_eq (hpn _ _ w)) rfl ?_
  refine LQ_guard rfl rfl rfl ?_
  refine LQ_val _ (fun w hw => X_move) rfl ?_
  refine LQ_guard rfl rfl rfl ?_
  refine LQ_val _ (fun w hw => X_neq (hen _ w)) rfl ?_
  refine LQ_guard rfl rfl rfl ?_
  refine LQ_val _ (fun w hw => X_neqBR false U4 rfl rfl (by simp)) rfl ?_
  refine LQ_val _ (fun w hw => X_pick rfl) rfl ?_
  refine LQ_nil fun w5 b5 => ?_
  refine T_false rfl ?_
  have s5 := b5.size
  have k45 := below_blk b5 k44 k44.lt
  have b5w : Below w.heap.size w w5 := b4w.trans (b5.mono (by omega))
  clear b5 k44 b4w hin hck hen hst hpn hp0 hp1 hr b4 k4 b3
  have sw5 := b5w.size
  repeat (first | refine T_seq ?_ | refine T_block ?_ | refine T_inBlock ?_ | refine T_skip ?_)
  refine T_region ?_
  refine L_buildSlice #[.int .i64 16, .int .i64 23] 3 (by kernel_rfl) rfl fun w6 h6 => ?_
  refine L_val _ _ (X_lenS U39 rfl) rfl ?_
  refine L_val _ _ (X_move) rfl ?_
  refine L_nil ?_
  have kL : Blk w6 w5.heap.size [Value.int .i64 16, .int .i64 23].toArray 3 := h6.new
  have k46 : Blk w6 B4 X.cells.toArray 30 := h6.blk k45 (by have := k45.lt; omega)
  have b6w : Below w.heap.size w w6 := h6.below b5w sw5
  clear h6 k45 b5w
  generalize w5.heap.size = BL at *
  repeat (first | refine T_seq ?_ | refine T_block ?_ | refine T_inBlock ?_ | refine T_skip ?_)
  refine T_loopS [59, 58, 57, 4, 30, 29, 28] (fun m vs y => ∃ t : Nat, vs = [.int .i64 t, .int .i64 2, .slice (some ⟨BL, 0, none⟩) 2 2, .pointer (some ⟨B4, 0, none⟩), .int .i64 i, .int .i64 xs.length, .slice (some ⟨p, q, none⟩) xs.length c] ∧ t ≤ 2 ∧ m = 2 - t ∧ Below w.heap.size w y ∧ Blk y BL [Value.int .i64 16, .int .i64 23].toArray 3 ∧ Blk y B4 X.cells.toArray 30) 2
    ⟨0, rfl, by omega, rfl, b6w, kL, k46⟩ ?_
  clear kL k46 b6w
  rintro m vs ρ1 y ⟨t, rfl, htl, rfl, by_, kL, k4⟩ ih1
  have sy := by_.size
  have zL := kL.lt
  have z4 := k4.lt
  repeat (first | refine T_seq ?_ | refine T_block ?_ | refine T_inBlock ?_ | refine T_skip ?_)
  refine T_region ?_
  refine L_val _ _ (X_cmp rfl rfl rfl) rfl ?_
  refine L_nil ?_
  repeat (first | refine T_seq ?_ | refine T_block ?_ | refine T_inBlock ?_ | refine T_skip ?_)
  refine T_if rfl (fun ht1 => ?_) (fun hf1 => ?_)
  case refine_2 =>
    refine T_exit rfl ?_
    repeat (first | refine T_seq ?_ | refine T_block ?_ | refine T_inBlock ?_ | refine T_skip ?_)
    have hGy := hG.below by_
    refine T_region ?_
    refine L_val _ _ (X_load A39 rfl (hGy.srv)) rfl ?_
    refine L_val _ _ (X_lenS U39 rfl) rfl ?_
    refine L_val _ _ (X_move) rfl ?_
    refine L_nil ?_
    repeat (first | refine T_seq ?_ | refine T_block ?_ | refine T_inBlock ?_ | refine T_skip ?_)
    refine T_loopS [102, 101, 100, 4, 30, 29, 28] (fun m vs y => ∃ t : Nat, vs = [.int .i64 t, .int .i64 6, .slice (some ⟨sb, so, none⟩) 6 sc, .pointer (some ⟨B4, 0, none⟩), .int .i64 i, .int .i64 xs.length, .slice (some ⟨p, q, none⟩) xs.length c] ∧ t ≤ 6 ∧ m = 6 - t ∧ Below w.heap.size w y ∧ Blk y B4 X.cells.toArray 30) 6
      ⟨0, rfl, by omega, rfl, by_, k4⟩ ?_
    clear hGy by_ k4 kL z4 zL sy
    rintro m vs ρ2 y ⟨t, rfl, htl, rfl, by_, k4⟩ ih2
    have sy := by_.size
    have z4 := k4.lt
    repeat (first | refine T_seq ?_ | refine T_block ?_ | refine T_inBlock ?_ | refine T_skip ?_)
    refine T_region ?_
    refine L_val _ _ (X_cmp rfl rfl rfl) rfl ?_
    refine L_nil ?_
    repeat (first | refine T_seq ?_ | refine T_block ?_ | refine T_inBlock ?_ | refine T_skip ?_)
    refine T_if rfl (fun ht2 => ?_) (fun hf2 => ?_)
    case refine_2 =>
      refine T_exit rfl ?_
      repeat (first | refine T_seq ?_ | refine T_block ?_ | refine T_inBlock ?_ | refine T_skip ?_)
      refine T_region ?_
      refine L_val _ _ (X_add rfl rfl (by omega) (by omega)) rfl ?_
      refine L_val _ _ (X_move) rfl ?_
      refine L_nil ?_
      exact ih _ _ _ (by omega) ⟨i + 1, rfl, by omega, rfl, by_⟩
    have hlt2 : t < 6 := by simp [cmpB] at ht2; omega
    have hGy := hG.below by_
    have hx0 : svl[t]? = some svl[t] := by simp [svl]
    have hxm : svl[t] ∈ svl := List.mem_of_getElem? hx0
    have hcx := hGy.cells t _ hx0
    generalize svl[t] = E at *
    obtain ⟨hE1, hE2, hE3⟩ := svl_sz hxm
    have hcx' : y.cell? ⟨sb, so + t * 1, none⟩ = some (.int .i64 E) := by rw [Nat.mul_one]; exact hcx
    repeat (first | refine T_seq ?_ | refine T_block ?_ | refine T_inBlock ?_ | refine T_skip ?_)
    refine T_region ?_
    refine L_val _ _ (X_index U39 S3 rfl rfl hlt2) rfl ?_
    refine L_val _ _ (X_load A3 rfl (hcx')) rfl ?_
    refine L_val _ _ (X_assign) rfl ?_
    refine L_nil ?_
    repeat (first | refine T_seq ?_ | refine T_block ?_ | refine T_inBlock ?_ | refine T_skip ?_)
    refine T_region ?_
    refine L_val _ _ (X_move) rfl ?_
    refine L_callF [.int .i64 E] E8 rfl rfl (lookup_ret E y) ?_
    rintro v u1 ⟨rfl, v1⟩
    refine L_val _ _ (X_move) rfl ?_
    refine L_val _ _ (X_extract rfl rfl) rfl ?_
    refine L_val _ _ (X_extract rfl rfl) rfl ?_
    refine L_alloc Z41 rfl fun u2 v2 => ?_
    refine L_storeAll (scells (szOf E)) S41 rfl rfl rfl (scells_one _) v2.new rfl fun u3 v3 => ?_
    refine L_val _ _ (X_assign) rfl ?_
    refine L_nil ?_
    have v23 := v2.trans v3
    have su1 := v1.size
    have bu3 : Below y.heap.size y u3 := v23.below v1 su1
    have k17 : Blk u3 u1.heap.size (scells (szOf E)).toArray 41 := v23.new
    have su3 := v23.size
    have zu3 := v23.lt
    have k4u := below_blk bu3 k4 z4
    have bw3 : Below w.heap.size w u3 := by_.trans (bu3.mono sy)
    clear v1 v2 v3 v23
    generalize u1.heap.size = B17 at *
    have hfit := fit_ret X.ka X.kc X.key (szOf E).1 u3 (hkey.below bw3) hkl (by omega)
    repeat (first | refine T_seq ?_ | refine T_block ?_ | refine T_inBlock ?_ | refine T_skip ?_)
    refine T_region ?_
    refine L_val _ _ (X_move) rfl ?_
    refine L_val _ _ (X_field F30_2 rfl) rfl ?_
    refine L_val _ _ (X_load A25 rfl (gblk k4u 2 rfl)) rfl ?_
    refine L_val _ _ (X_field F41_0 rfl) rfl ?_
    refine L_val _ _ (X_load A3 rfl (gblk k17 0 rfl)) rfl ?_
    refine L_callF [.slice X.ka X.key.length X.kc, .int .i64 (szOf E).1] E9 rfl rfl hfit ?_
    rintro v u4 ⟨fb, bs, rfl, hbl, kf, hfb, bu4⟩
    have bw4 : Below w.heap.size w u4 := bw3.trans (bu4.mono bw3.size)
    have hnew := new_ret E (some ⟨fb, 0, none⟩) (szOf E).1 bs u4 (hG.below bw4).sup (hG.below bw4).size (arr_of_blk kf) (by omega)
    have hne : newErr E bs.length = 0 := by simp [newErr, hE1, hE2, hbl]
    rw [hne, hbl] at hnew
    refine L_callF [.int .i64 E, .slice (some ⟨fb, 0, none⟩) (szOf E).1 (szOf E).1] E5 rfl rfl hnew ?_
    rintro v u5 ⟨pv, rfl, bu5, -, hpv⟩
    obtain ⟨cb, kv, rfl, hcb, kc⟩ := hpv rfl
    refine L_val _ _ (X_move) rfl ?_
    refine L_val _ _ (X_extract rfl rfl) rfl ?_
    refine L_val _ _ (X_extract rfl rfl) rfl ?_
    refine L_val _ _ (X_assign) rfl ?_
    refine L_val _ _ (X_assign) rfl ?_
    refine L_nil ?_
    have su4 := bu4.size
    have su5 := bu5.size
    have k17' := below_blk bu5 (below_blk bu4 k17 k17.lt) (by omega)
    have k4' := below_blk bu5 (below_blk bu4 k4u k4u.lt) (by have := k4u.lt; omega)
    have bw5 : Below w.heap.size w u5 := bw4.trans (bu5.mono bw4.size)
    have hG5 := hG.below bw5
    have hin : Below u5.heap.size u5 u5.drew := (sm_drew u5).below (Below.refl _ _)
    repeat (first | refine T_seq ?_ | refine T_block ?_ | refine T_inBlock ?_ | refine T_skip ?_)
    refine T_quiet (fun z => Below u5.heap.size u5 z) rfl (by kernel_rfl) (hin) ?_
    refine LQ_val _ (fun w hw => X_move) rfl ?_
    refine LQ_val _ (fun w hw => X_neq (b := false) (by kernel_rfl)) rfl ?_
    refine LQ_val _ (fun w hw => X_move) rfl ?_
    refine LQ_guard rfl rfl rfl ?_
    refine LQ_val _ (fun w hw => X_move) rfl ?_
    refine LQ_guard rfl rfl rfl ?_
    refine LQ_callF [.int .i64 E] (.bool true) E10 rfl rfl (fun w hw => (sup_ret E w (hG5.below hw).sup).mono fun u w' hu => ⟨hu.1.trans (by rw [hE2]), hu.2 ▸ hw⟩) ?_
    refine LQ_guard rfl rfl rfl ?_
    refine LQ_val _ (fun w hw => X_not rfl) rfl ?_
    refine LQ_val _ (fun w hw => X_pick rfl) rfl ?_
    refine LQ_val _ (fun w hw => X_move) rfl ?_
    refine LQ_guard rfl rfl rfl ?_
    refine LQ_val _ (fun w hw => X_move) rfl ?_
    refine LQ_guard rfl rfl rfl ?_
    refine LQ_callF [.pointer (some ⟨cb, 0, none⟩)] (.int .i64 E) E11 rfl rfl (fun w hw => (etype_ret E kv (szOf E) cb w (below_blk hw kc kc.lt)).mono fun u w' hu => ⟨hu.1, hu.2 ▸ hw⟩) ?_
    refine LQ_guard rfl rfl rfl ?_
    refine LQ_val _ (fun w hw => X_move) rfl ?_
    refine LQ_guard rfl rfl rfl ?_
    refine LQ_val _ (fun w hw => X_cmpR false rfl rfl rfl (bne_self_eq_false _)) rfl ?_
    refine LQ_val _ (fun w hw => X_pick rfl) rfl ?_
    refine LQ_val _ (fun w hw => X_move) rfl ?_
    refine LQ_guard rfl rfl rfl ?_
    refine LQ_val _ (fun w hw => X_move) rfl ?_
    refine LQ_guard rfl rfl rfl ?_
    refine LQ_callF [.pointer (some ⟨cb, 0, none⟩)] (.int .i64 (szOf E).2.2.2) E12 rfl rfl (fun w hw => (sum_ret E kv (szOf E) cb w (below_blk hw kc kc.lt)).mono fun u w' hu => ⟨hu.1, hu.2 ▸ hw⟩) ?_
    refine LQ_guard rfl rfl rfl ?_
    refine LQ_val _ (fun w hw => X_field F41_3 rfl) rfl ?_
    refine LQ_guard rfl rfl rfl ?_
    refine LQ_val _ (fun w hw => X_load A3 rfl (gblk (below_blk hw k17' k17'.lt) 3 rfl)) rfl ?_
    refine LQ_guard rfl rfl rfl ?_
    refine LQ_val _ (fun w hw => X_cmpR false rfl rfl rfl (bne_self_eq_false _)) rfl ?_
    refine LQ_val _ (fun w hw => X_pick rfl) rfl ?_
    refine LQ_val _ (fun w hw => X_move) rfl ?_
    refine LQ_guard rfl rfl rfl ?_
    refine LQ_val _ (fun w hw => X_move) rfl ?_
    refine LQ_guard rfl rfl rfl ?_
    refine LQ_callF [.pointer (some ⟨cb, 0, none⟩)] (.int .i64 (szOf E).2.1) E13 rfl rfl (fun w hw => (conf_ret E kv (szOf E) cb w (below_blk hw kc kc.lt)).mono fun u w' hu => ⟨hu.1, hu.2 ▸ hw⟩) ?_
    refine LQ_guard rfl rfl rfl ?_
    refine LQ_val _ (fun w hw => X_field F41_1 rfl) rfl ?_
    refine LQ_guard rfl rfl rfl ?_
    refine LQ_val _ (fun w hw => X_load A3 rfl (gblk (below_blk hw k17' k17'.lt) 1 rfl)) rfl ?_
    refine LQ_guard rfl rfl rfl ?_
    refine LQ_val _ (fun w hw => X_cmpR false rfl rfl rfl (bne_self_eq_false _)) rfl ?_
    refine LQ_val _ (fun w hw => X_pick rfl) rfl ?_
    refine LQ_nil fun u6 bu6 => ?_
    refine T_false rfl ?_
    have k176 := below_blk bu6 k17' k17'.lt
    have k46 := below_blk bu6 k4' k4'.lt
    have bw6 : Below w.heap.size w u6 := bw5.trans (bu6.mono bw5.size)
    have hkn := key_ne hE3
    have hnk : ∀ n : Nat, n ≠ (szOf E).1 → newErr E n = 2 := fun n hn => by simp [newErr, hE1, hE2, hn]
    repeat (first | refine T_seq ?_ | refine T_block ?_ | refine T_inBlock ?_ | refine T_skip ?_)
    refine T_region ?_
    refine L_val _ _ (X_field F41_0 rfl) rfl ?_
    refine L_val _ _ (X_load A3 rfl (gblk k176 0 rfl)) rfl ?_
    refine L_val _ _ (X_sub rfl rfl (by omega) (by omega)) rfl ?_
    refine L_val _ _ (X_field F41_0 rfl) rfl ?_
    refine L_val _ _ (X_load A3 rfl (gblk k176 0 rfl)) rfl ?_
    refine L_val _ _ (X_add rfl rfl (by omega) (by omega)) rfl ?_
    refine L_val _ _ (X_field F41_0 rfl) rfl ?_
    refine L_val _ _ (X_load A3 rfl (gblk k176 0 rfl)) rfl ?_
    refine L_val _ _ (X_mul rfl rfl (by omega) (by omega)) rfl ?_
    refine L_val _ _ (X_field F41_0 rfl) rfl ?_
    refine L_val _ _ (X_load A3 rfl (gblk k176 0 rfl)) rfl ?_
    refine L_val _ _ (X_sub rfl rfl (by omega) (by omega)) rfl ?_
    refine L_buildSlice [Value.int .i64 0, .int .i64 (((szOf E).1 : Int) - 1), .int .i64 (((szOf E).1 : Int) + 1), .int .i64 (2 * ((szOf E).1 : Int)), .int .i64 (48 - ((szOf E).1 : Int))].toArray 3 (by kernel_rfl) rfl fun u7 h7 => ?_
    refine L_val _ _ (X_lenS U39 rfl) rfl ?_
    refine L_val _ _ (X_move) rfl ?_
    refine L_nil ?_
    have su6 := bu6.size
    have sw6 := bw6.size
    have kN : Blk u7 u6.heap.size [Value.int .i64 0, .int .i64 (((szOf E).1 : Int) - 1), .int .i64 (((szOf E).1 : Int) + 1), .int .i64 (2 * ((szOf E).1 : Int)), .int .i64 (48 - ((szOf E).1 : Int))].toArray 3 := h7.new
    have k47 : Blk u7 B4 X.cells.toArray 30 := h7.blk k46 (by have := k46.lt; omega)
    have bw7 : Below w.heap.size w u7 := h7.below bw6 sw6
    clear h7
    repeat (first | refine T_seq ?_ | refine T_block ?_ | refine T_inBlock ?_ | refine T_skip ?_)
    refine T_loopS [162, 161, 160, 16, 102, 101, 100, 4, 30, 29, 28] (fun m vs y => ∃ s : Nat, vs = [.int .i64 s, .int .i64 5, .slice (some ⟨u6.heap.size, 0, none⟩) 5 5, .int .i64 E, .int .i64 t, .int .i64 6, .slice (some ⟨sb, so, none⟩) 6 sc, .pointer (some ⟨B4, 0, none⟩), .int .i64 i, .int .i64 xs.length, .slice (some ⟨p, q, none⟩) xs.length c] ∧ s ≤ 5 ∧ m = 5 - s ∧ Below w.heap.size w y ∧ Blk y B4 X.cells.toArray 30 ∧
      Blk y u6.heap.size [Value.int .i64 0, .int .i64 (((szOf E).1 : Int) - 1), .int .i64 (((szOf E).1 : Int) + 1), .int .i64 (2 * ((szOf E).1 : Int)), .int .i64 (48 - ((szOf E).1 : Int))].toArray 3) 5
      ⟨0, rfl, by omega, rfl, bw7, k47, kN⟩ ?_
    rintro m vs ρ3 z ⟨s, rfl, hsl, rfl, bz, kz4, kzN⟩ ih3
    have sz := bz.size
    repeat (first | refine T_seq ?_ | refine T_block ?_ | refine T_inBlock ?_ | refine T_skip ?_)
    refine T_region ?_
    refine L_val _ _ (X_cmp rfl rfl rfl) rfl ?_
    refine L_nil ?_
    repeat (first | refine T_seq ?_ | refine T_block ?_ | refine T_inBlock ?_ | refine T_skip ?_)
    refine T_if rfl (fun ht3 => ?_) (fun hf3 => ?_)
    case refine_2 =>
      refine T_exit rfl ?_
      repeat (first | refine T_seq ?_ | refine T_block ?_ | refine T_inBlock ?_ | refine T_skip ?_)
      refine T_region ?_
      refine L_val _ _ (X_add rfl rfl (by omega) (by omega)) rfl ?_
      refine L_val _ _ (X_move) rfl ?_
      refine L_nil ?_
      exact ih2 _ _ _ (by omega) ⟨t + 1, rfl, by omega, rfl, bz, kz4⟩
    have hlt3 : s < 5 := by simp [cmpB] at ht3; omega
    obtain ⟨nn, hnn, hnk2, hn64⟩ := hkn s hlt3
    have hcn : z.cell? ⟨u6.heap.size, 0 + s * 1, none⟩ = some (.int .i64 nn) := by
      rw [Nat.mul_one, Nat.zero_add]; exact gblk kzN s hnn
    have hfit2 := fit_ret X.ka X.kc X.key nn z (hkey.below bz) hkl hn64
    repeat (first | refine T_seq ?_ | refine T_block ?_ | refine T_inBlock ?_ | refine T_skip ?_)
    refine T_region ?_
    refine L_val _ _ (X_index U39 S3 rfl rfl hlt3) rfl ?_
    refine L_val _ _ (X_load A3 rfl (hcn)) rfl ?_
    refine L_val _ _ (X_assign) rfl ?_
    refine L_nil ?_
    repeat (first | refine T_seq ?_ | refine T_block ?_ | refine T_inBlock ?_ | refine T_skip ?_)
    refine T_region ?_
    refine L_val _ _ (X_move) rfl ?_
    refine L_val _ _ (X_field F30_2 rfl) rfl ?_
    refine L_val _ _ (X_load A25 rfl (gblk kz4 2 rfl)) rfl ?_
    refine L_val _ _ (X_move) rfl ?_
    refine L_callF [.slice X.ka X.key.length X.kc, .int .i64 nn] E9 rfl rfl hfit2 ?_
    rintro v z1 ⟨fb2, bs2, rfl, hbl2, kf2, hfb2, bz1⟩
    have bzw1 : Below w.heap.size w z1 := bz.trans (bz1.mono sz)
    have hnew2 := new_ret E (some ⟨fb2, 0, none⟩) nn bs2 z1 (hG.below bzw1).sup (hG.below bzw1).size (arr_of_blk kf2) (by omega)
    rw [hbl2, hnk nn hnk2] at hnew2
    refine L_callF [.int .i64 E, .slice (some ⟨fb2, 0, none⟩) nn nn] E5 rfl rfl hnew2 ?_
    rintro v z2 ⟨pv2, rfl, bz2, -, -⟩
    refine L_val _ _ (X_move) rfl ?_
    refine L_val _ _ (X_extract rfl rfl) rfl ?_
    refine L_val _ _ (X_extract rfl rfl) rfl ?_
    refine L_val _ _ (X_assign) rfl ?_
    refine L_val _ _ (X_assign) rfl ?_
    refine L_nil ?_
    have sz1 := bz1.size
    repeat (first | refine T_seq ?_ | refine T_block ?_ | refine T_inBlock ?_ | refine T_skip ?_)
    refine T_region ?_
    refine L_val _ _ (X_move) rfl ?_
    refine L_val _ _ (X_mkIface U46 (by simp)) rfl ?_
    refine L_val _ _ (X_neq (b := false) (by kernel_rfl)) rfl ?_
    refine L_nil ?_
    refine T_false rfl ?_
    repeat (first | refine T_seq ?_ | refine T_block ?_ | refine T_inBlock ?_ | refine T_skip ?_)
    refine T_region ?_
    refine L_val _ _ (X_add rfl rfl (by omega) (by omega)) rfl ?_
    refine L_val _ _ (X_move) rfl ?_
    refine L_nil ?_
    exact ih3 _ _ _ (by omega) ⟨s + 1, rfl, by omega, rfl, bzw1.trans (bz2.mono bzw1.size), below_blk bz2 (below_blk bz1 kz4 kz4.lt) (by have := kz4.lt; omega), below_blk bz2 (below_blk bz1 kzN kzN.lt) (by have := kzN.lt; omega)⟩
  have hlt1 : t < 2 := by simp [cmpB] at ht1; omega
  obtain ⟨E, hE, hE1, hE2, hE3⟩ : ∃ E : Int, [Value.int .i64 16, .int .i64 23][t]? = some (.int .i64 E) ∧ svd E = false ∧ (szOf E).1 ≤ 64 ∧ ∀ l, newErr E l = 1 := by
    match t, hlt1 with
    | 0, _ => exact ⟨16, rfl, by decide, by decide, fun l => by simp [newErr, svd, svl]⟩
    | 1, _ => exact ⟨23, rfl, by decide, by decide, fun l => by simp [newErr, svd, svl]⟩
  have hcE : y.cell? ⟨BL, 0 + t * 1, none⟩ = some (.int .i64 E) := by
    rw [Nat.mul_one, Nat.zero_add]; exact gblk kL t hE
  repeat (first | refine T_seq ?_ | refine T_block ?_ | refine T_inBlock ?_ | refine T_skip ?_)
  refine T_region ?_
  refine L_val _ _ (X_index U39 S3 rfl rfl hlt1) rfl ?_
  refine L_val _ _ (X_load A3 rfl (hcE)) rfl ?_
  refine L_val _ _ (X_assign) rfl ?_
  refine L_nil ?_
  repeat (first | refine T_seq ?_ | refine T_block ?_ | refine T_inBlock ?_ | refine T_skip ?_)
  refine T_region ?_
  refine L_val _ _ (X_move) rfl ?_
  refine L_callF [.int .i64 E] E8 rfl rfl (lookup_ret E y) ?_
  rintro v u1 ⟨rfl, v1⟩
  refine L_val _ _ (X_move) rfl ?_
  refine L_val _ _ (X_extract rfl rfl) rfl ?_
  refine L_val _ _ (X_extract rfl rfl) rfl ?_
  refine L_alloc Z41 rfl fun u2 v2 => ?_
  refine L_storeAll (scells (szOf E)) S41 rfl rfl rfl (scells_one _) v2.new rfl fun u3 v3 => ?_
  refine L_val _ _ (X_assign) rfl ?_
  refine L_nil ?_
  have v23 := v2.trans v3
  have su1 := v1.size
  have bu3 : Below y.heap.size y u3 := v23.below v1 su1
  have k9 : Blk u3 u1.heap.size (scells (szOf E)).toArray 41 := v23.new
  have su3 := v23.size
  have zu3 := v23.lt
  have k4u := below_blk bu3 k4 z4
  have kLu := below_blk bu3 kL zL
  have bw3 : Below w.heap.size w u3 := by_.trans (bu3.mono sy)
  have sw3 := bw3.size
  clear v1 v2 v3 v23
  generalize u1.heap.size = B9 at *
  repeat (first | refine T_seq ?_ | refine T_block ?_ | refine T_inBlock ?_ | refine T_skip ?_)
  refine T_draw (fun z => Below u3.heap.size u3 z) 10 rfl rfl fun u4 hsm => ?_
  have hS : Below u3.heap.size u3 u4 := hsm.below (Below.refl _ _)
  refine D_take 0 _ rfl (by kernel_rfl) hS (fun w hw => X_field F30_2 rfl) rfl ?_
  refine D_take 1 _ rfl (by kernel_rfl) hS (fun w hw => X_load A25 rfl (gblk (below_blk hw k4u k4u.lt) 2 rfl)) rfl ?_
  refine D_take 2 _ rfl (by kernel_rfl) hS (fun w hw => X_field F30_2 rfl) rfl ?_
  refine D_take 3 _ rfl (by kernel_rfl) hS (fun w hw => X_load A25 rfl (gblk (below_blk hw k4u k4u.lt) 2 rfl)) rfl ?_
  refine D_take 4 _ rfl (by kernel_rfl) hS (fun w hw => X_field F41_0 rfl) rfl ?_
  refine D_take 5 _ rfl (by kernel_rfl) hS (fun w hw => X_load A3 rfl (gblk (below_blk hw k9 k9.lt) 0 rfl)) rfl ?_
  refine D_take 9 _ rfl (by kernel_rfl) hS (fun w hw => X_move) rfl ?_
  refine D_callF 6 [.slice X.ka X.key.length X.kc, .int .i64 (szOf E).1] rfl (by kernel_rfl) E9 rfl rfl (fit_ret X.ka X.kc X.key (szOf E).1 u4 (hkey.below (bw3.trans (hS.mono sw3))) hkl hE2) ?_
  rintro v u5 ⟨fb, bs, rfl, hbl, kf, hfb, bu5⟩
  have hS5 : Below u3.heap.size u3 u5 := hS.trans (bu5.mono hS.size)
  refine ⟨fun _ => hS5, ?_⟩
  refine D_buildSlice 7 #[.slice X.ka X.key.length X.kc, .slice (some ⟨fb, 0, none⟩) (szOf E).1 (szOf E).1] 25 rfl (by kernel_rfl) (by kernel_rfl) rfl ?_
  intro u6 h6
  have hS6 : Below u3.heap.size u3 u6 := h6.below hS5 hS5.size
  refine ⟨fun _ => hS6, ?_⟩
  refine D_val 8 _ _ rfl (by kernel_rfl) (X_lenS U45 rfl) rfl (fun hb => hS6) ?_
  refine D_done (by kernel_rfl) ?_
  have hfl := kf.lt
  have su5 := hS5.size
  have su6 := h6.size
  have k46 := below_blk hS6 k4u k4u.lt
  have kL6 := below_blk hS6 kLu kLu.lt
  have bw6 : Below w.heap.size w u6 := bw3.trans (hS6.mono sw3)
  have kf6 : Blk u6 fb (bs.map (Value.int .u8)).toArray 5 := h6.blk kf (by omega)
  have kK : Blk u6 u5.heap.size [Value.slice X.ka X.key.length X.kc, .slice (some ⟨fb, 0, none⟩) (szOf E).1 (szOf E).1].toArray 25 := h6.new
  clear hS hS5 hS6 h6 kf k4u kLu k9 hsm bu5 bu3 bw3 k4 kL by_
  repeat (first | refine T_seq ?_ | refine T_block ?_ | refine T_inBlock ?_ | refine T_skip ?_)
  refine T_loopS [77, 76, 75, 8, 59, 58, 57, 4, 30, 29, 28] (fun m vs z => ∃ s : Nat, vs = [.int .i64 s, .int .i64 2, .slice (some ⟨u5.heap.size, 0, none⟩) 2 2, .int .i64 E, .int .i64 t, .int .i64 2, .slice (some ⟨BL, 0, none⟩) 2 2, .pointer (some ⟨B4, 0, none⟩), .int .i64 i, .int .i64 xs.length, .slice (some ⟨p, q, none⟩) xs.length c] ∧ s ≤ 2 ∧ m = 2 - s ∧ Below u6.heap.size u6 z) 2
    ⟨0, rfl, by omega, rfl, Below.refl _ _⟩ ?_
  rintro m vs ρ2 z ⟨s, rfl, hsl, rfl, bz⟩ ih2
  have sz := bz.size
  have bzw : Below w.heap.size w z := bw6.trans (bz.mono bw6.size)
  repeat (first | refine T_seq ?_ | refine T_block ?_ | refine T_inBlock ?_ | refine T_skip ?_)
  refine T_region ?_
  refine L_val _ _ (X_cmp rfl rfl rfl) rfl ?_
  refine L_nil ?_
  repeat (first | refine T_seq ?_ | refine T_block ?_ | refine T_inBlock ?_ | refine T_skip ?_)
  refine T_if rfl (fun ht2 => ?_) (fun hf2 => ?_)
  case refine_2 =>
    refine T_exit rfl ?_
    repeat (first | refine T_seq ?_ | refine T_block ?_ | refine T_inBlock ?_ | refine T_skip ?_)
    refine T_region ?_
    refine L_val _ _ (X_add rfl rfl (by omega) (by omega)) rfl ?_
    refine L_val _ _ (X_move) rfl ?_
    refine L_nil ?_
    exact ih1 _ _ _ (by omega) ⟨t + 1, rfl, by omega, rfl, bzw, below_blk bz kL6 kL6.lt, below_blk bz k46 k46.lt⟩
  have hlt2 : s < 2 := by simp [cmpB] at ht2; omega
  obtain ⟨ka, kc, key, hck, hka, hkl2⟩ : ∃ ka kc key, [Value.slice X.ka X.key.length X.kc, .slice (some ⟨fb, 0, none⟩) (szOf E).1 (szOf E).1][s]? = some (.slice ka (List.length key) kc) ∧ Arr z ka 1 (ints .u8 key) ∧ key.length ≤ 65536 := by
    match s, hlt2 with
    | 0, _ => exact ⟨X.ka, X.kc, X.key, rfl, hkey.below bzw, hkl⟩
    | 1, _ => exact ⟨some ⟨fb, 0, none⟩, (szOf E).1, bs, by rw [hbl]; rfl, (arr_of_blk kf6).below bz, by omega⟩
  have hcK : z.cell? ⟨u5.heap.size, 0 + s * 1, none⟩ = some (.slice ka key.length kc) := by
    rw [Nat.mul_one, Nat.zero_add]; exact gblk (below_blk bz kK kK.lt) s hck
  have hnew := new_ret E ka kc key z (hG.below bzw).sup (hG.below bzw).size hka hkl2
  rw [hE3] at hnew
  repeat (first | refine T_seq ?_ | refine T_block ?_ | refine T_inBlock ?_ | refine T_skip ?_)
  refine T_region ?_
  refine L_val _ _ (X_index U45 S25 rfl rfl hlt2) rfl ?_
  refine L_val _ _ (X_load A25 rfl (hcK)) rfl ?_
  refine L_val _ _ (X_assign) rfl ?_
  refine L_nil ?_
  repeat (first | refine T_seq ?_ | refine T_block ?_ | refine T_inBlock ?_ | refine T_skip ?_)
  refine T_region ?_
  refine L_val _ _ (X_move) rfl ?_
  refine L_val _ _ (X_move) rfl ?_
  refine L_callF [.int .i64 E, .slice ka key.length kc] E5 rfl rfl hnew ?_
  rintro v z1 ⟨pv, rfl, bz1, hpv, -⟩
  obtain rfl := hpv (by decide)
  refine L_val _ _ (X_move) rfl ?_
  refine L_val _ _ (X_extract rfl rfl) rfl ?_
  refine L_val _ _ (X_extract rfl rfl) rfl ?_
  refine L_val _ _ (X_assign) rfl ?_
  refine L_val _ _ (X_assign) rfl ?_
  refine L_nil ?_
  have hG1 := hG.below (bzw.trans (bz1.mono bzw.size))
  repeat (first | refine T_seq ?_ | refine T_block ?_ | refine T_inBlock ?_ | refine T_skip ?_)
  refine T_region ?_
  refine L_val _ _ (X_move) rfl ?_
  refine L_val _ _ (X_mkIface U46 (by simp)) rfl ?_
  refine L_val _ _ (X_neq (b := false) (by kernel_rfl)) rfl ?_
  refine L_val _ _ (X_move) rfl ?_
  refine L_guard rfl rfl rfl ?_
  refine L_val _ _ (X_move) rfl ?_
  refine L_guard rfl rfl rfl ?_
  refine L_val _ _ (X_neq (b := false) (by kernel_rfl)) rfl ?_
  refine L_val _ _ (X_pick rfl) rfl ?_
  refine L_val _ _ (X_move) rfl ?_
  refine L_guard rfl rfl rfl ?_
  refine L_val _ _ (X_move) rfl ?_
  refine L_guard rfl rfl rfl ?_
  refine L_callF [.int .i64 E] E10 rfl rfl (sup_ret E z1 hG1.sup) ?_
  rintro v z2 ⟨rfl, rfl⟩
  rw [hE1]
  refine L_val _ _ (X_pick rfl) rfl ?_
  refine L_nil ?_
  refine T_false rfl ?_
  repeat (first | refine T_seq ?_ | refine T_block ?_ | refine T_inBlock ?_ | refine T_skip ?_)
  refine T_region ?_
  refine L_val _ _ (X_add rfl rfl (by omega) (by omega)) rfl ?_
  refine L_val _ _ (X_move) rfl ?_
  refine L_nil ?_
  exact ih2 _ _ _ (by omega) ⟨s + 1, rfl, by omega, rfl, bz.trans (bz1.mono sz)⟩
end Go.Proofs.Qxb6500864aDoor
