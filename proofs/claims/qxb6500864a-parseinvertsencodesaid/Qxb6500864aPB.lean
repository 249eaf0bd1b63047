/-
  The law ParseInvertsEncode.
-/
import Derived.Test.Qxb6500864aPA
namespace Go.Proofs.Qxb6500864a
set_option linter.unusedSimpArgs false
set_option linter.unusedVariables false
open Go.RowKit
def either (ops : Array Oper) (listed : Array Bool) (i j : Nat) : Bool := Region.ready .any ops listed == [i, j]
section
variable {P : Program} {f : FuncId} {n : Nat} {R : Value → World → Prop} {ρ : Env} {w : World} {k : List Item} {ops : Array Oper} {S : World → Prop} {N fuel : Nat} {listed : Array Bool}
variable {d d' : Nat} {ty ty' : TypeId} {pos pos' : String} {after after' : Array Edge}
theorem upd_comm (ρ : Env) {d d' : Nat} (v v' : Value) (h : d ≠ d') : upd (upd ρ d v) d' v' = upd (upd ρ d' v') d v := by
  funext s
  by_cases h1 : s = d
  · subst h1
    rw [upd_other h, upd_here, upd_here]
  · by_cases h2 : s = d'
    · subst h2
      rw [upd_here, upd_other h1, upd_here]
    · rw [upd_other h2, upd_other h1, upd_other h1, upd_other h2]
/-- Two new blocks, in either order. -/
theorem D_alloc2 (i j : Nat) {t t' : TypeId} {z z' : Value} (hi : ops[i]? = some ⟨some d, .alloc t, ty, pos, after, none⟩) (hj : ops[j]? = some ⟨some d', .alloc t', ty', pos', after', none⟩) (hc : either ops listed i j = true)
    (hci : only ops (listed.setIfInBounds i true) j = true) (hcj : only ops (listed.setIfInBounds j true) i = true) (hz : ZV P t z) (hz' : ZV P t' z') (hd : Nat.blt d n = true) (hd' : Nat.blt d' n = true) (hdd : d ≠ d') (hij : i ≠ j)
    (hS : ∀ w', Below w.heap.size w w' → S w')
    (h : ∀ b b' w2, b ≠ b' → w.heap.size ≤ b → w.heap.size ≤ b' → Blk w2 b z.cells t → Blk w2 b' z'.cells t' → Below w.heap.size w w2 → D P f n ops S N fuel ((listed.setIfInBounds i true).setIfInBounds j true) k R (upd (upd ρ d (.pointer (some ⟨b, 0, none⟩))) d' (.pointer (some ⟨b', 0, none⟩))) w2) :
    D P f n ops S N (fuel + 2) listed k R ρ w := by
  have hr1 : Region.ready .any ops listed = [i, j] := by simpa [either] using hc
  refine D_cases (by rw [hr1]; simp) fun q hq => ?_
  rw [hr1] at hq
  have hq' : q = i ∨ q = j := by simpa using hq
  rcases hq' with rfl | rfl
  · refine ⟨_, d, hi, rfl, rfl, hd, .inl ⟨.pointer (some ⟨w.heap.size, 0, none⟩), w.alloc (.cells z.cells t), ?_, ?_⟩⟩
    · have h1 := hz w
      simp [execOp, Instr.alloc, h1, newVar, newRow]
    · have c1 := chg_alloc w (.cells z.cells t (0, 0))
      have b1 : Below w.heap.size w _ := c1.below (Below.refl _ _) (Nat.le_refl _)
      refine ⟨fun _ => hS _ b1, D_alloc j hj hci hz' hd' ?_⟩
      intro w2 c2
      have b2 : Below w.heap.size w w2 := c2.below b1 b1.size
      have hl := c1.lt
      refine ⟨fun _ => hS _ b2, h _ _ _ (by omega) (Nat.le_refl _) b1.size (c2.blk c1.new (by omega)) c2.new b2⟩
  · refine ⟨_, d', hj, rfl, rfl, hd', .inl ⟨.pointer (some ⟨w.heap.size, 0, none⟩), w.alloc (.cells z'.cells t'), ?_, ?_⟩⟩
    · have h1 := hz' w
      simp [execOp, Instr.alloc, h1, newVar, newRow]
    · have c1 := chg_alloc w (.cells z'.cells t' (0, 0))
      have b1 : Below w.heap.size w _ := c1.below (Below.refl _ _) (Nat.le_refl _)
      refine ⟨fun _ => hS _ b1, D_alloc i hi hcj hz hd ?_⟩
      intro w2 c2
      have b2 : Below w.heap.size w w2 := c2.below b1 b1.size
      have hl := c1.lt
      refine ⟨fun _ => hS _ b2, ?_⟩
      have := h (w.alloc (.cells z'.cells t')).heap.size w.heap.size w2 (by omega) b1.size (Nat.le_refl _) c2.new (c2.blk c1.new (by omega)) b2
      rw [Array.setIfInBounds_comm _ _ (Ne.symm hij), upd_comm ρ _ _ (Ne.symm hdd)]
      exact this
end
theorem bit_and7 : ∀ x : Fin 256, bitB .and .u8 ((x.val : Nat) : Int) 7 = ((x.val % 8 : Nat) : Int) := by decide +kernel
theorem bit_an2 : ∀ x : Fin 8, bitB .andNot .u8 ((x.val : Nat) : Int) 2 = ((x.val / 4 * 4 + x.val % 2 : Nat) : Int) := by decide +kernel
section
variable {P : Program} {ρ : Env} {w : World} {dst : Option Tmp} {gd : Option (Nat × Bool)} {ty : TypeId} {pos : String} {after : Array Edge} {t t' : TypeId} {x y : Operand}
theorem X_and7 (f : Nat) (hf : f < 256) (hx : ev ρ x = .int .u8 (f : Int)) (hy : ev ρ y = .int .u8 7) : (execOp (ev ρ) ⟨dst, .binOp .and t x y t', ty, pos, after, gd⟩).run P w = .ok (.value (.int .u8 ((f % 8 : Nat) : Int))) w := by
  rw [X_bit rfl hx hy, bit_and7 ⟨f, hf⟩]
theorem X_an2 (f : Nat) (hf : f < 8) (hx : ev ρ x = .int .u8 (f : Int)) (hy : ev ρ y = .int .u8 2) : (execOp (ev ρ) ⟨dst, .binOp .andNot t x y t', ty, pos, after, gd⟩).run P w = .ok (.value (.int .u8 ((f / 4 * 4 + f % 2 : Nat) : Int))) w := by
  rw [X_bit rfl hx hy, bit_an2 ⟨f, hf⟩]
end
structure OpP.okI (w : World) (x : OpP) : Prop where
  hd : x.hd.ok
  dat : Byt w x.da x.dat
  lt : ∀ y ∈ x.dat, y < 256
  cap : x.dat.length ≤ x.dc
  nil : x.da = none → x.dat.length = 0 ∧ x.dc = 0
  val : x.val < 256
  big : x.kl ≤ 140737488355328 ∧ x.cl ≤ 140737488355328 ∧ x.dat.length ≤ 140737488355328
structure Script (w : World) (a : Option Addr) (xs : List OpP) : Prop where
  arr : ∀ (i : Nat) x, xs[i]? = some x → ∃ b o, a = some ⟨b, o, none⟩ ∧ b < w.heap.size ∧ ∀ j v, x.cells[j]? = some v → w.cell? ⟨b, o + i * 14 + j, none⟩ = some v
  ok : ∀ x ∈ xs, x.okI w
  len : xs.length ≤ 140737488355328
set_option maxHeartbeats 4000000 in
/-- The size guard. -/
theorem small_ret (a : Option Addr) (c : Nat) (xs : List OpP) (w : World) (hs : Script w a xs) :
    Ret Try.prog 5 #[.slice a xs.length c] w fun v w' => ∃ t, v = .bool t ∧ w = w' ∧ (t = true → xs.length ≤ 65536 ∧ ∀ x ∈ xs, x.dat.length ≤ 65536) := by
  refine ret_of_T (vs := [.slice a xs.length c]) Try.func5 Try.ntmps5 rfl (Nat.le_of_ble_eq_true rfl) ?_
  have stop : ∀ ρ k, ρ 2 = .bool false → T Try.prog 5 45 (.code .ret :: k) (fun v w' => ∃ t, v = .bool t ∧ w = w' ∧ (t = true → xs.length ≤ 65536 ∧ ∀ x ∈ xs, x.dat.length ≤ 65536)) ρ w :=
    fun ρ k h => T_ret1 Try.func5 rfl ⟨false, h, rfl, fun h => by cases h⟩
  have hxl := hs.len
  repeat (first | refine T_seq ?_ | refine T_block ?_ | refine T_inBlock ?_ | refine T_skip ?_)
  refine T_region ?_
  refine L_val _ _ (X_assign) rfl ?_
  refine L_nil ?_
  repeat (first | refine T_seq ?_ | refine T_block ?_ | refine T_inBlock ?_ | refine T_skip ?_)
  refine T_region ?_
  refine L_val _ _ (X_move) rfl ?_
  refine L_val _ _ (X_lenS U22 rfl) rfl ?_
  refine L_val _ _ (X_assign) rfl ?_
  refine L_nil ?_
  repeat (first | refine T_seq ?_ | refine T_block ?_ | refine T_inBlock ?_ | refine T_skip ?_)
  refine T_region ?_
  refine L_val _ _ (X_move) rfl ?_
  refine L_val _ _ (X_cmp rfl rfl rfl) rfl ?_
  refine L_nil ?_
  refine T_if rfl (fun ht => ?_) (fun hf => ?_)
  · repeat (first | refine T_seq ?_ | refine T_block ?_ | refine T_inBlock ?_ | refine T_skip ?_)
    refine T_region ?_
    refine L_val _ _ (X_assign) rfl ?_
    refine L_nil ?_
    exact stop _ _ rfl
  have hlen : xs.length ≤ 65536 := by simp [cmpB] at hf; omega
  repeat (first | refine T_seq ?_ | refine T_block ?_ | refine T_inBlock ?_ | refine T_skip ?_)
  refine T_region ?_
  refine L_val _ _ (X_assign) rfl ?_
  refine L_nil ?_
  repeat (first | refine T_seq ?_ | refine T_block ?_ | refine T_inBlock ?_ | refine T_skip ?_)
  refine T_loopS [3, 4, 0] (fun m vs w' => ∃ (nn : Int) (i : Nat), vs = [.int .i64 nn, .int .i64 i, .slice a xs.length c] ∧ w = w' ∧ 0 ≤ nn ∧ nn ≤ 65536 ∧ i ≤ xs.length ∧ m = xs.length - i ∧ ∀ (j : Nat) x, j < i → xs[j]? = some x → x.dat.length ≤ 65536) xs.length
    ⟨xs.length, 0, rfl, rfl, by omega, by omega, by omega, by omega, fun j x h => by omega⟩ ?_
  rintro m vs ρ w' ⟨nn, i, rfl, rfl, hn0, hn1, hi, rfl, hsm⟩ ih
  repeat (first | refine T_seq ?_ | refine T_block ?_ | refine T_inBlock ?_ | refine T_skip ?_)
  refine T_region ?_
  refine L_val _ _ (X_move) rfl ?_
  refine L_val _ _ (X_move) rfl ?_
  refine L_val _ _ (X_lenS U22 rfl) rfl ?_
  refine L_val _ _ (X_cmp rfl rfl rfl) rfl ?_
  refine L_nil ?_
  refine T_if rfl (fun ht => ?_) (fun hf => ?_)
  case refine_2 =>
    refine T_exit rfl ?_
    repeat (first | refine T_seq ?_ | refine T_block ?_ | refine T_inBlock ?_ | refine T_skip ?_)
    refine T_region ?_
    refine L_val _ _ (X_assign) rfl ?_
    refine L_nil ?_
    refine T_ret1 Try.func5 rfl ⟨true, rfl, rfl, fun _ => ⟨hlen, fun x hx => ?_⟩⟩
    have hge : ¬ i < xs.length := by simpa [cmpB] using hf
    obtain ⟨j, hj⟩ := List.getElem?_of_mem hx
    exact hsm j x (by have := (List.getElem?_eq_some_iff.1 hj).1; omega) hj
  have hlt : i < xs.length := by simpa [cmpB] using ht
  obtain ⟨b, o, rfl, hb, hc⟩ := hs.arr i xs[i] (by simp)
  obtain ⟨hB1, hB2, hB3⟩ := (hs.ok xs[i] (by simp)).big
  generalize hX : xs[i] = X at *
  have hXi : xs[i]? = some X := by rw [← hX]; simp
  repeat (first | refine T_seq ?_ | refine T_block ?_ | refine T_inBlock ?_ | refine T_skip ?_)
  refine T_region ?_
  refine L_val _ _ (X_move) rfl ?_
  refine L_val _ _ (X_move) rfl ?_
  refine L_val _ _ (X_move) rfl ?_
  refine L_val _ _ (X_index U22 S30 rfl rfl hlt) rfl ?_
  refine L_val _ _ (X_field F30_2 rfl) rfl ?_
  refine L_val _ _ (X_load A25 rfl (hc 2 _ rfl)) rfl ?_
  refine L_val _ _ (X_lenS U25 rfl) rfl ?_
  refine L_val _ _ (X_add rfl rfl (by omega) (by omega)) rfl ?_
  refine L_val _ _ (X_assign) rfl ?_
  refine L_nil ?_
  repeat (first | refine T_seq ?_ | refine T_block ?_ | refine T_inBlock ?_ | refine T_skip ?_)
  refine T_region ?_
  refine L_val _ _ (X_move) rfl ?_
  refine L_val _ _ (X_cmp rfl rfl rfl) rfl ?_
  refine L_nil ?_
  refine T_if rfl (fun ht1 => ?_) (fun hf1 => ?_)
  · repeat (first | refine T_seq ?_ | refine T_block ?_ | refine T_inBlock ?_ | refine T_skip ?_)
    refine T_region ?_
    refine L_val _ _ (X_assign) rfl ?_
    refine L_nil ?_
    exact stop _ _ rfl
  have hl1 : nn + X.kl ≤ 65536 := by simp [cmpB] at hf1; omega
  repeat (first | refine T_seq ?_ | refine T_block ?_ | refine T_inBlock ?_ | refine T_skip ?_)
  refine T_region ?_
  refine L_val _ _ (X_move) rfl ?_
  refine L_val _ _ (X_move) rfl ?_
  refine L_val _ _ (X_move) rfl ?_
  refine L_val _ _ (X_index U22 S30 rfl rfl hlt) rfl ?_
  refine L_val _ _ (X_field F30_9 rfl) rfl ?_
  refine L_val _ _ (X_load A25 rfl (hc 9 _ rfl)) rfl ?_
  refine L_val _ _ (X_lenS U25 rfl) rfl ?_
  refine L_val _ _ (X_add rfl rfl (by omega) (by omega)) rfl ?_
  refine L_val _ _ (X_assign) rfl ?_
  refine L_nil ?_
  repeat (first | refine T_seq ?_ | refine T_block ?_ | refine T_inBlock ?_ | refine T_skip ?_)
  refine T_region ?_
  refine L_val _ _ (X_move) rfl ?_
  refine L_val _ _ (X_cmp rfl rfl rfl) rfl ?_
  refine L_nil ?_
  refine T_if rfl (fun ht1 => ?_) (fun hf1 => ?_)
  · repeat (first | refine T_seq ?_ | refine T_block ?_ | refine T_inBlock ?_ | refine T_skip ?_)
    refine T_region ?_
    refine L_val _ _ (X_assign) rfl ?_
    refine L_nil ?_
    exact stop _ _ rfl
  have hl2 : nn + X.kl + X.cl ≤ 65536 := by simp [cmpB] at hf1; omega
  repeat (first | refine T_seq ?_ | refine T_block ?_ | refine T_inBlock ?_ | refine T_skip ?_)
  refine T_region ?_
  refine L_val _ _ (X_move) rfl ?_
  refine L_val _ _ (X_move) rfl ?_
  refine L_val _ _ (X_move) rfl ?_
  refine L_val _ _ (X_index U22 S30 rfl rfl hlt) rfl ?_
  refine L_val _ _ (X_field F30_10 rfl) rfl ?_
  refine L_val _ _ (X_load A25 rfl (hc 10 _ rfl)) rfl ?_
  refine L_val _ _ (X_lenS U25 rfl) rfl ?_
  refine L_val _ _ (X_add rfl rfl (by omega) (by omega)) rfl ?_
  refine L_val _ _ (X_assign) rfl ?_
  refine L_nil ?_
  repeat (first | refine T_seq ?_ | refine T_block ?_ | refine T_inBlock ?_ | refine T_skip ?_)
  refine T_region ?_
  refine L_val _ _ (X_move) rfl ?_
  refine L_val _ _ (X_cmp rfl rfl rfl) rfl ?_
  refine L_nil ?_
  refine T_if rfl (fun ht1 => ?_) (fun hf1 => ?_)
  · repeat (first | refine T_seq ?_ | refine T_block ?_ | refine T_inBlock ?_ | refine T_skip ?_)
    refine T_region ?_
    refine L_val _ _ (X_assign) rfl ?_
    refine L_nil ?_
    exact stop _ _ rfl
  have hl3 : nn + X.kl + X.cl + X.dat.length ≤ 65536 := by simp [cmpB] at hf1; omega
  repeat (first | refine T_seq ?_ | refine T_block ?_ | refine T_inBlock ?_ | refine T_skip ?_)
  refine T_region ?_
  refine L_val _ _ (X_move) rfl ?_
  refine L_val _ _ (X_add rfl rfl (by omega) (by omega)) rfl ?_
  refine L_val _ _ (X_assign) rfl ?_
  refine L_nil ?_
  refine ih _ _ _ (by omega) ⟨nn + X.kl + X.cl + X.dat.length, i + 1, rfl, rfl, by omega, by omega, by omega, rfl, ?_⟩
  intro j x hj hx
  rcases Nat.lt_succ_iff_lt_or_eq.1 hj with h | rfl
  · exact hsm j x h hx
  · rw [hXi] at hx
    cases hx
    omega
set_option maxHeartbeats 16000000 in
set_option maxRecDepth 10000 in
/-- ParseInvertsEncode -/
theorem law_ret (a : Option Addr) (c : Nat) (xs : List OpP) (w : World) (hs : Script w a xs) :
    Ret Try.prog 3 #[.slice a xs.length c] w fun v w' => v = .bool true ∧ Below w.heap.size w w' := by
  refine ret_of_T (vs := [.slice a xs.length c]) Try.func3 Try.ntmps3 rfl (Nat.le_of_ble_eq_true rfl) ?_
  repeat (first | refine T_seq ?_ | refine T_block ?_ | refine T_inBlock ?_ | refine T_skip ?_)
  refine T_region ?_
  refine L_val _ _ (X_assign) rfl ?_
  refine L_nil ?_
  repeat (first | refine T_seq ?_ | refine T_block ?_ | refine T_inBlock ?_ | refine T_skip ?_)
  refine T_region ?_
  refine L_val _ _ (X_move) rfl ?_
  refine L_callF [.slice a xs.length c] E5 rfl rfl (small_ret a c xs w hs) ?_
  rintro v w0 ⟨t, rfl, rfl, hsmall⟩
  refine L_val _ _ (X_not rfl) rfl ?_
  refine L_nil ?_
  cases t with
  | false =>
    refine T_true rfl ?_
    repeat (first | refine T_seq ?_ | refine T_block ?_ | refine T_inBlock ?_ | refine T_skip ?_)
    refine T_region ?_
    refine L_val _ _ (X_assign) rfl ?_
    refine L_nil ?_
    exact T_ret1 Try.func3 rfl ⟨rfl, Below.refl _ _⟩
  | true =>
  obtain ⟨hxl, hxs⟩ := hsmall rfl
  refine T_false rfl ?_
  repeat (first | refine T_seq ?_ | refine T_block ?_ | refine T_inBlock ?_ | refine T_skip ?_)
  refine T_region ?_
  refine L_val _ _ (X_move) rfl ?_
  refine L_val _ _ (X_lenS U22 rfl) rfl ?_
  refine L_val _ _ (X_move) rfl ?_
  refine L_nil ?_
  repeat (first | refine T_seq ?_ | refine T_block ?_ | refine T_inBlock ?_ | refine T_skip ?_)
  refine T_loopS [21, 20, 19] (fun m vs x => ∃ i : Nat, vs = [.int .i64 i, .int .i64 xs.length, .slice a xs.length c] ∧ i ≤ xs.length ∧ m = xs.length - i ∧ Below w.heap.size w x) xs.length ⟨0, rfl, by omega, rfl, Below.refl _ _⟩ ?_
  rintro m vs ρ x ⟨i, rfl, hi, rfl, bx⟩ ih
  repeat (first | refine T_seq ?_ | refine T_block ?_ | refine T_inBlock ?_ | refine T_skip ?_)
  refine T_region ?_
  refine L_val _ _ (X_cmp rfl rfl rfl) rfl ?_
  refine L_nil ?_
  repeat (first | refine T_seq ?_ | refine T_block ?_ | refine T_inBlock ?_ | refine T_skip ?_)
  refine T_if rfl (fun ht => ?_) (fun hf => ?_)
  case refine_2 =>
    refine T_exit rfl ?_
    repeat (first | refine T_seq ?_ | refine T_block ?_ | refine T_inBlock ?_ | refine T_skip ?_)
    refine T_region ?_
    refine L_val _ _ (X_assign) rfl ?_
    refine L_nil ?_
    exact T_ret1 Try.func3 rfl ⟨rfl, bx⟩
  have hlt : i < xs.length := by simpa [cmpB] using ht
  obtain ⟨p, q, rfl, hp, hc0⟩ := hs.arr i xs[i] (by simp)
  have hXI := hs.ok xs[i] (by simp)
  have hXl := hxs xs[i] (by simp)
  generalize xs[i] = X at *
  have hc : ∀ j v, X.cells[j]? = some v → x.cell? ⟨p, q + i * 14 + j, none⟩ = some v := fun j v hv => (below_cell bx _ hp).trans (hc0 j v hv)
  have hX : X.ok x := (⟨hXI.hd, hXI.dat, hXI.lt, hXI.cap, hXI.nil, hXl, hXI.val⟩ : X.ok w).below bx
  have sx := bx.size
  repeat (first | refine T_seq ?_ | refine T_block ?_ | refine T_inBlock ?_ | refine T_skip ?_)
  refine T_region ?_
  refine L_val _ _ (X_index U22 S30 rfl rfl hlt) rfl ?_
  refine L_val _ _ (X_loadAgg X.cells A30 S30 rfl rfl hc) rfl ?_
  refine L_alloc Z30 rfl fun w2 h2 => ?_
  refine L_storeAll X.cells S30 rfl rfl rfl (OpP.cells_one _) h2.new rfl fun w3 h3 => ?_
  refine L_nil ?_
  have h23 := h2.trans h3
  have b3 : Below x.heap.size x w3 := h23.below (Below.refl _ _) (Nat.le_refl _)
  have k4 : Blk w3 x.heap.size X.cells.toArray 30 := h23.new
  have s3 := h23.size
  clear h2 h3 h23
  repeat (first | refine T_seq ?_ | refine T_block ?_ | refine T_inBlock ?_ | refine T_skip ?_)
  refine T_region ?_
  refine L_val _ _ (X_loadAgg X.cells A30 S30 rfl rfl (gblk0 k4)) rfl ?_
  refine L_callF [.agg X.cells.toArray] E6 rfl rfl (headerOf_ret X w3) ?_
  rintro v w4 ⟨rfl, b4⟩
  refine L_alloc Z32 rfl fun w5 h5 => ?_
  refine L_storeAll X.hd.cells S32 rfl rfl rfl (Hd.cells_one _) h5.new rfl fun w6 h6 => ?_
  refine L_nil ?_
  have h56 := h5.trans h6
  have k5 : Blk w6 w4.heap.size X.hd.cells.toArray 32 := h56.new
  have s4 := b4.size
  have b36 : Below w3.heap.size w3 w6 := h56.below b4 s4
  have s6 := h56.size
  have z6 := h56.lt
  have k46 := below_blk b36 k4 k4.lt
  have b6 : Below x.heap.size x w6 := b3.trans (b36.mono s3)
  have sx6 := b6.size
  clear h5 h6 h56 b36 b4 k4
  generalize w4.heap.size = B5 at *
  repeat (first | refine T_seq ?_ | refine T_block ?_ | refine T_inBlock ?_ | refine T_skip ?_)
  refine T_draw (fun z => Below w6.heap.size w6 z) 5 rfl rfl fun z7 hsm => ?_
  have hS : Below w6.heap.size w6 z7 := hsm.below (Below.refl _ _)
  refine D_take 0 _ rfl (by kernel_rfl) hS (fun w hw => X_loadAgg X.hd.cells A32 S32 rfl rfl (gblk0 (below_blk hw k5 z6))) rfl ?_
  refine D_take 1 _ rfl (by kernel_rfl) hS (fun w hw => X_loadAgg X.hd.cells A32 S32 rfl rfl (gblk0 (below_blk hw k5 z6))) rfl ?_
  skip
  refine D_alloc2 (fuel := 2) 2 3 rfl rfl (by kernel_rfl) (by kernel_rfl) (by kernel_rfl) Z32 Z32 rfl rfl (by decide) (by decide) (fun w' hb => hS.trans (hb.mono hS.size)) ?_
  intro b6' b7' z8 hne67 hl6 hl7 k68 k78 bz8
  have hS8 : Below w6.heap.size w6 z8 := hS.trans (bz8.mono hS.size)
  refine D_storeAll 4 X.hd.cells rfl (by kernel_rfl) S32 rfl rfl rfl (Hd.cells_one _) k68 rfl ?_
  intro z9 h9
  have s7 := hS.size
  have hS9 : Below w6.heap.size w6 z9 := h9.below hS8 (by omega)
  refine ⟨fun _ => hS9, ?_⟩
  refine D_storeAll 5 X.hd.cells rfl (by kernel_rfl) S32 rfl rfl rfl (Hd.cells_one _) (h9.blk k78 (Ne.symm hne67)) rfl ?_
  intro y0 h0
  refine ⟨fun hb => (by cases hb), ?_⟩
  refine D_done (by kernel_rfl) ?_
  have k6y : Blk y0 b6' X.hd.cells.toArray 32 := h0.blk h9.new hne67
  have k7y : Blk y0 b7' X.hd.cells.toArray 32 := h0.new
  have by0 : Below w6.heap.size w6 y0 := h0.below hS9 (by omega)
  have hw6b : w6.heap.size ≤ b6' := by omega
  have hw7b : w6.heap.size ≤ b7' := by omega
  have k5y := below_blk by0 k5 z6
  clear h0 h9 hS hS8 hS9 bz8 k68 k78 hsm hl6 hl7
  have hfl := hX.hd.fl
  have h57 : B5 ≠ b7' := by omega
  have h56 : B5 ≠ b6' := by omega
  repeat (first | refine T_seq ?_ | refine T_block ?_ | refine T_inBlock ?_ | refine T_skip ?_)
  refine T_draw (fun z => Blk z B5 X.hd.cells.toArray 32) 5 rfl rfl fun y1 hsm => ?_
  have hS : Blk y1 B5 X.hd.cells.toArray 32 := hsm.blk k5y
  refine D_take 0 _ rfl (by kernel_rfl) hS (fun w hw => X_field F32_1 rfl) rfl ?_
  refine D_take 1 _ rfl (by kernel_rfl) hS (fun w hw => X_load A5 rfl (gblk hw 1 rfl)) rfl ?_
  refine D_take 2 _ rfl (by kernel_rfl) hS (fun w hw => X_and7 X.hd.fl hfl rfl rfl) rfl ?_
  refine D_take 3 _ rfl (by kernel_rfl) hS (fun w hw => X_field F32_0 rfl) rfl ?_
  skip
  refine D_store 4 (.int .u16 ((1284 : Nat) : Int)) rfl (by kernel_rfl) S27 rfl rfl rfl (hsm.blk k6y) (by simp [Hd.cells]) ?_
  intro y2 h2
  refine ⟨fun _ => h2.blk hS h56, ?_⟩
  refine D_val 5 _ _ rfl (by kernel_rfl) (X_field F32_1 rfl) rfl (fun hb => by cases hb) ?_
  have k6y2 : Blk y2 b6' (⟨1284, X.hd.fl, X.hd.ec, X.hd.rrc, X.hd.seq⟩ : Hd).cells.toArray 32 := h2.new
  refine D_store 6 (.int .u8 ((X.hd.fl % 8 : Nat) : Int)) rfl (by kernel_rfl) S5 rfl rfl rfl k6y2 (by simp [Hd.cells]) ?_
  intro y3 h3
  refine ⟨fun hb => (by cases hb), ?_⟩
  refine D_done (by kernel_rfl) ?_
  have k6y3 : Blk y3 b6' (⟨1284, X.hd.fl % 8, X.hd.ec, X.hd.rrc, X.hd.seq⟩ : Hd).cells.toArray 32 := h3.new
  have k7y3 := h3.blk (h2.blk (hsm.blk k7y) (Ne.symm hne67)) (Ne.symm hne67)
  have k5y3 := h3.blk (h2.blk hS h56) h56
  have by3 : Below w6.heap.size w6 y3 := h3.below (h2.below (hsm.below by0) hw6b) hw6b
  clear h2 h3 hS hsm by0 k6y k7y k5y k6y2
  repeat (first | refine T_seq ?_ | refine T_block ?_ | refine T_inBlock ?_ | refine T_skip ?_)
  refine T_draw (fun z => Blk z B5 X.hd.cells.toArray 32) 6 rfl rfl fun y4 hsm => ?_
  have hS : Blk y4 B5 X.hd.cells.toArray 32 := hsm.blk k5y3
  refine D_take 0 _ rfl (by kernel_rfl) hS (fun w hw => X_field F32_1 rfl) rfl ?_
  refine D_take 1 _ rfl (by kernel_rfl) hS (fun w hw => X_load A5 rfl (gblk hw 1 rfl)) rfl ?_
  refine D_take 2 _ rfl (by kernel_rfl) hS (fun w hw => X_and7 X.hd.fl hfl rfl rfl) rfl ?_
  refine D_take 3 _ rfl (by kernel_rfl) hS (fun w hw => X_an2 (X.hd.fl % 8) (by omega) rfl rfl) rfl ?_
  refine D_take 4 _ rfl (by kernel_rfl) hS (fun w hw => X_field F32_0 rfl) rfl ?_
  skip
  refine D_store 5 (.int .u16 ((1028 : Nat) : Int)) rfl (by kernel_rfl) S27 rfl rfl rfl (hsm.blk k7y3) (by simp [Hd.cells]) ?_
  intro y5 h5
  refine ⟨fun _ => h5.blk hS h57, ?_⟩
  refine D_val 6 _ _ rfl (by kernel_rfl) (X_field F32_1 rfl) rfl (fun hb => by cases hb) ?_
  have k7y5 : Blk y5 b7' (⟨1028, X.hd.fl, X.hd.ec, X.hd.rrc, X.hd.seq⟩ : Hd).cells.toArray 32 := h5.new
  refine D_store 7 (.int .u8 ((X.hd.fl % 8 / 4 * 4 + X.hd.fl % 8 % 2 : Nat) : Int)) rfl (by kernel_rfl) S5 rfl rfl rfl k7y5 (by simp [Hd.cells]) ?_
  intro y6 h6
  refine ⟨fun hb => (by cases hb), ?_⟩
  refine D_done (by kernel_rfl) ?_
  have k7y6 : Blk y6 b7' (⟨1028, X.hd.fl % 8 / 4 * 4 + X.hd.fl % 8 % 2, X.hd.ec, X.hd.rrc, X.hd.seq⟩ : Hd).cells.toArray 32 := h6.new
  have k6y6 := h6.blk (h5.blk (hsm.blk k6y3) hne67) hne67
  have k5y6 := h6.blk (h5.blk hS h57) h57
  have by6 : Below w6.heap.size w6 y6 := h6.below (h5.below (hsm.below by3) hw7b) hw7b
  clear h5 h6 hS hsm by3 k6y3 k7y3 k5y3 k7y5
  repeat (first | refine T_seq ?_ | refine T_block ?_ | refine T_inBlock ?_ | refine T_skip ?_)
  refine T_region ?_
  refine L_val _ _ (X_field F32_2 rfl) rfl ?_
  refine L_store (.int .u16 ((0 : Nat) : Int)) S27 rfl rfl rfl k7y6 (by simp [Hd.cells]) fun y7 h7 => ?_
  have k7y7 : Blk y7 b7' (⟨1028, X.hd.fl % 8 / 4 * 4 + X.hd.fl % 8 % 2, 0, X.hd.rrc, X.hd.seq⟩ : Hd).cells.toArray 32 := h7.new
  refine L_val _ _ (X_field F32_3 rfl) rfl ?_
  refine L_store (.int .u16 ((0 : Nat) : Int)) S27 rfl rfl rfl k7y7 (by simp [Hd.cells]) fun y8 h8 => ?_
  refine L_nil ?_
  have k7y8 : Blk y8 b7' (⟨1028, X.hd.fl % 8 / 4 * 4 + X.hd.fl % 8 % 2, 0, 0, X.hd.seq⟩ : Hd).cells.toArray 32 := h8.new
  have k6y8 := h8.blk (h7.blk k6y6 hne67) hne67
  have k5y8 := h8.blk (h7.blk k5y6 h57) h57
  have by8 : Below w6.heap.size w6 y8 := h8.below (h7.below by6 hw7b) hw7b
  clear h7 h8 by6 k7y6 k7y7 k6y6 k5y6
  let hs3 : List Hd := [X.hd, ⟨1284, X.hd.fl % 8, X.hd.ec, X.hd.rrc, X.hd.seq⟩, ⟨1028, X.hd.fl % 8 / 4 * 4 + X.hd.fl % 8 % 2, 0, 0, X.hd.seq⟩]
  have hs3ok : ∀ h ∈ hs3, h.ok := by
    intro h hh
    simp only [hs3, List.mem_cons, List.not_mem_nil, or_false] at hh
    rcases hh with rfl | rfl | rfl
    · exact hX.hd
    · exact ⟨(by decide : 1284 < 65536), (by omega : X.hd.fl % 8 < 256), hX.hd.ec, hX.hd.rrc, hX.hd.seq⟩
    · exact ⟨(by decide : 1028 < 65536), (by omega : X.hd.fl % 8 / 4 * 4 + X.hd.fl % 8 % 2 < 256), (by decide : 0 < 65536), (by decide : 0 < 65536), hX.hd.seq⟩
  repeat (first | refine T_seq ?_ | refine T_block ?_ | refine T_inBlock ?_ | refine T_skip ?_)
  refine T_region ?_
  refine L_val _ _ (X_loadAgg X.hd.cells A32 S32 rfl rfl (gblk0 k5y8)) rfl ?_
  refine L_val _ _ (X_loadAgg (⟨1284, X.hd.fl % 8, X.hd.ec, X.hd.rrc, X.hd.seq⟩ : Hd).cells A32 S32 rfl rfl (gblk0 k6y8)) rfl ?_
  refine L_val _ _ (X_loadAgg (⟨1028, X.hd.fl % 8 / 4 * 4 + X.hd.fl % 8 % 2, 0, 0, X.hd.seq⟩ : Hd).cells A32 S32 rfl rfl (gblk0 k7y8)) rfl ?_
  refine L_buildSlice (hs3.map Hd.cells).flatten.toArray 32 (by kernel_rfl) rfl fun y9 h9 => ?_
  refine L_val _ _ (X_lenS U34 rfl) rfl ?_
  refine L_val _ _ (X_move) rfl ?_
  refine L_nil ?_
  have by9 : Below w6.heap.size w6 y9 := h9.below by8 by8.size
  have kG : Blk y9 y8.heap.size (hs3.map Hd.cells).flatten.toArray 32 := h9.new
  have hGc : ∀ (j : Nat) (h : Hd), hs3[j]? = some h → ∀ i v, h.cells[i]? = some v → y9.cell? ⟨y8.heap.size, 0 + j * 5 + i, none⟩ = some v := by
    intro j h hj i v hv
    have hjl := (List.getElem?_eq_some_iff.1 hj).1
    have hil := (List.getElem?_eq_some_iff.1 hv).1
    have hil' : i < 5 := hil
    have hj3 : j < 3 := hjl
    rw [Nat.zero_add]
    refine gblk kG (j * 5 + i) ?_
    have : j = 0 ∨ j = 1 ∨ j = 2 := by omega
    rcases this with rfl | rfl | rfl
    · obtain rfl := Option.some.inj hj
      have : i = 0 ∨ i = 1 ∨ i = 2 ∨ i = 3 ∨ i = 4 := by omega
      rcases this with rfl | rfl | rfl | rfl | rfl <;> exact hv
    · obtain rfl := Option.some.inj hj
      have : i = 0 ∨ i = 1 ∨ i = 2 ∨ i = 3 ∨ i = 4 := by omega
      rcases this with rfl | rfl | rfl | rfl | rfl <;> exact hv
    · obtain rfl := Option.some.inj hj
      have : i = 0 ∨ i = 1 ∨ i = 2 ∨ i = 3 ∨ i = 4 := by omega
      rcases this with rfl | rfl | rfl | rfl | rfl <;> exact hv
  have hGlt : y8.heap.size < y9.heap.size := h9.lt
  have k49 := below_blk by9 k46 (by have := k46.lt; omega)
  have s69 := by9.size
  have bx9 : Below x.heap.size x y9 := b6.trans (by9.mono sx6)
  have h3l : hs3.length = 3 := rfl
  clear h9 kG k5y8 k6y8 k7y8 by8 k46
  generalize y8.heap.size = G at *
  generalize hs3 = hs' at *
  repeat (first | refine T_seq ?_ | refine T_block ?_ | refine T_inBlock ?_ | refine T_skip ?_)
  refine T_loopS [47, 46, 45, 4, 21, 20, 19] (fun m vs z => ∃ j : Nat, vs = [.int .i64 j, .int .i64 3, .slice (some ⟨G, 0, none⟩) 3 3, .pointer (some ⟨x.heap.size, 0, none⟩), .int .i64 i, .int .i64 xs.length, .slice (some ⟨p, q, none⟩) xs.length c] ∧ j ≤ 3 ∧ m = 3 - j ∧ Below y9.heap.size y9 z) 3 ⟨0, rfl, by omega, rfl, Below.refl _ _⟩ ?_
  rintro m vs ρ2 z ⟨j, rfl, hj, rfl, bz⟩ ih2
  have tz := bz.size
  have k4z := below_blk bz k49 k49.lt
  have bxz : Below x.heap.size x z := bx9.trans (bz.mono bx9.size)
  repeat (first | refine T_seq ?_ | refine T_block ?_ | refine T_inBlock ?_ | refine T_skip ?_)
  refine T_region ?_
  refine L_val _ _ (X_cmp rfl rfl rfl) rfl ?_
  refine L_nil ?_
  repeat (first | refine T_seq ?_ | refine T_block ?_ | refine T_inBlock ?_ | refine T_skip ?_)
  refine T_if rfl (fun ht2 => ?_) (fun hf2 => ?_)
  · have hltj : j < 3 := by simp [cmpB] at ht2; omega
    have hgj : hs'[j]? = some (hs'[j]'(by omega)) := by simp
    have hok := hs3ok _ (List.mem_of_getElem? hgj)
    have hcj := hGc j _ hgj
    generalize (hs'[j]'(by omega)) = h at *
    repeat (first | refine T_seq ?_ | refine T_block ?_ | refine T_inBlock ?_ | refine T_skip ?_)
    refine T_region ?_
    refine L_val _ _ (X_index U34 S32 rfl rfl hltj) rfl ?_
    refine L_val _ _ (X_loadAgg h.cells A32 S32 rfl rfl (fun j v hv => (below_cell bz _ hGlt).trans (hcj j v hv))) rfl ?_
    refine L_alloc Z32 rfl fun u1 h1 => ?_
    refine L_storeAll h.cells S32 rfl rfl rfl (Hd.cells_one _) h1.new rfl fun u2 h2 => ?_
    refine L_nil ?_
    have h12 := h1.trans h2
    have k92 : Blk u2 z.heap.size h.cells.toArray 32 := h12.new
    have bu2 : Below y9.heap.size y9 u2 := h12.below bz tz
    have k42 := below_blk bu2 k49 k49.lt
    have bxu : Below x.heap.size x u2 := bx9.trans (bu2.mono bx9.size)
    repeat (first | refine T_seq ?_ | refine T_block ?_ | refine T_inBlock ?_ | refine T_skip ?_)
    refine T_region ?_
    refine L_val _ _ (X_loadAgg h.cells A32 S32 rfl rfl (gblk0 k92)) rfl ?_
    refine L_val _ _ (X_loadAgg X.cells A30 S30 rfl rfl (gblk0 k42)) rfl ?_
    refine L_callF [.agg h.cells.toArray, .agg X.cells.toArray] E7 rfl rfl (enc_ret h hok X u2 (hX.below bxu)) ?_
    rintro v u3 ⟨rfl, bu3⟩
    refine L_val _ _ (X_not rfl) rfl ?_
    refine L_nil ?_
    refine T_false rfl ?_
    repeat (first | refine T_seq ?_ | refine T_block ?_ | refine T_inBlock ?_ | refine T_skip ?_)
    refine T_region ?_
    refine L_val _ _ (X_add rfl rfl (by omega) (by omega)) rfl ?_
    refine L_val _ _ (X_move) rfl ?_
    refine L_nil ?_
    exact ih2 _ _ _ (by omega) ⟨j + 1, rfl, by omega, rfl, bu2.trans (bu3.mono bu2.size)⟩
  refine T_exit rfl ?_
  have hXz := hX.below bxz
  repeat (first | refine T_seq ?_ | refine T_block ?_ | refine T_inBlock ?_ | refine T_skip ?_)
  refine T_region ?_
  refine L_val _ _ (X_field F30_10 rfl) rfl ?_
  refine L_val _ _ (X_load A25 rfl (gblk k4z 10 rfl)) rfl ?_
  refine L_callF [.slice X.da X.dat.length X.dc] E8 rfl rfl (parse_ret X.da X.dat X.dc z hXz.dat hX.lt hX.cap) ?_
  rintro v u1 ⟨rfl, bu1⟩
  refine L_val _ _ (X_move) rfl ?_
  refine L_val _ _ (X_extract rfl rfl) rfl ?_
  refine L_val _ _ (X_extract rfl rfl) rfl ?_
  refine L_alloc Z39 rfl fun u2 h2 => ?_
  refine L_storeAll (parH X.dat).cells S39 rfl rfl rfl (Hd.cells_one _) h2.new rfl fun u3 h3 => ?_
  refine L_val _ _ (X_assign) rfl ?_
  refine L_nil ?_
  have h23 := h2.trans h3
  have k10 : Blk u3 u1.heap.size (parH X.dat).cells.toArray 39 := h23.new
  have su1 := bu1.size
  have bu3 : Below z.heap.size z u3 := h23.below bu1 su1
  have k43 := below_blk bu3 k4z k4z.lt
  have bxu3 : Below x.heap.size x u3 := bxz.trans (bu3.mono bxz.size)
  have hX3 := hX.below bxu3
  have su3 := bu3.size
  clear h2 h3 h23
  generalize u1.heap.size = B10 at *
  repeat (first | refine T_seq ?_ | refine T_block ?_ | refine T_inBlock ?_ | refine T_skip ?_)
  refine T_region ?_
  refine L_val _ _ (X_field F30_10 rfl) rfl ?_
  refine L_val _ _ (X_load A25 rfl (gblk k43 10 rfl)) rfl ?_
  refine L_callF [.slice X.da X.dat.length X.dc] E9 rfl rfl (parsem_ret X.da X.dat X.dc u3 hX3.dat hX.lt hX.cap) ?_
  rintro v u4 ⟨rfl, bu4⟩
  refine L_val _ _ (X_move) rfl ?_
  refine L_val _ _ (X_extract rfl rfl) rfl ?_
  refine L_val _ _ (X_extract rfl rfl) rfl ?_
  refine L_alloc Z32 rfl fun u5 h5 => ?_
  refine L_storeAll (parH X.dat).cells S32 rfl rfl rfl (Hd.cells_one _) h5.new rfl fun u6 h6 => ?_
  refine L_val _ _ (X_assign) rfl ?_
  refine L_nil ?_
  have h56' := h5.trans h6
  have k12 : Blk u6 u4.heap.size (parH X.dat).cells.toArray 32 := h56'.new
  have su4 := bu4.size
  have bu6 : Below u3.heap.size u3 u6 := h56'.below bu4 su4
  have k106 := below_blk bu6 k10 k10.lt
  have k46 := below_blk bu6 k43 k43.lt
  have bxu6 : Below x.heap.size x u6 := bxu3.trans (bu6.mono bxu3.size)
  have hin : Below u6.heap.size u6 u6.drew := (sm_drew u6).below (Below.refl _ _)
  have her := par_er X.dat
  have ee : cmpB .neq (stN (par X.dat) : Int) (stN (par X.dat) : Int) = false := by simp [cmpB]
  clear h5 h6 h56'
  repeat (first | refine T_seq ?_ | refine T_block ?_ | refine T_inBlock ?_ | refine T_skip ?_)
  refine T_quiet (fun z => Below u6.heap.size u6 z) rfl (by kernel_rfl) (hin) ?_
  refine LQ_val _ (fun w hw => X_move) rfl ?_
  refine LQ_callF [errV (par X.dat)] (.int .i64 (stN (par X.dat) : Int)) E10 rfl rfl (fun w hw => (status_ret _ her w).mono fun u w' hu => ⟨hu.1, hu.2 ▸ hw⟩) ?_
  refine LQ_val _ (fun w hw => X_move) rfl ?_
  refine LQ_val _ (fun w hw => X_cmpR false rfl rfl rfl ee) rfl ?_
  refine LQ_val _ (fun w hw => X_move) rfl ?_
  refine LQ_guard rfl rfl rfl ?_
  refine LQ_val _ (fun w hw => X_loadAgg (parH X.dat).cells A39 S39 rfl rfl (gblk0 (below_blk hw k106 k106.lt))) rfl ?_
  refine LQ_guard rfl rfl rfl ?_
  refine LQ_callF [.agg (parH X.dat).cells.toArray] (.agg (parH X.dat).cells.toArray) E11 rfl rfl (fun w hw => (plain_ret _ w).mono fun u w' hu => ⟨hu.1, hw.trans (hu.2.mono hw.size)⟩) ?_
  refine LQ_guard rfl rfl rfl ?_
  refine LQ_val _ (fun w hw => X_loadAgg (parH X.dat).cells A32 S32 rfl rfl (gblk0 (below_blk hw k12 k12.lt))) rfl ?_
  refine LQ_guard rfl rfl rfl ?_
  refine LQ_val _ (fun w hw => X_neq32 (parH X.dat) rfl rfl) rfl ?_
  refine LQ_val _ (fun w hw => X_pick rfl) rfl ?_
  refine LQ_nil fun u7 bu7 => ?_
  refine T_false rfl ?_
  have k47 := below_blk bu7 k46 k46.lt
  have k107 := below_blk bu7 k106 k106.lt
  have bxu7 : Below x.heap.size x u7 := bxu6.trans (bu7.mono bxu6.size)
  have bw7 : Below w.heap.size w u7 := bx.trans (bxu7.mono sx)
  repeat (first | refine T_seq ?_ | refine T_block ?_ | refine T_inBlock ?_ | refine T_skip ?_)
  by_cases hp0 : par X.dat = 0
  case neg =>
    have e := err_nil' (par X.dat) her 78 u7
    rw [decide_eq_false hp0] at e
    refine T_region ?_
    refine L_val _ _ (X_move) rfl ?_
    refine L_val _ _ (X_eq (b := false) e) rfl ?_
    refine L_nil ?_
    refine T_false rfl ?_
    repeat (first | refine T_seq ?_ | refine T_block ?_ | refine T_inBlock ?_ | refine T_skip ?_)
    refine T_region ?_
    refine L_val _ _ (X_add rfl rfl (by omega) (by omega)) rfl ?_
    refine L_val _ _ (X_move) rfl ?_
    refine L_nil ?_
    exact ih _ _ _ (by omega) ⟨i + 1, rfl, by omega, rfl, bw7⟩
  have e := err_nil' (par X.dat) her 78 u7
  rw [decide_eq_true hp0] at e
  refine T_region ?_
  refine L_val _ _ (X_move) rfl ?_
  refine L_val _ _ (X_eq (b := true) e) rfl ?_
  refine L_nil ?_
  refine T_true rfl ?_
  obtain ⟨ho, hck, h16⟩ := oct_par hX.lt hp0
  have hph : parH X.dat = hdOf X.dat := by rw [parH, if_pos hp0]
  rw [hph] at k107
  have hap := append_ret (hdOf X.dat) (hdOf_ok hX.lt) u7
  have hcap := hX.cap
  repeat (first | refine T_seq ?_ | refine T_block ?_ | refine T_inBlock ?_ | refine T_skip ?_)
  refine T_region ?_
  refine L_val _ _ (X_loadAgg (hdOf X.dat).cells A39 S39 rfl rfl (gblk0 k107)) rfl ?_
  refine L_callF [.agg (hdOf X.dat).cells.toArray, .slice none 0 0] E12 rfl rfl hap ?_
  rintro v u8 ⟨bu8, hcase⟩
  rcases hcase with ⟨hbad, -⟩ | ⟨-, a9, c9, rfl, own9⟩
  exact absurd hck hbad
  refine L_val _ _ (X_move) rfl ?_
  refine L_val _ _ (X_extract rfl rfl) rfl ?_
  refine L_val _ _ (X_extract rfl rfl) rfl ?_
  refine L_val _ _ (X_assign) rfl ?_
  refine L_val _ _ (X_assign) rfl ?_
  refine L_nil ?_
  have bxu8 : Below x.heap.size x u8 := bxu7.trans (bu8.mono bxu7.size)
  have k48 := below_blk bu8 k47 k47.lt
  have h16l : (octN (hdOf X.dat)).length = 16 := octN_len _
  have h16t : (X.dat.take 16).length = 16 := by simp; omega
  have hsm := same_ret a9 X.da (octN (hdOf X.dat)) (X.dat.take 16) c9 X.dc u8 (byt_of_owns own9 h16l) (byt_take (hX.below bxu8).dat 16) (by omega)
  rw [h16l, h16t, decide_eq_true ho] at hsm
  repeat (first | refine T_seq ?_ | refine T_block ?_ | refine T_inBlock ?_ | refine T_skip ?_)
  refine T_region ?_
  refine L_val _ _ (X_move) rfl ?_
  refine L_val _ _ (X_neq (b := false) (by kernel_rfl)) rfl ?_
  refine L_val _ _ (X_move) rfl ?_
  refine L_guard rfl rfl rfl ?_
  refine L_val _ _ (X_move) rfl ?_
  refine L_guard rfl rfl rfl ?_
  refine L_val _ _ (X_field F30_10 rfl) rfl ?_
  refine L_guard rfl rfl rfl ?_
  refine L_val _ _ (X_load A25 rfl (gblk k48 10 rfl)) rfl ?_
  refine L_guard rfl rfl rfl ?_
  refine L_val _ _ (X_sliceH (h := 16) U25 S5 rfl rfl (by omega)) rfl ?_
  refine L_guard rfl rfl rfl ?_
  refine L_callF [.slice a9 16 c9, .slice X.da 16 X.dc] E13 rfl rfl hsm ?_
  rintro v u9 ⟨rfl, bu9⟩
  refine L_guard rfl rfl rfl ?_
  refine L_val _ _ (X_not rfl) rfl ?_
  refine L_val _ _ (X_pick rfl) rfl ?_
  refine L_nil ?_
  refine T_false rfl ?_
  have bxu9 : Below x.heap.size x u9 := bxu8.trans (bu9.mono bxu8.size)
  repeat (first | refine T_seq ?_ | refine T_block ?_ | refine T_inBlock ?_ | refine T_skip ?_)
  refine T_region ?_
  refine L_val _ _ (X_add rfl rfl (by omega) (by omega)) rfl ?_
  refine L_val _ _ (X_move) rfl ?_
  refine L_nil ?_
  exact ih _ _ _ (by omega) ⟨i + 1, rfl, by omega, rfl, bx.trans (bxu9.mono sx)⟩
end Go.Proofs.Qxb6500864a
