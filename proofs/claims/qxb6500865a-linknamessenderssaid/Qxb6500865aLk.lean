/-
  Messages: Outgoing, Incoming, counterpart, isRollup, expected.
-/
import Derived.Test.Qxb6500865aW22
import Derived.Test.Qxb6500865aW7
import Derived.Test.Qxb6500865aWk5
namespace Go.Proofs.Qxb6500865a
set_option linter.unusedSimpArgs false
set_option linter.unusedVariables false
open Go.RowKit

def noMsg : Msg := ⟨0, 0, 0, 0, 0, 0, 0, 0, ByteArray.empty⟩
/-- What a transaction sends. -/
def outOf (ch : Int) (t : Tx) : Option Msg :=
  if t.kind = 2 then some ⟨2, ch, t.dest, t.frm, t.to, 0, t.token, t.amount, ByteArray.empty⟩
  else if t.kind = 4 then some ⟨1, ch, t.dest, t.frm, t.to, 0, 0, 0, t.payload⟩ else none
def inOf (t : Tx) : Option Msg := if t.kind = 3 ∨ t.kind = 5 then some t.msg else none
theorem lblk {w : World} {b : Nat} {cs : List Value} {t : TypeId} (h : Blk w b cs.toArray t) (i : Nat) {v : Value} (hv : cs[i]? = some v) : w.cell? ⟨b, i, none⟩ = some v := by
  rw [h.cell]; simpa using hv
theorem lblk0 {w : World} {b : Nat} {cs : List Value} {t : TypeId} (h : Blk w b cs.toArray t) : ∀ j v, cs[j]? = some v → w.cell? ⟨b, 0 + j, none⟩ = some v := by
  intro j v hv
  rw [Nat.zero_add]
  exact lblk h j hv
theorem lset {w w1 : World} {b i : Nat} {l : List Value} {t : TypeId} {v : Value} (h : Chg w w1 b (.cells (l.toArray.setIfInBounds i v) t (0, 0))) : Blk w1 b (l.set i v).toArray t := by
  have := h.new
  simpa using this
theorem Sm.chgL {w w1 w2 : World} {b : Nat} {o : Obj} (h : Sm w w1) (h2 : Chg w1 w2 b o) : Chg w w2 b o :=
  ⟨h2.here, fun k hk => (h2.oth k hk).trans (by rw [h.heap]), by rw [← h.heap]; exact h2.size, h2.os.trans h.os, h2.tape.trans h.tape, h2.output.trans h.output⟩

set_option maxHeartbeats 4000000 in
/-- ledgerm.Outgoing -/
theorem out_ret (ch : Int) (t : Tx) (w : World) : Ret Try.prog 24 #[.int .u8 ch, .agg t.cells.toArray] w fun v w' => v = .tuple #[.agg ((outOf ch t).getD noMsg).cells.toArray, .bool (outOf ch t).isSome] ∧ Below w.heap.size w w' := by
  refine ret_of_T (vs := [.int .u8 ch, .agg t.cells.toArray]) Try.func24 Try.ntmps24 rfl (Nat.le_of_ble_eq_true rfl) ?_
  repeat (first | refine T_seq ?_ | refine T_block ?_ | refine T_inBlock ?_ | refine T_skip ?_)
  refine T_region ?_
  refine L_box rfl fun w1 h1 => ?_
  refine L_alloc Z37 rfl fun w2 h2 => ?_
  refine L_val _ _ (X_assign) rfl ?_
  refine L_nil ?_
  have sz1 := h1.size
  have z1 := h1.lt
  have sz2 := h2.size
  have z2 := h2.lt
  have k3 : Blk w2 w.heap.size t.cells.toArray 39 := h2.blk h1.new (by omega)
  have k4 : Blk w2 w1.heap.size noMsg.cells.toArray 37 := h2.new
  have b2 : Below w.heap.size w w2 := h2.below (h1.below (Below.refl _ _) (Nat.le_refl _)) sz1
  repeat (first | refine T_seq ?_ | refine T_block ?_ | refine T_inBlock ?_ | refine T_skip ?_)
  refine T_region ?_
  refine L_val _ _ (X_move) rfl ?_
  refine L_val _ _ (X_field F39_6 rfl) rfl ?_
  refine L_val _ _ (X_load A25 rfl (lblk k3 6 rfl)) rfl ?_
  refine L_val _ _ (X_field F39_2 rfl) rfl ?_
  refine L_val _ _ (X_load A33 rfl (lblk k3 2 rfl)) rfl ?_
  refine L_val _ _ (X_field F39_5 rfl) rfl ?_
  refine L_val _ _ (X_load A33 rfl (lblk k3 5 rfl)) rfl ?_
  refine L_val _ _ (X_build (.agg (⟨0, ch, t.dest, t.frm, t.to, 0, 0, 0, ByteArray.empty⟩ : Msg).cells.toArray) (by kernel_rfl)) rfl ?_
  refine L_alloc Z37 rfl fun w3 h3 => ?_
  refine L_storeAll (⟨0, ch, t.dest, t.frm, t.to, 0, 0, 0, ByteArray.empty⟩ : Msg).cells S37 rfl rfl (Msg.cells_length _) (by simp [Msg.cells, Value.oneCell']) h3.new rfl fun w4 h4 => ?_
  refine L_nil ?_
  have h34 := h3.trans h4
  have sz4 := h34.size
  have z4 := h34.lt
  have k34 := h34.blk k3 (by omega)
  have k44 := h34.blk k4 (by omega)
  have k6 : Blk w4 w2.heap.size (⟨0, ch, t.dest, t.frm, t.to, 0, 0, 0, ByteArray.empty⟩ : Msg).cells.toArray 37 := h34.new
  have b4 := h34.below b2 (by omega)
  clear h1 h2 h3 h4 h34 k3 k4 b2
  generalize w1.heap.size = B4 at *
  generalize w2.heap.size = B6 at *
  repeat (first | refine T_seq ?_ | refine T_block ?_ | refine T_inBlock ?_ | refine T_skip ?_)
  refine T_region ?_
  refine L_val _ _ (X_field F39_0 rfl) rfl ?_
  refine L_val _ _ (X_load A32 rfl (lblk k34 0 rfl)) rfl ?_
  refine L_val _ _ (X_cmp rfl rfl rfl) rfl ?_
  refine L_nil ?_
  refine T_if rfl (fun ht => ?_) (fun hf => ?_)
  · have hk : t.kind = 2 := by simpa [cmpB] using ht
    have ho : outOf ch t = some ⟨2, ch, t.dest, t.frm, t.to, 0, t.token, t.amount, ByteArray.empty⟩ := by simp [outOf, hk]
    repeat (first | refine T_seq ?_ | refine T_block ?_ | refine T_inBlock ?_ | refine T_skip ?_)
    refine T_draw (fun z => Blk z w.heap.size t.cells.toArray 39) 10 rfl rfl fun w5 hsm => ?_
    have hS := hsm.blk k34
    refine D_take 0 _ rfl (by kernel_rfl) hS (fun w hw => X_field F39_7 rfl) rfl ?_
    refine D_take 1 _ rfl (by kernel_rfl) hS (fun w hw => X_load A34 rfl (lblk hw 7 rfl)) rfl ?_
    refine D_take 2 _ rfl (by kernel_rfl) hS (fun w hw => X_field F39_8 rfl) rfl ?_
    refine D_take 3 _ rfl (by kernel_rfl) hS (fun w hw => X_load A29 rfl (lblk hw 8 rfl)) rfl ?_
    refine D_take 4 _ rfl (by kernel_rfl) hS (fun w hw => X_field F37_0 rfl) rfl ?_
    refine D_store 5 (.int .u8 2) rfl (by kernel_rfl) S35 rfl rfl rfl (hsm.blk k6) (by simp [Msg.cells]) ?_
    intro w6 h6
    have h6' := hsm.chgL h6
    have hS := h6'.blk k34 (by omega)
    refine ⟨fun _ => hS, ?_⟩
    have k66 := lset h6
    refine D_val 6 _ _ rfl (by kernel_rfl) (X_field F37_6 rfl) rfl (fun hb => hS) ?_
    refine D_store 7 (.int .u8 t.token) rfl (by kernel_rfl) S34 rfl rfl rfl k66 (by simp [Msg.cells]) ?_
    intro w7 h7
    have hS := h7.blk hS (by omega)
    refine ⟨fun _ => hS, ?_⟩
    have k67 := lset h7
    refine D_val 8 _ _ rfl (by kernel_rfl) (X_field F37_7 rfl) rfl (fun hb => hS) ?_
    refine D_store 9 (.int .u64 t.amount) rfl (by kernel_rfl) S29 rfl rfl rfl k67 (by simp [Msg.cells]) ?_
    intro w8 h8
    have hS := h8.blk hS (by omega)
    refine ⟨fun _ => hS, ?_⟩
    have k68 := lset h8
    refine D_done (by kernel_rfl) ?_
    have k68' : Blk w8 B6 (⟨2, ch, t.dest, t.frm, t.to, 0, t.token, t.amount, ByteArray.empty⟩ : Msg).cells.toArray 37 := k68
    have b8 := h8.below (h7.below (h6'.below b4 (by omega)) (by omega)) (by omega)
    have k48 := h8.blk (h7.blk (h6'.blk k44 (by omega)) (by omega)) (by omega)
    repeat (first | refine T_seq ?_ | refine T_block ?_ | refine T_inBlock ?_ | refine T_skip ?_)
    refine T_region ?_
    refine L_val _ _ (X_loadAgg (⟨2, ch, t.dest, t.frm, t.to, 0, t.token, t.amount, ByteArray.empty⟩ : Msg).cells A37 S37 (Msg.cells_length _) rfl (lblk0 k68')) rfl ?_
    refine L_storeAll (⟨2, ch, t.dest, t.frm, t.to, 0, t.token, t.amount, ByteArray.empty⟩ : Msg).cells S37 rfl rfl (Msg.cells_length _) (by simp [Msg.cells, Value.oneCell']) k48 rfl fun w9 h9 => ?_
    refine L_val _ _ (X_assign) rfl ?_
    refine L_nil ?_
    exact T_retCT (⟨2, ch, t.dest, t.frm, t.to, 0, t.token, t.amount, ByteArray.empty⟩ : Msg).cells Try.func24 rfl A37 S37 (Msg.cells_length _) rfl (lblk0 h9.new) ⟨by rw [ho]; rfl, h9.below b8 (by omega)⟩
  have hk2 : t.kind ≠ 2 := by simpa [cmpB] using hf
  repeat (first | refine T_seq ?_ | refine T_block ?_ | refine T_inBlock ?_ | refine T_skip ?_)
  refine T_region ?_
  refine L_val _ _ (X_field F39_0 rfl) rfl ?_
  refine L_val _ _ (X_load A32 rfl (lblk k34 0 rfl)) rfl ?_
  refine L_val _ _ (X_cmp rfl rfl rfl) rfl ?_
  refine L_nil ?_
  refine T_if rfl (fun ht => ?_) (fun hf => ?_)
  · have hk : t.kind = 4 := by simpa [cmpB] using ht
    have ho : outOf ch t = some ⟨1, ch, t.dest, t.frm, t.to, 0, 0, 0, t.payload⟩ := by simp [outOf, hk]
    repeat (first | refine T_seq ?_ | refine T_block ?_ | refine T_inBlock ?_ | refine T_skip ?_)
    refine T_draw (fun z => Blk z w.heap.size t.cells.toArray 39) 6 rfl rfl fun w5 hsm => ?_
    have hS := hsm.blk k34
    refine D_take 0 _ rfl (by kernel_rfl) hS (fun w hw => X_field F39_9 rfl) rfl ?_
    refine D_take 1 _ rfl (by kernel_rfl) hS (fun w hw => X_load A9 rfl (lblk hw 9 rfl)) rfl ?_
    refine D_take 2 _ rfl (by kernel_rfl) hS (fun w hw => X_field F37_0 rfl) rfl ?_
    refine D_store 3 (.int .u8 1) rfl (by kernel_rfl) S35 rfl rfl rfl (hsm.blk k6) (by simp [Msg.cells]) ?_
    intro w6 h6
    have h6' := hsm.chgL h6
    have hS := h6'.blk k34 (by omega)
    refine ⟨fun _ => hS, ?_⟩
    have k66 := lset h6
    refine D_val 4 _ _ rfl (by kernel_rfl) (X_field F37_8 rfl) rfl (fun hb => hS) ?_
    refine D_store 5 (.string t.payload) rfl (by kernel_rfl) S9 rfl rfl rfl k66 (by simp [Msg.cells]) ?_
    intro w7 h7
    have hS := h7.blk hS (by omega)
    refine ⟨fun _ => hS, ?_⟩
    have k67 := lset h7
    refine D_done (by kernel_rfl) ?_
    have k67' : Blk w7 B6 (⟨1, ch, t.dest, t.frm, t.to, 0, 0, 0, t.payload⟩ : Msg).cells.toArray 37 := k67
    have b7 := h7.below (h6'.below b4 (by omega)) (by omega)
    have k47 := h7.blk (h6'.blk k44 (by omega)) (by omega)
    repeat (first | refine T_seq ?_ | refine T_block ?_ | refine T_inBlock ?_ | refine T_skip ?_)
    refine T_region ?_
    refine L_val _ _ (X_loadAgg (⟨1, ch, t.dest, t.frm, t.to, 0, 0, 0, t.payload⟩ : Msg).cells A37 S37 (Msg.cells_length _) rfl (lblk0 k67')) rfl ?_
    refine L_storeAll (⟨1, ch, t.dest, t.frm, t.to, 0, 0, 0, t.payload⟩ : Msg).cells S37 rfl rfl (Msg.cells_length _) (by simp [Msg.cells, Value.oneCell']) k47 rfl fun w9 h9 => ?_
    refine L_val _ _ (X_assign) rfl ?_
    refine L_nil ?_
    exact T_retCT (⟨1, ch, t.dest, t.frm, t.to, 0, 0, 0, t.payload⟩ : Msg).cells Try.func24 rfl A37 S37 (Msg.cells_length _) rfl (lblk0 h9.new) ⟨by rw [ho]; rfl, h9.below b7 (by omega)⟩
  have hk4 : t.kind ≠ 4 := by simpa [cmpB] using hf
  have ho : outOf ch t = none := by simp [outOf, hk2, hk4]
  repeat (first | refine T_seq ?_ | refine T_block ?_ | refine T_inBlock ?_ | refine T_skip ?_)
  refine T_region ?_
  refine L_val _ _ (X_build (.agg noMsg.cells.toArray) (by kernel_rfl)) rfl ?_
  refine L_storeAll noMsg.cells S37 rfl rfl (Msg.cells_length _) (by simp [noMsg, Msg.cells, Value.oneCell']) k44 rfl fun w9 h9 => ?_
  refine L_val _ _ (X_assign) rfl ?_
  refine L_nil ?_
  exact T_retCT noMsg.cells Try.func24 rfl A37 S37 (Msg.cells_length _) rfl (lblk0 h9.new) ⟨by rw [ho]; rfl, h9.below b4 (by omega)⟩

def cpart (c : Int) : Int := if c = 1 then 2 else 1
theorem cpart_ret (c : Int) (w : World) : Ret Try.prog 37 #[.int .u8 c] w fun v w' => v = .int .u8 (cpart c) ∧ w = w' := by
  refine ret_of_T (vs := [.int .u8 c]) Try.func37 Try.ntmps37 rfl (Nat.le_of_ble_eq_true rfl) ?_
  repeat (first | refine T_seq ?_ | refine T_block ?_ | refine T_inBlock ?_ | refine T_skip ?_)
  refine T_region ?_
  refine L_val _ _ (X_assign) rfl ?_
  refine L_nil ?_
  repeat (first | refine T_seq ?_ | refine T_block ?_ | refine T_inBlock ?_ | refine T_skip ?_)
  refine T_region ?_
  refine L_val _ _ (X_move) rfl ?_
  refine L_val _ _ (X_cmp rfl rfl rfl) rfl ?_
  refine L_nil ?_
  refine T_if rfl (fun ht => ?_) (fun hf => ?_)
  · have hk : c = 1 := by simpa [cmpB] using ht
    repeat (first | refine T_seq ?_ | refine T_block ?_ | refine T_inBlock ?_ | refine T_skip ?_)
    refine T_region ?_
    refine L_val _ _ (X_assign) rfl ?_
    refine L_nil ?_
    exact T_ret1 Try.func37 rfl ⟨by rw [cpart, if_pos hk]; rfl, rfl⟩
  · have hk : ¬ c = 1 := by simpa [cmpB] using hf
    repeat (first | refine T_seq ?_ | refine T_block ?_ | refine T_inBlock ?_ | refine T_skip ?_)
    refine T_region ?_
    refine L_val _ _ (X_assign) rfl ?_
    refine L_nil ?_
    exact T_ret1 Try.func37 rfl ⟨by rw [cpart, if_neg hk]; rfl, rfl⟩
end Go.Proofs.Qxb6500865a
