/-
  Incoming, expected.
-/
import Derived.Test.Qxb6500865aLk
namespace Go.Proofs.Qxb6500865a
set_option linter.unusedSimpArgs false
set_option linter.unusedVariables false
open Go.RowKit

section
variable {P : Program} {f : FuncId} {n : Nat} {R : Value → World → Prop} {ρ : Env} {k : List Item} {ops : Array Oper} {rest : List Oper} {C : World → Prop}
variable {d : Nat} {ty : TypeId} {pos : String} {after : Array Edge}
theorem LQ_callL {g : FuncId} {xs : Array Operand} {ts : Array TypeId} (args : List Value) (v : Value) (hg : EN P g) (ha : xs.toList.map (ev ρ) = args) (hd : Nat.blt d n = true)
    (hc : ∀ w, C w → Ret P g args.toArray w fun u w' => u = v ∧ C w')
    (h : LQ P f n ops C rest k R (upd ρ d v)) : LQ P f n ops C (⟨some d, .call { callee := .value (.func g), args := xs, argTypes := ts }, ty, pos, after, none⟩ :: rest) k R ρ := by
  refine LQ_call (g := g) (args := args.toArray) v (fun w hw => ?_) hd hc h
  have e : xs.map (ev ρ) = args.toArray := by
    rw [← ha]; apply Array.ext'; simp
  have h1 := hg args.toArray w
  simp [execOp, resolve, e, ev, Deferred.ofValue, invoke, h1]
end
theorem Msg.cells_one' (m : Msg) : ∀ v ∈ m.cells, v.oneCell' = true := by simp [Msg.cells, Value.oneCell']
theorem tx_msg {t : Tx} {j : Nat} {v : Value} (hv : t.msg.cells[j]? = some v) : t.cells[0 + 10 + j]? = some v := by
  rw [show 0 + 10 + j = j + 10 by omega]
  exact hv
set_option maxHeartbeats 4000000 in
/-- ledgerm.Incoming -/
theorem in_ret (t : Tx) (w : World) : Ret Try.prog 36 #[.agg t.cells.toArray] w fun v w' => v = .tuple #[.agg ((inOf t).getD noMsg).cells.toArray, .bool (inOf t).isSome] ∧ Below w.heap.size w w' := by
  refine ret_of_T (vs := [.agg t.cells.toArray]) Try.func36 Try.ntmps36 rfl (Nat.le_of_ble_eq_true rfl) ?_
  repeat (first | refine T_seq ?_ | refine T_block ?_ | refine T_inBlock ?_ | refine T_skip ?_)
  refine T_region ?_
  refine L_box rfl fun w1 h1 => ?_
  refine L_alloc Z37 rfl fun w2 h2 => ?_
  refine L_val _ _ (X_assign) rfl ?_
  refine L_nil ?_
  have sz1 := h1.size
  have z1 := h1.lt
  have k1 : Blk w2 w.heap.size t.cells.toArray 39 := h2.blk h1.new (by omega)
  have k2 : Blk w2 w1.heap.size noMsg.cells.toArray 37 := h2.new
  have b2 : Below w.heap.size w w2 := h2.below (h1.below (Below.refl _ _) (Nat.le_refl _)) sz1
  repeat (first | refine T_seq ?_ | refine T_block ?_ | refine T_inBlock ?_ | refine T_skip ?_)
  by_cases h3 : t.kind = 3
  · have e3 : cmpB .eql t.kind 3 = true := by simp [cmpB, h3]
    have ho : inOf t = some t.msg := by simp [inOf, h3]
    refine T_region ?_
    refine L_val _ _ (X_field F39_0 rfl) rfl ?_
    refine L_val _ _ (X_load A32 rfl (lblk k1 0 rfl)) rfl ?_
    refine L_val _ _ (X_cmpR true rfl rfl rfl e3) rfl ?_
    refine L_val _ _ (X_move) rfl ?_
    refine L_passB rfl rfl rfl ?_
    refine L_passB rfl rfl rfl ?_
    refine L_passB rfl rfl rfl ?_
    refine L_val _ _ (X_pick rfl) rfl ?_
    refine L_nil ?_
    refine T_true rfl ?_
    repeat (first | refine T_seq ?_ | refine T_block ?_ | refine T_inBlock ?_ | refine T_skip ?_)
    refine T_region ?_
    refine L_val _ _ (X_field F39_10 rfl) rfl ?_
    refine L_val _ _ (X_loadAgg t.msg.cells A37 S37 (Msg.cells_length _) rfl (fun j v hv => lblk k1 (0 + 10 + j) (tx_msg hv))) rfl ?_
    refine L_storeAll t.msg.cells S37 rfl rfl (Msg.cells_length _) (Msg.cells_one' _) k2 rfl fun w3 h3 => ?_
    refine L_val _ _ (X_assign) rfl ?_
    refine L_nil ?_
    exact T_retCT t.msg.cells Try.func36 rfl A37 S37 (Msg.cells_length _) rfl (lblk0 h3.new) ⟨by rw [ho]; rfl, h3.below b2 sz1⟩
  have e3 : cmpB .eql t.kind 3 = false := by simp [cmpB, h3]
  by_cases h5 : t.kind = 5
  · have e5 : cmpB .eql t.kind 5 = true := by simp [cmpB, h5]
    have ho : inOf t = some t.msg := by simp [inOf, h5]
    refine T_region ?_
    refine L_val _ _ (X_field F39_0 rfl) rfl ?_
    refine L_val _ _ (X_load A32 rfl (lblk k1 0 rfl)) rfl ?_
    refine L_val _ _ (X_cmpR false rfl rfl rfl e3) rfl ?_
    refine L_val _ _ (X_move) rfl ?_
    refine L_guard rfl rfl rfl ?_
    refine L_val _ _ (X_field F39_0 rfl) rfl ?_
    refine L_guard rfl rfl rfl ?_
    refine L_val _ _ (X_load A32 rfl (lblk k1 0 rfl)) rfl ?_
    refine L_guard rfl rfl rfl ?_
    refine L_val _ _ (X_cmpR true rfl rfl rfl e5) rfl ?_
    refine L_val _ _ (X_pick rfl) rfl ?_
    refine L_nil ?_
    refine T_true rfl ?_
    repeat (first | refine T_seq ?_ | refine T_block ?_ | refine T_inBlock ?_ | refine T_skip ?_)
    refine T_region ?_
    refine L_val _ _ (X_field F39_10 rfl) rfl ?_
    refine L_val _ _ (X_loadAgg t.msg.cells A37 S37 (Msg.cells_length _) rfl (fun j v hv => lblk k1 (0 + 10 + j) (tx_msg hv))) rfl ?_
    refine L_storeAll t.msg.cells S37 rfl rfl (Msg.cells_length _) (Msg.cells_one' _) k2 rfl fun w3 h3 => ?_
    refine L_val _ _ (X_assign) rfl ?_
    refine L_nil ?_
    exact T_retCT t.msg.cells Try.func36 rfl A37 S37 (Msg.cells_length _) rfl (lblk0 h3.new) ⟨by rw [ho]; rfl, h3.below b2 sz1⟩
  have e5 : cmpB .eql t.kind 5 = false := by simp [cmpB, h5]
  have ho : inOf t = none := by simp [inOf, h3, h5]
  refine T_region ?_
  refine L_val _ _ (X_field F39_0 rfl) rfl ?_
  refine L_val _ _ (X_load A32 rfl (lblk k1 0 rfl)) rfl ?_
  refine L_val _ _ (X_cmpR false rfl rfl rfl e3) rfl ?_
  refine L_val _ _ (X_move) rfl ?_
  refine L_guard rfl rfl rfl ?_
  refine L_val _ _ (X_field F39_0 rfl) rfl ?_
  refine L_guard rfl rfl rfl ?_
  refine L_val _ _ (X_load A32 rfl (lblk k1 0 rfl)) rfl ?_
  refine L_guard rfl rfl rfl ?_
  refine L_val _ _ (X_cmpR false rfl rfl rfl e5) rfl ?_
  refine L_val _ _ (X_pick rfl) rfl ?_
  refine L_nil ?_
  refine T_false rfl ?_
  repeat (first | refine T_seq ?_ | refine T_block ?_ | refine T_inBlock ?_ | refine T_skip ?_)
  refine T_region ?_
  refine L_val _ _ (X_build (.agg noMsg.cells.toArray) (by kernel_rfl)) rfl ?_
  refine L_storeAll noMsg.cells S37 rfl rfl (Msg.cells_length _) (Msg.cells_one' _) k2 rfl fun w3 h3 => ?_
  refine L_val _ _ (X_assign) rfl ?_
  refine L_nil ?_
  exact T_retCT noMsg.cells Try.func36 rfl A37 S37 (Msg.cells_length _) rfl (lblk0 h3.new) ⟨by rw [ho]; rfl, h3.below b2 sz1⟩

/-- The message that a leg expects of another leg. -/
def expOf (g : Leg) : Option Msg := match inOf g.tx with
  | some m => if m.frm = cpart g.chain then some m else none
  | none => none
set_option maxHeartbeats 4000000 in
/-- bundle.expected -/
theorem exp_ret (g : Leg) (b o : Nat) (w : World) (hb : b < w.heap.size) (hg : ∀ j v, g.cells[j]? = some v → w.cell? ⟨b, o + j, none⟩ = some v) :
    Ret Try.prog 30 #[.pointer (some ⟨b, o, none⟩)] w fun v w' => v = .tuple #[.agg ((expOf g).getD noMsg).cells.toArray, .bool (expOf g).isSome] ∧ Below w.heap.size w w' := by
  refine ret_of_T (vs := [.pointer (some ⟨b, o, none⟩)]) Try.func30 Try.ntmps30 rfl (Nat.le_of_ble_eq_true rfl) ?_
  repeat (first | refine T_seq ?_ | refine T_block ?_ | refine T_inBlock ?_ | refine T_skip ?_)
  refine T_region ?_
  refine L_alloc Z37 rfl fun w1 h1 => ?_
  refine L_val _ _ (X_assign) rfl ?_
  refine L_nil ?_
  have k2 : Blk w1 w.heap.size noMsg.cells.toArray 37 := h1.new
  have b1 : Below w.heap.size w w1 := h1.below (Below.refl _ _) (Nat.le_refl _)
  have sz1 := h1.size
  have z1 := h1.lt
  have hg1 : ∀ j v, g.cells[j]? = some v → w1.cell? ⟨b, o + j, none⟩ = some v := fun j v hv => (below_cell b1 _ hb).trans (hg j v hv)
  repeat (first | refine T_seq ?_ | refine T_block ?_ | refine T_inBlock ?_ | refine T_skip ?_)
  refine T_region ?_
  refine L_val _ _ (X_move) rfl ?_
  refine L_val _ _ (X_nilCheck rfl) rfl ?_
  refine L_val _ _ (X_field F62_2 rfl) rfl ?_
  refine L_val _ _ (X_loadAgg g.tx.cells A39 S39 (Tx.cells_length _) rfl (fun j v hv => by rw [Nat.add_assoc]; exact hg1 (2 + j) v (by have := leg_tx g hv; rwa [Nat.zero_add] at this))) rfl ?_
  refine L_callF [.agg g.tx.cells.toArray] E36 rfl rfl (in_ret g.tx w1) ?_
  rintro v w2 ⟨rfl, b2⟩
  refine L_val _ _ (X_move) rfl ?_
  refine L_val _ _ (X_extract rfl rfl) rfl ?_
  refine L_val _ _ (X_extract rfl rfl) rfl ?_
  refine L_alloc Z37 rfl fun w3 h3 => ?_
  refine L_storeAll ((inOf g.tx).getD noMsg).cells S37 rfl rfl (Msg.cells_length _) (Msg.cells_one' _) h3.new rfl fun w4 h4 => ?_
  refine L_val _ _ (X_assign) rfl ?_
  refine L_nil ?_
  have h34 := h3.trans h4
  have sz2 := b2.size
  have sz4 := h34.size
  have k4 : Blk w4 w2.heap.size ((inOf g.tx).getD noMsg).cells.toArray 37 := h34.new
  have b14 : Below w1.heap.size w1 w4 := h34.below b2 sz2
  have k24 := below_blk b14 k2 z1
  have b4 : Below w.heap.size w w4 := b1.trans (b14.mono sz1)
  have hg4 : ∀ j v, g.cells[j]? = some v → w4.cell? ⟨b, o + j, none⟩ = some v := fun j v hv => (below_cell b4 _ hb).trans (hg j v hv)
  clear h3 h4 h34 b14 b2
  repeat (first | refine T_seq ?_ | refine T_block ?_ | refine T_inBlock ?_ | refine T_skip ?_)
  cases hi : inOf g.tx with
  | none =>
    have he : expOf g = none := by simp [expOf, hi]
    rw [hi] at k4
    refine T_quiet (fun z => Sm w4 z) rfl (by kernel_rfl) (sm_drew w4) ?_
    refine LQ_val _ (fun w hw => X_move) rfl ?_
    refine LQ_val _ (fun w hw => X_not rfl) rfl ?_
    refine LQ_val _ (fun w hw => X_move) rfl ?_
    refine LQ_passB rfl rfl rfl ?_
    refine LQ_passB rfl rfl rfl ?_
    refine LQ_passB rfl rfl rfl ?_
    refine LQ_passB rfl rfl rfl ?_
    refine LQ_passB rfl rfl rfl ?_
    refine LQ_passB rfl rfl rfl ?_
    refine LQ_passB rfl rfl rfl ?_
    refine LQ_passB rfl rfl rfl ?_
    refine LQ_val _ (fun w hw => X_pick rfl) rfl ?_
    refine LQ_nil fun w5 h5 => ?_
    refine T_true rfl ?_
    repeat (first | refine T_seq ?_ | refine T_block ?_ | refine T_inBlock ?_ | refine T_skip ?_)
    refine T_region ?_
    refine L_val _ _ (X_build (.agg noMsg.cells.toArray) (by kernel_rfl)) rfl ?_
    refine L_storeAll noMsg.cells S37 rfl rfl (Msg.cells_length _) (Msg.cells_one' _) (h5.blk k24) rfl fun w6 h6 => ?_
    refine L_val _ _ (X_assign) rfl ?_
    refine L_nil ?_
    exact T_retCT noMsg.cells Try.func30 rfl A37 S37 (Msg.cells_length _) rfl (lblk0 h6.new) ⟨by rw [he]; rfl, h6.below (h5.below b4) (Nat.le_refl _)⟩
  | some mm =>
  rw [hi] at k4
  have k4' : Blk w4 w2.heap.size mm.cells.toArray 37 := k4
  have hch : ∀ z, Sm w4 z → z.cell? ⟨b, o + 1, none⟩ = some (.int .u8 g.chain) := fun z hz => (hz.cell _).trans (hg4 1 _ rfl)
  by_cases hm : mm.frm = cpart g.chain
  · have he : expOf g = some mm := by simp [expOf, hi, hm]
    have en : cmpB .neq mm.frm (cpart g.chain) = false := by simp [cmpB, hm]
    refine T_quiet (fun z => Sm w4 z) rfl (by kernel_rfl) (sm_drew w4) ?_
    refine LQ_val _ (fun w hw => X_move) rfl ?_
    refine LQ_val _ (fun w hw => X_not rfl) rfl ?_
    refine LQ_val _ (fun w hw => X_move) rfl ?_
    refine LQ_guard rfl rfl rfl ?_
    refine LQ_val _ (fun w hw => X_field F37_1 rfl) rfl ?_
    refine LQ_guard rfl rfl rfl ?_
    refine LQ_val _ (fun w hw => X_load A25 rfl ((hw.cell _).trans (lblk k4' 1 rfl))) rfl ?_
    refine LQ_guard rfl rfl rfl ?_
    refine LQ_val _ (fun w hw => X_move) rfl ?_
    refine LQ_guard rfl rfl rfl ?_
    refine LQ_val _ (fun w hw => X_nilCheck rfl) rfl ?_
    refine LQ_guard rfl rfl rfl ?_
    refine LQ_val _ (fun w hw => X_field F62_1 rfl) rfl ?_
    refine LQ_guard rfl rfl rfl ?_
    refine LQ_val _ (fun w hw => X_load A25 rfl (hch _ hw)) rfl ?_
    refine LQ_guard rfl rfl rfl ?_
    refine LQ_callL [.int .u8 g.chain] (.int .u8 (cpart g.chain)) E37 rfl rfl (fun w hw => (cpart_ret g.chain w).mono fun u w' hu => ⟨hu.1, hu.2 ▸ hw⟩) ?_
    refine LQ_guard rfl rfl rfl ?_
    refine LQ_val _ (fun w hw => X_cmpR false rfl rfl rfl en) rfl ?_
    refine LQ_val _ (fun w hw => X_pick rfl) rfl ?_
    refine LQ_nil fun w5 h5 => ?_
    refine T_false rfl ?_
    repeat (first | refine T_seq ?_ | refine T_block ?_ | refine T_inBlock ?_ | refine T_skip ?_)
    refine T_region ?_
    refine L_val _ _ (X_loadAgg mm.cells A37 S37 (Msg.cells_length _) rfl (lblk0 (h5.blk k4'))) rfl ?_
    refine L_storeAll mm.cells S37 rfl rfl (Msg.cells_length _) (Msg.cells_one' _) (h5.blk k24) rfl fun w6 h6 => ?_
    refine L_val _ _ (X_assign) rfl ?_
    refine L_nil ?_
    exact T_retCT mm.cells Try.func30 rfl A37 S37 (Msg.cells_length _) rfl (lblk0 h6.new) ⟨by rw [he]; rfl, h6.below (h5.below b4) (Nat.le_refl _)⟩
  · have he : expOf g = none := by simp [expOf, hi, hm]
    have en : cmpB .neq mm.frm (cpart g.chain) = true := by simp [cmpB, hm]
    refine T_quiet (fun z => Sm w4 z) rfl (by kernel_rfl) (sm_drew w4) ?_
    refine LQ_val _ (fun w hw => X_move) rfl ?_
    refine LQ_val _ (fun w hw => X_not rfl) rfl ?_
    refine LQ_val _ (fun w hw => X_move) rfl ?_
    refine LQ_guard rfl rfl rfl ?_
    refine LQ_val _ (fun w hw => X_field F37_1 rfl) rfl ?_
    refine LQ_guard rfl rfl rfl ?_
    refine LQ_val _ (fun w hw => X_load A25 rfl ((hw.cell _).trans (lblk k4' 1 rfl))) rfl ?_
    refine LQ_guard rfl rfl rfl ?_
    refine LQ_val _ (fun w hw => X_move) rfl ?_
    refine LQ_guard rfl rfl rfl ?_
    refine LQ_val _ (fun w hw => X_nilCheck rfl) rfl ?_
    refine LQ_guard rfl rfl rfl ?_
    refine LQ_val _ (fun w hw => X_field F62_1 rfl) rfl ?_
    refine LQ_guard rfl rfl rfl ?_
    refine LQ_val _ (fun w hw => X_load A25 rfl (hch _ hw)) rfl ?_
    refine LQ_guard rfl rfl rfl ?_
    refine LQ_callL [.int .u8 g.chain] (.int .u8 (cpart g.chain)) E37 rfl rfl (fun w hw => (cpart_ret g.chain w).mono fun u w' hu => ⟨hu.1, hu.2 ▸ hw⟩) ?_
    refine LQ_guard rfl rfl rfl ?_
    refine LQ_val _ (fun w hw => X_cmpR true rfl rfl rfl en) rfl ?_
    refine LQ_val _ (fun w hw => X_pick rfl) rfl ?_
    refine LQ_nil fun w5 h5 => ?_
    refine T_true rfl ?_
    repeat (first | refine T_seq ?_ | refine T_block ?_ | refine T_inBlock ?_ | refine T_skip ?_)
    refine T_region ?_
    refine L_val _ _ (X_build (.agg noMsg.cells.toArray) (by kernel_rfl)) rfl ?_
    refine L_storeAll noMsg.cells S37 rfl rfl (Msg.cells_length _) (Msg.cells_one' _) (h5.blk k24) rfl fun w6 h6 => ?_
    refine L_val _ _ (X_assign) rfl ?_
    refine L_nil ?_
    exact T_retCT noMsg.cells Try.func30 rfl A37 S37 (Msg.cells_length _) rfl (lblk0 h6.new) ⟨by rw [he]; rfl, h6.below (h5.below b4) (Nat.le_refl _)⟩
end Go.Proofs.Qxb6500865a
