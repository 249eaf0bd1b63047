/-
  Check, WellFormed, status; two, eight, PutBE16, PutBE64.
-/
import Derived.Test.Qxb6500864aP1
namespace Go.Proofs.Qxb6500864a
set_option linter.unusedSimpArgs false
set_option linter.unusedVariables false
open Go.RowKit

theorem bit_andNot7 : ∀ x : Fin 256, bitB .andNot .u8 ((x.val : Nat) : Int) 7 = ((x.val / 8 * 8 : Nat) : Int) := by decide +kernel
theorem bit_and2 : ∀ x : Fin 256, (bitB .and .u8 ((x.val : Nat) : Int) 2 == 2) = decide (x.val / 2 % 2 = 1) := by decide +kernel
/-- tokenm.Bit, of weight 2 -/
theorem bit_ret (f : Nat) (hf : f < 256) (w : World) : Ret Try.prog 33 #[.int .u8 (f : Int), .int .u8 2] w fun v w' => v = .bool (decide (f / 2 % 2 = 1)) ∧ w = w' := by
  refine ret_of_T (vs := [.int .u8 (f : Int), .int .u8 2]) Try.func33 Try.ntmps33 rfl (Nat.le_of_ble_eq_true rfl) ?_
  repeat (first | refine T_seq ?_ | refine T_block ?_ | refine T_inBlock ?_ | refine T_skip ?_)
  refine T_region ?_
  refine L_val _ _ (X_assign) rfl ?_
  refine L_nil ?_
  repeat (first | refine T_seq ?_ | refine T_block ?_ | refine T_inBlock ?_ | refine T_skip ?_)
  have e : cmpB .eql ((f / 2 % 2 : Nat) : Int) 1 = decide (f / 2 % 2 = 1) := by
    simp only [cmpB]
    by_cases h : f / 2 % 2 = 1
    · rw [h]; rfl
    · have : f / 2 % 2 = 0 := by omega
      rw [this]; rfl
  refine T_region ?_
  refine L_val _ _ (X_move) rfl ?_
  refine L_val _ _ (X_move) rfl ?_
  refine L_val _ _ (X_quoN f 2 rfl rfl (by decide) hf) rfl ?_
  refine L_val _ _ (X_remN (f / 2) 2 rfl rfl (by decide)) rfl ?_
  refine L_val _ _ (X_cmpR (decide (f / 2 % 2 = 1)) rfl rfl rfl e) rfl ?_
  refine L_val _ _ (X_assign) rfl ?_
  refine L_nil ?_
  exact T_ret1 Try.func33 rfl ⟨rfl, rfl⟩
/-- ID.Known -/
theorem known_ret (i : Nat) (w : World) : Ret Try.prog 34 #[.int .u16 (i : Int)] w fun v w' => v = .bool (decide (i = 1028 ∨ i = 1284)) ∧ w = w' := by
  refine ret_of_T (vs := [.int .u16 (i : Int)]) Try.func34 Try.ntmps34 rfl (Nat.le_of_ble_eq_true rfl) ?_
  repeat (first | refine T_seq ?_ | refine T_block ?_ | refine T_inBlock ?_ | refine T_skip ?_)
  refine T_region ?_
  refine L_val _ _ (X_assign) rfl ?_
  refine L_nil ?_
  repeat (first | refine T_seq ?_ | refine T_block ?_ | refine T_inBlock ?_ | refine T_skip ?_)
  by_cases h1 : i = 1028
  · have e1 : cmpB .eql (i : Int) 1028 = true := by simp [cmpB]; omega
    refine T_region ?_
    refine L_val _ _ (X_move) rfl ?_
    refine L_val _ _ (X_cmpR true rfl rfl rfl e1) rfl ?_
    refine L_val _ _ (X_move) rfl ?_
    refine L_passB rfl rfl rfl ?_
    refine L_passB rfl rfl rfl ?_
    refine L_val _ _ (X_pick rfl) rfl ?_
    refine L_val _ _ (X_assign) rfl ?_
    refine L_nil ?_
    exact T_ret1 Try.func34 rfl ⟨by simp only [h1, true_or, decide_true]; rfl, rfl⟩
  have e1 : cmpB .eql (i : Int) 1028 = false := by simp [cmpB]; omega
  by_cases h2 : i = 1284
  · have e2 : cmpB .eql (i : Int) 1284 = true := by simp [cmpB]; omega
    refine T_region ?_
    refine L_val _ _ (X_move) rfl ?_
    refine L_val _ _ (X_cmpR false rfl rfl rfl e1) rfl ?_
    refine L_val _ _ (X_move) rfl ?_
    refine L_guard rfl rfl rfl ?_
    refine L_val _ _ (X_move) rfl ?_
    refine L_guard rfl rfl rfl ?_
    refine L_val _ _ (X_cmpR true rfl rfl rfl e2) rfl ?_
    refine L_val _ _ (X_pick rfl) rfl ?_
    refine L_val _ _ (X_assign) rfl ?_
    refine L_nil ?_
    exact T_ret1 Try.func34 rfl ⟨by simp only [h2, or_true, decide_true]; rfl, rfl⟩
  have e2 : cmpB .eql (i : Int) 1284 = false := by simp [cmpB]; omega
  refine T_region ?_
  refine L_val _ _ (X_move) rfl ?_
  refine L_val _ _ (X_cmpR false rfl rfl rfl e1) rfl ?_
  refine L_val _ _ (X_move) rfl ?_
  refine L_guard rfl rfl rfl ?_
  refine L_val _ _ (X_move) rfl ?_
  refine L_guard rfl rfl rfl ?_
  refine L_val _ _ (X_cmpR false rfl rfl rfl e2) rfl ?_
  refine L_val _ _ (X_pick rfl) rfl ?_
  refine L_val _ _ (X_assign) rfl ?_
  refine L_nil ?_
  exact T_ret1 Try.func34 rfl ⟨by simp only [h1, h2, or_self, decide_false]; rfl, rfl⟩
/-- Flags.Reserved -/
theorem res_ret (f : Nat) (hf : f < 256) (w : World) : Ret Try.prog 35 #[.int .u8 (f : Int)] w fun v w' => v = .int .u8 ((f / 8 * 8 : Nat) : Int) ∧ w = w' := by
  refine ret_of_T (vs := [.int .u8 (f : Int)]) Try.func35 Try.ntmps35 rfl (Nat.le_of_ble_eq_true rfl) ?_
  repeat (first | refine T_seq ?_ | refine T_block ?_ | refine T_inBlock ?_ | refine T_skip ?_)
  refine T_region ?_
  refine L_val _ _ (X_assign) rfl ?_
  refine L_nil ?_
  repeat (first | refine T_seq ?_ | refine T_block ?_ | refine T_inBlock ?_ | refine T_skip ?_)
  refine T_region ?_
  refine L_val _ _ (X_move) rfl ?_
  refine L_val _ _ (X_bit rfl rfl rfl) rfl ?_
  refine L_val _ _ (X_assign) rfl ?_
  refine L_nil ?_
  exact T_ret1 Try.func35 rfl ⟨congrArg (Value.int .u8) (bit_andNot7 ⟨f, hf⟩), rfl⟩
/-- Flags.Has(Sealed) -/
theorem has_ret (f : Nat) (hf : f < 256) (w : World) : Ret Try.prog 36 #[.int .u8 (f : Int), .int .u8 2] w fun v w' => v = .bool (decide (f / 2 % 2 = 1)) ∧ w = w' := by
  refine ret_of_T (vs := [.int .u8 (f : Int), .int .u8 2]) Try.func36 Try.ntmps36 rfl (Nat.le_of_ble_eq_true rfl) ?_
  repeat (first | refine T_seq ?_ | refine T_block ?_ | refine T_inBlock ?_ | refine T_skip ?_)
  refine T_region ?_
  refine L_val _ _ (X_assign) rfl ?_
  refine L_nil ?_
  repeat (first | refine T_seq ?_ | refine T_block ?_ | refine T_inBlock ?_ | refine T_skip ?_)
  have e := bit_and2 ⟨f, hf⟩
  refine T_region ?_
  refine L_val _ _ (X_move) rfl ?_
  refine L_val _ _ (X_move) rfl ?_
  refine L_val _ _ (X_bit rfl rfl rfl) rfl ?_
  refine L_val _ _ (X_move) rfl ?_
  refine L_val _ _ (X_cmpR (decide (f / 2 % 2 = 1)) rfl rfl rfl e) rfl ?_
  refine L_val _ _ (X_assign) rfl ?_
  refine L_nil ?_
  exact T_ret1 Try.func36 rfl ⟨rfl, rfl⟩
set_option maxHeartbeats 4000000 in
/-- Header.Check -/
theorem check_ret (h : Hd) (hf : h.fl < 256) (w : World) : Ret Try.prog 24 #[.agg h.cells.toArray] w fun v w' => v = errV (chk h) ∧ Below w.heap.size w w' := by
  refine ret_of_T (vs := [.agg h.cells.toArray]) Try.func24 Try.ntmps24 rfl (Nat.le_of_ble_eq_true rfl) ?_
  repeat (first | refine T_seq ?_ | refine T_block ?_ | refine T_inBlock ?_ | refine T_skip ?_)
  refine T_region ?_
  refine L_box rfl fun w1 h1 => ?_
  refine L_val _ _ (X_assign) rfl ?_
  refine L_nil ?_
  have k1 : Blk w1 w.heap.size h.cells.toArray 39 := h1.new
  have b1 : Below w.heap.size w w1 := h1.below (Below.refl _ _) (Nat.le_refl _)
  clear h1
  repeat (first | refine T_seq ?_ | refine T_block ?_ | refine T_inBlock ?_ | refine T_skip ?_)
  refine T_region ?_
  refine L_val _ _ (X_field F39_0 rfl) rfl ?_
  refine L_val _ _ (X_load A36 rfl (gblk k1 0 rfl)) rfl ?_
  refine L_callF [.int .u16 (h.id : Int)] E34 rfl rfl (known_ret h.id w1) ?_
  rintro v w2 ⟨rfl, rfl⟩
  refine L_val _ _ (X_not rfl) rfl ?_
  refine L_val _ _ (X_assign) rfl ?_
  refine L_nil ?_
  by_cases hk : h.id = 1028 ∨ h.id = 1284
  case neg =>
    rw [decide_eq_false hk]
    refine T_true rfl ?_
    repeat (first | refine T_seq ?_ | refine T_block ?_ | refine T_inBlock ?_ | refine T_skip ?_)
    refine T_region ?_
    refine L_val _ _ (X_mkIface U60 (by simp)) rfl ?_
    refine L_val _ _ (X_assign) rfl ?_
    refine L_nil ?_
    refine T_ret1 Try.func24 rfl ⟨?_, b1⟩
    rw [chk, if_pos (by omega)]
    rfl
  rw [decide_eq_true hk]
  refine T_false rfl ?_
  repeat (first | refine T_seq ?_ | refine T_block ?_ | refine T_inBlock ?_ | refine T_skip ?_)
  by_cases hr : 7 < h.fl
  · have e1 : cmpB .neq ((h.fl / 8 * 8 : Nat) : Int) 0 = true := by simp [cmpB]; omega
    refine T_region ?_
    refine L_val _ _ (X_field F39_1 rfl) rfl ?_
    refine L_val _ _ (X_load A37 rfl (gblk k1 1 rfl)) rfl ?_
    refine L_callF [.int .u8 (h.fl : Int)] E35 rfl rfl (res_ret h.fl hf w1) ?_
    rintro v w2 ⟨rfl, rfl⟩
    refine L_val _ _ (X_cmpR true rfl rfl rfl e1) rfl ?_
    refine L_val _ _ (X_assign) rfl ?_
    refine L_nil ?_
    refine T_true rfl ?_
    repeat (first | refine T_seq ?_ | refine T_block ?_ | refine T_inBlock ?_ | refine T_skip ?_)
    refine T_region ?_
    refine L_val _ _ (X_mkIface U60 (by simp)) rfl ?_
    refine L_val _ _ (X_assign) rfl ?_
    refine L_nil ?_
    refine T_ret1 Try.func24 rfl ⟨?_, b1⟩
    rw [chk, if_neg (by omega), if_pos hr]
    rfl
  have e1 : cmpB .neq ((h.fl / 8 * 8 : Nat) : Int) 0 = false := by simp [cmpB]; omega
  refine T_region ?_
  refine L_val _ _ (X_field F39_1 rfl) rfl ?_
  refine L_val _ _ (X_load A37 rfl (gblk k1 1 rfl)) rfl ?_
  refine L_callF [.int .u8 (h.fl : Int)] E35 rfl rfl (res_ret h.fl hf w1) ?_
  rintro v w2 ⟨rfl, rfl⟩
  refine L_val _ _ (X_cmpR false rfl rfl rfl e1) rfl ?_
  refine L_val _ _ (X_assign) rfl ?_
  refine L_nil ?_
  refine T_false rfl ?_
  repeat (first | refine T_seq ?_ | refine T_block ?_ | refine T_inBlock ?_ | refine T_skip ?_)
  by_cases hm : h.id = 1028
  case neg =>
    have e2 : cmpB .eql (h.id : Int) 1028 = false := by simp [cmpB]; omega
    refine T_region ?_
    refine L_val _ _ (X_field F39_0 rfl) rfl ?_
    refine L_val _ _ (X_load A36 rfl (gblk k1 0 rfl)) rfl ?_
    refine L_val _ _ (X_cmpR false rfl rfl rfl e2) rfl ?_
    refine L_val _ _ (X_move) rfl ?_
    refine L_passB rfl rfl rfl ?_
    refine L_passB rfl rfl rfl ?_
    refine L_passB rfl rfl rfl ?_
    refine L_val _ _ (X_pick rfl) rfl ?_
    refine L_val _ _ (X_assign) rfl ?_
    refine L_nil ?_
    refine T_false rfl ?_
    repeat (first | refine T_seq ?_ | refine T_block ?_ | refine T_inBlock ?_ | refine T_skip ?_)
    refine T_region ?_
    refine L_val _ _ (X_field F39_0 rfl) rfl ?_
    refine L_val _ _ (X_load A36 rfl (gblk k1 0 rfl)) rfl ?_
    refine L_val _ _ (X_cmpR false rfl rfl rfl e2) rfl ?_
    refine L_val _ _ (X_move) rfl ?_
    refine L_passB rfl rfl rfl ?_
    refine L_passB rfl rfl rfl ?_
    refine L_passB rfl rfl rfl ?_
    refine L_passB rfl rfl rfl ?_
    refine L_passU rfl rfl rfl ?_
    refine L_passU rfl rfl rfl ?_
    refine L_passU rfl rfl rfl ?_
    refine L_passB rfl rfl rfl ?_
    refine L_val _ _ (X_pick rfl) rfl ?_
    refine L_val _ _ (X_assign) rfl ?_
    refine L_nil ?_
    refine T_false rfl ?_
    repeat (first | refine T_seq ?_ | refine T_block ?_ | refine T_inBlock ?_ | refine T_skip ?_)
    refine T_region ?_
    refine L_val _ _ (X_assign) rfl ?_
    refine L_nil ?_
    refine T_ret1 Try.func24 rfl ⟨?_, b1⟩
    rw [chk, if_neg (by omega), if_neg hr, if_neg (by omega), if_neg (by omega)]
    rfl
  have e2 : cmpB .eql (h.id : Int) 1028 = true := by simp [cmpB]; omega
  by_cases hs : h.fl / 2 % 2 = 1
  · refine T_region ?_
    refine L_val _ _ (X_field F39_0 rfl) rfl ?_
    refine L_val _ _ (X_load A36 rfl (gblk k1 0 rfl)) rfl ?_
    refine L_val _ _ (X_cmpR true rfl rfl rfl e2) rfl ?_
    refine L_val _ _ (X_move) rfl ?_
    refine L_guard rfl rfl rfl ?_
    refine L_val _ _ (X_field F39_1 rfl) rfl ?_
    refine L_guard rfl rfl rfl ?_
    refine L_val _ _ (X_load A37 rfl (gblk k1 1 rfl)) rfl ?_
    refine L_guard rfl rfl rfl ?_
    refine L_callF [.int .u8 (h.fl : Int), .int .u8 2] E36 rfl rfl (has_ret h.fl hf w1) ?_
    rintro v w2 ⟨rfl, rfl⟩
    rw [decide_eq_true hs]
    refine L_val _ _ (X_pick rfl) rfl ?_
    refine L_val _ _ (X_assign) rfl ?_
    refine L_nil ?_
    refine T_true rfl ?_
    repeat (first | refine T_seq ?_ | refine T_block ?_ | refine T_inBlock ?_ | refine T_skip ?_)
    refine T_region ?_
    refine L_val _ _ (X_mkIface U60 (by simp)) rfl ?_
    refine L_val _ _ (X_assign) rfl ?_
    refine L_nil ?_
    refine T_ret1 Try.func24 rfl ⟨?_, b1⟩
    rw [chk, if_neg (by omega), if_neg hr, if_pos ⟨hm, hs⟩]
    rfl
  refine T_region ?_
  refine L_val _ _ (X_field F39_0 rfl) rfl ?_
  refine L_val _ _ (X_load A36 rfl (gblk k1 0 rfl)) rfl ?_
  refine L_val _ _ (X_cmpR true rfl rfl rfl e2) rfl ?_
  refine L_val _ _ (X_move) rfl ?_
  refine L_guard rfl rfl rfl ?_
  refine L_val _ _ (X_field F39_1 rfl) rfl ?_
  refine L_guard rfl rfl rfl ?_
  refine L_val _ _ (X_load A37 rfl (gblk k1 1 rfl)) rfl ?_
  refine L_guard rfl rfl rfl ?_
  refine L_callF [.int .u8 (h.fl : Int), .int .u8 2] E36 rfl rfl (has_ret h.fl hf w1) ?_
  rintro v w2 ⟨rfl, rfl⟩
  rw [decide_eq_false hs]
  refine L_val _ _ (X_pick rfl) rfl ?_
  refine L_val _ _ (X_assign) rfl ?_
  refine L_nil ?_
  refine T_false rfl ?_
  repeat (first | refine T_seq ?_ | refine T_block ?_ | refine T_inBlock ?_ | refine T_skip ?_)
  by_cases he : h.ec = 0
  case neg =>
    have e3 : cmpB .neq (h.ec : Int) 0 = true := by simp [cmpB]; omega
    refine T_region ?_
    refine L_val _ _ (X_field F39_0 rfl) rfl ?_
    refine L_val _ _ (X_load A36 rfl (gblk k1 0 rfl)) rfl ?_
    refine L_val _ _ (X_cmpR true rfl rfl rfl e2) rfl ?_
    refine L_val _ _ (X_move) rfl ?_
    refine L_guard rfl rfl rfl ?_
    refine L_val _ _ (X_field F39_2 rfl) rfl ?_
    refine L_guard rfl rfl rfl ?_
    refine L_val _ _ (X_load A27 rfl (gblk k1 2 rfl)) rfl ?_
    refine L_guard rfl rfl rfl ?_
    refine L_val _ _ (X_cmpR true rfl rfl rfl e3) rfl ?_
    refine L_guard rfl rfl rfl ?_
    refine L_val _ _ (X_move) rfl ?_
    refine L_passB rfl rfl rfl ?_
    refine L_passB rfl rfl rfl ?_
    refine L_passB rfl rfl rfl ?_
    refine L_guard rfl rfl rfl ?_
    refine L_val _ _ (X_pick rfl) rfl ?_
    refine L_val _ _ (X_pick rfl) rfl ?_
    refine L_val _ _ (X_assign) rfl ?_
    refine L_nil ?_
    refine T_true rfl ?_
    repeat (first | refine T_seq ?_ | refine T_block ?_ | refine T_inBlock ?_ | refine T_skip ?_)
    refine T_region ?_
    refine L_val _ _ (X_mkIface U60 (by simp)) rfl ?_
    refine L_val _ _ (X_assign) rfl ?_
    refine L_nil ?_
    refine T_ret1 Try.func24 rfl ⟨?_, b1⟩
    rw [chk, if_neg (by omega), if_neg hr, if_neg (by omega), if_pos ⟨hm, .inl he⟩]
    rfl
  have e3 : cmpB .neq (h.ec : Int) 0 = false := by simp [cmpB]; omega
  by_cases hc : h.rrc = 0
  case neg =>
    have e4 : cmpB .neq (h.rrc : Int) 0 = true := by simp [cmpB]; omega
    refine T_region ?_
    refine L_val _ _ (X_field F39_0 rfl) rfl ?_
    refine L_val _ _ (X_load A36 rfl (gblk k1 0 rfl)) rfl ?_
    refine L_val _ _ (X_cmpR true rfl rfl rfl e2) rfl ?_
    refine L_val _ _ (X_move) rfl ?_
    refine L_guard rfl rfl rfl ?_
    refine L_val _ _ (X_field F39_2 rfl) rfl ?_
    refine L_guard rfl rfl rfl ?_
    refine L_val _ _ (X_load A27 rfl (gblk k1 2 rfl)) rfl ?_
    refine L_guard rfl rfl rfl ?_
    refine L_val _ _ (X_cmpR false rfl rfl rfl e3) rfl ?_
    refine L_guard rfl rfl rfl ?_
    refine L_val _ _ (X_move) rfl ?_
    refine L_guard rfl rfl rfl ?_
    refine L_val _ _ (X_field F39_3 rfl) rfl ?_
    refine L_guard rfl rfl rfl ?_
    refine L_val _ _ (X_load A27 rfl (gblk k1 3 rfl)) rfl ?_
    refine L_guard rfl rfl rfl ?_
    refine L_val _ _ (X_cmpR true rfl rfl rfl e4) rfl ?_
    refine L_guard rfl rfl rfl ?_
    refine L_val _ _ (X_pick rfl) rfl ?_
    refine L_val _ _ (X_pick rfl) rfl ?_
    refine L_val _ _ (X_assign) rfl ?_
    refine L_nil ?_
    refine T_true rfl ?_
    repeat (first | refine T_seq ?_ | refine T_block ?_ | refine T_inBlock ?_ | refine T_skip ?_)
    refine T_region ?_
    refine L_val _ _ (X_mkIface U60 (by simp)) rfl ?_
    refine L_val _ _ (X_assign) rfl ?_
    refine L_nil ?_
    refine T_ret1 Try.func24 rfl ⟨?_, b1⟩
    rw [chk, if_neg (by omega), if_neg hr, if_neg (by omega), if_pos ⟨hm, .inr hc⟩]
    rfl
  have e4 : cmpB .neq (h.rrc : Int) 0 = false := by simp [cmpB]; omega
  refine T_region ?_
  refine L_val _ _ (X_field F39_0 rfl) rfl ?_
  refine L_val _ _ (X_load A36 rfl (gblk k1 0 rfl)) rfl ?_
  refine L_val _ _ (X_cmpR true rfl rfl rfl e2) rfl ?_
  refine L_val _ _ (X_move) rfl ?_
  refine L_guard rfl rfl rfl ?_
  refine L_val _ _ (X_field F39_2 rfl) rfl ?_
  refine L_guard rfl rfl rfl ?_
  refine L_val _ _ (X_load A27 rfl (gblk k1 2 rfl)) rfl ?_
  refine L_guard rfl rfl rfl ?_
  refine L_val _ _ (X_cmpR false rfl rfl rfl e3) rfl ?_
  refine L_guard rfl rfl rfl ?_
  refine L_val _ _ (X_move) rfl ?_
  refine L_guard rfl rfl rfl ?_
  refine L_val _ _ (X_field F39_3 rfl) rfl ?_
  refine L_guard rfl rfl rfl ?_
  refine L_val _ _ (X_load A27 rfl (gblk k1 3 rfl)) rfl ?_
  refine L_guard rfl rfl rfl ?_
  refine L_val _ _ (X_cmpR false rfl rfl rfl e4) rfl ?_
  refine L_guard rfl rfl rfl ?_
  refine L_val _ _ (X_pick rfl) rfl ?_
  refine L_val _ _ (X_pick rfl) rfl ?_
  refine L_val _ _ (X_assign) rfl ?_
  refine L_nil ?_
  refine T_false rfl ?_
  repeat (first | refine T_seq ?_ | refine T_block ?_ | refine T_inBlock ?_ | refine T_skip ?_)
  refine T_region ?_
  refine L_val _ _ (X_assign) rfl ?_
  refine L_nil ?_
  refine T_ret1 Try.func24 rfl ⟨?_, b1⟩
  rw [chk, if_neg (by omega), if_neg hr, if_neg (by omega), if_neg (by omega)]
  rfl
set_option maxHeartbeats 4000000 in
/-- tokenm.WellFormed -/
theorem wf_ret (h : Hd) (hf : h.fl < 256) (w : World) : Ret Try.prog 18 #[.agg h.cells.toArray] w fun v w' => v = .int .i64 (stN (chk h) : Int) ∧ Below w.heap.size w w' := by
  refine ret_of_T (vs := [.agg h.cells.toArray]) Try.func18 Try.ntmps18 rfl (Nat.le_of_ble_eq_true rfl) ?_
  repeat (first | refine T_seq ?_ | refine T_block ?_ | refine T_inBlock ?_ | refine T_skip ?_)
  refine T_region ?_
  refine L_box rfl fun w1 h1 => ?_
  refine L_val _ _ (X_assign) rfl ?_
  refine L_nil ?_
  have k1 : Blk w1 w.heap.size h.cells.toArray 32 := h1.new
  have b1 : Below w.heap.size w w1 := h1.below (Below.refl _ _) (Nat.le_refl _)
  clear h1
  repeat (first | refine T_seq ?_ | refine T_block ?_ | refine T_inBlock ?_ | refine T_skip ?_)
  by_cases hk : h.id = 1028 ∨ h.id = 1284
  case neg =>
    have e1 : cmpB .neq (h.id : Int) 1028 = true := by simp [cmpB]; omega
    have e2 : cmpB .neq (h.id : Int) 1284 = true := by simp [cmpB]; omega
    refine T_region ?_
    refine L_val _ _ (X_field F32_0 rfl) rfl ?_
    refine L_val _ _ (X_load A27 rfl (gblk k1 0 rfl)) rfl ?_
    refine L_val _ _ (X_cmpR true rfl rfl rfl e1) rfl ?_
    refine L_val _ _ (X_move) rfl ?_
    refine L_guard rfl rfl rfl ?_
    refine L_val _ _ (X_field F32_0 rfl) rfl ?_
    refine L_guard rfl rfl rfl ?_
    refine L_val _ _ (X_load A27 rfl (gblk k1 0 rfl)) rfl ?_
    refine L_guard rfl rfl rfl ?_
    refine L_val _ _ (X_cmpR true rfl rfl rfl e2) rfl ?_
    refine L_val _ _ (X_pick rfl) rfl ?_
    refine L_nil ?_
    refine T_true rfl ?_
    repeat (first | refine T_seq ?_ | refine T_block ?_ | refine T_inBlock ?_ | refine T_skip ?_)
    refine T_region ?_
    refine L_val _ _ (X_assign) rfl ?_
    refine L_nil ?_
    refine T_ret1 Try.func18 rfl ⟨?_, b1⟩
    rw [chk, if_pos (by omega)]
    rfl
  by_cases hm : h.id = 1028
  case pos =>
    have e1 : cmpB .neq (h.id : Int) 1028 = false := by simp [cmpB]; omega
    have e2 : cmpB .eql (h.id : Int) 1028 = true := by simp [cmpB]; omega
    refine T_region ?_
    refine L_val _ _ (X_field F32_0 rfl) rfl ?_
    refine L_val _ _ (X_load A27 rfl (gblk k1 0 rfl)) rfl ?_
    refine L_val _ _ (X_cmpR false rfl rfl rfl e1) rfl ?_
    refine L_val _ _ (X_move) rfl ?_
    refine L_passB rfl rfl rfl ?_
    refine L_passB rfl rfl rfl ?_
    refine L_passB rfl rfl rfl ?_
    refine L_val _ _ (X_pick rfl) rfl ?_
    refine L_nil ?_
    refine T_false rfl ?_
    repeat (first | refine T_seq ?_ | refine T_block ?_ | refine T_inBlock ?_ | refine T_skip ?_)
    by_cases hr : 7 < h.fl
    · have e3 : cmpB .gtr (h.fl : Int) 7 = true := by simp [cmpB]; omega
      refine T_region ?_
      refine L_val _ _ (X_field F32_1 rfl) rfl ?_
      refine L_val _ _ (X_load A5 rfl (gblk k1 1 rfl)) rfl ?_
      refine L_val _ _ (X_cmpR true rfl rfl rfl e3) rfl ?_
      refine L_nil ?_
      refine T_true rfl ?_
      repeat (first | refine T_seq ?_ | refine T_block ?_ | refine T_inBlock ?_ | refine T_skip ?_)
      refine T_region ?_
      refine L_val _ _ (X_assign) rfl ?_
      refine L_nil ?_
      refine T_ret1 Try.func18 rfl ⟨?_, b1⟩
      rw [chk, if_neg (by omega), if_pos hr]
      rfl
    have e3 : cmpB .gtr (h.fl : Int) 7 = false := by simp [cmpB]; omega
    refine T_region ?_
    refine L_val _ _ (X_field F32_1 rfl) rfl ?_
    refine L_val _ _ (X_load A5 rfl (gblk k1 1 rfl)) rfl ?_
    refine L_val _ _ (X_cmpR false rfl rfl rfl e3) rfl ?_
    refine L_nil ?_
    refine T_false rfl ?_
    repeat (first | refine T_seq ?_ | refine T_block ?_ | refine T_inBlock ?_ | refine T_skip ?_)
    by_cases hs : h.fl / 2 % 2 = 1
    · refine T_region ?_
      refine L_val _ _ (X_field F32_0 rfl) rfl ?_
      refine L_val _ _ (X_load A27 rfl (gblk k1 0 rfl)) rfl ?_
      refine L_val _ _ (X_cmpR true rfl rfl rfl e2) rfl ?_
      refine L_val _ _ (X_move) rfl ?_
      refine L_guard rfl rfl rfl ?_
      refine L_val _ _ (X_field F32_1 rfl) rfl ?_
      refine L_guard rfl rfl rfl ?_
      refine L_val _ _ (X_load A5 rfl (gblk k1 1 rfl)) rfl ?_
      refine L_guard rfl rfl rfl ?_
      refine L_callF [.int .u8 (h.fl : Int), .int .u8 2] E33 rfl rfl (bit_ret h.fl hf w1) ?_
      rintro v w2 ⟨rfl, rfl⟩
      rw [decide_eq_true hs]
      refine L_val _ _ (X_pick rfl) rfl ?_
      refine L_nil ?_
      refine T_true rfl ?_
      repeat (first | refine T_seq ?_ | refine T_block ?_ | refine T_inBlock ?_ | refine T_skip ?_)
      refine T_region ?_
      refine L_val _ _ (X_assign) rfl ?_
      refine L_nil ?_
      refine T_ret1 Try.func18 rfl ⟨?_, b1⟩
      rw [chk, if_neg (by omega), if_neg hr, if_pos ⟨hm, hs⟩]
      rfl
    refine T_region ?_
    refine L_val _ _ (X_field F32_0 rfl) rfl ?_
    refine L_val _ _ (X_load A27 rfl (gblk k1 0 rfl)) rfl ?_
    refine L_val _ _ (X_cmpR true rfl rfl rfl e2) rfl ?_
    refine L_val _ _ (X_move) rfl ?_
    refine L_guard rfl rfl rfl ?_
    refine L_val _ _ (X_field F32_1 rfl) rfl ?_
    refine L_guard rfl rfl rfl ?_
    refine L_val _ _ (X_load A5 rfl (gblk k1 1 rfl)) rfl ?_
    refine L_guard rfl rfl rfl ?_
    refine L_callF [.int .u8 (h.fl : Int), .int .u8 2] E33 rfl rfl (bit_ret h.fl hf w1) ?_
    rintro v w2 ⟨rfl, rfl⟩
    rw [decide_eq_false hs]
    refine L_val _ _ (X_pick rfl) rfl ?_
    refine L_nil ?_
    refine T_false rfl ?_
    repeat (first | refine T_seq ?_ | refine T_block ?_ | refine T_inBlock ?_ | refine T_skip ?_)
    by_cases he : h.ec = 0
    case neg =>
      have e4 : cmpB .neq (h.ec : Int) 0 = true := by simp [cmpB]; omega
      refine T_region ?_
      refine L_val _ _ (X_field F32_0 rfl) rfl ?_
      refine L_val _ _ (X_load A27 rfl (gblk k1 0 rfl)) rfl ?_
      refine L_val _ _ (X_cmpR true rfl rfl rfl e2) rfl ?_
      refine L_val _ _ (X_move) rfl ?_
      refine L_guard rfl rfl rfl ?_
      refine L_val _ _ (X_field F32_2 rfl) rfl ?_
      refine L_guard rfl rfl rfl ?_
      refine L_val _ _ (X_load A27 rfl (gblk k1 2 rfl)) rfl ?_
      refine L_guard rfl rfl rfl ?_
      refine L_val _ _ (X_cmpR true rfl rfl rfl e4) rfl ?_
      refine L_guard rfl rfl rfl ?_
      refine L_val _ _ (X_move) rfl ?_
      refine L_passB rfl rfl rfl ?_
      refine L_passB rfl rfl rfl ?_
      refine L_passB rfl rfl rfl ?_
      refine L_guard rfl rfl rfl ?_
      refine L_val _ _ (X_pick rfl) rfl ?_
      refine L_val _ _ (X_pick rfl) rfl ?_
      refine L_nil ?_
      refine T_true rfl ?_
      repeat (first | refine T_seq ?_ | refine T_block ?_ | refine T_inBlock ?_ | refine T_skip ?_)
      refine T_region ?_
      refine L_val _ _ (X_assign) rfl ?_
      refine L_nil ?_
      refine T_ret1 Try.func18 rfl ⟨?_, b1⟩
      rw [chk, if_neg (by omega), if_neg hr, if_neg (by omega), if_pos ⟨hm, .inl he⟩]
      rfl
    have e4 : cmpB .neq (h.ec : Int) 0 = false := by simp [cmpB]; omega
    by_cases hc : h.rrc = 0
    case neg =>
      have e5 : cmpB .neq (h.rrc : Int) 0 = true := by simp [cmpB]; omega
      refine T_region ?_
      refine L_val _ _ (X_field F32_0 rfl) rfl ?_
      refine L_val _ _ (X_load A27 rfl (gblk k1 0 rfl)) rfl ?_
      refine L_val _ _ (X_cmpR true rfl rfl rfl e2) rfl ?_
      refine L_val _ _ (X_move) rfl ?_
      refine L_guard rfl rfl rfl ?_
      refine L_val _ _ (X_field F32_2 rfl) rfl ?_
      refine L_guard rfl rfl rfl ?_
      refine L_val _ _ (X_load A27 rfl (gblk k1 2 rfl)) rfl ?_
      refine L_guard rfl rfl rfl ?_
      refine L_val _ _ (X_cmpR false rfl rfl rfl e4) rfl ?_
      refine L_guard rfl rfl rfl ?_
      refine L_val _ _ (X_move) rfl ?_
      refine L_guard rfl rfl rfl ?_
      refine L_val _ _ (X_field F32_3 rfl) rfl ?_
      refine L_guard rfl rfl rfl ?_
      refine L_val _ _ (X_load A27 rfl (gblk k1 3 rfl)) rfl ?_
      refine L_guard rfl rfl rfl ?_
      refine L_val _ _ (X_cmpR true rfl rfl rfl e5) rfl ?_
      refine L_guard rfl rfl rfl ?_
      refine L_val _ _ (X_pick rfl) rfl ?_
      refine L_val _ _ (X_pick rfl) rfl ?_
      refine L_nil ?_
      refine T_true rfl ?_
      repeat (first | refine T_seq ?_ | refine T_block ?_ | refine T_inBlock ?_ | refine T_skip ?_)
      refine T_region ?_
      refine L_val _ _ (X_assign) rfl ?_
      refine L_nil ?_
      refine T_ret1 Try.func18 rfl ⟨?_, b1⟩
      rw [chk, if_neg (by omega), if_neg hr, if_neg (by omega), if_pos ⟨hm, .inr hc⟩]
      rfl
    have e5 : cmpB .neq (h.rrc : Int) 0 = false := by simp [cmpB]; omega
    refine T_region ?_
    refine L_val _ _ (X_field F32_0 rfl) rfl ?_
    refine L_val _ _ (X_load A27 rfl (gblk k1 0 rfl)) rfl ?_
    refine L_val _ _ (X_cmpR true rfl rfl rfl e2) rfl ?_
    refine L_val _ _ (X_move) rfl ?_
    refine L_guard rfl rfl rfl ?_
    refine L_val _ _ (X_field F32_2 rfl) rfl ?_
    refine L_guard rfl rfl rfl ?_
    refine L_val _ _ (X_load A27 rfl (gblk k1 2 rfl)) rfl ?_
    refine L_guard rfl rfl rfl ?_
    refine L_val _ _ (X_cmpR false rfl rfl rfl e4) rfl ?_
    refine L_guard rfl rfl rfl ?_
    refine L_val _ _ (X_move) rfl ?_
    refine L_guard rfl rfl rfl ?_
    refine L_val _ _ (X_field F32_3 rfl) rfl ?_
    refine L_guard rfl rfl rfl ?_
    refine L_val _ _ (X_load A27 rfl (gblk k1 3 rfl)) rfl ?_
    refine L_guard rfl rfl rfl ?_
    refine L_val _ _ (X_cmpR false rfl rfl rfl e5) rfl ?_
    refine L_guard rfl rfl rfl ?_
    refine L_val _ _ (X_pick rfl) rfl ?_
    refine L_val _ _ (X_pick rfl) rfl ?_
    refine L_nil ?_
    refine T_false rfl ?_
    repeat (first | refine T_seq ?_ | refine T_block ?_ | refine T_inBlock ?_ | refine T_skip ?_)
    refine T_region ?_
    refine L_val _ _ (X_assign) rfl ?_
    refine L_nil ?_
    refine T_ret1 Try.func18 rfl ⟨?_, b1⟩
    rw [chk, if_neg (by omega), if_neg hr, if_neg (by omega), if_neg (by omega)]
    rfl
  case neg =>
    have e1 : cmpB .neq (h.id : Int) 1028 = true := by simp [cmpB]; omega
    have e0 : cmpB .neq (h.id : Int) 1284 = false := by simp [cmpB]; omega
    have e2 : cmpB .eql (h.id : Int) 1028 = false := by simp [cmpB]; omega
    refine T_region ?_
    refine L_val _ _ (X_field F32_0 rfl) rfl ?_
    refine L_val _ _ (X_load A27 rfl (gblk k1 0 rfl)) rfl ?_
    refine L_val _ _ (X_cmpR true rfl rfl rfl e1) rfl ?_
    refine L_val _ _ (X_move) rfl ?_
    refine L_guard rfl rfl rfl ?_
    refine L_val _ _ (X_field F32_0 rfl) rfl ?_
    refine L_guard rfl rfl rfl ?_
    refine L_val _ _ (X_load A27 rfl (gblk k1 0 rfl)) rfl ?_
    refine L_guard rfl rfl rfl ?_
    refine L_val _ _ (X_cmpR false rfl rfl rfl e0) rfl ?_
    refine L_val _ _ (X_pick rfl) rfl ?_
    refine L_nil ?_
    refine T_false rfl ?_
    repeat (first | refine T_seq ?_ | refine T_block ?_ | refine T_inBlock ?_ | refine T_skip ?_)
    by_cases hr : 7 < h.fl
    · have e3 : cmpB .gtr (h.fl : Int) 7 = true := by simp [cmpB]; omega
      refine T_region ?_
      refine L_val _ _ (X_field F32_1 rfl) rfl ?_
      refine L_val _ _ (X_load A5 rfl (gblk k1 1 rfl)) rfl ?_
      refine L_val _ _ (X_cmpR true rfl rfl rfl e3) rfl ?_
      refine L_nil ?_
      refine T_true rfl ?_
      repeat (first | refine T_seq ?_ | refine T_block ?_ | refine T_inBlock ?_ | refine T_skip ?_)
      refine T_region ?_
      refine L_val _ _ (X_assign) rfl ?_
      refine L_nil ?_
      refine T_ret1 Try.func18 rfl ⟨?_, b1⟩
      rw [chk, if_neg (by omega), if_pos hr]
      rfl
    have e3 : cmpB .gtr (h.fl : Int) 7 = false := by simp [cmpB]; omega
    refine T_region ?_
    refine L_val _ _ (X_field F32_1 rfl) rfl ?_
    refine L_val _ _ (X_load A5 rfl (gblk k1 1 rfl)) rfl ?_
    refine L_val _ _ (X_cmpR false rfl rfl rfl e3) rfl ?_
    refine L_nil ?_
    refine T_false rfl ?_
    repeat (first | refine T_seq ?_ | refine T_block ?_ | refine T_inBlock ?_ | refine T_skip ?_)
    refine T_region ?_
    refine L_val _ _ (X_field F32_0 rfl) rfl ?_
    refine L_val _ _ (X_load A27 rfl (gblk k1 0 rfl)) rfl ?_
    refine L_val _ _ (X_cmpR false rfl rfl rfl e2) rfl ?_
    refine L_val _ _ (X_move) rfl ?_
    refine L_passB rfl rfl rfl ?_
    refine L_passB rfl rfl rfl ?_
    refine L_passB rfl rfl rfl ?_
    refine L_val _ _ (X_pick rfl) rfl ?_
    refine L_nil ?_
    refine T_false rfl ?_
    repeat (first | refine T_seq ?_ | refine T_block ?_ | refine T_inBlock ?_ | refine T_skip ?_)
    refine T_region ?_
    refine L_val _ _ (X_field F32_0 rfl) rfl ?_
    refine L_val _ _ (X_load A27 rfl (gblk k1 0 rfl)) rfl ?_
    refine L_val _ _ (X_cmpR false rfl rfl rfl e2) rfl ?_
    refine L_val _ _ (X_move) rfl ?_
    refine L_passB rfl rfl rfl ?_
    refine L_passB rfl rfl rfl ?_
    refine L_passB rfl rfl rfl ?_
    refine L_passB rfl rfl rfl ?_
    refine L_passU rfl rfl rfl ?_
    refine L_passU rfl rfl rfl ?_
    refine L_passU rfl rfl rfl ?_
    refine L_passB rfl rfl rfl ?_
    refine L_val _ _ (X_pick rfl) rfl ?_
    refine L_nil ?_
    refine T_false rfl ?_
    repeat (first | refine T_seq ?_ | refine T_block ?_ | refine T_inBlock ?_ | refine T_skip ?_)
    refine T_region ?_
    refine L_val _ _ (X_assign) rfl ?_
    refine L_nil ?_
    refine T_ret1 Try.func18 rfl ⟨?_, b1⟩
    rw [chk, if_neg (by omega), if_neg hr, if_neg (by omega), if_neg (by omega)]
    rfl
theorem status_0 (w : World) : Ret Try.prog 10 #[errV 0] w fun v w' => v = .int .i64 (stN 0 : Int) ∧ w = w' := by
  refine ret_of_T (vs := [errV 0]) Try.func10 Try.ntmps10 rfl (Nat.le_of_ble_eq_true rfl) ?_
  repeat (first | refine T_seq ?_ | refine T_block ?_ | refine T_inBlock ?_ | refine T_skip ?_)
  refine T_region ?_
  refine L_val _ _ (X_assign) rfl ?_
  refine L_nil ?_
  repeat (first | refine T_seq ?_ | refine T_block ?_ | refine T_inBlock ?_ | refine T_skip ?_)
  refine T_region ?_
  refine L_val _ _ (X_move) rfl ?_
  refine L_nil ?_
  repeat (first | refine T_seq ?_ | refine T_block ?_ | refine T_inBlock ?_ | refine T_skip ?_)
  refine T_region ?_
  refine L_val _ _ (X_eq (b := true) (by kernel_rfl)) rfl ?_
  refine L_val _ _ (X_assign) rfl ?_
  refine L_nil ?_
  refine T_true rfl ?_
  repeat (first | refine T_seq ?_ | refine T_block ?_ | refine T_inBlock ?_ | refine T_skip ?_)
  refine T_region ?_
  refine L_val _ _ (X_assign) rfl ?_
  refine L_nil ?_
  exact T_ret1 Try.func10 rfl ⟨rfl, rfl⟩
theorem status_6 (w : World) : Ret Try.prog 10 #[errV 6] w fun v w' => v = .int .i64 (stN 6 : Int) ∧ w = w' := by
  refine ret_of_T (vs := [errV 6]) Try.func10 Try.ntmps10 rfl (Nat.le_of_ble_eq_true rfl) ?_
  repeat (first | refine T_seq ?_ | refine T_block ?_ | refine T_inBlock ?_ | refine T_skip ?_)
  refine T_region ?_
  refine L_val _ _ (X_assign) rfl ?_
  refine L_nil ?_
  repeat (first | refine T_seq ?_ | refine T_block ?_ | refine T_inBlock ?_ | refine T_skip ?_)
  refine T_region ?_
  refine L_val _ _ (X_move) rfl ?_
  refine L_nil ?_
  repeat (first | refine T_seq ?_ | refine T_block ?_ | refine T_inBlock ?_ | refine T_skip ?_)
  refine T_region ?_
  refine L_val _ _ (X_eq (b := false) (by kernel_rfl)) rfl ?_
  refine L_val _ _ (X_assign) rfl ?_
  refine L_nil ?_
  refine T_false rfl ?_
  repeat (first | refine T_seq ?_ | refine T_block ?_ | refine T_inBlock ?_ | refine T_skip ?_)
  refine T_region ?_
  refine L_val _ _ (X_mkIface U60 (by simp)) rfl ?_
  refine L_val _ _ (X_eq (b := false) (by kernel_rfl)) rfl ?_
  refine L_val _ _ (X_assign) rfl ?_
  refine L_nil ?_
  refine T_false rfl ?_
  repeat (first | refine T_seq ?_ | refine T_block ?_ | refine T_inBlock ?_ | refine T_skip ?_)
  refine T_region ?_
  refine L_val _ _ (X_mkIface U60 (by simp)) rfl ?_
  refine L_val _ _ (X_eq (b := false) (by kernel_rfl)) rfl ?_
  refine L_val _ _ (X_assign) rfl ?_
  refine L_nil ?_
  refine T_false rfl ?_
  repeat (first | refine T_seq ?_ | refine T_block ?_ | refine T_inBlock ?_ | refine T_skip ?_)
  refine T_region ?_
  refine L_val _ _ (X_mkIface U60 (by simp)) rfl ?_
  refine L_val _ _ (X_eq (b := false) (by kernel_rfl)) rfl ?_
  refine L_val _ _ (X_assign) rfl ?_
  refine L_nil ?_
  refine T_false rfl ?_
  repeat (first | refine T_seq ?_ | refine T_block ?_ | refine T_inBlock ?_ | refine T_skip ?_)
  refine T_region ?_
  refine L_val _ _ (X_mkIface U60 (by simp)) rfl ?_
  refine L_val _ _ (X_eq (b := false) (by kernel_rfl)) rfl ?_
  refine L_val _ _ (X_assign) rfl ?_
  refine L_nil ?_
  refine T_false rfl ?_
  repeat (first | refine T_seq ?_ | refine T_block ?_ | refine T_inBlock ?_ | refine T_skip ?_)
  refine T_region ?_
  refine L_val _ _ (X_mkIface U60 (by simp)) rfl ?_
  refine L_val _ _ (X_eq (b := true) (by kernel_rfl)) rfl ?_
  refine L_val _ _ (X_assign) rfl ?_
  refine L_nil ?_
  refine T_true rfl ?_
  repeat (first | refine T_seq ?_ | refine T_block ?_ | refine T_inBlock ?_ | refine T_skip ?_)
  refine T_region ?_
  refine L_val _ _ (X_assign) rfl ?_
  refine L_nil ?_
  exact T_ret1 Try.func10 rfl ⟨rfl, rfl⟩
theorem status_7 (w : World) : Ret Try.prog 10 #[errV 7] w fun v w' => v = .int .i64 (stN 7 : Int) ∧ w = w' := by
  refine ret_of_T (vs := [errV 7]) Try.func10 Try.ntmps10 rfl (Nat.le_of_ble_eq_true rfl) ?_
  repeat (first | refine T_seq ?_ | refine T_block ?_ | refine T_inBlock ?_ | refine T_skip ?_)
  refine T_region ?_
  refine L_val _ _ (X_assign) rfl ?_
  refine L_nil ?_
  repeat (first | refine T_seq ?_ | refine T_block ?_ | refine T_inBlock ?_ | refine T_skip ?_)
  refine T_region ?_
  refine L_val _ _ (X_move) rfl ?_
  refine L_nil ?_
  repeat (first | refine T_seq ?_ | refine T_block ?_ | refine T_inBlock ?_ | refine T_skip ?_)
  refine T_region ?_
  refine L_val _ _ (X_eq (b := false) (by kernel_rfl)) rfl ?_
  refine L_val _ _ (X_assign) rfl ?_
  refine L_nil ?_
  refine T_false rfl ?_
  repeat (first | refine T_seq ?_ | refine T_block ?_ | refine T_inBlock ?_ | refine T_skip ?_)
  refine T_region ?_
  refine L_val _ _ (X_mkIface U60 (by simp)) rfl ?_
  refine L_val _ _ (X_eq (b := false) (by kernel_rfl)) rfl ?_
  refine L_val _ _ (X_assign) rfl ?_
  refine L_nil ?_
  refine T_false rfl ?_
  repeat (first | refine T_seq ?_ | refine T_block ?_ | refine T_inBlock ?_ | refine T_skip ?_)
  refine T_region ?_
  refine L_val _ _ (X_mkIface U60 (by simp)) rfl ?_
  refine L_val _ _ (X_eq (b := false) (by kernel_rfl)) rfl ?_
  refine L_val _ _ (X_assign) rfl ?_
  refine L_nil ?_
  refine T_false rfl ?_
  repeat (first | refine T_seq ?_ | refine T_block ?_ | refine T_inBlock ?_ | refine T_skip ?_)
  refine T_region ?_
  refine L_val _ _ (X_mkIface U60 (by simp)) rfl ?_
  refine L_val _ _ (X_eq (b := false) (by kernel_rfl)) rfl ?_
  refine L_val _ _ (X_assign) rfl ?_
  refine L_nil ?_
  refine T_false rfl ?_
  repeat (first | refine T_seq ?_ | refine T_block ?_ | refine T_inBlock ?_ | refine T_skip ?_)
  refine T_region ?_
  refine L_val _ _ (X_mkIface U60 (by simp)) rfl ?_
  refine L_val _ _ (X_eq (b := false) (by kernel_rfl)) rfl ?_
  refine L_val _ _ (X_assign) rfl ?_
  refine L_nil ?_
  refine T_false rfl ?_
  repeat (first | refine T_seq ?_ | refine T_block ?_ | refine T_inBlock ?_ | refine T_skip ?_)
  refine T_region ?_
  refine L_val _ _ (X_mkIface U60 (by simp)) rfl ?_
  refine L_val _ _ (X_eq (b := false) (by kernel_rfl)) rfl ?_
  refine L_val _ _ (X_assign) rfl ?_
  refine L_nil ?_
  refine T_false rfl ?_
  repeat (first | refine T_seq ?_ | refine T_block ?_ | refine T_inBlock ?_ | refine T_skip ?_)
  refine T_region ?_
  refine L_val _ _ (X_mkIface U60 (by simp)) rfl ?_
  refine L_val _ _ (X_eq (b := true) (by kernel_rfl)) rfl ?_
  refine L_val _ _ (X_assign) rfl ?_
  refine L_nil ?_
  refine T_true rfl ?_
  repeat (first | refine T_seq ?_ | refine T_block ?_ | refine T_inBlock ?_ | refine T_skip ?_)
  refine T_region ?_
  refine L_val _ _ (X_assign) rfl ?_
  refine L_nil ?_
  exact T_ret1 Try.func10 rfl ⟨rfl, rfl⟩
theorem status_8 (w : World) : Ret Try.prog 10 #[errV 8] w fun v w' => v = .int .i64 (stN 8 : Int) ∧ w = w' := by
  refine ret_of_T (vs := [errV 8]) Try.func10 Try.ntmps10 rfl (Nat.le_of_ble_eq_true rfl) ?_
  repeat (first | refine T_seq ?_ | refine T_block ?_ | refine T_inBlock ?_ | refine T_skip ?_)
  refine T_region ?_
  refine L_val _ _ (X_assign) rfl ?_
  refine L_nil ?_
  repeat (first | refine T_seq ?_ | refine T_block ?_ | refine T_inBlock ?_ | refine T_skip ?_)
  refine T_region ?_
  refine L_val _ _ (X_move) rfl ?_
  refine L_nil ?_
  repeat (first | refine T_seq ?_ | refine T_block ?_ | refine T_inBlock ?_ | refine T_skip ?_)
  refine T_region ?_
  refine L_val _ _ (X_eq (b := false) (by kernel_rfl)) rfl ?_
  refine L_val _ _ (X_assign) rfl ?_
  refine L_nil ?_
  refine T_false rfl ?_
  repeat (first | refine T_seq ?_ | refine T_block ?_ | refine T_inBlock ?_ | refine T_skip ?_)
  refine T_region ?_
  refine L_val _ _ (X_mkIface U60 (by simp)) rfl ?_
  refine L_val _ _ (X_eq (b := false) (by kernel_rfl)) rfl ?_
  refine L_val _ _ (X_assign) rfl ?_
  refine L_nil ?_
  refine T_false rfl ?_
  repeat (first | refine T_seq ?_ | refine T_block ?_ | refine T_inBlock ?_ | refine T_skip ?_)
  refine T_region ?_
  refine L_val _ _ (X_mkIface U60 (by simp)) rfl ?_
  refine L_val _ _ (X_eq (b := false) (by kernel_rfl)) rfl ?_
  refine L_val _ _ (X_assign) rfl ?_
  refine L_nil ?_
  refine T_false rfl ?_
  repeat (first | refine T_seq ?_ | refine T_block ?_ | refine T_inBlock ?_ | refine T_skip ?_)
  refine T_region ?_
  refine L_val _ _ (X_mkIface U60 (by simp)) rfl ?_
  refine L_val _ _ (X_eq (b := false) (by kernel_rfl)) rfl ?_
  refine L_val _ _ (X_assign) rfl ?_
  refine L_nil ?_
  refine T_false rfl ?_
  repeat (first | refine T_seq ?_ | refine T_block ?_ | refine T_inBlock ?_ | refine T_skip ?_)
  refine T_region ?_
  refine L_val _ _ (X_mkIface U60 (by simp)) rfl ?_
  refine L_val _ _ (X_eq (b := false) (by kernel_rfl)) rfl ?_
  refine L_val _ _ (X_assign) rfl ?_
  refine L_nil ?_
  refine T_false rfl ?_
  repeat (first | refine T_seq ?_ | refine T_block ?_ | refine T_inBlock ?_ | refine T_skip ?_)
  refine T_region ?_
  refine L_val _ _ (X_mkIface U60 (by simp)) rfl ?_
  refine L_val _ _ (X_eq (b := false) (by kernel_rfl)) rfl ?_
  refine L_val _ _ (X_assign) rfl ?_
  refine L_nil ?_
  refine T_false rfl ?_
  repeat (first | refine T_seq ?_ | refine T_block ?_ | refine T_inBlock ?_ | refine T_skip ?_)
  refine T_region ?_
  refine L_val _ _ (X_mkIface U60 (by simp)) rfl ?_
  refine L_val _ _ (X_eq (b := false) (by kernel_rfl)) rfl ?_
  refine L_val _ _ (X_assign) rfl ?_
  refine L_nil ?_
  refine T_false rfl ?_
  repeat (first | refine T_seq ?_ | refine T_block ?_ | refine T_inBlock ?_ | refine T_skip ?_)
  refine T_region ?_
  refine L_val _ _ (X_mkIface U60 (by simp)) rfl ?_
  refine L_val _ _ (X_eq (b := true) (by kernel_rfl)) rfl ?_
  refine L_val _ _ (X_assign) rfl ?_
  refine L_nil ?_
  refine T_true rfl ?_
  repeat (first | refine T_seq ?_ | refine T_block ?_ | refine T_inBlock ?_ | refine T_skip ?_)
  refine T_region ?_
  refine L_val _ _ (X_assign) rfl ?_
  refine L_nil ?_
  exact T_ret1 Try.func10 rfl ⟨rfl, rfl⟩
theorem status_9 (w : World) : Ret Try.prog 10 #[errV 9] w fun v w' => v = .int .i64 (stN 9 : Int) ∧ w = w' := by
  refine ret_of_T (vs := [errV 9]) Try.func10 Try.ntmps10 rfl (Nat.le_of_ble_eq_true rfl) ?_
  repeat (first | refine T_seq ?_ | refine T_block ?_ | refine T_inBlock ?_ | refine T_skip ?_)
  refine T_region ?_
  refine L_val _ _ (X_assign) rfl ?_
  refine L_nil ?_
  repeat (first | refine T_seq ?_ | refine T_block ?_ | refine T_inBlock ?_ | refine T_skip ?_)
  refine T_region ?_
  refine L_val _ _ (X_move) rfl ?_
  refine L_nil ?_
  repeat (first | refine T_seq ?_ | refine T_block ?_ | refine T_inBlock ?_ | refine T_skip ?_)
  refine T_region ?_
  refine L_val _ _ (X_eq (b := false) (by kernel_rfl)) rfl ?_
  refine L_val _ _ (X_assign) rfl ?_
  refine L_nil ?_
  refine T_false rfl ?_
  repeat (first | refine T_seq ?_ | refine T_block ?_ | refine T_inBlock ?_ | refine T_skip ?_)
  refine T_region ?_
  refine L_val _ _ (X_mkIface U60 (by simp)) rfl ?_
  refine L_val _ _ (X_eq (b := false) (by kernel_rfl)) rfl ?_
  refine L_val _ _ (X_assign) rfl ?_
  refine L_nil ?_
  refine T_false rfl ?_
  repeat (first | refine T_seq ?_ | refine T_block ?_ | refine T_inBlock ?_ | refine T_skip ?_)
  refine T_region ?_
  refine L_val _ _ (X_mkIface U60 (by simp)) rfl ?_
  refine L_val _ _ (X_eq (b := false) (by kernel_rfl)) rfl ?_
  refine L_val _ _ (X_assign) rfl ?_
  refine L_nil ?_
  refine T_false rfl ?_
  repeat (first | refine T_seq ?_ | refine T_block ?_ | refine T_inBlock ?_ | refine T_skip ?_)
  refine T_region ?_
  refine L_val _ _ (X_mkIface U60 (by simp)) rfl ?_
  refine L_val _ _ (X_eq (b := false) (by kernel_rfl)) rfl ?_
  refine L_val _ _ (X_assign) rfl ?_
  refine L_nil ?_
  refine T_false rfl ?_
  repeat (first | refine T_seq ?_ | refine T_block ?_ | refine T_inBlock ?_ | refine T_skip ?_)
  refine T_region ?_
  refine L_val _ _ (X_mkIface U60 (by simp)) rfl ?_
  refine L_val _ _ (X_eq (b := false) (by kernel_rfl)) rfl ?_
  refine L_val _ _ (X_assign) rfl ?_
  refine L_nil ?_
  refine T_false rfl ?_
  repeat (first | refine T_seq ?_ | refine T_block ?_ | refine T_inBlock ?_ | refine T_skip ?_)
  refine T_region ?_
  refine L_val _ _ (X_mkIface U60 (by simp)) rfl ?_
  refine L_val _ _ (X_eq (b := false) (by kernel_rfl)) rfl ?_
  refine L_val _ _ (X_assign) rfl ?_
  refine L_nil ?_
  refine T_false rfl ?_
  repeat (first | refine T_seq ?_ | refine T_block ?_ | refine T_inBlock ?_ | refine T_skip ?_)
  refine T_region ?_
  refine L_val _ _ (X_mkIface U60 (by simp)) rfl ?_
  refine L_val _ _ (X_eq (b := false) (by kernel_rfl)) rfl ?_
  refine L_val _ _ (X_assign) rfl ?_
  refine L_nil ?_
  refine T_false rfl ?_
  repeat (first | refine T_seq ?_ | refine T_block ?_ | refine T_inBlock ?_ | refine T_skip ?_)
  refine T_region ?_
  refine L_val _ _ (X_mkIface U60 (by simp)) rfl ?_
  refine L_val _ _ (X_eq (b := false) (by kernel_rfl)) rfl ?_
  refine L_val _ _ (X_assign) rfl ?_
  refine L_nil ?_
  refine T_false rfl ?_
  repeat (first | refine T_seq ?_ | refine T_block ?_ | refine T_inBlock ?_ | refine T_skip ?_)
  refine T_region ?_
  refine L_val _ _ (X_mkIface U60 (by simp)) rfl ?_
  refine L_val _ _ (X_eq (b := true) (by kernel_rfl)) rfl ?_
  refine L_val _ _ (X_assign) rfl ?_
  refine L_nil ?_
  refine T_true rfl ?_
  repeat (first | refine T_seq ?_ | refine T_block ?_ | refine T_inBlock ?_ | refine T_skip ?_)
  refine T_region ?_
  refine L_val _ _ (X_assign) rfl ?_
  refine L_nil ?_
  exact T_ret1 Try.func10 rfl ⟨rfl, rfl⟩
theorem status_10 (w : World) : Ret Try.prog 10 #[errV 10] w fun v w' => v = .int .i64 (stN 10 : Int) ∧ w = w' := by
  refine ret_of_T (vs := [errV 10]) Try.func10 Try.ntmps10 rfl (Nat.le_of_ble_eq_true rfl) ?_
  repeat (first | refine T_seq ?_ | refine T_block ?_ | refine T_inBlock ?_ | refine T_skip ?_)
  refine T_region ?_
  refine L_val _ _ (X_assign) rfl ?_
  refine L_nil ?_
  repeat (first | refine T_seq ?_ | refine T_block ?_ | refine T_inBlock ?_ | refine T_skip ?_)
  refine T_region ?_
  refine L_val _ _ (X_move) rfl ?_
  refine L_nil ?_
  repeat (first | refine T_seq ?_ | refine T_block ?_ | refine T_inBlock ?_ | refine T_skip ?_)
  refine T_region ?_
  refine L_val _ _ (X_eq (b := false) (by kernel_rfl)) rfl ?_
  refine L_val _ _ (X_assign) rfl ?_
  refine L_nil ?_
  refine T_false rfl ?_
  repeat (first | refine T_seq ?_ | refine T_block ?_ | refine T_inBlock ?_ | refine T_skip ?_)
  refine T_region ?_
  refine L_val _ _ (X_mkIface U60 (by simp)) rfl ?_
  refine L_val _ _ (X_eq (b := false) (by kernel_rfl)) rfl ?_
  refine L_val _ _ (X_assign) rfl ?_
  refine L_nil ?_
  refine T_false rfl ?_
  repeat (first | refine T_seq ?_ | refine T_block ?_ | refine T_inBlock ?_ | refine T_skip ?_)
  refine T_region ?_
  refine L_val _ _ (X_mkIface U60 (by simp)) rfl ?_
  refine L_val _ _ (X_eq (b := false) (by kernel_rfl)) rfl ?_
  refine L_val _ _ (X_assign) rfl ?_
  refine L_nil ?_
  refine T_false rfl ?_
  repeat (first | refine T_seq ?_ | refine T_block ?_ | refine T_inBlock ?_ | refine T_skip ?_)
  refine T_region ?_
  refine L_val _ _ (X_mkIface U60 (by simp)) rfl ?_
  refine L_val _ _ (X_eq (b := false) (by kernel_rfl)) rfl ?_
  refine L_val _ _ (X_assign) rfl ?_
  refine L_nil ?_
  refine T_false rfl ?_
  repeat (first | refine T_seq ?_ | refine T_block ?_ | refine T_inBlock ?_ | refine T_skip ?_)
  refine T_region ?_
  refine L_val _ _ (X_mkIface U60 (by simp)) rfl ?_
  refine L_val _ _ (X_eq (b := false) (by kernel_rfl)) rfl ?_
  refine L_val _ _ (X_assign) rfl ?_
  refine L_nil ?_
  refine T_false rfl ?_
  repeat (first | refine T_seq ?_ | refine T_block ?_ | refine T_inBlock ?_ | refine T_skip ?_)
  refine T_region ?_
  refine L_val _ _ (X_mkIface U60 (by simp)) rfl ?_
  refine L_val _ _ (X_eq (b := false) (by kernel_rfl)) rfl ?_
  refine L_val _ _ (X_assign) rfl ?_
  refine L_nil ?_
  refine T_false rfl ?_
  repeat (first | refine T_seq ?_ | refine T_block ?_ | refine T_inBlock ?_ | refine T_skip ?_)
  refine T_region ?_
  refine L_val _ _ (X_mkIface U60 (by simp)) rfl ?_
  refine L_val _ _ (X_eq (b := false) (by kernel_rfl)) rfl ?_
  refine L_val _ _ (X_assign) rfl ?_
  refine L_nil ?_
  refine T_false rfl ?_
  repeat (first | refine T_seq ?_ | refine T_block ?_ | refine T_inBlock ?_ | refine T_skip ?_)
  refine T_region ?_
  refine L_val _ _ (X_mkIface U60 (by simp)) rfl ?_
  refine L_val _ _ (X_eq (b := false) (by kernel_rfl)) rfl ?_
  refine L_val _ _ (X_assign) rfl ?_
  refine L_nil ?_
  refine T_false rfl ?_
  repeat (first | refine T_seq ?_ | refine T_block ?_ | refine T_inBlock ?_ | refine T_skip ?_)
  refine T_region ?_
  refine L_val _ _ (X_mkIface U60 (by simp)) rfl ?_
  refine L_val _ _ (X_eq (b := false) (by kernel_rfl)) rfl ?_
  refine L_val _ _ (X_assign) rfl ?_
  refine L_nil ?_
  refine T_false rfl ?_
  repeat (first | refine T_seq ?_ | refine T_block ?_ | refine T_inBlock ?_ | refine T_skip ?_)
  refine T_region ?_
  refine L_val _ _ (X_mkIface U60 (by simp)) rfl ?_
  refine L_val _ _ (X_eq (b := true) (by kernel_rfl)) rfl ?_
  refine L_val _ _ (X_assign) rfl ?_
  refine L_nil ?_
  refine T_true rfl ?_
  repeat (first | refine T_seq ?_ | refine T_block ?_ | refine T_inBlock ?_ | refine T_skip ?_)
  refine T_region ?_
  refine L_val _ _ (X_assign) rfl ?_
  refine L_nil ?_
  exact T_ret1 Try.func10 rfl ⟨rfl, rfl⟩

/-- The errors that come up. -/
def Er (n : Nat) : Prop := n = 0 ∨ n = 6 ∨ n = 7 ∨ n = 8 ∨ n = 9 ∨ n = 10
theorem chk_er (h : Hd) : Er (chk h) := by
  unfold chk Er
  repeat (first | split | simp)
theorem status_ret (n : Nat) (hn : Er n) (w : World) : Ret Try.prog 10 #[errV n] w fun v w' => v = .int .i64 (stN n : Int) ∧ w = w' := by
  rcases hn with rfl | rfl | rfl | rfl | rfl | rfl
  · exact status_0 w
  · exact status_6 w
  · exact status_7 w
  · exact status_8 w
  · exact status_9 w
  · exact status_10 w
theorem err_nil (n : Nat) (hn : Er n) (x : Tmp) (w : World) : (do eqGuard .neq 41 (.tmp x) (.const .nilIface) (errV n) .nilIface; binOp .neq 41 (errV n) .nilIface).run Try.prog w = .ok (.bool (decide (n ≠ 0))) w := by
  rcases hn with rfl | rfl | rfl | rfl | rfl | rfl <;> kernel_rfl
theorem err_nil' (n : Nat) (hn : Er n) (x : Tmp) (w : World) : (do eqGuard .eql 41 (.tmp x) (.const .nilIface) (errV n) .nilIface; binOp .eql 41 (errV n) .nilIface).run Try.prog w = .ok (.bool (decide (n = 0))) w := by
  rcases hn with rfl | rfl | rfl | rfl | rfl | rfl <;> kernel_rfl
end Go.Proofs.Qxb6500864a
