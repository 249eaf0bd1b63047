/-
  sends.
-/
import Derived.Test.Qxb6500865aLk2
import Derived.Test.Qxb6500865aWk9
namespace Go.Proofs.Qxb6500865a
set_option linter.unusedSimpArgs false
set_option linter.unusedVariables false
open Go.RowKit

/-- Whether a leg sends a message, whatever its number. -/
def sendsB (g : Leg) (want : Msg) : Bool := match outOf g.chain g.tx with
  | some m => ({ m with seq := want.seq } : Msg).same want
  | none => false
theorem msg_seq (m : Msg) (x : Int) : m.cells.set 5 (.int .u64 x) = ({ m with seq := x } : Msg).cells := rfl
set_option maxHeartbeats 8000000 in
set_option maxRecDepth 10000 in
/-- bundle.sends -/
theorem sends_ret (a : Option Addr) (c : Nat) (gs : List Leg) (kk : Nat) (want : Msg) (w : World) (hl : Legs w a gs) (hk : kk < gs.length) :
    Ret Try.prog 32 #[.agg #[.slice a gs.length c], .int .i64 kk, .agg want.cells.toArray] w fun v w' => v = .bool (sendsB gs[kk] want) ∧ Below w.heap.size w w' := by
  refine ret_of_T (vs := [.agg #[.slice a gs.length c], .int .i64 kk, .agg want.cells.toArray]) Try.func32 Try.ntmps32 rfl (Nat.le_of_ble_eq_true rfl) ?_
  repeat (first | refine T_seq ?_ | refine T_block ?_ | refine T_inBlock ?_ | refine T_skip ?_)
  refine T_region ?_
  refine L_box rfl fun w1 h1 => ?_
  refine L_box rfl fun w2 h2 => ?_
  refine L_val _ _ (X_assign) rfl ?_
  refine L_nil ?_
  have sz1 := h1.size
  have z1 := h1.lt
  have sz2 := h2.size
  have z2 := h2.lt
  have k3 : Blk w2 w.heap.size #[.slice a gs.length c] 28 := h2.blk h1.new (by omega)
  have k5 : Blk w2 w1.heap.size want.cells.toArray 37 := h2.new
  have b2 : Below w.heap.size w w2 := h2.below (h1.below (Below.refl _ _) (Nat.le_refl _)) sz1
  have hl2 := hl.keep (keeps_below b2)
  clear h1 h2
  generalize w1.heap.size = B5 at *
  obtain ⟨b, o, rfl, hb, hc⟩ := hl2.at (i := kk) (g := gs[kk]) (by simp)
  generalize gs[kk] = g at *
  have hcz : ∀ z, Below w2.heap.size w2 z → ∀ j v, g.cells[j]? = some v → z.cell? ⟨b, o + kk * 22 + j, none⟩ = some v := fun z hz j v hv => (below_cell hz _ hb).trans (hc j v hv)
  repeat (first | refine T_seq ?_ | refine T_block ?_ | refine T_inBlock ?_ | refine T_skip ?_)
  refine T_draw (fun z => Below w2.heap.size w2 z) 19 rfl rfl fun w3 hsm => ?_
  have hS : Below w2.heap.size w2 w3 := hsm.below (Below.refl _ _)
  refine D_take 0 _ rfl (by kernel_rfl) hS (fun w hw => X_field F28_0 rfl) rfl ?_
  refine D_take 1 _ rfl (by kernel_rfl) hS (fun w hw => X_load A26 rfl ((below_blk hw k3 (by omega)).cell 0)) rfl ?_
  refine D_take 2 _ rfl (by kernel_rfl) hS (fun w hw => X_move) rfl ?_
  refine D_take 3 _ rfl (by kernel_rfl) hS (fun w hw => X_index U26 S62 rfl rfl hk) rfl ?_
  refine D_take 4 _ rfl (by kernel_rfl) hS (fun w hw => X_field F62_1 rfl) rfl ?_
  refine D_take 5 _ rfl (by kernel_rfl) hS (fun w hw => X_load A25 rfl (hcz _ hw 1 _ rfl)) rfl ?_
  refine D_take 6 _ rfl (by kernel_rfl) hS (fun w hw => X_field F28_0 rfl) rfl ?_
  refine D_take 7 _ rfl (by kernel_rfl) hS (fun w hw => X_load A26 rfl ((below_blk hw k3 (by omega)).cell 0)) rfl ?_
  refine D_take 8 _ rfl (by kernel_rfl) hS (fun w hw => X_move) rfl ?_
  refine D_take 9 _ rfl (by kernel_rfl) hS (fun w hw => X_index U26 S62 rfl rfl hk) rfl ?_
  refine D_take 10 _ rfl (by kernel_rfl) hS (fun w hw => X_field F62_2 rfl) rfl ?_
  refine D_take 11 _ rfl (by kernel_rfl) hS (fun w hw => X_loadAgg g.tx.cells A39 S39 (Tx.cells_length _) rfl (fun j v hv => by rw [Nat.add_assoc (o + kk * 22)]; exact hcz _ hw (2 + j) v (by have := leg_tx g hv; rwa [Nat.zero_add] at this))) rfl ?_
  refine D_callAlloc 12 16 [.int .u8 g.chain, .agg g.tx.cells.toArray] rfl rfl (by kernel_rfl) E24 rfl rfl (out_ret g.chain g.tx w3) Z37 rfl ?_ ?_
  · rintro v w4 ⟨rfl, b4⟩
    have hS4 : Below w2.heap.size w2 w4 := hS.trans (b4.mono hS.size)
    refine ⟨fun _ => hS4, ?_⟩
    refine D_take 13 _ rfl (by kernel_rfl) hS4 (fun w hw => X_move) rfl ?_
    refine D_take 14 _ rfl (by kernel_rfl) hS4 (fun w hw => X_extract rfl rfl) rfl ?_
    refine D_take 15 _ rfl (by kernel_rfl) hS4 (fun w hw => X_extract rfl rfl) rfl ?_
    refine D_alloc 16 rfl (by kernel_rfl) Z37 rfl ?_
    intro w5 h5
    have hS5 := h5.below hS4 hS4.size
    refine ⟨fun _ => hS5, ?_⟩
    refine D_storeAll 17 ((outOf g.chain g.tx).getD noMsg).cells rfl (by kernel_rfl) S37 rfl rfl (Msg.cells_length _) (Msg.cells_one' _) h5.new rfl ?_
    intro w6 h6
    have hS6 := h6.below hS5 hS4.size
    refine ⟨fun _ => hS6, ?_⟩
    refine D_val 18 _ _ rfl (by kernel_rfl) X_assign rfl (fun _ => hS6) ?_
    refine D_done (by kernel_rfl) ?_
    have k7 := h6.new
    have k56 := below_blk hS6 k5 (by omega)
    have b6 : Below w.heap.size w w6 := b2.trans (hS6.mono b2.size)
    repeat (first | refine T_seq ?_ | refine T_block ?_ | refine T_inBlock ?_ | refine T_skip ?_)
    refine T_region ?_
    refine L_val _ _ (X_field F37_5 rfl) rfl ?_
    refine L_val _ _ (X_load A29 rfl (lblk k56 5 rfl)) rfl ?_
    refine L_val _ _ (X_field F37_5 rfl) rfl ?_
    refine L_store (.int .u64 want.seq) S29 rfl rfl rfl k7 (by simp [Msg.cells]) fun w7 h7 => ?_
    refine L_nil ?_
    have k77 := lset h7
    rw [show (0 + 5 : Nat) = 5 from rfl, msg_seq] at k77
    have hsz := hS.size
    have hsz4 := hS4.size
    have k57 := h7.blk k56 (by omega)
    have b7 := h7.below b6 (by omega)
    repeat (first | refine T_seq ?_ | refine T_block ?_ | refine T_inBlock ?_ | refine T_skip ?_)
    cases ho : outOf g.chain g.tx with
    | none =>
      refine T_region ?_
      refine L_val _ _ (X_move) rfl ?_
      refine L_val _ _ (X_move) rfl ?_
      refine L_passB rfl rfl rfl ?_
      refine L_passB rfl rfl rfl ?_
      refine L_passB rfl rfl rfl ?_
      refine L_val _ _ (X_pick rfl) rfl ?_
      refine L_val _ _ (X_assign) rfl ?_
      refine L_nil ?_
      exact T_ret1 Try.func32 rfl ⟨by simp only [sendsB, ho]; rfl, b7⟩
    | some mm =>
      rw [ho] at k77
      refine T_region ?_
      refine L_val _ _ (X_move) rfl ?_
      refine L_val _ _ (X_move) rfl ?_
      refine L_guard rfl rfl rfl ?_
      refine L_val _ _ (X_loadAgg ({ mm with seq := want.seq } : Msg).cells A37 S37 (Msg.cells_length _) rfl (lblk0 k77)) rfl ?_
      refine L_guard rfl rfl rfl ?_
      refine L_val _ _ (X_loadAgg want.cells A37 S37 (Msg.cells_length _) rfl (lblk0 k57)) rfl ?_
      refine L_guard rfl rfl rfl ?_
      refine L_val _ _ (X_eql37 ({ mm with seq := want.seq } : Msg) want rfl rfl) rfl ?_
      refine L_val _ _ (X_pick rfl) rfl ?_
      refine L_val _ _ (X_assign) rfl ?_
      refine L_nil ?_
      exact T_ret1 Try.func32 rfl ⟨by simp only [sendsB, ho]; rfl, b7⟩
  · intro w4 h4
    have hS4 := h4.below hS hS.size
    refine ⟨fun _ => hS4, ?_⟩
    refine D_callF 12 [.int .u8 g.chain, .agg g.tx.cells.toArray] rfl (by kernel_rfl) E24 rfl rfl (out_ret g.chain g.tx w4) ?_
    rintro v w5 ⟨rfl, b5⟩
    have hS5 : Below w2.heap.size w2 w5 := hS4.trans (b5.mono hS4.size)
    refine ⟨fun _ => hS5, ?_⟩
    refine D_take 13 _ rfl (by kernel_rfl) hS5 (fun w hw => X_move) rfl ?_
    refine D_take 14 _ rfl (by kernel_rfl) hS5 (fun w hw => X_extract rfl rfl) rfl ?_
    refine D_take 15 _ rfl (by kernel_rfl) hS5 (fun w hw => X_extract rfl rfl) rfl ?_
    have k75 := below_blk b5 h4.new h4.lt
    refine D_storeAll 17 ((outOf g.chain g.tx).getD noMsg).cells rfl (by kernel_rfl) S37 rfl rfl (Msg.cells_length _) (Msg.cells_one' _) k75 rfl ?_
    intro w6 h6
    have hS6 := h6.below hS5 hS.size
    refine ⟨fun _ => hS6, ?_⟩
    refine D_val 18 _ _ rfl (by kernel_rfl) X_assign rfl (fun _ => hS6) ?_
    refine D_done (by kernel_rfl) ?_
    have k7 := h6.new
    have k56 := below_blk hS6 k5 (by omega)
    have b6 : Below w.heap.size w w6 := b2.trans (hS6.mono b2.size)
    repeat (first | refine T_seq ?_ | refine T_block ?_ | refine T_inBlock ?_ | refine T_skip ?_)
    refine T_region ?_
    refine L_val _ _ (X_field F37_5 rfl) rfl ?_
    refine L_val _ _ (X_load A29 rfl (lblk k56 5 rfl)) rfl ?_
    refine L_val _ _ (X_field F37_5 rfl) rfl ?_
    refine L_store (.int .u64 want.seq) S29 rfl rfl rfl k7 (by simp [Msg.cells]) fun w7 h7 => ?_
    refine L_nil ?_
    have k77 := lset h7
    rw [show (0 + 5 : Nat) = 5 from rfl, msg_seq] at k77
    have hsz := hS.size
    have hsz4 := hS4.size
    have k57 := h7.blk k56 (by omega)
    have b7 := h7.below b6 (by omega)
    repeat (first | refine T_seq ?_ | refine T_block ?_ | refine T_inBlock ?_ | refine T_skip ?_)
    cases ho : outOf g.chain g.tx with
    | none =>
      refine T_region ?_
      refine L_val _ _ (X_move) rfl ?_
      refine L_val _ _ (X_move) rfl ?_
      refine L_passB rfl rfl rfl ?_
      refine L_passB rfl rfl rfl ?_
      refine L_passB rfl rfl rfl ?_
      refine L_val _ _ (X_pick rfl) rfl ?_
      refine L_val _ _ (X_assign) rfl ?_
      refine L_nil ?_
      exact T_ret1 Try.func32 rfl ⟨by simp only [sendsB, ho]; rfl, b7⟩
    | some mm =>
      rw [ho] at k77
      refine T_region ?_
      refine L_val _ _ (X_move) rfl ?_
      refine L_val _ _ (X_move) rfl ?_
      refine L_guard rfl rfl rfl ?_
      refine L_val _ _ (X_loadAgg ({ mm with seq := want.seq } : Msg).cells A37 S37 (Msg.cells_length _) rfl (lblk0 k77)) rfl ?_
      refine L_guard rfl rfl rfl ?_
      refine L_val _ _ (X_loadAgg want.cells A37 S37 (Msg.cells_length _) rfl (lblk0 k57)) rfl ?_
      refine L_guard rfl rfl rfl ?_
      refine L_val _ _ (X_eql37 ({ mm with seq := want.seq } : Msg) want rfl rfl) rfl ?_
      refine L_val _ _ (X_pick rfl) rfl ?_
      refine L_val _ _ (X_assign) rfl ?_
      refine L_nil ?_
      exact T_ret1 Try.func32 rfl ⟨by simp only [sendsB, ho]; rfl, b7⟩
end Go.Proofs.Qxb6500865a
