/-
  NewGraph, Need, Len, Needs.
-/
import Derived.Test.Qxb6500865aCyc
import Derived.Test.Qxb6500865aWk5
namespace Go.Proofs.Qxb6500865a
set_option linter.unusedSimpArgs false
set_option linter.unusedVariables false
open Go.RowKit

theorem Sm.chg {w w1 w2 : World} {b : Nat} {o : Obj} (h : Sm w w1) (h2 : Chg w1 w2 b o) : Chg w w2 b o :=
  ⟨h2.here, fun k hk => (h2.oth k hk).trans (by rw [h.heap]), by rw [← h.heap]; exact h2.size, h2.os.trans h.os, h2.tape.trans h.tape, h2.output.trans h.output⟩

set_option maxHeartbeats 4000000 in
/-- bundle.NewGraph, of what it can bear -/
theorem newGraph_yes (n : Nat) (w : World) (hn : n ≤ 8) :
    Ret Try.prog 17 #[.int .i64 n] w fun v w' => v = .tuple #[.agg (gcells n (pad8 [])).toArray, .bool true] ∧ Below w.heap.size w w' := by
  refine ret_of_T (vs := [.int .i64 n]) Try.func17 Try.ntmps17 rfl (Nat.le_of_ble_eq_true rfl) ?_
  have e1 : cmpB .lss (n : Int) 0 = false := by simp [cmpB]
  have e2 : cmpB .gtr (n : Int) 8 = false := by simp [cmpB]; omega
  repeat (first | refine T_seq ?_ | refine T_block ?_ | refine T_inBlock ?_ | refine T_skip ?_)
  refine T_region ?_
  refine L_alloc Z47 rfl fun w1 h1 => ?_
  refine L_val _ _ (X_assign) rfl ?_
  refine L_nil ?_
  have b1 := h1.below (Below.refl _ _) (Nat.le_refl _)
  have k1 : Blk w1 w.heap.size (gcells 0 (pad8 [])).toArray 47 := h1.new
  repeat (first | refine T_seq ?_ | refine T_block ?_ | refine T_inBlock ?_ | refine T_skip ?_)
  refine T_region ?_
  refine L_val _ _ (X_move) rfl ?_
  refine L_val _ _ (X_cmpR false rfl rfl rfl e1) rfl ?_
  refine L_val _ _ (X_move) rfl ?_
  refine L_guard rfl rfl rfl ?_
  refine L_val _ _ (X_move) rfl ?_
  refine L_guard rfl rfl rfl ?_
  refine L_val _ _ (X_cmpR false rfl rfl rfl e2) rfl ?_
  refine L_val _ _ (X_pick rfl) rfl ?_
  refine L_nil ?_
  refine T_false rfl ?_
  repeat (first | refine T_seq ?_ | refine T_block ?_ | refine T_inBlock ?_ | refine T_skip ?_)
  refine T_region ?_
  refine L_val _ _ (X_move) rfl ?_
  refine L_val _ _ (X_build (.agg (gcells n (pad8 [])).toArray) (by kernel_rfl)) rfl ?_
  refine L_storeAll (gcells n (pad8 [])) S47 rfl rfl rfl (gcells_one _ _) k1 rfl fun w2 h2 => ?_
  refine L_val _ _ (X_assign) rfl ?_
  refine L_nil ?_
  exact T_retCT (gcells n (pad8 [])) Try.func17 rfl A47 S47 rfl rfl (gblk0 h2.new) ⟨rfl, h2.below b1 (Nat.le_refl _)⟩

set_option maxHeartbeats 4000000 in
/-- bundle.NewGraph, of what it can not bear -/
theorem newGraph_no (n : Nat) (w : World) (hn : 8 < n) :
    Ret Try.prog 17 #[.int .i64 n] w fun v w' => v = .tuple #[.agg (gcells 0 (pad8 [])).toArray, .bool false] ∧ Below w.heap.size w w' := by
  refine ret_of_T (vs := [.int .i64 n]) Try.func17 Try.ntmps17 rfl (Nat.le_of_ble_eq_true rfl) ?_
  have e1 : cmpB .lss (n : Int) 0 = false := by simp [cmpB]
  have e2 : cmpB .gtr (n : Int) 8 = true := by simp [cmpB]; omega
  repeat (first | refine T_seq ?_ | refine T_block ?_ | refine T_inBlock ?_ | refine T_skip ?_)
  refine T_region ?_
  refine L_alloc Z47 rfl fun w1 h1 => ?_
  refine L_val _ _ (X_assign) rfl ?_
  refine L_nil ?_
  have b1 := h1.below (Below.refl _ _) (Nat.le_refl _)
  have k1 : Blk w1 w.heap.size (gcells 0 (pad8 [])).toArray 47 := h1.new
  repeat (first | refine T_seq ?_ | refine T_block ?_ | refine T_inBlock ?_ | refine T_skip ?_)
  refine T_region ?_
  refine L_val _ _ (X_move) rfl ?_
  refine L_val _ _ (X_cmpR false rfl rfl rfl e1) rfl ?_
  refine L_val _ _ (X_move) rfl ?_
  refine L_guard rfl rfl rfl ?_
  refine L_val _ _ (X_move) rfl ?_
  refine L_guard rfl rfl rfl ?_
  refine L_val _ _ (X_cmpR true rfl rfl rfl e2) rfl ?_
  refine L_val _ _ (X_pick rfl) rfl ?_
  refine L_nil ?_
  refine T_true rfl ?_
  repeat (first | refine T_seq ?_ | refine T_block ?_ | refine T_inBlock ?_ | refine T_skip ?_)
  refine T_region ?_
  refine L_val _ _ (X_build (.agg (gcells 0 (pad8 [])).toArray) (by kernel_rfl)) rfl ?_
  refine L_storeAll (gcells 0 (pad8 [])) S47 rfl rfl rfl (gcells_one _ _) k1 rfl fun w2 h2 => ?_
  refine L_val _ _ (X_assign) rfl ?_
  refine L_nil ?_
  exact T_retCT (gcells 0 (pad8 [])) Try.func17 rfl A47 S47 rfl rfl (gblk0 h2.new) ⟨rfl, h2.below b1 (Nat.le_refl _)⟩

/-- Len -/
theorem len_ret (b n : Nat) (M : List Nat) (w : World) (hb : Blk w b (gcells n M).toArray 47) :
    Ret Try.prog 19 #[.pointer (some ⟨b, 0, none⟩)] w fun v w' => v = .int .i64 n ∧ w = w' := by
  refine ret_of_T (vs := [.pointer (some ⟨b, 0, none⟩)]) Try.func19 Try.ntmps19 rfl (Nat.le_of_ble_eq_true rfl) ?_
  repeat (first | refine T_seq ?_ | refine T_block ?_ | refine T_inBlock ?_ | refine T_skip ?_)
  refine T_region ?_
  refine L_val _ _ (X_assign) rfl ?_
  refine L_nil ?_
  repeat (first | refine T_seq ?_ | refine T_block ?_ | refine T_inBlock ?_ | refine T_skip ?_)
  refine T_region ?_
  refine L_val _ _ (X_move) rfl ?_
  refine L_val _ _ (X_nilCheck rfl) rfl ?_
  refine L_val _ _ (X_field F47_0 rfl) rfl ?_
  refine L_val _ _ (X_load A3 rfl (gblk hb 0 rfl)) rfl ?_
  refine L_val _ _ (X_assign) rfl ?_
  refine L_nil ?_
  exact T_ret1 Try.func19 rfl ⟨rfl, rfl⟩

set_option maxHeartbeats 4000000 in
/-- Need, refused: no such leg -/
theorem need_no1 (b n i : Nat) (M : List Nat) (k : Int) (w : World) (hb : Blk w b (gcells n M).toArray 47) (hi : n ≤ i) :
    Ret Try.prog 18 #[.pointer (some ⟨b, 0, none⟩), .int .i64 i, .int .i64 k] w fun v w' => v = .bool false ∧ w = w' := by
  refine ret_of_T (vs := [.pointer (some ⟨b, 0, none⟩), .int .i64 i, .int .i64 k]) Try.func18 Try.ntmps18 rfl (Nat.le_of_ble_eq_true rfl) ?_
  have e1 : cmpB .lss (i : Int) 0 = false := by simp [cmpB]
  have e2 : cmpB .geq (i : Int) n = true := by simp [cmpB]; omega
  repeat (first | refine T_seq ?_ | refine T_block ?_ | refine T_inBlock ?_ | refine T_skip ?_)
  refine T_region ?_
  refine L_val _ _ (X_assign) rfl ?_
  refine L_nil ?_
  repeat (first | refine T_seq ?_ | refine T_block ?_ | refine T_inBlock ?_ | refine T_skip ?_)
  refine T_region ?_
  refine L_val _ _ (X_move) rfl ?_
  refine L_val _ _ (X_cmpR false rfl rfl rfl e1) rfl ?_
  refine L_val _ _ (X_move) rfl ?_
  refine L_guard rfl rfl rfl ?_
  refine L_val _ _ (X_move) rfl ?_
  refine L_guard rfl rfl rfl ?_
  refine L_val _ _ (X_move) rfl ?_
  refine L_guard rfl rfl rfl ?_
  refine L_val _ _ (X_nilCheck rfl) rfl ?_
  refine L_guard rfl rfl rfl ?_
  refine L_val _ _ (X_field F47_0 rfl) rfl ?_
  refine L_guard rfl rfl rfl ?_
  refine L_val _ _ (X_load A3 rfl (gblk hb 0 rfl)) rfl ?_
  refine L_guard rfl rfl rfl ?_
  refine L_val _ _ (X_cmpR true rfl rfl rfl e2) rfl ?_
  refine L_val _ _ (X_pick rfl) rfl ?_
  refine L_val _ _ (X_move) rfl ?_
  refine L_passB rfl rfl rfl ?_
  refine L_passB rfl rfl rfl ?_
  refine L_val _ _ (X_pick rfl) rfl ?_
  refine L_val _ _ (X_move) rfl ?_
  refine L_passB rfl rfl rfl ?_
  refine L_passB rfl rfl rfl ?_
  refine L_passB rfl rfl rfl ?_
  refine L_passB rfl rfl rfl ?_
  refine L_passB rfl rfl rfl ?_
  refine L_passB rfl rfl rfl ?_
  refine L_val _ _ (X_pick rfl) rfl ?_
  refine L_nil ?_
  refine T_true rfl ?_
  repeat (first | refine T_seq ?_ | refine T_block ?_ | refine T_inBlock ?_ | refine T_skip ?_)
  refine T_region ?_
  refine L_val _ _ (X_assign) rfl ?_
  refine L_nil ?_
  exact T_ret1 Try.func18 rfl ⟨rfl, rfl⟩

set_option maxHeartbeats 4000000 in
/-- Need, refused: the number needed is less than 0 -/
theorem need_no2 (b n i : Nat) (M : List Nat) (k : Int) (w : World) (hb : Blk w b (gcells n M).toArray 47) (hk : k < 0) :
    Ret Try.prog 18 #[.pointer (some ⟨b, 0, none⟩), .int .i64 i, .int .i64 k] w fun v w' => v = .bool false ∧ w = w' := by
  rcases Nat.lt_or_ge i n with hi | hi
  case inr => exact need_no1 b n i M k w hb hi
  refine ret_of_T (vs := [.pointer (some ⟨b, 0, none⟩), .int .i64 i, .int .i64 k]) Try.func18 Try.ntmps18 rfl (Nat.le_of_ble_eq_true rfl) ?_
  have e1 : cmpB .lss (i : Int) 0 = false := by simp [cmpB]
  have e2 : cmpB .geq (i : Int) n = false := by simp [cmpB]; omega
  have e3 : cmpB .lss k 0 = true := by simp [cmpB]; omega
  repeat (first | refine T_seq ?_ | refine T_block ?_ | refine T_inBlock ?_ | refine T_skip ?_)
  refine T_region ?_
  refine L_val _ _ (X_assign) rfl ?_
  refine L_nil ?_
  repeat (first | refine T_seq ?_ | refine T_block ?_ | refine T_inBlock ?_ | refine T_skip ?_)
  refine T_region ?_
  refine L_val _ _ (X_move) rfl ?_
  refine L_val _ _ (X_cmpR false rfl rfl rfl e1) rfl ?_
  refine L_val _ _ (X_move) rfl ?_
  refine L_guard rfl rfl rfl ?_
  refine L_val _ _ (X_move) rfl ?_
  refine L_guard rfl rfl rfl ?_
  refine L_val _ _ (X_move) rfl ?_
  refine L_guard rfl rfl rfl ?_
  refine L_val _ _ (X_nilCheck rfl) rfl ?_
  refine L_guard rfl rfl rfl ?_
  refine L_val _ _ (X_field F47_0 rfl) rfl ?_
  refine L_guard rfl rfl rfl ?_
  refine L_val _ _ (X_load A3 rfl (gblk hb 0 rfl)) rfl ?_
  refine L_guard rfl rfl rfl ?_
  refine L_val _ _ (X_cmpR false rfl rfl rfl e2) rfl ?_
  refine L_val _ _ (X_pick rfl) rfl ?_
  refine L_val _ _ (X_move) rfl ?_
  refine L_guard rfl rfl rfl ?_
  refine L_val _ _ (X_move) rfl ?_
  refine L_guard rfl rfl rfl ?_
  refine L_val _ _ (X_cmpR true rfl rfl rfl e3) rfl ?_
  refine L_val _ _ (X_pick rfl) rfl ?_
  refine L_val _ _ (X_move) rfl ?_
  refine L_passB rfl rfl rfl ?_
  refine L_passB rfl rfl rfl ?_
  refine L_passB rfl rfl rfl ?_
  refine L_passB rfl rfl rfl ?_
  refine L_passB rfl rfl rfl ?_
  refine L_passB rfl rfl rfl ?_
  refine L_val _ _ (X_pick rfl) rfl ?_
  refine L_nil ?_
  refine T_true rfl ?_
  repeat (first | refine T_seq ?_ | refine T_block ?_ | refine T_inBlock ?_ | refine T_skip ?_)
  refine T_region ?_
  refine L_val _ _ (X_assign) rfl ?_
  refine L_nil ?_
  exact T_ret1 Try.func18 rfl ⟨rfl, rfl⟩

set_option maxHeartbeats 4000000 in
/-- Need -/
theorem need_yes (b n i kk m : Nat) (M : List Nat) (w : World) (hb : Blk w b (gcells n M).toArray 47) (hM : M.length = 8) (hn : n ≤ 8) (hi : i < n) (hk : kk < n) (hm : M[i]? = some m) (hm2 : m < 256) :
    Ret Try.prog 18 #[.pointer (some ⟨b, 0, none⟩), .int .i64 i, .int .i64 kk] w fun v w' => v = .bool true ∧ Chg w w' b (.cells (gcells n (M.set i (m ||| 2 ^ kk))).toArray 47 (0, 0)) := by
  refine ret_of_T (vs := [.pointer (some ⟨b, 0, none⟩), .int .i64 i, .int .i64 kk]) Try.func18 Try.ntmps18 rfl (Nat.le_of_ble_eq_true rfl) ?_
  have e1 : cmpB .lss (i : Int) 0 = false := by simp [cmpB]
  have e2 : cmpB .geq (i : Int) n = false := by simp [cmpB]; omega
  have e3 : cmpB .lss (kk : Int) 0 = false := by simp [cmpB]
  have e4 : cmpB .geq (kk : Int) n = false := by simp [cmpB]; omega
  have hkk : kk < 8 := by omega
  repeat (first | refine T_seq ?_ | refine T_block ?_ | refine T_inBlock ?_ | refine T_skip ?_)
  refine T_region ?_
  refine L_val _ _ (X_assign) rfl ?_
  refine L_nil ?_
  repeat (first | refine T_seq ?_ | refine T_block ?_ | refine T_inBlock ?_ | refine T_skip ?_)
  refine T_region ?_
  refine L_val _ _ (X_move) rfl ?_
  refine L_val _ _ (X_cmpR false rfl rfl rfl e1) rfl ?_
  refine L_val _ _ (X_move) rfl ?_
  refine L_guard rfl rfl rfl ?_
  refine L_val _ _ (X_move) rfl ?_
  refine L_guard rfl rfl rfl ?_
  refine L_val _ _ (X_move) rfl ?_
  refine L_guard rfl rfl rfl ?_
  refine L_val _ _ (X_nilCheck rfl) rfl ?_
  refine L_guard rfl rfl rfl ?_
  refine L_val _ _ (X_field F47_0 rfl) rfl ?_
  refine L_guard rfl rfl rfl ?_
  refine L_val _ _ (X_load A3 rfl (gblk hb 0 rfl)) rfl ?_
  refine L_guard rfl rfl rfl ?_
  refine L_val _ _ (X_cmpR false rfl rfl rfl e2) rfl ?_
  refine L_val _ _ (X_pick rfl) rfl ?_
  refine L_val _ _ (X_move) rfl ?_
  refine L_guard rfl rfl rfl ?_
  refine L_val _ _ (X_move) rfl ?_
  refine L_guard rfl rfl rfl ?_
  refine L_val _ _ (X_cmpR false rfl rfl rfl e3) rfl ?_
  refine L_val _ _ (X_pick rfl) rfl ?_
  refine L_val _ _ (X_move) rfl ?_
  refine L_guard rfl rfl rfl ?_
  refine L_val _ _ (X_move) rfl ?_
  refine L_guard rfl rfl rfl ?_
  refine L_val _ _ (X_move) rfl ?_
  refine L_guard rfl rfl rfl ?_
  refine L_val _ _ (X_nilCheck rfl) rfl ?_
  refine L_guard rfl rfl rfl ?_
  refine L_val _ _ (X_field F47_0 rfl) rfl ?_
  refine L_guard rfl rfl rfl ?_
  refine L_val _ _ (X_load A3 rfl (gblk hb 0 rfl)) rfl ?_
  refine L_guard rfl rfl rfl ?_
  refine L_val _ _ (X_cmpR false rfl rfl rfl e4) rfl ?_
  refine L_val _ _ (X_pick rfl) rfl ?_
  refine L_nil ?_
  refine T_false rfl ?_
  repeat (first | refine T_seq ?_ | refine T_block ?_ | refine T_inBlock ?_ | refine T_skip ?_)
  refine T_draw (fun y => Blk y b (gcells n M).toArray 47) 13 rfl rfl fun w1 hsm => ?_
  have hS := hsm.blk hb
  refine D_take 0 _ rfl (by kernel_rfl) hS (fun w hw => X_move) rfl ?_
  refine D_take 1 _ rfl (by kernel_rfl) hS (fun w hw => X_move) rfl ?_
  refine D_take 2 _ rfl (by kernel_rfl) hS (fun w hw => X_nilCheck rfl) rfl ?_
  refine D_take 3 _ rfl (by kernel_rfl) hS (fun w hw => X_field F47_1 rfl) rfl ?_
  refine D_take 4 _ rfl (by kernel_rfl) hS (fun w hw => X_indexA U45 S5 rfl rfl (by omega)) rfl ?_
  refine D_take 5 _ rfl (by kernel_rfl) hS (fun w hw => X_load A5 rfl (gblk hw (0 + 1 + i * 1) (gcells_get hm))) rfl ?_
  refine D_take 6 _ rfl (by kernel_rfl) hS (fun w hw => X_move) rfl ?_
  refine D_take 7 _ rfl (by kernel_rfl) hS (fun w hw => X_convInt U3 U72 rfl) rfl ?_
  refine D_take 8 _ rfl (by kernel_rfl) hS (fun w hw => X_shl1 rfl rfl hkk) rfl ?_
  refine D_take 9 _ rfl (by kernel_rfl) hS (fun w hw => X_or8 rfl rfl hm2 (pow_lt hkk)) rfl ?_
  refine D_val 10 _ _ rfl (by kernel_rfl) (X_nilCheck rfl) rfl (fun hb => hS) ?_
  refine D_val 11 _ _ rfl (by kernel_rfl) (X_field F47_1 rfl) rfl (fun hb => hS) ?_
  refine D_val 12 _ _ rfl (by kernel_rfl) (X_indexA U45 S5 rfl rfl (by omega)) rfl (fun hb => hS) ?_
  refine D_store 13 (.int .u8 ((m ||| 2 ^ kk : Nat) : Int)) rfl (by kernel_rfl) S5 rfl rfl rfl hS (by simp [gcells_length hM]; omega) fun w2 h2 => ⟨fun hb => (by cases hb), ?_⟩
  refine D_done (by kernel_rfl) ?_
  rw [gcells_set] at h2
  repeat (first | refine T_seq ?_ | refine T_block ?_ | refine T_inBlock ?_ | refine T_skip ?_)
  refine T_region ?_
  refine L_val _ _ (X_assign) rfl ?_
  refine L_nil ?_
  exact T_ret1 Try.func18 rfl ⟨rfl, hsm.chg h2⟩

set_option maxHeartbeats 4000000 in
/-- Needs: no such leg -/
theorem needs_no (b n i : Nat) (M : List Nat) (k : Int) (w : World) (hb : Blk w b (gcells n M).toArray 47) (hi : n ≤ i) :
    Ret Try.prog 16 #[.pointer (some ⟨b, 0, none⟩), .int .i64 i, .int .i64 k] w fun v w' => v = .bool false ∧ w = w' := by
  refine ret_of_T (vs := [.pointer (some ⟨b, 0, none⟩), .int .i64 i, .int .i64 k]) Try.func16 Try.ntmps16 rfl (Nat.le_of_ble_eq_true rfl) ?_
  have e1 : cmpB .geq (i : Int) 0 = true := by simp [cmpB]
  have e2 : cmpB .lss (i : Int) n = false := by simp [cmpB]; omega
  repeat (first | refine T_seq ?_ | refine T_block ?_ | refine T_inBlock ?_ | refine T_skip ?_)
  refine T_region ?_
  refine L_val _ _ (X_assign) rfl ?_
  refine L_nil ?_
  repeat (first | refine T_seq ?_ | refine T_block ?_ | refine T_inBlock ?_ | refine T_skip ?_)
  refine T_region ?_
  refine L_val _ _ (X_move) rfl ?_
  refine L_val _ _ (X_cmpR true rfl rfl rfl e1) rfl ?_
  refine L_val _ _ (X_move) rfl ?_
  refine L_guard rfl rfl rfl ?_
  refine L_val _ _ (X_move) rfl ?_
  refine L_guard rfl rfl rfl ?_
  refine L_val _ _ (X_move) rfl ?_
  refine L_guard rfl rfl rfl ?_
  refine L_val _ _ (X_nilCheck rfl) rfl ?_
  refine L_guard rfl rfl rfl ?_
  refine L_val _ _ (X_field F47_0 rfl) rfl ?_
  refine L_guard rfl rfl rfl ?_
  refine L_val _ _ (X_load A3 rfl (gblk hb 0 rfl)) rfl ?_
  refine L_guard rfl rfl rfl ?_
  refine L_val _ _ (X_cmpR false rfl rfl rfl e2) rfl ?_
  refine L_val _ _ (X_pick rfl) rfl ?_
  refine L_val _ _ (X_move) rfl ?_
  refine L_passB rfl rfl rfl ?_
  refine L_passB rfl rfl rfl ?_
  refine L_val _ _ (X_pick rfl) rfl ?_
  refine L_val _ _ (X_move) rfl ?_
  refine L_passB rfl rfl rfl ?_
  refine L_passB rfl rfl rfl ?_
  refine L_passB rfl rfl rfl ?_
  refine L_passB rfl rfl rfl ?_
  refine L_passB rfl rfl rfl ?_
  refine L_passB rfl rfl rfl ?_
  refine L_val _ _ (X_pick rfl) rfl ?_
  refine L_val _ _ (X_move) rfl ?_
  refine L_passB rfl rfl rfl ?_
  refine L_passB rfl rfl rfl ?_
  refine L_passB rfl rfl rfl ?_
  refine L_passB rfl rfl rfl ?_
  refine L_passB rfl rfl rfl ?_
  refine L_passB rfl rfl rfl ?_
  refine L_passB rfl rfl rfl ?_
  refine L_passB rfl rfl rfl ?_
  refine L_passB rfl rfl rfl ?_
  refine L_passB rfl rfl rfl ?_
  refine L_passB rfl rfl rfl ?_
  refine L_val _ _ (X_pick rfl) rfl ?_
  refine L_val _ _ (X_assign) rfl ?_
  refine L_nil ?_
  exact T_ret1 Try.func16 rfl ⟨rfl, rfl⟩
end Go.Proofs.Qxb6500865a
