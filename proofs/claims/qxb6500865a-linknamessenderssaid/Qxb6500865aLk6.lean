/-
  isRollup, checkLeg.
-/
import Derived.Test.Qxb6500865aLk5
namespace Go.Proofs.Qxb6500865a
set_option linter.unusedSimpArgs false
set_option linter.unusedVariables false
open Go.RowKit

theorem roll_ret (c : Int) (w : World) : Ret Try.prog 38 #[.int .u8 c] w fun v w' => (∃ t, v = .bool t) ∧ w = w' := by
  refine ret_of_T (vs := [.int .u8 c]) Try.func38 Try.ntmps38 rfl (Nat.le_of_ble_eq_true rfl) ?_
  repeat (first | refine T_seq ?_ | refine T_block ?_ | refine T_inBlock ?_ | refine T_skip ?_)
  refine T_region ?_
  refine L_val _ _ (X_assign) rfl ?_
  refine L_nil ?_
  repeat (first | refine T_seq ?_ | refine T_block ?_ | refine T_inBlock ?_ | refine T_skip ?_)
  by_cases h1 : c = 1
  · have e1 : cmpB .eql c 1 = true := by simp [cmpB, h1]
    refine T_region ?_
    refine L_val _ _ (X_move) rfl ?_
    refine L_val _ _ (X_cmpR true rfl rfl rfl e1) rfl ?_
    refine L_val _ _ (X_move) rfl ?_
    refine L_passB rfl rfl rfl ?_
    refine L_passB rfl rfl rfl ?_
    refine L_val _ _ (X_pick rfl) rfl ?_
    refine L_val _ _ (X_assign) rfl ?_
    refine L_nil ?_
    exact T_ret1 Try.func38 rfl ⟨⟨_, rfl⟩, rfl⟩
  · have e1 : cmpB .eql c 1 = false := by simp [cmpB, h1]
    refine T_region ?_
    refine L_val _ _ (X_move) rfl ?_
    refine L_val _ _ (X_cmpR false rfl rfl rfl e1) rfl ?_
    refine L_val _ _ (X_move) rfl ?_
    refine L_guard rfl rfl rfl ?_
    refine L_val _ _ (X_move) rfl ?_
    refine L_guard rfl rfl rfl ?_
    refine L_val _ _ (X_cmp rfl rfl rfl) rfl ?_
    refine L_val _ _ (X_pick rfl) rfl ?_
    refine L_val _ _ (X_assign) rfl ?_
    refine L_nil ?_
    exact T_ret1 Try.func38 rfl ⟨⟨_, rfl⟩, rfl⟩
theorem findAt_self {ids : List Int} {i : Nat} {x : Int} (h : ids[i]? = some x) : ∃ k, findAt ids x = some k := by
  cases hf : findAt ids x with
  | some k => exact ⟨k, rfl⟩
  | none =>
    unfold findAt at hf
    rw [List.findIdx?_eq_none_iff] at hf
    have := hf x (List.mem_of_getElem? h)
    simp at this
set_option maxHeartbeats 8000000 in
set_option maxRecDepth 10000 in
/-- bundle.checkLeg -/
theorem cl_ret (a : Option Addr) (c : Nat) (gs : List Leg) (i : Nat) (w : World) (hl : Legs w a gs) (hi : i < gs.length) (hn : gs.length < 1000000) :
    Ret Try.prog 33 #[.agg #[.slice a gs.length c], .int .i64 i] w fun v w' => ((v = .int .u8 0 ∧ findAt (gs.map (·.id)) gs[i].id = some i) ∨ v = .int .u8 34 ∨ v = .int .u8 35 ∨ v = .int .u8 36) ∧ Below w.heap.size w w' := by
  refine ret_of_T (vs := [.agg #[.slice a gs.length c], .int .i64 i]) Try.func33 Try.ntmps33 rfl (Nat.le_of_ble_eq_true rfl) ?_
  repeat (first | refine T_seq ?_ | refine T_block ?_ | refine T_inBlock ?_ | refine T_skip ?_)
  refine T_region ?_
  refine L_box rfl fun w1 h1 => ?_
  refine L_val _ _ (X_assign) rfl ?_
  refine L_nil ?_
  have sz1 := h1.size
  have z1 := h1.lt
  have k2 : Blk w1 w.heap.size #[.slice a gs.length c] 28 := h1.new
  have b1 : Below w.heap.size w w1 := h1.below (Below.refl _ _) (Nat.le_refl _)
  have hl1 := hl.keep (keeps_below b1)
  clear h1
  obtain ⟨b, o, rfl, hb, hc⟩ := hl1.at (i := i) (g := gs[i]) (by simp)
  have hid : (gs.map (·.id))[i]? = some gs[i].id := by simp [hi]
  obtain ⟨fk, hfk⟩ := findAt_self hid
  generalize gs[i] = g at *
  repeat (first | refine T_seq ?_ | refine T_block ?_ | refine T_inBlock ?_ | refine T_skip ?_)
  refine T_region ?_
  refine L_val _ _ (X_field F28_0 rfl) rfl ?_
  refine L_val _ _ (X_load A26 rfl (k2.cell 0)) rfl ?_
  refine L_val _ _ (X_move) rfl ?_
  refine L_val _ _ (X_index U26 S62 rfl rfl hi) rfl ?_
  refine L_val _ _ (X_assign) rfl ?_
  refine L_nil ?_
  repeat (first | refine T_seq ?_ | refine T_block ?_ | refine T_inBlock ?_ | refine T_skip ?_)
  refine T_region ?_
  refine L_val _ _ (X_move) rfl ?_
  refine L_val _ _ (X_nilCheck rfl) rfl ?_
  refine L_val _ _ (X_field F62_1 rfl) rfl ?_
  refine L_val _ _ (X_load A25 rfl (hc 1 _ rfl)) rfl ?_
  refine L_callF [.int .u8 g.chain] E38 rfl rfl (roll_ret g.chain w1) ?_
  rintro v w2 ⟨⟨t, rfl⟩, rfl⟩
  refine L_val _ _ (X_not rfl) rfl ?_
  refine L_nil ?_
  refine T_if rfl (fun ht => ?_) (fun hf => ?_)
  · repeat (first | refine T_seq ?_ | refine T_block ?_ | refine T_inBlock ?_ | refine T_skip ?_)
    refine T_region ?_
    refine L_val _ _ (X_assign) rfl ?_
    refine L_nil ?_
    exact T_ret1 Try.func33 rfl ⟨.inr (.inl rfl), b1⟩
  repeat (first | refine T_seq ?_ | refine T_block ?_ | refine T_inBlock ?_ | refine T_skip ?_)
  refine T_quiet (fun z => Sm w1 z) rfl (by kernel_rfl) (sm_drew w1) ?_
  refine LQ_val _ (fun w hw => X_move) rfl ?_
  refine LQ_val _ (fun w hw => X_nilCheck rfl) rfl ?_
  refine LQ_val _ (fun w hw => X_field F62_2 rfl) rfl ?_
  refine LQ_val _ (fun w hw => X_field F39_1 rfl) rfl ?_
  refine LQ_val _ (fun w hw => X_load A25 rfl ((hw.cell _).trans (hc 3 _ rfl))) rfl ?_
  refine LQ_val _ (fun w hw => X_move) rfl ?_
  refine LQ_val _ (fun w hw => X_nilCheck rfl) rfl ?_
  refine LQ_val _ (fun w hw => X_field F62_1 rfl) rfl ?_
  refine LQ_val _ (fun w hw => X_load A25 rfl ((hw.cell _).trans (hc 1 _ rfl))) rfl ?_
  refine LQ_val _ (fun w hw => X_cmp rfl rfl rfl) rfl ?_
  refine LQ_nil fun w3 h3 => ?_
  refine T_if rfl (fun ht2 => ?_) (fun hf2 => ?_)
  · repeat (first | refine T_seq ?_ | refine T_block ?_ | refine T_inBlock ?_ | refine T_skip ?_)
    refine T_region ?_
    refine L_val _ _ (X_assign) rfl ?_
    refine L_nil ?_
    exact T_ret1 Try.func33 rfl ⟨.inr (.inr (.inl rfl)), h3.below b1⟩
  have b13 : Below w1.heap.size w1 w3 := h3.below (Below.refl _ _)
  have hin : Below w1.heap.size w1 w3.drew := (sm_drew w3).below b13
  repeat (first | refine T_seq ?_ | refine T_block ?_ | refine T_inBlock ?_ | refine T_skip ?_)
  refine T_quiet (fun z => Below w1.heap.size w1 z) rfl (by kernel_rfl) (hin) ?_
  refine LQ_val _ (fun w hw => X_loadAgg [.slice (some ⟨b, o, none⟩) gs.length c] A28 S28 rfl rfl (agg1 (below_blk hw k2 z1))) rfl ?_
  refine LQ_val _ (fun w hw => X_move) rfl ?_
  refine LQ_val _ (fun w hw => X_nilCheck rfl) rfl ?_
  refine LQ_val _ (fun w hw => X_field F62_0 rfl) rfl ?_
  refine LQ_val _ (fun w hw => X_load A59 rfl ((below_cell hw _ hb).trans (hc 0 _ rfl))) rfl ?_
  refine LQ_callL [.agg #[.slice (some ⟨b, o, none⟩) gs.length c], .int .u8 g.id] (.tuple #[.int .i64 (fk : Nat), .bool true]) E25 rfl rfl (fun w hw => (find_ret (some ⟨b, o, none⟩) c gs g.id w (hl1.keep (keeps_below hw)) hn).mono fun u w' hu => ⟨hu.1.trans (by rw [hfk]; rfl), hw.trans (hu.2.mono hw.size)⟩) ?_
  refine LQ_val _ (fun w hw => X_move) rfl ?_
  refine LQ_val _ (fun w hw => X_extract rfl rfl) rfl ?_
  refine LQ_val _ (fun w hw => X_extract rfl rfl) rfl ?_
  refine LQ_val _ (fun w hw => X_assign) rfl ?_
  refine LQ_val _ (fun w hw => X_assign) rfl ?_
  refine LQ_nil fun w4 b4 => ?_
  have b4w : Below w.heap.size w w4 := b1.trans (b4.mono sz1)
  repeat (first | refine T_seq ?_ | refine T_block ?_ | refine T_inBlock ?_ | refine T_skip ?_)
  refine T_region ?_
  refine L_val _ _ (X_move) rfl ?_
  refine L_val _ _ (X_move) rfl ?_
  refine L_val _ _ (X_cmp rfl rfl rfl) rfl ?_
  refine L_nil ?_
  refine T_if rfl (fun ht3 => ?_) (fun hf3 => ?_)
  · repeat (first | refine T_seq ?_ | refine T_block ?_ | refine T_inBlock ?_ | refine T_skip ?_)
    refine T_region ?_
    refine L_val _ _ (X_assign) rfl ?_
    refine L_nil ?_
    exact T_ret1 Try.func33 rfl ⟨.inr (.inr (.inr rfl)), b4w⟩
  · have he : fk = i := by simp [cmpB] at hf3; omega
    repeat (first | refine T_seq ?_ | refine T_block ?_ | refine T_inBlock ?_ | refine T_skip ?_)
    refine T_region ?_
    refine L_val _ _ (X_assign) rfl ?_
    refine L_nil ?_
    exact T_ret1 Try.func33 rfl ⟨.inl ⟨rfl, by rw [hfk, he]⟩, b4w⟩
end Go.Proofs.Qxb6500865a
