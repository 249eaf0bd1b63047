import Derived.Test.Qxb6500865aDa
namespace Go.Proofs.Qxb6500865a
set_option linter.unusedSimpArgs false
set_option linter.unusedVariables false
open Go.RowKit

set_option maxRecDepth 10000 in
/-- bundle.find -/
theorem find_ret (a : Option Addr) (c : Nat) (gs : List Leg) (x : Int) (w : World) (hl : Legs w a gs) (hn : gs.length < 1000000) :
    Ret Try.prog 25 #[.agg #[.slice a gs.length c], .int .u8 x] w fun v w' =>
      v = .tuple #[.int .i64 ((findAt (gs.map (·.id)) x).getD 0 : Nat), .bool (findAt (gs.map (·.id)) x).isSome] ∧ Below w.heap.size w w' := by
  refine ret_of_T (vs := [.agg #[.slice a gs.length c], .int .u8 x]) Try.func25 Try.ntmps25 rfl (Nat.le_of_ble_eq_true rfl) ?_
  repeat (first | refine T_seq ?_ | refine T_block ?_ | refine T_inBlock ?_ | refine T_skip ?_)
  refine T_region ?_
  refine L_box rfl fun w1 h1 => ?_
  refine L_val _ _ (X_assign) rfl ?_
  refine L_val _ _ (X_assign) rfl ?_
  refine L_nil ?_
  have b1 : Below w.heap.size w w1 := h1.below (Below.refl _ _) (Nat.le_refl _)
  have k1 : Blk w1 w.heap.size #[.slice a gs.length c] 28 := h1.new
  have hl1 := hl.keep (keeps_below b1)
  generalize w.heap.size = B at *
  repeat (first | refine T_seq ?_ | refine T_block ?_ | refine T_inBlock ?_ | refine T_skip ?_)
  refine T_region ?_
  refine L_val _ _ (X_field F28_0 rfl) rfl ?_
  refine L_val _ _ (X_load A26 rfl (k1.cell 0)) rfl ?_
  refine L_val _ _ (X_lenS U26 rfl) rfl ?_
  refine L_val _ _ (X_move) rfl ?_
  refine L_nil ?_
  repeat (first | refine T_seq ?_ | refine T_block ?_ | refine T_inBlock ?_ | refine T_skip ?_)
  refine T_loopS [10, 9, 2, 1] (fun m vs w' => ∃ i : Nat, vs = [.int .i64 i, .int .i64 gs.length, .pointer (some ⟨B, 0, none⟩), .int .u8 x] ∧ w1 = w' ∧ i ≤ gs.length ∧ m = gs.length - i ∧ ∀ (j : Nat) y, j < i → (gs.map (·.id))[j]? = some y → y ≠ x) gs.length ⟨0, rfl, rfl, by omega, rfl, fun j y h => by omega⟩ ?_
  rintro m vs ρ w' ⟨i, rfl, rfl, hi, rfl, hno⟩ ih
  repeat (first | refine T_seq ?_ | refine T_block ?_ | refine T_inBlock ?_ | refine T_skip ?_)
  refine T_region ?_
  refine L_val _ _ (X_cmp rfl rfl rfl) rfl ?_
  refine L_nil ?_
  repeat (first | refine T_seq ?_ | refine T_block ?_ | refine T_inBlock ?_ | refine T_skip ?_)
  refine T_if rfl (fun ht => ?_) (fun hf => ?_)
  · have hlt : i < gs.length := by simpa [cmpB] using ht
    obtain ⟨b, o, rfl, hb, hc⟩ := hl1.at (i := i) (g := gs[i]) (by simp)
    repeat (first | refine T_seq ?_ | refine T_block ?_ | refine T_inBlock ?_ | refine T_skip ?_)
    refine T_region ?_
    refine L_val _ _ (X_move) rfl ?_
    refine L_val _ _ (X_assign) rfl ?_
    refine L_nil ?_
    repeat (first | refine T_seq ?_ | refine T_block ?_ | refine T_inBlock ?_ | refine T_skip ?_)
    refine T_region ?_
    refine L_val _ _ (X_field F28_0 rfl) rfl ?_
    refine L_val _ _ (X_load A26 rfl (k1.cell 0)) rfl ?_
    refine L_val _ _ (X_move) rfl ?_
    refine L_val _ _ (X_index U26 S62 rfl rfl hlt) rfl ?_
    refine L_val _ _ (X_field F62_0 rfl) rfl ?_
    refine L_val _ _ (X_load A59 rfl (hc 0 _ rfl)) rfl ?_
    refine L_val _ _ (X_move) rfl ?_
    refine L_val _ _ (X_cmp rfl rfl rfl) rfl ?_
    refine L_nil ?_
    refine T_if rfl (fun ht' => ?_) (fun hf' => ?_)
    · have he : gs[i].id = x := by simpa [cmpB] using ht'
      repeat (first | refine T_seq ?_ | refine T_block ?_ | refine T_inBlock ?_ | refine T_skip ?_)
      refine T_region ?_
      refine L_val _ _ (X_move) rfl ?_
      refine L_val _ _ (X_assign) rfl ?_
      refine L_val _ _ (X_assign) rfl ?_
      refine L_nil ?_
      refine T_ret2 Try.func25 rfl ⟨?_, b1⟩
      have hfd := findAt_some_of (ids := gs.map (·.id)) (x := x) (i := i) (by simp [he, hlt]) hno
      rw [hfd]
      rfl
    · have he : gs[i].id ≠ x := by simpa [cmpB] using hf'
      repeat (first | refine T_seq ?_ | refine T_block ?_ | refine T_inBlock ?_ | refine T_skip ?_)
      refine T_region ?_
      refine L_val _ _ (X_add rfl rfl (by omega) (by omega)) rfl ?_
      refine L_val _ _ (X_move) rfl ?_
      refine L_nil ?_
      refine ih _ _ _ ?_ ⟨i + 1, rfl, rfl, by omega, rfl, ?_⟩
      · omega
      · intro j y hj hy
        rcases Nat.lt_succ_iff_lt_or_eq.1 hj with h | rfl
        · exact hno j y h hy
        · rw [List.getElem?_map, List.getElem?_eq_getElem hlt] at hy
          simp at hy
          subst hy
          exact he
  · refine T_exit rfl ?_
    repeat (first | refine T_seq ?_ | refine T_block ?_ | refine T_inBlock ?_ | refine T_skip ?_)
    refine T_region ?_
    refine L_val _ _ (X_assign) rfl ?_
    refine L_val _ _ (X_assign) rfl ?_
    refine L_nil ?_
    refine T_ret2 Try.func25 rfl ⟨?_, b1⟩
    have hge : i = gs.length := by
      have : ¬ (i < gs.length) := by simpa [cmpB] using hf
      omega
    have hfd := findAt_none_of (ids := gs.map (·.id)) (x := x) (fun j y hy => hno j y (by
      have := (List.getElem?_eq_some_iff.1 hy).1
      simp at this; omega) hy)
    rw [hfd]
    rfl
end Go.Proofs.Qxb6500865a
