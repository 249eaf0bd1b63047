import Derived.Test.Qxb6500865aDa
namespace Go.Proofs.Qxb6500865a
set_option linter.unusedSimpArgs false
set_option linter.unusedVariables false
open Go.RowKit

set_option maxRecDepth 10000 in
/-- The size guard. -/
theorem small_ret (a : Option Addr) (c : Nat) (xs : List OpD) (w : World) (hl : Ops w a xs) (hn : xs.length ≤ 140737488355328) (hbig : ∀ x ∈ xs, x.big) :
    Ret Try.prog 8 #[.slice a xs.length c] w fun v w' => ∃ t, v = .bool t ∧ w' = w ∧ (t = true → xs.length ≤ 65536 ∧ ∀ x ∈ xs, x.small) := by
  refine ret_of_T (vs := [.slice a xs.length c]) Try.func8 Try.ntmps8 rfl (Nat.le_of_ble_eq_true rfl) ?_
  have stop : ∀ ρ k, ρ 2 = .bool false → T Try.prog 8 120 (.code .ret :: k) (fun v w' => ∃ t, v = .bool t ∧ w' = w ∧ (t = true → xs.length ≤ 65536 ∧ ∀ x ∈ xs, x.small)) ρ w :=
    fun ρ k h => T_ret1 Try.func8 rfl ⟨false, h, rfl, fun h => by cases h⟩
  repeat (first | refine T_seq ?_ | refine T_block ?_ | refine T_inBlock ?_ | refine T_skip ?_)
  refine T_region ?_
  refine L_val _ _ (X_assign) rfl ?_
  refine L_nil ?_
  repeat (first | refine T_seq ?_ | refine T_block ?_ | refine T_inBlock ?_ | refine T_skip ?_)
  refine T_region ?_
  refine L_val _ _ (X_move) rfl ?_
  refine L_val _ _ (X_lenS U22 rfl) rfl ?_
  refine L_val _ _ (X_assign) rfl ?_
  refine L_nil ?_
  repeat (first | refine T_seq ?_ | refine T_block ?_ | refine T_inBlock ?_ | refine T_skip ?_)
  refine T_region ?_
  refine L_val _ _ (X_move) rfl ?_
  refine L_val _ _ (X_cmp rfl rfl rfl) rfl ?_
  refine L_nil ?_
  refine T_if rfl (fun ht => ?_) (fun hf => ?_)
  · repeat (first | refine T_seq ?_ | refine T_block ?_ | refine T_inBlock ?_ | refine T_skip ?_)
    refine T_region ?_
    refine L_val _ _ (X_assign) rfl ?_
    refine L_nil ?_
    exact stop _ _ rfl
  have hlen : xs.length ≤ 65536 := by simp [cmpB] at hf; omega
  repeat (first | refine T_seq ?_ | refine T_block ?_ | refine T_inBlock ?_ | refine T_skip ?_)
  refine T_region ?_
  refine L_val _ _ (X_assign) rfl ?_
  refine L_nil ?_
  repeat (first | refine T_seq ?_ | refine T_block ?_ | refine T_inBlock ?_ | refine T_skip ?_)
  refine T_loopS [3, 4, 0] (fun m vs w' => ∃ (nn : Int) (i : Nat), vs = [.int .i64 nn, .int .i64 i, .slice a xs.length c] ∧ w = w' ∧ 0 ≤ nn ∧ nn ≤ 65536 ∧ i ≤ xs.length ∧ m = xs.length - i ∧ ∀ (j : Nat) x, j < i → xs[j]? = some x → x.small) xs.length
    ⟨xs.length, 0, rfl, rfl, by omega, by omega, by omega, by omega, fun j x h => by omega⟩ ?_
  rintro m vs ρ w' ⟨nn, i, rfl, rfl, hn0, hn1, hi, rfl, hsm⟩ ih
  repeat (first | refine T_seq ?_ | refine T_block ?_ | refine T_inBlock ?_ | refine T_skip ?_)
  refine T_region ?_
  refine L_val _ _ (X_move) rfl ?_
  refine L_val _ _ (X_move) rfl ?_
  refine L_val _ _ (X_lenS U22 rfl) rfl ?_
  refine L_val _ _ (X_cmp rfl rfl rfl) rfl ?_
  refine L_nil ?_
  refine T_if rfl (fun ht => ?_) (fun hf => ?_)
  case refine_2 =>
    refine T_exit rfl ?_
    repeat (first | refine T_seq ?_ | refine T_block ?_ | refine T_inBlock ?_ | refine T_skip ?_)
    refine T_region ?_
    refine L_val _ _ (X_assign) rfl ?_
    refine L_nil ?_
    refine T_ret1 Try.func8 rfl ⟨true, rfl, rfl, fun _ => ⟨hlen, fun x hx => ?_⟩⟩
    have hge : ¬ i < xs.length := by simpa [cmpB] using hf
    obtain ⟨j, hj⟩ := List.getElem?_of_mem hx
    exact hsm j x (by have := (List.getElem?_eq_some_iff.1 hj).1; omega) hj
  have hlt : i < xs.length := by simpa [cmpB] using ht
  obtain ⟨b, o, rfl, hb, hc⟩ := hl.at (i := i) (x := xs[i]) (by simp)
  have hx := hl.ok xs[i] (by simp)
  have hB := hbig xs[i] (by simp)
  have hBl := hB.legs
  have hBt := hB.tx
  have hBm := hB.txm
  have hBg := hB.msg
  generalize hX : xs[i] = X at *
  have hXi : xs[i]? = some X := by rw [← hX]; simp
  repeat (first | refine T_seq ?_ | refine T_block ?_ | refine T_inBlock ?_ | refine T_skip ?_)
  refine T_region ?_
  refine L_val _ _ (X_move) rfl ?_
  refine L_val _ _ (X_move) rfl ?_
  refine L_val _ _ (X_move) rfl ?_
  refine L_val _ _ (X_index U22 S43 rfl rfl hlt) rfl ?_
  refine L_val _ _ (X_field F43_2 rfl) rfl ?_
  refine L_val _ _ (X_field F28_0 rfl) rfl ?_
  refine L_val _ _ (X_load A26 rfl (hc 2 _ rfl)) rfl ?_
  refine L_val _ _ (X_lenS U26 rfl) rfl ?_
  refine L_val _ _ (X_add rfl rfl (by omega) (by omega)) rfl ?_
  refine L_val _ _ (X_assign) rfl ?_
  refine L_nil ?_
  repeat (first | refine T_seq ?_ | refine T_block ?_ | refine T_inBlock ?_ | refine T_skip ?_)
  refine T_region ?_
  refine L_val _ _ (X_move) rfl ?_
  refine L_val _ _ (X_cmp rfl rfl rfl) rfl ?_
  refine L_nil ?_
  refine T_if rfl (fun ht1 => ?_) (fun hf1 => ?_)
  · repeat (first | refine T_seq ?_ | refine T_block ?_ | refine T_inBlock ?_ | refine T_skip ?_)
    refine T_region ?_
    refine L_val _ _ (X_assign) rfl ?_
    refine L_nil ?_
    exact stop _ _ rfl
  have hl1 : nn + X.legs.length ≤ 65536 := by simp [cmpB] at hf1; omega
  repeat (first | refine T_seq ?_ | refine T_block ?_ | refine T_inBlock ?_ | refine T_skip ?_)
  refine T_region ?_
  refine L_val _ _ (X_assign) rfl ?_
  refine L_nil ?_
  repeat (first | refine T_seq ?_ | refine T_block ?_ | refine T_inBlock ?_ | refine T_skip ?_)
  -- the inner loop
  refine T_loopS [3, 4, 0, 5] (fun m vs w' => ∃ (nn : Int) (i1 : Nat), vs = [.int .i64 nn, .int .i64 i, .slice (some ⟨b, o, none⟩) xs.length c, .int .i64 i1] ∧ w = w' ∧ 0 ≤ nn ∧ nn ≤ 65536 ∧ i1 ≤ X.legs.length ∧ m = X.legs.length - i1 ∧ ∀ (j : Nat) g, j < i1 → X.legs[j]? = some g → g.needs.length ≤ 65536) X.legs.length
    ⟨nn + X.legs.length, 0, rfl, rfl, by omega, by omega, by omega, by omega, fun j x h => by omega⟩ ?_
  rintro m vs ρ2 w' ⟨n2, i1, rfl, rfl, hn20, hn21, hi1, rfl, hsm2⟩ ih2
  repeat (first | refine T_seq ?_ | refine T_block ?_ | refine T_inBlock ?_ | refine T_skip ?_)
  refine T_region ?_
  refine L_val _ _ (X_move) rfl ?_
  refine L_val _ _ (X_move) rfl ?_
  refine L_val _ _ (X_move) rfl ?_
  refine L_val _ _ (X_index U22 S43 rfl rfl hlt) rfl ?_
  refine L_val _ _ (X_field F43_2 rfl) rfl ?_
  refine L_val _ _ (X_field F28_0 rfl) rfl ?_
  refine L_val _ _ (X_load A26 rfl (hc 2 _ rfl)) rfl ?_
  refine L_val _ _ (X_lenS U26 rfl) rfl ?_
  refine L_val _ _ (X_cmp rfl rfl rfl) rfl ?_
  refine L_nil ?_
  refine T_if rfl (fun ht2 => ?_) (fun hf2 => ?_)
  · have hlt2 : i1 < X.legs.length := by simpa [cmpB] using ht2
    obtain ⟨b2, o2, hla, hb2, hc2⟩ := hx.at (i := i1) (g := X.legs[i1]) (by simp)
    obtain ⟨hG1, hG2, hG3⟩ := hB.each X.legs[i1] (by simp)
    generalize hG : X.legs[i1] = G at *
    have e2 := hc 2 _ rfl
    rw [hla] at e2
    repeat (first | refine T_seq ?_ | refine T_block ?_ | refine T_inBlock ?_ | refine T_skip ?_)
    refine T_region ?_
    refine L_val _ _ (X_move) rfl ?_
    refine L_val _ _ (X_move) rfl ?_
    refine L_val _ _ (X_move) rfl ?_
    refine L_val _ _ (X_index U22 S43 rfl rfl hlt) rfl ?_
    refine L_val _ _ (X_field F43_2 rfl) rfl ?_
    refine L_val _ _ (X_field F28_0 rfl) rfl ?_
    refine L_val _ _ (X_load A26 rfl (e2)) rfl ?_
    refine L_val _ _ (X_move) rfl ?_
    refine L_val _ _ (X_index U26 S62 rfl rfl hlt2) rfl ?_
    refine L_val _ _ (X_field F62_2 rfl) rfl ?_
    refine L_val _ _ (X_field F39_9 rfl) rfl ?_
    refine L_val _ _ (X_load A9 rfl (hc2 11 _ rfl)) rfl ?_
    refine L_val _ _ (X_lenStr U9 rfl) rfl ?_
    refine L_val _ _ (X_add rfl rfl (by omega) (by omega)) rfl ?_
    refine L_val _ _ (X_assign) rfl ?_
    refine L_nil ?_
    repeat (first | refine T_seq ?_ | refine T_block ?_ | refine T_inBlock ?_ | refine T_skip ?_)
    refine T_region ?_
    refine L_val _ _ (X_move) rfl ?_
    refine L_val _ _ (X_cmp rfl rfl rfl) rfl ?_
    refine L_nil ?_
    refine T_if rfl (fun ht3 => ?_) (fun hf3 => ?_)
    · repeat (first | refine T_seq ?_ | refine T_block ?_ | refine T_inBlock ?_ | refine T_skip ?_)
      refine T_region ?_
      refine L_val _ _ (X_assign) rfl ?_
      refine L_nil ?_
      exact stop _ _ rfl
    have hl3 : n2 + G.tx.payload.size ≤ 65536 := by simp [cmpB] at hf3; omega
    repeat (first | refine T_seq ?_ | refine T_block ?_ | refine T_inBlock ?_ | refine T_skip ?_)
    refine T_region ?_
    refine L_val _ _ (X_move) rfl ?_
    refine L_val _ _ (X_move) rfl ?_
    refine L_val _ _ (X_move) rfl ?_
    refine L_val _ _ (X_index U22 S43 rfl rfl hlt) rfl ?_
    refine L_val _ _ (X_field F43_2 rfl) rfl ?_
    refine L_val _ _ (X_field F28_0 rfl) rfl ?_
    refine L_val _ _ (X_load A26 rfl (e2)) rfl ?_
    refine L_val _ _ (X_move) rfl ?_
    refine L_val _ _ (X_index U26 S62 rfl rfl hlt2) rfl ?_
    refine L_val _ _ (X_field F62_2 rfl) rfl ?_
    refine L_val _ _ (X_field F39_10 rfl) rfl ?_
    refine L_val _ _ (X_field F37_8 rfl) rfl ?_
    refine L_val _ _ (X_load A9 rfl (hc2 20 _ rfl)) rfl ?_
    refine L_val _ _ (X_lenStr U9 rfl) rfl ?_
    refine L_val _ _ (X_add rfl rfl (by omega) (by omega)) rfl ?_
    refine L_val _ _ (X_assign) rfl ?_
    refine L_nil ?_
    repeat (first | refine T_seq ?_ | refine T_block ?_ | refine T_inBlock ?_ | refine T_skip ?_)
    refine T_region ?_
    refine L_val _ _ (X_move) rfl ?_
    refine L_val _ _ (X_cmp rfl rfl rfl) rfl ?_
    refine L_nil ?_
    refine T_if rfl (fun ht4 => ?_) (fun hf4 => ?_)
    · repeat (first | refine T_seq ?_ | refine T_block ?_ | refine T_inBlock ?_ | refine T_skip ?_)
      refine T_region ?_
      refine L_val _ _ (X_assign) rfl ?_
      refine L_nil ?_
      exact stop _ _ rfl
    have hl4 : n2 + G.tx.payload.size + G.tx.msg.payload.size ≤ 65536 := by simp [cmpB] at hf4; omega
    repeat (first | refine T_seq ?_ | refine T_block ?_ | refine T_inBlock ?_ | refine T_skip ?_)
    refine T_region ?_
    refine L_val _ _ (X_move) rfl ?_
    refine L_val _ _ (X_move) rfl ?_
    refine L_val _ _ (X_move) rfl ?_
    refine L_val _ _ (X_index U22 S43 rfl rfl hlt) rfl ?_
    refine L_val _ _ (X_field F43_2 rfl) rfl ?_
    refine L_val _ _ (X_field F28_0 rfl) rfl ?_
    refine L_val _ _ (X_load A26 rfl (e2)) rfl ?_
    refine L_val _ _ (X_move) rfl ?_
    refine L_val _ _ (X_index U26 S62 rfl rfl hlt2) rfl ?_
    refine L_val _ _ (X_field F62_3 rfl) rfl ?_
    refine L_val _ _ (X_load A60 rfl (hc2 21 _ rfl)) rfl ?_
    refine L_val _ _ (X_lenS U60 rfl) rfl ?_
    refine L_val _ _ (X_add rfl rfl (by omega) (by omega)) rfl ?_
    refine L_val _ _ (X_assign) rfl ?_
    refine L_nil ?_
    repeat (first | refine T_seq ?_ | refine T_block ?_ | refine T_inBlock ?_ | refine T_skip ?_)
    refine T_region ?_
    refine L_val _ _ (X_move) rfl ?_
    refine L_val _ _ (X_cmp rfl rfl rfl) rfl ?_
    refine L_nil ?_
    refine T_if rfl (fun ht5 => ?_) (fun hf5 => ?_)
    · repeat (first | refine T_seq ?_ | refine T_block ?_ | refine T_inBlock ?_ | refine T_skip ?_)
      refine T_region ?_
      refine L_val _ _ (X_assign) rfl ?_
      refine L_nil ?_
      exact stop _ _ rfl
    have hl5 : n2 + G.tx.payload.size + G.tx.msg.payload.size + G.needs.length ≤ 65536 := by simp [cmpB] at hf5; omega
    repeat (first | refine T_seq ?_ | refine T_block ?_ | refine T_inBlock ?_ | refine T_skip ?_)
    refine T_region ?_
    refine L_val _ _ (X_move) rfl ?_
    refine L_val _ _ (X_add rfl rfl (by omega) (by omega)) rfl ?_
    refine L_val _ _ (X_assign) rfl ?_
    refine L_nil ?_
    refine ih2 _ _ _ ?_ ⟨n2 + G.tx.payload.size + G.tx.msg.payload.size + G.needs.length, i1 + 1, rfl, rfl, by omega, by omega, by omega, rfl, ?_⟩
    · omega
    · intro j g hj hg
      rcases Nat.lt_succ_iff_lt_or_eq.1 hj with h | rfl
      · exact hsm2 j g h hg
      · rw [List.getElem?_eq_getElem hlt2, hG] at hg
        simp at hg
        subst hg
        omega
  · refine T_exit rfl ?_
    have hge : ¬ i1 < X.legs.length := by simpa [cmpB] using hf2
    have hXs : X.small := by
      refine ⟨by omega, fun g hg => ?_⟩
      obtain ⟨j, hj⟩ := List.getElem?_of_mem hg
      exact hsm2 j g (by have := (List.getElem?_eq_some_iff.1 hj).1; omega) hj
    repeat (first | refine T_seq ?_ | refine T_block ?_ | refine T_inBlock ?_ | refine T_skip ?_)
    refine T_region ?_
    refine L_val _ _ (X_move) rfl ?_
    refine L_val _ _ (X_move) rfl ?_
    refine L_val _ _ (X_move) rfl ?_
    refine L_val _ _ (X_index U22 S43 rfl rfl hlt) rfl ?_
    refine L_val _ _ (X_field F43_4 rfl) rfl ?_
    refine L_val _ _ (X_field F39_9 rfl) rfl ?_
    refine L_val _ _ (X_load A9 rfl (hc 14 _ rfl)) rfl ?_
    refine L_val _ _ (X_lenStr U9 rfl) rfl ?_
    refine L_val _ _ (X_add rfl rfl (by omega) (by omega)) rfl ?_
    refine L_val _ _ (X_assign) rfl ?_
    refine L_nil ?_
    repeat (first | refine T_seq ?_ | refine T_block ?_ | refine T_inBlock ?_ | refine T_skip ?_)
    refine T_region ?_
    refine L_val _ _ (X_move) rfl ?_
    refine L_val _ _ (X_cmp rfl rfl rfl) rfl ?_
    refine L_nil ?_
    refine T_if rfl (fun ht3 => ?_) (fun hf3 => ?_)
    · repeat (first | refine T_seq ?_ | refine T_block ?_ | refine T_inBlock ?_ | refine T_skip ?_)
      refine T_region ?_
      refine L_val _ _ (X_assign) rfl ?_
      refine L_nil ?_
      exact stop _ _ rfl
    have hl3 : n2 + X.tx.payload.size ≤ 65536 := by simp [cmpB] at hf3; omega
    repeat (first | refine T_seq ?_ | refine T_block ?_ | refine T_inBlock ?_ | refine T_skip ?_)
    refine T_region ?_
    refine L_val _ _ (X_move) rfl ?_
    refine L_val _ _ (X_move) rfl ?_
    refine L_val _ _ (X_move) rfl ?_
    refine L_val _ _ (X_index U22 S43 rfl rfl hlt) rfl ?_
    refine L_val _ _ (X_field F43_4 rfl) rfl ?_
    refine L_val _ _ (X_field F39_10 rfl) rfl ?_
    refine L_val _ _ (X_field F37_8 rfl) rfl ?_
    refine L_val _ _ (X_load A9 rfl (hc 23 _ rfl)) rfl ?_
    refine L_val _ _ (X_lenStr U9 rfl) rfl ?_
    refine L_val _ _ (X_add rfl rfl (by omega) (by omega)) rfl ?_
    refine L_val _ _ (X_assign) rfl ?_
    refine L_nil ?_
    repeat (first | refine T_seq ?_ | refine T_block ?_ | refine T_inBlock ?_ | refine T_skip ?_)
    refine T_region ?_
    refine L_val _ _ (X_move) rfl ?_
    refine L_val _ _ (X_cmp rfl rfl rfl) rfl ?_
    refine L_nil ?_
    refine T_if rfl (fun ht4 => ?_) (fun hf4 => ?_)
    · repeat (first | refine T_seq ?_ | refine T_block ?_ | refine T_inBlock ?_ | refine T_skip ?_)
      refine T_region ?_
      refine L_val _ _ (X_assign) rfl ?_
      refine L_nil ?_
      exact stop _ _ rfl
    have hl4 : n2 + X.tx.payload.size + X.tx.msg.payload.size ≤ 65536 := by simp [cmpB] at hf4; omega
    repeat (first | refine T_seq ?_ | refine T_block ?_ | refine T_inBlock ?_ | refine T_skip ?_)
    refine T_region ?_
    refine L_val _ _ (X_move) rfl ?_
    refine L_val _ _ (X_move) rfl ?_
    refine L_val _ _ (X_move) rfl ?_
    refine L_val _ _ (X_index U22 S43 rfl rfl hlt) rfl ?_
    refine L_val _ _ (X_field F43_5 rfl) rfl ?_
    refine L_val _ _ (X_field F37_8 rfl) rfl ?_
    refine L_val _ _ (X_load A9 rfl (hc 32 _ rfl)) rfl ?_
    refine L_val _ _ (X_lenStr U9 rfl) rfl ?_
    refine L_val _ _ (X_add rfl rfl (by omega) (by omega)) rfl ?_
    refine L_val _ _ (X_assign) rfl ?_
    refine L_nil ?_
    repeat (first | refine T_seq ?_ | refine T_block ?_ | refine T_inBlock ?_ | refine T_skip ?_)
    refine T_region ?_
    refine L_val _ _ (X_move) rfl ?_
    refine L_val _ _ (X_cmp rfl rfl rfl) rfl ?_
    refine L_nil ?_
    refine T_if rfl (fun ht5 => ?_) (fun hf5 => ?_)
    · repeat (first | refine T_seq ?_ | refine T_block ?_ | refine T_inBlock ?_ | refine T_skip ?_)
      refine T_region ?_
      refine L_val _ _ (X_assign) rfl ?_
      refine L_nil ?_
      exact stop _ _ rfl
    have hl5 : n2 + X.tx.payload.size + X.tx.msg.payload.size + X.msg.payload.size ≤ 65536 := by simp [cmpB] at hf5; omega
    repeat (first | refine T_seq ?_ | refine T_block ?_ | refine T_inBlock ?_ | refine T_skip ?_)
    refine T_region ?_
    refine L_val _ _ (X_move) rfl ?_
    refine L_val _ _ (X_add rfl rfl (by omega) (by omega)) rfl ?_
    refine L_val _ _ (X_assign) rfl ?_
    refine L_nil ?_
    refine ih _ _ _ ?_ ⟨n2 + X.tx.payload.size + X.tx.msg.payload.size + X.msg.payload.size, i + 1, rfl, rfl, by omega, by omega, by omega, rfl, ?_⟩
    · omega
    · intro j x hj hxj
      rcases Nat.lt_succ_iff_lt_or_eq.1 hj with h | rfl
      · exact hsm j x h hxj
      · rw [hXi] at hxj
        simp at hxj
        subst hxj
        exact hXs
end Go.Proofs.Qxb6500865a
