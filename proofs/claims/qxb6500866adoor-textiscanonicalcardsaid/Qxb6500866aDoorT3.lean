/-
  Parse, FromBytes.
-/
import Derived.Test.Qxb6500866aDoorT2
namespace Go.Proofs.Qxb6500866aDoor
set_option linter.unusedSimpArgs false
set_option linter.unusedVariables false
open Go.RowKit

theorem text_take {xs A : List Int} {i : Nat} {c1 c2 : Int} {a b : Int} (h : textOf A = xs.take (2 * i)) (h1 : xs[2 * i]? = some c1) (h2 : xs[2 * i + 1]? = some c2) (e1 : c1 = hexd a) (e2 : c2 = hexd b) (h3 : 0 ≤ b) (h4 : b < 16) : textOf (A ++ [16 * a + b]) = xs.take (2 * (i + 1)) := by
  have l2 := (List.getElem?_eq_some_iff.1 h2)
  have l1 := (List.getElem?_eq_some_iff.1 h1)
  obtain ⟨q1, r1⟩ := l1
  obtain ⟨q2, r2⟩ := l2
  rw [textOf_snoc, h, show 2 * (i + 1) = 2 * i + 1 + 1 by omega, List.take_succ_eq_append_getElem q2, List.take_succ_eq_append_getElem q1, r1, r2, e1, e2, List.append_assoc]
  have d1 : (16 * a + b) / 16 = a := by omega
  have d2 : (16 * a + b) % 16 = b := by omega
  rw [d1, d2]
  rfl

set_option maxHeartbeats 8000000 in
set_option maxRecDepth 10000 in
/-- Parse -/
theorem parse_ret (xs : List Int) (hb : Byt xs) (w : World) :
    Ret Tryd.prog 6 #[.string (strOfNums xs)] w fun v w' => ∃ (bs : List Int) (er : Value), v = .tuple #[.agg (u8s bs).toArray, er] ∧ bs.length = 32 ∧ Below w.heap.size w w' ∧
      ((er = .nilIface ∧ Byt bs ∧ xs = textOf bs) ∨ ((er = .iface 47 (.int .u8 4) ∨ er = .iface 47 (.int .u8 5)) ∧ ∀ ds : List Int, ds.length = 32 → Byt ds → xs ≠ textOf ds)) := by
  refine ret_of_T (vs := [.string (strOfNums xs)]) Tryd.func6 Tryd.ntmps6 rfl (Nat.le_of_ble_eq_true rfl) ?_
  repeat (first | refine T_seq ?_ | refine T_block ?_ | refine T_inBlock ?_ | refine T_skip ?_)
  refine T_region ?_
  refine L_alloc Z31 rfl fun w1 h1 => ?_
  refine L_val _ _ (X_assign) rfl ?_
  refine L_nil ?_
  have k2 : Blk w1 w.heap.size (u8s (List.replicate 32 0)).toArray 31 := h1.new
  have b1 : Below w.heap.size w w1 := h1.below (Below.refl _ _) (Nat.le_refl _)
  have sz1 := h1.size
  have z1 := h1.lt
  repeat (first | refine T_seq ?_ | refine T_block ?_ | refine T_inBlock ?_ | refine T_skip ?_)
  refine T_region ?_
  refine L_alloc Z31 rfl fun w2 h2 => ?_
  refine L_nil ?_
  have k4 : Blk w2 w1.heap.size (u8s ([] ++ List.replicate 32 0)).toArray 31 := h2.new
  have k22 := h2.blk k2 (by omega)
  have b2 := h2.below b1 sz1
  clear h1 h2 k2 b1
  repeat (first | refine T_seq ?_ | refine T_block ?_ | refine T_inBlock ?_ | refine T_skip ?_)
  rcases Decidable.em (xs.length = 64) with h64 | h64
  case inr =>
    have e12 : cmpB .neq ((strOfNums xs).size : Int) 64 = true := by rw [strOfNums_size]; simp [cmpB]; omega
    refine T_region ?_
    refine L_val _ _ (X_move) rfl ?_
    refine L_val _ _ (X_lenStr U9 rfl) rfl ?_
    refine L_val _ _ (X_cmpR true rfl rfl rfl e12) rfl ?_
    refine L_nil ?_
    refine T_true rfl ?_
    repeat (first | refine T_seq ?_ | refine T_block ?_ | refine T_inBlock ?_ | refine T_skip ?_)
    refine T_region ?_
    refine L_val _ _ (X_loadAgg (u8s ([] ++ List.replicate 32 0)) A31 S31 (by simp [u8s]) rfl (gblk0 k4)) rfl ?_
    refine L_val _ _ (X_mkIface U47 (by simp)) rfl ?_
    refine L_storeAll (u8s ([] ++ List.replicate 32 0)) S31 rfl rfl (by simp [u8s]) (u8s_one _) k22 (by simp [u8s]) fun w3 h3 => ?_
    refine L_val _ _ (X_assign) rfl ?_
    refine L_nil ?_
    exact T_retCT (u8s ([] ++ List.replicate 32 0)) Tryd.func6 rfl A31 S31 (by simp [u8s]) rfl (gblk0 h3.new) ⟨_, _, rfl, by simp, h3.below b2 (Nat.le_refl _), .inr ⟨.inl rfl, fun ds hd _ he => by
      have := congrArg List.length he
      rw [textOf_length] at this
      omega⟩⟩
  have e12 : cmpB .neq ((strOfNums xs).size : Int) 64 = false := by rw [strOfNums_size]; simp [cmpB]; omega
  refine T_region ?_
  refine L_val _ _ (X_move) rfl ?_
  refine L_val _ _ (X_lenStr U9 rfl) rfl ?_
  refine L_val _ _ (X_cmpR false rfl rfl rfl e12) rfl ?_
  refine L_nil ?_
  refine T_false rfl ?_
  repeat (first | refine T_seq ?_ | refine T_block ?_ | refine T_inBlock ?_ | refine T_skip ?_)
  refine T_region ?_
  refine L_val _ _ (X_assign) rfl ?_
  refine L_nil ?_
  repeat (first | refine T_seq ?_ | refine T_block ?_ | refine T_inBlock ?_ | refine T_skip ?_)
  refine T_loopS [5, 0, 2, 4] (fun m vs y => ∃ (i : Nat) (A zs : List Int), vs = [.int .i64 i, .string (strOfNums xs), .pointer (some ⟨w.heap.size, 0, none⟩), .pointer (some ⟨w1.heap.size, 0, none⟩)] ∧ i ≤ 32 ∧ m = 32 - i ∧ A.length = i ∧ Byt A ∧ textOf A = xs.take (2 * i) ∧ zs.length = 32 - i ∧ Below w.heap.size w y ∧ Blk y w1.heap.size (u8s (A ++ zs)).toArray 31 ∧ Blk y w.heap.size (u8s (List.replicate 32 0)).toArray 31) 32
    ⟨0, [], _, rfl, by omega, rfl, rfl, (fun b hb => by cases hb), rfl, by simp, b2, k4, k22⟩ ?_
  clear k4 k22 b2
  rintro m vs ρ y ⟨i, A, zs, rfl, hi, rfl, hA, hbA, htA, hz, by_, k4, k2⟩ ih
  repeat (first | refine T_seq ?_ | refine T_block ?_ | refine T_inBlock ?_ | refine T_skip ?_)
  refine T_region ?_
  refine L_val _ _ (X_move) rfl ?_
  refine L_val _ _ (X_cmp rfl rfl rfl) rfl ?_
  refine L_nil ?_
  refine T_if rfl (fun ht => ?_) (fun hf => ?_)
  case refine_2 =>
    have hge : ¬ i < 32 := by simp [cmpB] at hf; omega
    obtain rfl : i = 32 := by omega
    obtain rfl : zs = [] := List.eq_nil_of_length_eq_zero (by omega)
    rw [List.append_nil] at k4
    rw [List.take_of_length_le (by omega)] at htA
    refine T_exit rfl ?_
    repeat (first | refine T_seq ?_ | refine T_block ?_ | refine T_inBlock ?_ | refine T_skip ?_)
    refine T_region ?_
    refine L_val _ _ (X_loadAgg (u8s A) A31 S31 (by rw [u8s_len]; exact hA) rfl (gblk0 k4)) rfl ?_
    refine L_storeAll (u8s A) S31 rfl rfl (by rw [u8s_len]; exact hA) (u8s_one _) k2 (by simp [u8s]) fun w3 h3 => ?_
    refine L_val _ _ (X_assign) rfl ?_
    refine L_nil ?_
    exact T_retCT (u8s A) Tryd.func6 rfl A31 S31 (by rw [u8s_len]; exact hA) rfl (gblk0 h3.new) ⟨A, _, rfl, hA, h3.below by_ (Nat.le_refl _), .inl ⟨rfl, hbA, htA.symm⟩⟩
  have hlt : i < 32 := by simp [cmpB] at ht; omega
  have hx1 : xs[2 * i]? = some (xs[2 * i]'(by omega)) := by simp
  have hx2 : xs[2 * i + 1]? = some (xs[2 * i + 1]'(by omega)) := by simp
  have hb1 := hb _ (List.mem_of_getElem? hx1)
  have hb2 := hb _ (List.mem_of_getElem? hx2)
  generalize xs[2 * i]'(by omega) = c1 at *
  generalize xs[2 * i + 1]'(by omega) = c2 at *
  have hbad : nib c1 = none ∨ nib c2 = none → ∀ ds : List Int, ds.length = 32 → Byt ds → xs ≠ textOf ds := by
    intro hn ds hd hbd he
    have hg := textOf_get ds i (ds[i]'(by omega)) (by simp)
    have hd2 := hbd (ds[i]'(by omega)) (by simp)
    rw [← he, hx1, hx2] at hg
    generalize ds[i]'(by omega) = q at *
    rcases hn with hn | hn
    · rw [Option.some.inj hg.1, nib_hexd (by omega) (by omega)] at hn
      cases hn
    · rw [Option.some.inj hg.2, nib_hexd (by omega) (by omega)] at hn
      cases hn
  have hr1 := nibble_ret c1 hb1.1 hb1.2 y
  have hr2 := nibble_ret c2 hb2.1 hb2.2 y
  repeat (first | refine T_seq ?_ | refine T_block ?_ | refine T_inBlock ?_ | refine T_skip ?_)
  refine T_region ?_
  refine L_val _ _ (X_move) rfl ?_
  refine L_val _ _ (X_move) rfl ?_
  refine L_val _ _ (X_mul rfl rfl (by omega) (by omega)) rfl ?_
  refine L_val _ _ (X_idxStr xs (2 * i) c1 hb Tryd.underlying9 rfl rfl hx1) rfl ?_
  refine L_callF [.int .u8 c1] E12 rfl rfl hr1 ?_
  rintro v y1 ⟨rfl, rfl⟩
  refine L_val _ _ (X_move) rfl ?_
  refine L_val _ _ (X_extract rfl rfl) rfl ?_
  refine L_val _ _ (X_extract rfl rfl) rfl ?_
  refine L_val _ _ (X_assign) rfl ?_
  refine L_val _ _ (X_assign) rfl ?_
  refine L_nil ?_
  repeat (first | refine T_seq ?_ | refine T_block ?_ | refine T_inBlock ?_ | refine T_skip ?_)
  refine T_region ?_
  refine L_val _ _ (X_move) rfl ?_
  refine L_val _ _ (X_move) rfl ?_
  refine L_val _ _ (X_mul rfl rfl (by omega) (by omega)) rfl ?_
  refine L_val _ _ (X_add rfl rfl (by omega) (by omega)) rfl ?_
  refine L_val _ _ (X_idxStr xs (2 * i + 1) c2 hb Tryd.underlying9 rfl rfl hx2) rfl ?_
  refine L_callF [.int .u8 c2] E12 rfl rfl hr2 ?_
  rintro v y1 ⟨rfl, rfl⟩
  refine L_val _ _ (X_move) rfl ?_
  refine L_val _ _ (X_extract rfl rfl) rfl ?_
  refine L_val _ _ (X_extract rfl rfl) rfl ?_
  refine L_val _ _ (X_assign) rfl ?_
  refine L_val _ _ (X_assign) rfl ?_
  refine L_nil ?_
  repeat (first | refine T_seq ?_ | refine T_block ?_ | refine T_inBlock ?_ | refine T_skip ?_)
  cases hn1 : nib c1 with
  | none =>
    refine T_region ?_
    refine L_val _ _ (X_move) rfl ?_
    refine L_val _ _ (X_not rfl) rfl ?_
    refine L_val _ _ (X_move) rfl ?_
    refine L_passB rfl rfl rfl ?_
    refine L_passB rfl rfl rfl ?_
    refine L_val _ _ (X_pick rfl) rfl ?_
    refine L_nil ?_
    refine T_true rfl ?_
    repeat (first | refine T_seq ?_ | refine T_block ?_ | refine T_inBlock ?_ | refine T_skip ?_)
    refine T_region ?_
    refine L_val _ _ (X_build (.agg (u8s (List.replicate 32 0)).toArray) (by kernel_rfl)) rfl ?_
    refine L_val _ _ (X_mkIface U47 (by simp)) rfl ?_
    refine L_storeAll (u8s (List.replicate 32 0)) S31 rfl rfl (by simp [u8s]) (u8s_one _) k2 (by simp [u8s]) fun w3 h3 => ?_
    refine L_val _ _ (X_assign) rfl ?_
    refine L_nil ?_
    exact T_retCT (u8s (List.replicate 32 0)) Tryd.func6 rfl A31 S31 (by simp [u8s]) rfl (gblk0 h3.new) ⟨_, _, rfl, by simp, h3.below by_ (Nat.le_refl _), .inr ⟨.inr rfl, hbad (.inl hn1)⟩⟩
  | some a =>
  cases hn2 : nib c2 with
  | none =>
    refine T_region ?_
    refine L_val _ _ (X_move) rfl ?_
    refine L_val _ _ (X_not rfl) rfl ?_
    refine L_val _ _ (X_move) rfl ?_
    refine L_guard rfl rfl rfl ?_
    refine L_val _ _ (X_move) rfl ?_
    refine L_guard rfl rfl rfl ?_
    refine L_val _ _ (X_not rfl) rfl ?_
    refine L_val _ _ (X_pick rfl) rfl ?_
    refine L_nil ?_
    refine T_true rfl ?_
    repeat (first | refine T_seq ?_ | refine T_block ?_ | refine T_inBlock ?_ | refine T_skip ?_)
    refine T_region ?_
    refine L_val _ _ (X_build (.agg (u8s (List.replicate 32 0)).toArray) (by kernel_rfl)) rfl ?_
    refine L_val _ _ (X_mkIface U47 (by simp)) rfl ?_
    refine L_storeAll (u8s (List.replicate 32 0)) S31 rfl rfl (by simp [u8s]) (u8s_one _) k2 (by simp [u8s]) fun w3 h3 => ?_
    refine L_val _ _ (X_assign) rfl ?_
    refine L_nil ?_
    exact T_retCT (u8s (List.replicate 32 0)) Tryd.func6 rfl A31 S31 (by simp [u8s]) rfl (gblk0 h3.new) ⟨_, _, rfl, by simp, h3.below by_ (Nat.le_refl _), .inr ⟨.inr rfl, hbad (.inr hn2)⟩⟩
  | some b =>
  obtain ⟨ea, ha0, ha1⟩ := hexd_nib hn1
  obtain ⟨eb, hb0, hb1'⟩ := hexd_nib hn2
  obtain ⟨z0, zs', rfl⟩ : ∃ z0 zs', zs = z0 :: zs' := by
    cases zs with
    | nil => simp at hz; omega
    | cons z0 zs' => exact ⟨z0, zs', rfl⟩
  have hsz : (u8s (A ++ z0 :: zs')).toArray.size = 32 := by simp [u8s] at hz ⊢; omega
  refine T_region ?_
  refine L_val _ _ (X_move) rfl ?_
  refine L_val _ _ (X_not rfl) rfl ?_
  refine L_val _ _ (X_move) rfl ?_
  refine L_guard rfl rfl rfl ?_
  refine L_val _ _ (X_move) rfl ?_
  refine L_guard rfl rfl rfl ?_
  refine L_val _ _ (X_not rfl) rfl ?_
  refine L_val _ _ (X_pick rfl) rfl ?_
  refine L_nil ?_
  refine T_false rfl ?_
  repeat (first | refine T_seq ?_ | refine T_block ?_ | refine T_inBlock ?_ | refine T_skip ?_)
  refine T_region ?_
  refine L_val _ _ (X_move) rfl ?_
  refine L_val _ _ (X_move) rfl ?_
  refine L_val _ _ (X_shl rfl rfl (by decide)) rfl ?_
  refine L_val _ _ (X_move) rfl ?_
  refine L_val _ _ (X_orN a b ha0 ha1 hb0 hb1' rfl rfl) rfl ?_
  refine L_val _ _ (X_indexA U31 S5 rfl rfl hlt) rfl ?_
  refine L_store (.int .u8 (16 * a + b)) S5 rfl rfl rfl k4 (by rw [hsz]; show 0 + i * 1 < 32; omega) fun y2 h2 => ?_
  refine L_nil ?_
  have k42 := u8_at (n := i) hA h2
  repeat (first | refine T_seq ?_ | refine T_block ?_ | refine T_inBlock ?_ | refine T_skip ?_)
  refine T_region ?_
  refine L_val _ _ (X_move) rfl ?_
  refine L_val _ _ (X_add rfl rfl (by omega) (by omega)) rfl ?_
  refine L_val _ _ (X_assign) rfl ?_
  refine L_nil ?_
  refine ih _ _ _ (by omega) ⟨i + 1, A ++ [16 * a + b], zs', rfl, by omega, rfl, by simp [hA], ?_, text_take htA hx1 hx2 ea eb hb0 hb1', by simp at hz; omega, h2.below by_ sz1, by simpa using k42, h2.blk k2 (by omega)⟩
  intro q hq
  rcases List.mem_append.1 hq with h' | h'
  · exact hbA q h'
  · simp at h'
    omega

set_option maxHeartbeats 4000000 in
/-- FromBytes -/
theorem from_ret (ap : Option Addr) (c : Nat) (xs : List Int) (w : World) (hc : ∀ a, ap = some a → ∀ j v, (u8s xs)[j]? = some v → w.cell? (a.add j) = some v) (hn : ap = none → xs = []) (hlt : ∀ a, ap = some a → 0 < xs.length → a.block < w.heap.size) :
    Ret Tryd.prog 8 #[.slice ap xs.length c] w fun v w' => ∃ (bs : List Int) (er : Value), v = .tuple #[.agg (u8s bs).toArray, er] ∧ bs.length = 32 ∧ Below w.heap.size w w' ∧ ((er = .nilIface ∧ bs = xs) ∨ er = .iface 47 (.int .u8 4)) := by
  refine ret_of_T (vs := [.slice ap xs.length c]) Tryd.func8 Tryd.ntmps8 rfl (Nat.le_of_ble_eq_true rfl) ?_
  repeat (first | refine T_seq ?_ | refine T_block ?_ | refine T_inBlock ?_ | refine T_skip ?_)
  refine T_region ?_
  refine L_alloc Z31 rfl fun w1 h1 => ?_
  refine L_val _ _ (X_assign) rfl ?_
  refine L_nil ?_
  have k2 : Blk w1 w.heap.size (u8s (List.replicate 32 0)).toArray 31 := h1.new
  have b1 : Below w.heap.size w w1 := h1.below (Below.refl _ _) (Nat.le_refl _)
  have sz1 := h1.size
  have z1 := h1.lt
  repeat (first | refine T_seq ?_ | refine T_block ?_ | refine T_inBlock ?_ | refine T_skip ?_)
  refine T_region ?_
  refine L_alloc Z31 rfl fun w2 h2 => ?_
  refine L_nil ?_
  have k4 : Blk w2 w1.heap.size (u8s (List.replicate 32 0)).toArray 31 := h2.new
  have k22 := h2.blk k2 (by omega)
  have b2 := h2.below b1 sz1
  clear h1 h2 k2 b1
  repeat (first | refine T_seq ?_ | refine T_block ?_ | refine T_inBlock ?_ | refine T_skip ?_)
  rcases Decidable.em (xs.length = 32) with h32 | h32
  case inr =>
    have e12 : cmpB .neq (xs.length : Int) 32 = true := by simp [cmpB]; omega
    refine T_region ?_
    refine L_val _ _ (X_move) rfl ?_
    refine L_val _ _ (X_lenS U25 rfl) rfl ?_
    refine L_val _ _ (X_cmpR true rfl rfl rfl e12) rfl ?_
    refine L_nil ?_
    refine T_true rfl ?_
    repeat (first | refine T_seq ?_ | refine T_block ?_ | refine T_inBlock ?_ | refine T_skip ?_)
    refine T_region ?_
    refine L_val _ _ (X_loadAgg (u8s (List.replicate 32 0)) A31 S31 (by simp [u8s]) rfl (gblk0 k4)) rfl ?_
    refine L_val _ _ (X_mkIface U47 (by simp)) rfl ?_
    refine L_storeAll (u8s (List.replicate 32 0)) S31 rfl rfl (by simp [u8s]) (u8s_one _) k22 (by simp [u8s]) fun w3 h3 => ?_
    refine L_val _ _ (X_assign) rfl ?_
    refine L_nil ?_
    exact T_retCT (u8s (List.replicate 32 0)) Tryd.func8 rfl A31 S31 (by simp [u8s]) rfl (gblk0 h3.new) ⟨_, _, rfl, by simp, h3.below b2 (Nat.le_refl _), .inr rfl⟩
  have e12 : cmpB .neq (xs.length : Int) 32 = false := by simp [cmpB]; omega
  have hsrc : ∀ a, ap = some a → ∀ j v, (u8s xs)[j]? = some v → w2.cell? (a.add j) = some v := by
    intro a ha j v hv
    have h0 := hc a ha j v hv
    have hl := hlt a ha (by omega)
    have hbk : (a.add j).block = a.block := by unfold Addr.add; split <;> rfl
    rw [World.cell?_of_block (b2.block _ (by rw [hbk]; exact hl))]
    exact h0
  refine T_region ?_
  refine L_val _ _ (X_move) rfl ?_
  refine L_val _ _ (X_lenS U25 rfl) rfl ?_
  refine L_val _ _ (X_cmpR false rfl rfl rfl e12) rfl ?_
  refine L_nil ?_
  refine T_false rfl ?_
  repeat (first | refine T_seq ?_ | refine T_block ?_ | refine T_inBlock ?_ | refine T_skip ?_)
  refine T_region ?_
  refine L_val _ _ (X_sliceA U31 S5 rfl (by decide)) rfl ?_
  refine L_val _ _ (X_move) rfl ?_
  refine L_copyG (u8s xs) U25 S5 rfl rfl k4 (by rw [u8s_len]; omega) (by simp [u8s]; omega) hsrc (fun h => by rw [hn h]; rfl) (u8s_one _) rfl fun w3 h3 => ?_
  refine L_nil ?_
  have k43 := h3.new
  rw [copy_head, List.drop_of_length_le (by simp; omega), List.append_nil] at k43
  have k23 := h3.blk k22 (by omega)
  repeat (first | refine T_seq ?_ | refine T_block ?_ | refine T_inBlock ?_ | refine T_skip ?_)
  refine T_region ?_
  refine L_val _ _ (X_loadAgg (u8s xs) A31 S31 (by rw [u8s_len]; exact h32) rfl (gblk0 k43)) rfl ?_
  refine L_storeAll (u8s xs) S31 rfl rfl (by rw [u8s_len]; exact h32) (u8s_one _) k23 (by simp [u8s]) fun w4 h4 => ?_
  refine L_val _ _ (X_assign) rfl ?_
  refine L_nil ?_
  exact T_retCT (u8s xs) Tryd.func8 rfl A31 S31 (by rw [u8s_len]; exact h32) rfl (gblk0 h4.new) ⟨xs, _, rfl, h32, h4.below (h3.below b2 sz1) (Nat.le_refl _), .inl ⟨rfl, rfl⟩⟩
end Go.Proofs.Qxb6500866aDoor
