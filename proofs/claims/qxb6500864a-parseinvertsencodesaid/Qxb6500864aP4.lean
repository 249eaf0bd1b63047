/-
  octets, Append.
-/
import Derived.Test.Qxb6500864aP3
namespace Go.Proofs.Qxb6500864a
set_option linter.unusedSimpArgs false
set_option linter.unusedVariables false
open Go.RowKit
def fil (l : List Nat) : Nat → List Nat
  | 0 => l
  | n + 1 => (fil l n).set (3 + n) 255
theorem fil_len (l : List Nat) : ∀ n, (fil l n).length = l.length
  | 0 => rfl
  | n + 1 => by rw [fil, List.length_set, fil_len l n]
theorem bv_toArray_size (l : List Nat) : (bv l).toArray.size = l.length := by simp [bv_len]
set_option maxHeartbeats 8000000 in
set_option maxRecDepth 10000 in
/-- Header.octets -/
theorem octets_ret (h : Hd) (hk : h.ok) (w : World) : Ret Try.prog 26 #[.agg h.cells.toArray] w fun v w' => v = .agg (bv (octN h)).toArray ∧ Below w.heap.size w w' := by
  refine ret_of_T (vs := [.agg h.cells.toArray]) Try.func26 Try.ntmps26 rfl (Nat.le_of_ble_eq_true rfl) ?_
  repeat (first | refine T_seq ?_ | refine T_block ?_ | refine T_inBlock ?_ | refine T_skip ?_)
  refine T_region ?_
  refine L_box rfl fun w1 h1 => ?_
  refine L_alloc Z68 rfl fun w2 h2 => ?_
  refine L_nil ?_
  have z1 := h1.lt
  have s1 := h1.size
  have k1 : Blk w2 w.heap.size h.cells.toArray 39 := h2.blk h1.new (by omega)
  have k2 : Blk w2 w1.heap.size (bv (List.replicate 16 0)).toArray 68 := h2.new
  have b2 : Below w.heap.size w w2 := h2.below (h1.below (Below.refl _ _) (Nat.le_refl _)) s1
  have hB : w.heap.size ≤ w2.heap.size := b2.size
  clear h1 h2
  generalize w1.heap.size = B2 at *
  repeat (first | refine T_seq ?_ | refine T_block ?_ | refine T_inBlock ?_ | refine T_skip ?_)
  refine T_draw (fun z => Blk z w.heap.size h.cells.toArray 39) 4 rfl rfl fun z3 hsm => ?_
  have hS : Blk z3 w.heap.size h.cells.toArray 39 := hsm.blk k1
  refine D_take 0 _ rfl (by kernel_rfl) hS (fun w hw => X_sliceAL (l := 0) U68 S5 rfl rfl (by decide)) rfl ?_
  refine D_take 1 _ rfl (by kernel_rfl) hS (fun w hw => X_field F39_0 rfl) rfl ?_
  refine D_take 2 _ rfl (by kernel_rfl) hS (fun w hw => X_load A36 rfl (gblk hw 0 rfl)) rfl ?_
  skip
  refine D_callF 3 [.slice (some ⟨B2, 0 + 0 * 1, none⟩) (16 - 0) (16 - 0), .int .u16 (h.id : Int)] rfl (by kernel_rfl) E39 rfl rfl (put16_ret h.id hk.id B2 (0 + 0 * 1) (16 - 0) (16 - 0) (List.replicate 16 0) 68 z3 (by decide) (hsm.blk k2) (by decide)) ?_
  rintro v z4 ⟨k24, bz4⟩
  have k14 := bz4.blk hS (by omega)
  have b4 : Below w.heap.size w z4 := bz4.below (hsm.below b2) s1 (by rw [hsm.heap]; exact hB)
  refine ⟨fun _ => k14, ?_⟩
  refine D_done (by kernel_rfl) ?_
  have hB4 : w.heap.size ≤ z4.heap.size := b4.size
  clear hsm hS k1 k2 bz4 b2 hB
  repeat (first | refine T_seq ?_ | refine T_block ?_ | refine T_inBlock ?_ | refine T_skip ?_)
  refine T_region ?_
  refine L_val _ _ (X_field F39_1 rfl) rfl ?_
  refine L_val _ _ (X_load A37 rfl (gblk k14 1 rfl)) rfl ?_
  refine L_val _ _ (X_indexA U68 S5 rfl rfl (by decide)) rfl ?_
  refine L_store (.int .u8 (h.fl : Int)) S5 rfl rfl rfl k24 (by rw [bv_toArray_size]; simp) fun z5 h5 => ?_
  refine L_nil ?_
  have k25 := bset h5
  have k15 := h5.blk k14 (by omega)
  have b5 : Below w.heap.size w z5 := h5.below b4 s1
  have hB5 : w.heap.size ≤ z5.heap.size := b5.size
  clear h5 k14 k24 b4
  repeat (first | refine T_seq ?_ | refine T_block ?_ | refine T_inBlock ?_ | refine T_skip ?_)
  by_cases hw : h.id = 1284
  · have e1 : cmpB .eql (h.id : Int) 1284 = true := by simp [cmpB]; omega
    refine T_region ?_
    refine L_val _ _ (X_field F39_0 rfl) rfl ?_
    refine L_val _ _ (X_load A36 rfl (gblk k15 0 rfl)) rfl ?_
    refine L_val _ _ (X_cmpR true rfl rfl rfl e1) rfl ?_
    refine L_nil ?_
    refine T_true rfl ?_
    repeat (first | refine T_seq ?_ | refine T_block ?_ | refine T_inBlock ?_ | refine T_skip ?_)
    refine T_region ?_
    refine L_val _ _ (X_indexA U68 S5 rfl rfl (by decide)) rfl ?_
    refine L_store (.int .u8 ((255 : Nat) : Int)) S5 rfl rfl rfl k25 (by rw [bv_toArray_size]; simp) fun z6 h6 => ?_
    refine L_nil ?_
    have k26 := bset h6
    have k16 := h6.blk k15 (by omega)
    have b6 : Below w.heap.size w z6 := h6.below b5 s1
    have hB6 : w.heap.size ≤ z6.heap.size := b6.size
    clear h6 k15 k25 b5
    repeat (first | refine T_seq ?_ | refine T_block ?_ | refine T_inBlock ?_ | refine T_skip ?_)
    refine T_draw (fun z => Blk z w.heap.size h.cells.toArray 39) 4 rfl rfl fun z7 hsm => ?_
    have hS : Blk z7 w.heap.size h.cells.toArray 39 := hsm.blk k16
    refine D_take 0 _ rfl (by kernel_rfl) hS (fun w hw => X_sliceAL (l := 4) U68 S5 rfl rfl (by decide)) rfl ?_
    refine D_take 1 _ rfl (by kernel_rfl) hS (fun w hw => X_field F39_2 rfl) rfl ?_
    refine D_take 2 _ rfl (by kernel_rfl) hS (fun w hw => X_load A27 rfl (gblk hw 2 rfl)) rfl ?_
    skip
    refine D_callF 3 [.slice (some ⟨B2, 0 + 4 * 1, none⟩) (16 - 4) (16 - 4), .int .u16 (h.ec : Int)] rfl (by kernel_rfl) E39 rfl rfl (put16_ret h.ec hk.ec B2 (0 + 4 * 1) (16 - 4) (16 - 4) _ 68 z7 (by decide) (hsm.blk k26) (by simp)) ?_
    rintro v z8 ⟨k28, bz8⟩
    have k18 := bz8.blk hS (by omega)
    have b8 : Below w.heap.size w z8 := bz8.below (hsm.below b6) s1 (by rw [hsm.heap]; exact hB6)
    refine ⟨fun _ => k18, ?_⟩
    refine D_done (by kernel_rfl) ?_
    have hB8 : w.heap.size ≤ z8.heap.size := b8.size
    clear hsm hS k16 k26 bz8 b6
    repeat (first | refine T_seq ?_ | refine T_block ?_ | refine T_inBlock ?_ | refine T_skip ?_)
    refine T_draw (fun z => Blk z w.heap.size h.cells.toArray 39) 4 rfl rfl fun z9 hsm => ?_
    have hS : Blk z9 w.heap.size h.cells.toArray 39 := hsm.blk k18
    refine D_take 0 _ rfl (by kernel_rfl) hS (fun w hw => X_sliceAL (l := 6) U68 S5 rfl rfl (by decide)) rfl ?_
    refine D_take 1 _ rfl (by kernel_rfl) hS (fun w hw => X_field F39_3 rfl) rfl ?_
    refine D_take 2 _ rfl (by kernel_rfl) hS (fun w hw => X_load A27 rfl (gblk hw 3 rfl)) rfl ?_
    skip
    refine D_callF 3 [.slice (some ⟨B2, 0 + 6 * 1, none⟩) (16 - 6) (16 - 6), .int .u16 (h.rrc : Int)] rfl (by kernel_rfl) E39 rfl rfl (put16_ret h.rrc hk.rrc B2 (0 + 6 * 1) (16 - 6) (16 - 6) _ 68 z9 (by decide) (hsm.blk k28) (by simp)) ?_
    rintro v y1 ⟨k2a, by1⟩
    have k1a := by1.blk hS (by omega)
    have ba : Below w.heap.size w y1 := by1.below (hsm.below b8) s1 (by rw [hsm.heap]; exact hB8)
    refine ⟨fun _ => k1a, ?_⟩
    refine D_done (by kernel_rfl) ?_
    have hBa : w.heap.size ≤ y1.heap.size := ba.size
    clear hsm hS k18 k28 by1 b8
    repeat (first | refine T_seq ?_ | refine T_block ?_ | refine T_inBlock ?_ | refine T_skip ?_)
    refine T_draw (fun z => Blk z w.heap.size h.cells.toArray 39) 4 rfl rfl fun y2 hsm => ?_
    have hS : Blk y2 w.heap.size h.cells.toArray 39 := hsm.blk k1a
    refine D_take 0 _ rfl (by kernel_rfl) hS (fun w hw => X_sliceAL (l := 8) U68 S5 rfl rfl (by decide)) rfl ?_
    refine D_take 1 _ rfl (by kernel_rfl) hS (fun w hw => X_field F39_4 rfl) rfl ?_
    refine D_take 2 _ rfl (by kernel_rfl) hS (fun w hw => X_load A28 rfl (gblk hw 4 rfl)) rfl ?_
    skip
    refine D_callF 3 [.slice (some ⟨B2, 0 + 8 * 1, none⟩) (16 - 8) (16 - 8), .int .u64 (h.seq : Int)] rfl (by kernel_rfl) E40 rfl rfl (put64_ret h.seq hk.seq B2 (0 + 8 * 1) (16 - 8) (16 - 8) _ 68 y2 (by decide) (hsm.blk k2a) (by simp) rfl) ?_
    rintro v y3 ⟨k2b, by3⟩
    have bb : Below w.heap.size w y3 := by3.below (hsm.below ba) s1 (by rw [hsm.heap]; exact hBa)
    refine ⟨fun _ => by3.blk hS (by omega), ?_⟩
    refine D_done (by kernel_rfl) ?_
    have k2c : Blk y3 B2 (bv (octN h)).toArray 68 := by
      have e : octN h = two h.id ++ [h.fl] ++ ([255] ++ two h.ec ++ two h.rrc) ++ eight h.seq := by rw [octN, if_pos hw]
      rw [e]
      exact k2b
    repeat (first | refine T_seq ?_ | refine T_block ?_ | refine T_inBlock ?_ | refine T_skip ?_)
    refine T_region ?_
    refine L_val _ _ (X_loadAgg (bv (octN h)) A68 S68 (by rw [bv_len, octN_len]) rfl (gblk0 k2c)) rfl ?_
    refine L_storeAll (bv (octN h)) S68 rfl rfl (by rw [bv_len, octN_len]) (bv_one _) k2c (by rw [bv_toArray_size, octN_len]) fun y4 h4 => ?_
    refine L_nil ?_
    exact T_retC (bv (octN h)) Try.func26 rfl A68 S68 (by rw [bv_len, octN_len]) rfl (gblk0 h4.new) ⟨rfl, h4.below bb s1⟩
  have e1 : cmpB .eql (h.id : Int) 1284 = false := by simp [cmpB]; omega
  refine T_region ?_
  refine L_val _ _ (X_field F39_0 rfl) rfl ?_
  refine L_val _ _ (X_load A36 rfl (gblk k15 0 rfl)) rfl ?_
  refine L_val _ _ (X_cmpR false rfl rfl rfl e1) rfl ?_
  refine L_nil ?_
  refine T_false rfl ?_
  repeat (first | refine T_seq ?_ | refine T_block ?_ | refine T_inBlock ?_ | refine T_skip ?_)
  refine T_region ?_
  refine L_val _ _ (X_assign) rfl ?_
  refine L_nil ?_
  repeat (first | refine T_seq ?_ | refine T_block ?_ | refine T_inBlock ?_ | refine T_skip ?_)
  generalize hl2 : ((List.set (List.set (List.replicate 16 0) (0 + 0 * 1) (h.id / 256)) (0 + 0 * 1 + 1) (h.id % 256)).set (0 + 2 * 1) h.fl) = l2 at k25
  have hlen2 : l2.length = 16 := by rw [← hl2]; simp
  refine T_loopS [3, 2, 1] (fun m vs z => ∃ j : Nat, vs = [.int .i64 ((3 + j : Nat) : Int), .pointer (some ⟨B2, 0, none⟩), .pointer (some ⟨w.heap.size, 0, none⟩)] ∧ j ≤ 5 ∧ m = 5 - j ∧ Blk z w.heap.size h.cells.toArray 39 ∧ Blk z B2 (bv (fil l2 j)).toArray 68 ∧ Below w.heap.size w z) 5 ⟨0, rfl, by omega, rfl, k15, k25, b5⟩ ?_
  rintro m vs ρ z ⟨j, rfl, hj, rfl, k1z, k2z, bz⟩ ih
  repeat (first | refine T_seq ?_ | refine T_block ?_ | refine T_inBlock ?_ | refine T_skip ?_)
  rcases Nat.lt_or_ge j 5 with hlt | hge
  · have e2 : cmpB .lss ((3 + j : Nat) : Int) 8 = true := by simp [cmpB]; omega
    refine T_region ?_
    refine L_val _ _ (X_move) rfl ?_
    refine L_val _ _ (X_cmpR true rfl rfl rfl e2) rfl ?_
    refine L_nil ?_
    refine T_true rfl ?_
    repeat (first | refine T_seq ?_ | refine T_block ?_ | refine T_inBlock ?_ | refine T_skip ?_)
    refine T_region ?_
    refine L_val _ _ (X_move) rfl ?_
    refine L_val _ _ (X_indexA U68 S5 rfl rfl (show 3 + j < 16 by omega)) rfl ?_
    refine L_store (.int .u8 ((255 : Nat) : Int)) S5 rfl rfl rfl k2z (by rw [bv_toArray_size, fil_len, hlen2]; omega) fun z6 h6 => ?_
    refine L_nil ?_
    have k26 := bset h6
    rw [show 0 + (3 + j) * 1 = 3 + j by omega] at k26
    repeat (first | refine T_seq ?_ | refine T_block ?_ | refine T_inBlock ?_ | refine T_skip ?_)
    refine T_region ?_
    refine L_val _ _ (X_move) rfl ?_
    refine L_val _ _ (X_add rfl rfl (by omega) (by omega)) rfl ?_
    refine L_val _ _ (X_assign) rfl ?_
    refine L_nil ?_
    exact ih _ _ _ (by omega) ⟨j + 1, rfl, by omega, rfl, h6.blk k1z (by omega), k26, h6.below bz s1⟩
  obtain rfl : j = 5 := by omega
  refine T_region ?_
  refine L_val _ _ (X_move) rfl ?_
  refine L_val _ _ (X_cmpR false rfl rfl rfl (by decide)) rfl ?_
  refine L_nil ?_
  refine T_false rfl ?_
  refine T_exit rfl ?_
  have hBa := bz.size
  repeat (first | refine T_seq ?_ | refine T_block ?_ | refine T_inBlock ?_ | refine T_skip ?_)
  refine T_draw (fun z => Blk z w.heap.size h.cells.toArray 39) 4 rfl rfl fun y2 hsm => ?_
  have hS : Blk y2 w.heap.size h.cells.toArray 39 := hsm.blk k1z
  refine D_take 0 _ rfl (by kernel_rfl) hS (fun w hw => X_sliceAL (l := 8) U68 S5 rfl rfl (by decide)) rfl ?_
  refine D_take 1 _ rfl (by kernel_rfl) hS (fun w hw => X_field F39_4 rfl) rfl ?_
  refine D_take 2 _ rfl (by kernel_rfl) hS (fun w hw => X_load A28 rfl (gblk hw 4 rfl)) rfl ?_
  skip
  refine D_callF 3 [.slice (some ⟨B2, 0 + 8 * 1, none⟩) (16 - 8) (16 - 8), .int .u64 (h.seq : Int)] rfl (by kernel_rfl) E40 rfl rfl (put64_ret h.seq hk.seq B2 (0 + 8 * 1) (16 - 8) (16 - 8) _ 68 y2 (by decide) (hsm.blk k2z) (by rw [fil_len, hlen2]; decide) (by rw [← hl2]; rfl)) ?_
  rintro v y3 ⟨k2b, by3⟩
  have bb : Below w.heap.size w y3 := by3.below (hsm.below bz) s1 (by rw [hsm.heap]; exact hBa)
  refine ⟨fun _ => by3.blk hS (by omega), ?_⟩
  refine D_done (by kernel_rfl) ?_
  have k2c : Blk y3 B2 (bv (octN h)).toArray 68 := by
    have e : octN h = two h.id ++ [h.fl] ++ List.replicate 5 255 ++ eight h.seq := by rw [octN, if_neg hw]
    rw [e]
    rw [← hl2] at k2b
    exact k2b
  repeat (first | refine T_seq ?_ | refine T_block ?_ | refine T_inBlock ?_ | refine T_skip ?_)
  refine T_region ?_
  refine L_val _ _ (X_loadAgg (bv (octN h)) A68 S68 (by rw [bv_len, octN_len]) rfl (gblk0 k2c)) rfl ?_
  refine L_storeAll (bv (octN h)) S68 rfl rfl (by rw [bv_len, octN_len]) (bv_one _) k2c (by rw [bv_toArray_size, octN_len]) fun y4 h4 => ?_
  refine L_nil ?_
  exact T_retC (bv (octN h)) Try.func26 rfl A68 S68 (by rw [bv_len, octN_len]) rfl (gblk0 h4.new) ⟨rfl, h4.below bb s1⟩
set_option maxHeartbeats 4000000 in
/-- Header.Append(nil) -/
theorem append_ret (h : Hd) (hk : h.ok) (w : World) : Ret Try.prog 12 #[.agg h.cells.toArray, .slice none 0 0] w fun v w' => Below w.heap.size w w' ∧ ((chk h ≠ 0 ∧ v = .tuple #[.slice none 0 0, errV (chk h)]) ∨ (chk h = 0 ∧ ∃ a c, v = .tuple #[.slice a 16 c, errV 0] ∧ w'.ownsRow w.heap.size 5 1 (.slice a 16 c) 16 (bv (octN h)))) := by
  refine ret_of_T (vs := [.agg h.cells.toArray, .slice none 0 0]) Try.func12 Try.ntmps12 rfl (Nat.le_of_ble_eq_true rfl) ?_
  repeat (first | refine T_seq ?_ | refine T_block ?_ | refine T_inBlock ?_ | refine T_skip ?_)
  refine T_region ?_
  refine L_box rfl fun w1 h1 => ?_
  refine L_val _ _ (X_assign) rfl ?_
  refine L_val _ _ (X_assign) rfl ?_
  refine L_nil ?_
  have z1 := h1.lt
  have s1 := h1.size
  have k1 : Blk w1 w.heap.size h.cells.toArray 39 := h1.new
  have b1 : Below w.heap.size w w1 := h1.below (Below.refl _ _) (Nat.le_refl _)
  clear h1
  repeat (first | refine T_seq ?_ | refine T_block ?_ | refine T_inBlock ?_ | refine T_skip ?_)
  refine T_region ?_
  refine L_val _ _ (X_loadAgg h.cells A39 S39 rfl rfl (gblk0 k1)) rfl ?_
  refine L_callF [.agg h.cells.toArray] E24 rfl rfl (check_ret h hk.fl w1) ?_
  rintro v w2 ⟨rfl, b2⟩
  refine L_val _ _ (X_assign) rfl ?_
  refine L_nil ?_
  have k12 := below_blk b2 k1 z1
  have b2' : Below w.heap.size w w2 := b1.trans (b2.mono s1)
  have her := chk_er h
  repeat (first | refine T_seq ?_ | refine T_block ?_ | refine T_inBlock ?_ | refine T_skip ?_)
  by_cases hc : chk h = 0
  case neg =>
    have e := err_nil (chk h) her 10 w2
    rw [decide_eq_true hc] at e
    refine T_region ?_
    refine L_val _ _ (X_move) rfl ?_
    refine L_val _ _ (X_neq (b := true) e) rfl ?_
    refine L_nil ?_
    refine T_true rfl ?_
    repeat (first | refine T_seq ?_ | refine T_block ?_ | refine T_inBlock ?_ | refine T_skip ?_)
    refine T_region ?_
    refine L_val _ _ (X_move) rfl ?_
    refine L_val _ _ (X_move) rfl ?_
    refine L_val _ _ (X_assign) rfl ?_
    refine L_val _ _ (X_assign) rfl ?_
    refine L_nil ?_
    exact T_ret2 Try.func12 rfl ⟨b2', .inl ⟨hc, rfl⟩⟩
  have e := err_nil (chk h) her 10 w2
  rw [decide_eq_false (not_not_intro hc)] at e
  refine T_region ?_
  refine L_val _ _ (X_move) rfl ?_
  refine L_val _ _ (X_neq (b := false) e) rfl ?_
  refine L_nil ?_
  refine T_false rfl ?_
  repeat (first | refine T_seq ?_ | refine T_block ?_ | refine T_inBlock ?_ | refine T_skip ?_)
  refine T_region ?_
  refine L_val _ _ (X_loadAgg h.cells A39 S39 rfl rfl (gblk0 k12)) rfl ?_
  refine L_callF [.agg h.cells.toArray] E26 rfl rfl (octets_ret h hk w2) ?_
  rintro v w3 ⟨rfl, b3⟩
  refine L_alloc Z68 rfl fun w4 h4 => ?_
  refine L_storeAll (bv (octN h)) S68 rfl rfl (by rw [bv_len, octN_len]) (bv_one _) h4.new rfl fun w5 h5 => ?_
  refine L_nil ?_
  have h45 := h4.trans h5
  have s2 := b2'.size
  have b3' : Below w.heap.size w w3 := b2'.trans (b3.mono s2)
  have s3 := b3'.size
  have k5 : Blk w5 w3.heap.size (bv (octN h)).toArray 68 := h45.new
  have b5 : Below w.heap.size w w5 := h45.below b3' s3
  have s5 := b5.size
  repeat (first | refine T_seq ?_ | refine T_block ?_ | refine T_inBlock ?_ | refine T_skip ?_)
  refine T_region ?_
  refine L_val _ _ (X_move) rfl ?_
  refine L_val _ _ (X_sliceA U68 S5 rfl (by decide)) rfl ?_
  refine L_append w.heap.size (.slice none 0 0) 0 [] (some ⟨w3.heap.size, 0, none⟩) 16 16 (bv (octN h)) Try.underlying25 I5 rfl (by decide) rfl (World.ownsRow_nil _ _ _ _) rfl (by rw [bv_len, octN_len]) (by simp) (by intro a ha j u hu; obtain rfl := Option.some.inj ha; rw [Addr.add_lit, Nat.zero_add]; exact gblk k5 j hu) (bv_one _) (by simp only [maxLen]; omega) (by omega) s5 rfl fun v6 w6 o6 g6 => ?_
  obtain ⟨na, nc, rfl, -, -⟩ := owns_val o6
  refine L_val _ _ (X_assign) rfl ?_
  refine L_val _ _ (X_assign) rfl ?_
  refine L_nil ?_
  exact T_ret2 Try.func12 rfl ⟨grown_below b5 (World.ownsRow_nil w5 w.heap.size 5 1) g6 s5 (Nat.le_refl _), .inr ⟨hc, na, nc, rfl, o6⟩⟩
end Go.Proofs.Qxb6500864a
