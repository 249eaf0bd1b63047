/-
  tokenm.Parse.
-/
import Derived.Test.Qxb6500864aP7
namespace Go.Proofs.Qxb6500864a
set_option linter.unusedSimpArgs false
set_option linter.unusedVariables false
open Go.RowKit
theorem split16 {l : List Nat} (h : 16 ≤ l.length) : ∃ b0 b1 b2 b3 b4 b5 b6 b7 b8 b9 ba bb bc bd be' bf r, l = b0 :: b1 :: b2 :: b3 :: b4 :: b5 :: b6 :: b7 :: b8 :: b9 :: ba :: bb :: bc :: bd :: be' :: bf :: r := by
  match l, h with
  | b0 :: b1 :: b2 :: b3 :: b4 :: b5 :: b6 :: b7 :: b8 :: b9 :: ba :: bb :: bc :: bd :: be' :: bf :: r, _ => exact ⟨b0, b1, b2, b3, b4, b5, b6, b7, b8, b9, ba, bb, bc, bd, be', bf, r, rfl⟩
theorem eight_eq (v : Nat) : eight v = [v / 72057594037927936 % 256, v / 281474976710656 % 256, v / 1099511627776 % 256, v / 4294967296 % 256, v / 16777216 % 256, v / 65536 % 256, v / 256 % 256, v / 1 % 256] := rfl
theorem be_eq (a b c d e f g h : Nat) : be [a, b, c, d, e, f, g, h] = ((((((a * 256 + b) * 256 + c) * 256 + d) * 256 + e) * 256 + f) * 256 + g) * 256 + h := by
  simp [be]
theorem eight_be {a b c d e f g h : Nat} (ha : a < 256) (hb : b < 256) (hc : c < 256) (hd : d < 256) (he : e < 256) (hf : f < 256) (hg : g < 256) (hh : h < 256) : eight (be [a, b, c, d, e, f, g, h]) = [a, b, c, d, e, f, g, h] := by
  rw [eight_eq, be_eq]
  simp only [List.cons.injEq, and_true]
  refine ⟨?_, ?_, ?_, ?_, ?_, ?_, ?_, ?_⟩ <;> omega
theorem be_eight {v : Nat} (hv : v < 18446744073709551616) : be (eight v) = v := by
  rw [eight_eq, be_eq]
  omega
/-- What spell writes is what was read, if the filler is as it should be. -/
theorem spell_par {l : List Nat} (h16 : 16 ≤ l.length) (hb : ∀ x ∈ l, x < 256) (hc : chk (hdOf l) = 0) : decide (spellN (hdOf l) = l.take 16) = filOk l := by
  obtain ⟨b0, b1, b2, b3, b4, b5, b6, b7, b8, b9, ba, bb, bc, bd, be', bf, r, rfl⟩ := split16 h16
  simp only [List.mem_cons, forall_eq_or_imp] at hb
  obtain ⟨h0, h1, h2, h3, h4, h5, h6, h7, h8, h9, ha, hbb, hcc, hd, he, hf, -⟩ := hb
  have hid : b0 * 256 + b1 = 1028 ∨ b0 * 256 + b1 = 1284 := by
    unfold chk at hc
    by_cases hk : (b0 * 256 + b1 = 1028 ∨ b0 * 256 + b1 = 1284)
    · exact hk
    · rw [if_pos (by show b0 * 256 + b1 ≠ 1028 ∧ b0 * 256 + b1 ≠ 1284; omega)] at hc
      omega
  have hei := eight_be h8 h9 ha hbb hcc hd he hf
  have htk : (List.take 16 (b0 :: b1 :: b2 :: b3 :: b4 :: b5 :: b6 :: b7 :: b8 :: b9 :: ba :: bb :: bc :: bd :: be' :: bf :: r)) = [b0, b1, b2, b3, b4, b5, b6, b7, b8, b9, ba, bb, bc, bd, be', bf] := rfl
  rw [htk]
  rcases hid with hid | hid
  · have e0 : b0 = 4 := by omega
    have e1 : b1 = 4 := by omega
    subst e0 e1
    have hh : hdOf (4 :: 4 :: b2 :: b3 :: b4 :: b5 :: b6 :: b7 :: b8 :: b9 :: ba :: bb :: bc :: bd :: be' :: bf :: r) = ⟨1028, b2, 0, 0, be [b8, b9, ba, bb, bc, bd, be', bf]⟩ := by simp [hdOf, gt]
    have hs : spellN ⟨1028, b2, 0, 0, be [b8, b9, ba, bb, bc, bd, be', bf]⟩ = [4, 4, b2, 255, 255, 255, 255, 255, b8, b9, ba, bb, bc, bd, be', bf] := by
      show [4, 4] ++ [b2] ++ List.replicate 5 255 ++ eight (be [b8, b9, ba, bb, bc, bd, be', bf]) = _
      rw [hei]; rfl
    have hfo : filOk (4 :: 4 :: b2 :: b3 :: b4 :: b5 :: b6 :: b7 :: b8 :: b9 :: ba :: bb :: bc :: bd :: be' :: bf :: r) = ([b3, b4, b5, b6, b7].all (· == 255)) := by simp [filOk, filEnd, gt]
    rw [hh, hs, hfo]
    simp only [List.cons.injEq, true_and, and_true, List.all_cons, List.all_nil, Bool.and_true]
    rw [Bool.eq_iff_iff]
    simp only [decide_eq_true_eq, Bool.and_eq_true, beq_iff_eq]
    constructor <;> (intro h; omega)
  · have e0 : b0 = 5 := by omega
    have e1 : b1 = 4 := by omega
    subst e0 e1
    have hh : hdOf (5 :: 4 :: b2 :: b3 :: b4 :: b5 :: b6 :: b7 :: b8 :: b9 :: ba :: bb :: bc :: bd :: be' :: bf :: r) = ⟨1284, b2, b4 * 256 + b5, b6 * 256 + b7, be [b8, b9, ba, bb, bc, bd, be', bf]⟩ := by simp [hdOf, gt]
    have t1 : two (b4 * 256 + b5) = [b4, b5] := by
      simp only [two, List.cons.injEq, and_true]; omega
    have t2 : two (b6 * 256 + b7) = [b6, b7] := by
      simp only [two, List.cons.injEq, and_true]; omega
    have hs : spellN ⟨1284, b2, b4 * 256 + b5, b6 * 256 + b7, be [b8, b9, ba, bb, bc, bd, be', bf]⟩ = [5, 4, b2, 255, b4, b5, b6, b7, b8, b9, ba, bb, bc, bd, be', bf] := by
      show [5, 4] ++ [b2] ++ [255] ++ two (b4 * 256 + b5) ++ two (b6 * 256 + b7) ++ eight (be [b8, b9, ba, bb, bc, bd, be', bf]) = _
      rw [hei, t1, t2]; rfl
    have hfo : filOk (5 :: 4 :: b2 :: b3 :: b4 :: b5 :: b6 :: b7 :: b8 :: b9 :: ba :: bb :: bc :: bd :: be' :: bf :: r) = ([b3].all (· == 255)) := by simp [filOk, filEnd, gt]
    rw [hh, hs, hfo]
    simp only [List.cons.injEq, true_and, and_true, List.all_cons, List.all_nil, Bool.and_true]
    rw [Bool.eq_iff_iff]
    simp only [decide_eq_true_eq, Bool.and_eq_true, beq_iff_eq]
    constructor <;> (intro h; omega)
theorem byt_take {w : World} {a : Option Addr} {l : List Nat} (h : Byt w a l) (n : Nat) : Byt w a (l.take n) := by
  refine ⟨fun j x hx => h.cell j x ?_⟩
  rw [List.getElem?_take] at hx
  split at hx
  · exact hx
  · simp at hx
set_option maxHeartbeats 8000000 in
set_option maxRecDepth 10000 in
/-- tokenm.Parse -/
theorem parsem_ret (a : Option Addr) (l : List Nat) (c : Nat) (w : World) (hl : Byt w a l) (hb : ∀ x ∈ l, x < 256) (hc : l.length ≤ c) : Ret Try.prog 9 #[.slice a l.length c] w fun v w' => v = .tuple #[.agg (parH l).cells.toArray, .int .i64 (stN (par l) : Int)] ∧ Below w.heap.size w w' := by
  refine ret_of_T (vs := [.slice a l.length c]) Try.func9 Try.ntmps9 rfl (Nat.le_of_ble_eq_true rfl) ?_
  repeat (first | refine T_seq ?_ | refine T_block ?_ | refine T_inBlock ?_ | refine T_skip ?_)
  refine T_region ?_
  refine L_alloc Z32 rfl fun w1 h1 => ?_
  refine L_val _ _ (X_assign) rfl ?_
  refine L_nil ?_
  have z1 := h1.lt
  have s1 := h1.size
  have k2 : Blk w1 w.heap.size Hd.zero.cells.toArray 32 := h1.new
  have b1 : Below w.heap.size w w1 := h1.below (Below.refl _ _) (Nat.le_refl _)
  clear h1
  repeat (first | refine T_seq ?_ | refine T_block ?_ | refine T_inBlock ?_ | refine T_skip ?_)
  by_cases h16 : l.length < 16
  · have e1 : cmpB .lss (l.length : Int) 16 = true := by simp [cmpB]; omega
    have hp : par l = 8 := by rw [par, if_pos h16]
    have hh : parH l = Hd.zero := by rw [parH, hp]; rfl
    refine T_region ?_
    refine L_val _ _ (X_move) rfl ?_
    refine L_val _ _ (X_lenS U25 rfl) rfl ?_
    refine L_val _ _ (X_cmpR true rfl rfl rfl e1) rfl ?_
    refine L_nil ?_
    refine T_true rfl ?_
    repeat (first | refine T_seq ?_ | refine T_block ?_ | refine T_inBlock ?_ | refine T_skip ?_)
    refine T_region ?_
    refine L_val _ _ (X_build (.agg Hd.zero.cells.toArray) (by kernel_rfl)) rfl ?_
    refine L_storeAll Hd.zero.cells S32 rfl rfl rfl (Hd.cells_one _) k2 rfl fun w2 h2 => ?_
    refine L_val _ _ (X_assign) rfl ?_
    refine L_nil ?_
    exact T_retCT Hd.zero.cells Try.func9 rfl A32 S32 rfl rfl (gblk0 h2.new) ⟨by rw [hp, hh]; rfl, h2.below b1 (Nat.le_refl _)⟩
  have e1 : cmpB .lss (l.length : Int) 16 = false := by simp [cmpB]; omega
  refine T_region ?_
  refine L_val _ _ (X_move) rfl ?_
  refine L_val _ _ (X_lenS U25 rfl) rfl ?_
  refine L_val _ _ (X_cmpR false rfl rfl rfl e1) rfl ?_
  refine L_nil ?_
  refine T_false rfl ?_
  obtain ⟨b, o, rfl, hbw⟩ := hl.some (by omega)
  have hcell : ∀ z, Below w.heap.size w z → ∀ j, j < l.length → z.cell? ⟨b, o + j * 1, none⟩ = some (.int .u8 (gt l j : Int)) := fun z hz j hj => by rw [Nat.mul_one]; exact (below_cell hz _ hbw).trans (hl.at j _ (gt_at hj))
  have g := gt_lt hb
  have g0 := g 0
  have g1 := g 1
  have hbw1 : ∀ z, Below w1.heap.size w1 z → Below w.heap.size w z := fun z hz => b1.trans (hz.mono s1)
  repeat (first | refine T_seq ?_ | refine T_block ?_ | refine T_inBlock ?_ | refine T_skip ?_)
  refine T_draw (fun z => Below w1.heap.size w1 z) 15 rfl rfl fun z2 hsm => ?_
  have hS : Below w1.heap.size w1 z2 := hsm.below (Below.refl _ _)
  refine D_take 0 _ rfl (by kernel_rfl) hS (fun w hw => X_move) rfl ?_
  refine D_take 1 _ rfl (by kernel_rfl) hS (fun w hw => X_index U25 S5 rfl rfl (show 0 < l.length by omega)) rfl ?_
  refine D_take 2 _ rfl (by kernel_rfl) hS (fun w hw => X_load A5 rfl (hcell _ (hbw1 _ hw) 0 (by omega))) rfl ?_
  refine D_take 3 _ rfl (by kernel_rfl) hS (fun w hw => X_convN (gt l 0) U5 U27 rfl (show gt l 0 < 65536 by omega)) rfl ?_
  refine D_take 4 _ rfl (by kernel_rfl) hS (fun w hw => X_mulN (gt l 0) 256 rfl rfl (show gt l 0 * 256 < 65536 by omega)) rfl ?_
  refine D_take 5 _ rfl (by kernel_rfl) hS (fun w hw => X_move) rfl ?_
  refine D_take 6 _ rfl (by kernel_rfl) hS (fun w hw => X_index U25 S5 rfl rfl (show 1 < l.length by omega)) rfl ?_
  refine D_take 7 _ rfl (by kernel_rfl) hS (fun w hw => X_load A5 rfl (hcell _ (hbw1 _ hw) 1 (by omega))) rfl ?_
  refine D_take 8 _ rfl (by kernel_rfl) hS (fun w hw => X_convN (gt l 1) U5 U27 rfl (show gt l 1 < 65536 by omega)) rfl ?_
  refine D_take 9 _ rfl (by kernel_rfl) hS (fun w hw => X_addN (gt l 0 * 256) (gt l 1) rfl rfl (show gt l 0 * 256 + gt l 1 < 65536 by omega)) rfl ?_
  refine D_take 10 _ rfl (by kernel_rfl) hS (fun w hw => X_move) rfl ?_
  refine D_take 11 _ rfl (by kernel_rfl) hS (fun w hw => X_index U25 S5 rfl rfl (show 2 < l.length by omega)) rfl ?_
  refine D_take 12 _ rfl (by kernel_rfl) hS (fun w hw => X_load A5 rfl (hcell _ (hbw1 _ hw) 2 (by omega))) rfl ?_
  refine D_take 13 _ rfl (by kernel_rfl) hS (fun w hw => X_build (.agg (⟨gt l 0 * 256 + gt l 1, gt l 2, 0, 0, 0⟩ : Hd).cells.toArray) (by kernel_rfl)) rfl ?_
  skip
  refine D_alloc 14 rfl (by kernel_rfl) Z32 rfl ?_
  intro z3 h3
  have l3 := hS.size
  have hS3 : Below w1.heap.size w1 z3 := h3.below hS hS.size
  refine ⟨fun _ => hS3, ?_⟩
  refine D_storeAll 15 (⟨gt l 0 * 256 + gt l 1, gt l 2, 0, 0, 0⟩ : Hd).cells rfl (by kernel_rfl) S32 rfl rfl rfl (Hd.cells_one _) h3.new rfl ?_
  intro z4 h4
  refine ⟨fun hb => (by cases hb), ?_⟩
  refine D_done (by kernel_rfl) ?_
  have k4 : Blk z4 z2.heap.size (⟨gt l 0 * 256 + gt l 1, gt l 2, 0, 0, be ([] : List Nat)⟩ : Hd).cells.toArray 32 := h4.new
  have b4 : Below w1.heap.size w1 z4 := h4.below hS3 l3
  clear h3 h4 hS3 hS hsm
  generalize z2.heap.size = B4 at *
  repeat (first | refine T_seq ?_ | refine T_block ?_ | refine T_inBlock ?_ | refine T_skip ?_)
  refine T_region ?_
  refine L_val _ _ (X_move) rfl ?_
  refine L_val _ _ (X_sliceLH (l := 8) (h := 16) U25 S5 rfl rfl rfl (by omega) (by omega) (by omega)) rfl ?_
  refine L_val _ _ (X_lenS U25 rfl) rfl ?_
  refine L_val _ _ (X_move) rfl ?_
  refine L_nil ?_
  repeat (first | refine T_seq ?_ | refine T_block ?_ | refine T_inBlock ?_ | refine T_skip ?_)
  refine T_loopS [29, 28, 27, 4, 2, 0] (fun m vs z => ∃ i : Nat, vs = [.int .i64 i, .int .i64 8, .slice (some ⟨b, o + 8 * 1, none⟩) 8 (c - 8), .pointer (some ⟨B4, 0, none⟩), .pointer (some ⟨w.heap.size, 0, none⟩), .slice (some ⟨b, o, none⟩) l.length c] ∧ i ≤ 8 ∧ m = 8 - i ∧ Below w1.heap.size w1 z ∧ Blk z B4 (⟨gt l 0 * 256 + gt l 1, gt l 2, 0, 0, be ((l.drop 8).take i)⟩ : Hd).cells.toArray 32) 8 ⟨0, rfl, by omega, rfl, b4, k4⟩ ?_
  clear k4 b4
  rintro m vs ρ z ⟨i, rfl, hi, rfl, bz, kz⟩ ih
  repeat (first | refine T_seq ?_ | refine T_block ?_ | refine T_inBlock ?_ | refine T_skip ?_)
  refine T_region ?_
  refine L_val _ _ (X_cmp rfl rfl rfl) rfl ?_
  refine L_nil ?_
  repeat (first | refine T_seq ?_ | refine T_block ?_ | refine T_inBlock ?_ | refine T_skip ?_)
  refine T_if rfl (fun ht => ?_) (fun hf => ?_)
  · have hlt : i < 8 := by simp [cmpB] at ht; omega
    have hxi : (l.drop 8)[i]? = some (gt l (8 + i)) := by rw [List.getElem?_drop]; exact gt_at (by omega)
    have hsn : be ((l.drop 8).take (i + 1)) = be ((l.drop 8).take i) * 256 + gt l (8 + i) := by
      obtain ⟨q1, q2⟩ := List.getElem?_eq_some_iff.1 hxi
      rw [List.take_succ_eq_append_getElem q1, be_snoc, q2]
    have hbt : be ((l.drop 8).take (i + 1)) < 18446744073709551616 := by
      have h1 := be_lt _ ((l.drop 8).take (i + 1)) rfl (fun x hx => hb x (List.mem_of_mem_drop (List.mem_of_mem_take hx)))
      have h2 : 256 ^ ((l.drop 8).take (i + 1)).length ≤ 256 ^ 8 := Nat.pow_le_pow_right (by decide) (by simp; omega)
      have h3 : (256 : Nat) ^ 8 = 18446744073709551616 := by decide
      omega
    have hci : z.cell? ⟨b, o + 8 * 1 + i * 1, none⟩ = some (.int .u8 (gt l (8 + i) : Int)) := by
      have := hcell _ (hbw1 _ bz) (8 + i) (by omega)
      rw [show o + 8 * 1 + i * 1 = o + (8 + i) * 1 by omega]; exact this
    generalize gt l (8 + i) = x at *
    generalize be ((l.drop 8).take i) = v at *
    repeat (first | refine T_seq ?_ | refine T_block ?_ | refine T_inBlock ?_ | refine T_skip ?_)
    refine T_region ?_
    refine L_val _ _ (X_index U25 S5 rfl rfl hlt) rfl ?_
    refine L_val _ _ (X_load A5 rfl (hci)) rfl ?_
    refine L_val _ _ (X_assign) rfl ?_
    refine L_nil ?_
    repeat (first | refine T_seq ?_ | refine T_block ?_ | refine T_inBlock ?_ | refine T_skip ?_)
    refine T_region ?_
    refine L_val _ _ (X_field F32_4 rfl) rfl ?_
    refine L_val _ _ (X_load A28 rfl (gblk kz 4 rfl)) rfl ?_
    refine L_val _ _ (X_mulN v 256 rfl rfl (show v * 256 < 18446744073709551616 by omega)) rfl ?_
    refine L_val _ _ (X_move) rfl ?_
    refine L_val _ _ (X_convN x U5 U28 rfl (show x < 18446744073709551616 by omega)) rfl ?_
    refine L_val _ _ (X_addN (v * 256) x rfl rfl (show v * 256 + x < 18446744073709551616 by omega)) rfl ?_
    refine L_val _ _ (X_field F32_4 rfl) rfl ?_
    refine L_store (.int .u64 ((v * 256 + x : Nat) : Int)) S28 rfl rfl rfl kz (by simp [Hd.cells]) fun z5 h5 => ?_
    refine L_nil ?_
    have k5 : Blk z5 B4 (⟨gt l 0 * 256 + gt l 1, gt l 2, 0, 0, v * 256 + x⟩ : Hd).cells.toArray 32 := h5.new
    repeat (first | refine T_seq ?_ | refine T_block ?_ | refine T_inBlock ?_ | refine T_skip ?_)
    refine T_region ?_
    refine L_val _ _ (X_add rfl rfl (by omega) (by omega)) rfl ?_
    refine L_val _ _ (X_move) rfl ?_
    refine L_nil ?_
    exact ih _ _ _ (by omega) ⟨i + 1, rfl, by omega, rfl, h5.below bz l3, by rw [hsn]; exact k5⟩
  obtain rfl : i = 8 := by simp [cmpB] at hf; omega
  refine T_exit rfl ?_
  clear ih
  repeat (first | refine T_seq ?_ | refine T_block ?_ | refine T_inBlock ?_ | refine T_skip ?_)
  refine T_region ?_
  refine L_val _ _ (X_field F32_0 rfl) rfl ?_
  refine L_val _ _ (X_load A27 rfl (gblk kz 0 rfl)) rfl ?_
  refine L_val _ _ (X_cmp rfl rfl rfl) rfl ?_
  refine L_nil ?_
  refine T_ifJ [0, 2, 4] (fun vs u => vs = [.slice (some ⟨b, o, none⟩) l.length c, .pointer (some ⟨w.heap.size, 0, none⟩), .pointer (some ⟨B4, 0, none⟩)] ∧ Below w1.heap.size w1 u ∧ Blk u B4 (hdOf l).cells.toArray 32) rfl ?_ (fun ht3 join => ?_) (fun hf3 join => ?_)
  · rintro vs ρ3 u ⟨rfl, bu, k4⟩
    have k2u := below_blk bu k2 z1
    have bwu := hbw1 _ bu
    have su := bu.size
    have hok := hdOf_ok hb
    repeat (first | refine T_seq ?_ | refine T_block ?_ | refine T_inBlock ?_ | refine T_skip ?_)
    refine T_region ?_
    refine L_val _ _ (X_loadAgg (hdOf l).cells A32 S32 rfl rfl (gblk0 k4)) rfl ?_
    refine L_callF [.agg (hdOf l).cells.toArray] E18 rfl rfl (wf_ret (hdOf l) hok.fl u) ?_
    rintro v u2 ⟨rfl, bu2⟩
    refine L_val _ _ (X_assign) rfl ?_
    refine L_nil ?_
    have bu2' : Below w1.heap.size w1 u2 := bu.trans (bu2.mono su)
    have k22 := below_blk bu2' k2 z1
    have k42 := below_blk bu2 k4 k4.lt
    have bwu2 := hbw1 _ bu2'
    have su2 := bu2.size
    repeat (first | refine T_seq ?_ | refine T_block ?_ | refine T_inBlock ?_ | refine T_skip ?_)
    by_cases hck : chk (hdOf l) = 0
    case neg =>
      have e : cmpB .neq (stN (chk (hdOf l)) : Int) 0 = true := by
        rw [stN, if_neg hck]; simp [cmpB]; omega
      have hp : par l = chk (hdOf l) := by rw [par, if_neg h16, if_pos hck]
      have hh : parH l = Hd.zero := by rw [parH, hp, if_neg hck]
      refine T_region ?_
      refine L_val _ _ (X_move) rfl ?_
      refine L_val _ _ (X_cmpR true rfl rfl rfl e) rfl ?_
      refine L_nil ?_
      refine T_true rfl ?_
      repeat (first | refine T_seq ?_ | refine T_block ?_ | refine T_inBlock ?_ | refine T_skip ?_)
      refine T_region ?_
      refine L_val _ _ (X_build (.agg Hd.zero.cells.toArray) (by kernel_rfl)) rfl ?_
      refine L_val _ _ (X_move) rfl ?_
      refine L_storeAll Hd.zero.cells S32 rfl rfl rfl (Hd.cells_one _) k22 rfl fun u3 h3 => ?_
      refine L_val _ _ (X_assign) rfl ?_
      refine L_nil ?_
      exact T_retCT Hd.zero.cells Try.func9 rfl A32 S32 rfl rfl (gblk0 h3.new) ⟨by rw [hp, hh]; rfl, h3.below bwu2 (Nat.le_refl _)⟩
    have e : cmpB .neq (stN (chk (hdOf l)) : Int) 0 = false := by
      rw [hck]; rfl
    refine T_region ?_
    refine L_val _ _ (X_move) rfl ?_
    refine L_val _ _ (X_cmpR false rfl rfl rfl e) rfl ?_
    refine L_nil ?_
    refine T_false rfl ?_
    have hsp := spell_par (by omega) hb hck
    have h16' : (l.take 16).length = 16 := by simp; omega
    repeat (first | refine T_seq ?_ | refine T_block ?_ | refine T_inBlock ?_ | refine T_skip ?_)
    refine T_draw (fun z => Below u2.heap.size u2 z) 6 rfl rfl fun u3 hsm => ?_
    have hS : Below u2.heap.size u2 u3 := hsm.below (Below.refl _ _)
    refine D_take 0 _ rfl (by kernel_rfl) hS (fun w hw => X_loadAgg (hdOf l).cells A32 S32 rfl rfl (gblk0 (below_blk hw k42 k42.lt))) rfl ?_
    refine D_take 2 _ rfl (by kernel_rfl) hS (fun w hw => X_move) rfl ?_
    refine D_take 3 _ rfl (by kernel_rfl) hS (fun w hw => X_sliceH (h := 16) U25 S5 rfl rfl (by omega)) rfl ?_
    skip
    refine D_callF 1 [.agg (hdOf l).cells.toArray] rfl (by kernel_rfl) E25 rfl rfl (spell_ret (hdOf l) hok u3) ?_
    rintro v u4 ⟨a5, c5, rfl, o5, b5⟩
    have hS4 : Below u2.heap.size u2 u4 := hS.trans (b5.mono hS.size)
    refine ⟨fun _ => hS4, ?_⟩
    have hbw4 : Below w.heap.size w u4 := bwu2.trans (hS4.mono bwu2.size)
    have hspl : (spellN (hdOf l)).length = 16 := by have := o5.1; simpa [bv] using this
    have hsame := same_ret a5 (some ⟨b, o, none⟩) (spellN (hdOf l)) (l.take 16) c5 c u4 (byt_of_owns o5 hspl) (byt_take (hl.below hbw4) 16) (by omega)
    rw [hspl, h16', hsp] at hsame
    refine D_callF 4 [.slice a5 16 c5, .slice (some ⟨b, o, none⟩) 16 c] rfl (by kernel_rfl) E13 rfl rfl hsame ?_
    rintro v u5 ⟨rfl, b6⟩
    have hS5 : Below u2.heap.size u2 u5 := hS4.trans (b6.mono hS4.size)
    refine ⟨fun _ => hS5, ?_⟩
    refine D_take 5 _ rfl (by kernel_rfl) hS5 (fun w hw => X_not rfl) rfl ?_
    refine D_done (by kernel_rfl) ?_
    have k25 := below_blk hS5 k22 (by have := k22.lt; omega)
    have k45 := below_blk hS5 k42 k42.lt
    have bw5 : Below w.heap.size w u5 := bwu2.trans (hS5.mono bwu2.size)
    cases hfo : filOk l with
    | false =>
      have hp : par l = 10 := by rw [par, if_neg h16, if_neg (not_not_intro hck), if_neg (by rw [hfo]; decide)]
      have hh : parH l = Hd.zero := by rw [parH, hp]; rfl
      refine T_true rfl ?_
      repeat (first | refine T_seq ?_ | refine T_block ?_ | refine T_inBlock ?_ | refine T_skip ?_)
      refine T_region ?_
      refine L_val _ _ (X_build (.agg Hd.zero.cells.toArray) (by kernel_rfl)) rfl ?_
      refine L_storeAll Hd.zero.cells S32 rfl rfl rfl (Hd.cells_one _) k25 rfl fun u6 h6 => ?_
      refine L_val _ _ (X_assign) rfl ?_
      refine L_nil ?_
      exact T_retCT Hd.zero.cells Try.func9 rfl A32 S32 rfl rfl (gblk0 h6.new) ⟨by rw [hp, hh]; rfl, h6.below bw5 (Nat.le_refl _)⟩
    | true =>
      have hp : par l = 0 := by rw [par, if_neg h16, if_neg (not_not_intro hck), if_pos hfo]
      have hh : parH l = hdOf l := by rw [parH, if_pos hp]
      refine T_false rfl ?_
      repeat (first | refine T_seq ?_ | refine T_block ?_ | refine T_inBlock ?_ | refine T_skip ?_)
      refine T_region ?_
      refine L_val _ _ (X_loadAgg (hdOf l).cells A32 S32 rfl rfl (gblk0 k45)) rfl ?_
      refine L_storeAll (hdOf l).cells S32 rfl rfl rfl (Hd.cells_one _) k25 rfl fun u6 h6 => ?_
      refine L_val _ _ (X_assign) rfl ?_
      refine L_nil ?_
      exact T_retCT (hdOf l).cells Try.func9 rfl A32 S32 rfl rfl (gblk0 h6.new) ⟨by rw [hp, hh]; rfl, h6.below bw5 (Nat.le_refl _)⟩
  · have hw : gt l 0 * 256 + gt l 1 = 1284 := by simp [cmpB] at ht3; omega
    have g4 := g 4
    have g5 := g 5
    have g6 := g 6
    have g7 := g 7
    have hcz := hcell _ (hbw1 _ bz)
    repeat (first | refine T_seq ?_ | refine T_block ?_ | refine T_inBlock ?_ | refine T_skip ?_)
    refine T_draw (fun y => Sm z y) 10 rfl rfl fun z5 hsm => ?_
    refine D_take 0 _ rfl (by kernel_rfl) hsm (fun w hw => X_move) rfl ?_
    refine D_take 1 _ rfl (by kernel_rfl) hsm (fun w hw => X_index U25 S5 rfl rfl (show 4 < l.length by omega)) rfl ?_
    refine D_take 2 _ rfl (by kernel_rfl) hsm (fun w hw => X_load A5 rfl ((hw.cell _).trans (hcz 4 (by omega)))) rfl ?_
    refine D_take 3 _ rfl (by kernel_rfl) hsm (fun w hw => X_convN (gt l 4) U5 U27 rfl (show gt l 4 < 65536 by omega)) rfl ?_
    refine D_take 4 _ rfl (by kernel_rfl) hsm (fun w hw => X_mulN (gt l 4) 256 rfl rfl (show gt l 4 * 256 < 65536 by omega)) rfl ?_
    refine D_take 5 _ rfl (by kernel_rfl) hsm (fun w hw => X_move) rfl ?_
    refine D_take 6 _ rfl (by kernel_rfl) hsm (fun w hw => X_index U25 S5 rfl rfl (show 5 < l.length by omega)) rfl ?_
    refine D_take 7 _ rfl (by kernel_rfl) hsm (fun w hw => X_load A5 rfl ((hw.cell _).trans (hcz 5 (by omega)))) rfl ?_
    refine D_take 8 _ rfl (by kernel_rfl) hsm (fun w hw => X_convN (gt l 5) U5 U27 rfl (show gt l 5 < 65536 by omega)) rfl ?_
    refine D_take 9 _ rfl (by kernel_rfl) hsm (fun w hw => X_addN (gt l 4 * 256) (gt l 5) rfl rfl (show gt l 4 * 256 + gt l 5 < 65536 by omega)) rfl ?_
    skip
    refine D_val 10 _ _ rfl (by kernel_rfl) (X_field F32_2 rfl) rfl (fun hb => by cases hb) ?_
    refine D_store 11 (.int .u16 ((gt l 4 * 256 + gt l 5 : Nat) : Int)) rfl (by kernel_rfl) S27 rfl rfl rfl (hsm.blk kz) (by simp [Hd.cells]) ?_
    intro z6 h6
    refine ⟨fun hb => (by cases hb), ?_⟩
    refine D_done (by kernel_rfl) ?_
    have k6 : Blk z6 B4 (⟨gt l 0 * 256 + gt l 1, gt l 2, gt l 4 * 256 + gt l 5, 0, be ((l.drop 8).take 8)⟩ : Hd).cells.toArray 32 := h6.new
    have b6 : Below w1.heap.size w1 z6 := h6.below (hsm.below bz) l3
    have hcz6 := hcell _ (hbw1 _ b6)
    clear h6 hsm
    repeat (first | refine T_seq ?_ | refine T_block ?_ | refine T_inBlock ?_ | refine T_skip ?_)
    refine T_draw (fun y => Sm z6 y) 10 rfl rfl fun z7 hsm => ?_
    refine D_take 0 _ rfl (by kernel_rfl) hsm (fun w hw => X_move) rfl ?_
    refine D_take 1 _ rfl (by kernel_rfl) hsm (fun w hw => X_index U25 S5 rfl rfl (show 6 < l.length by omega)) rfl ?_
    refine D_take 2 _ rfl (by kernel_rfl) hsm (fun w hw => X_load A5 rfl ((hw.cell _).trans (hcz6 6 (by omega)))) rfl ?_
    refine D_take 3 _ rfl (by kernel_rfl) hsm (fun w hw => X_convN (gt l 6) U5 U27 rfl (show gt l 6 < 65536 by omega)) rfl ?_
    refine D_take 4 _ rfl (by kernel_rfl) hsm (fun w hw => X_mulN (gt l 6) 256 rfl rfl (show gt l 6 * 256 < 65536 by omega)) rfl ?_
    refine D_take 5 _ rfl (by kernel_rfl) hsm (fun w hw => X_move) rfl ?_
    refine D_take 6 _ rfl (by kernel_rfl) hsm (fun w hw => X_index U25 S5 rfl rfl (show 7 < l.length by omega)) rfl ?_
    refine D_take 7 _ rfl (by kernel_rfl) hsm (fun w hw => X_load A5 rfl ((hw.cell _).trans (hcz6 7 (by omega)))) rfl ?_
    refine D_take 8 _ rfl (by kernel_rfl) hsm (fun w hw => X_convN (gt l 7) U5 U27 rfl (show gt l 7 < 65536 by omega)) rfl ?_
    refine D_take 9 _ rfl (by kernel_rfl) hsm (fun w hw => X_addN (gt l 6 * 256) (gt l 7) rfl rfl (show gt l 6 * 256 + gt l 7 < 65536 by omega)) rfl ?_
    skip
    refine D_val 10 _ _ rfl (by kernel_rfl) (X_field F32_3 rfl) rfl (fun hb => by cases hb) ?_
    refine D_store 11 (.int .u16 ((gt l 6 * 256 + gt l 7 : Nat) : Int)) rfl (by kernel_rfl) S27 rfl rfl rfl (hsm.blk k6) (by simp [Hd.cells]) ?_
    intro z8 h8
    refine ⟨fun hb => (by cases hb), ?_⟩
    refine D_done (by kernel_rfl) ?_
    have k8 : Blk z8 B4 (⟨gt l 0 * 256 + gt l 1, gt l 2, gt l 4 * 256 + gt l 5, gt l 6 * 256 + gt l 7, be ((l.drop 8).take 8)⟩ : Hd).cells.toArray 32 := h8.new
    have b8 : Below w1.heap.size w1 z8 := h8.below (hsm.below b6) l3
    have hhd : hdOf l = ⟨gt l 0 * 256 + gt l 1, gt l 2, gt l 4 * 256 + gt l 5, gt l 6 * 256 + gt l 7, be ((l.drop 8).take 8)⟩ := by rw [hdOf, if_pos hw, if_pos hw]
    exact join _ _ ⟨rfl, b8, by rw [hhd]; exact k8⟩
  · have hw : gt l 0 * 256 + gt l 1 ≠ 1284 := by simp [cmpB] at hf3; omega
    have hhd : hdOf l = ⟨gt l 0 * 256 + gt l 1, gt l 2, 0, 0, be ((l.drop 8).take 8)⟩ := by rw [hdOf, if_neg hw, if_neg hw]
    refine T_skip ?_
    exact join _ _ ⟨rfl, bz, by rw [hhd]; exact kz⟩
end Go.Proofs.Qxb6500864a
