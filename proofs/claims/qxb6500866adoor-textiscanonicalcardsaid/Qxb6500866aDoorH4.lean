/-
  The hash is total: Digest, Sum256.
-/
import Derived.Test.Qxb6500866aDoorH3
namespace Go.Proofs.Qxb6500866aDoor
set_option linter.unusedSimpArgs false
set_option linter.unusedVariables false
open Go.RowKit

theorem hst {A rest : List Value} {w : World} {b : Nat} {t : TypeId} (h : Blk w b (A ++ rest).toArray t) : ∀ j v, A[j]? = some v → w.cell? ⟨b, 0 + 0 + j, none⟩ = some v := by
  intro j v hv
  rw [Nat.zero_add]
  exact gblk h j (by rw [List.getElem?_append_left (List.getElem?_eq_some_iff.1 hv).1]; exact hv)
theorem X_subN {P : Program} {ρ : Env} {w : World} {dst : Option Tmp} {gd : Option (Nat × Bool)} {ty : TypeId} {pos : String} {after : Array Edge} {t t' : TypeId} {x y : Operand} (a b c : Nat) (hx : ev ρ x = .int .i64 (a : Int)) (hy : ev ρ y = .int .i64 (b : Int)) (h : a = c + b) (ha : a < 1000000) :
    (execOp (ev ρ) ⟨dst, .binOp .sub t x y t', ty, pos, after, gd⟩).run P w = .ok (.value (.int .i64 (c : Int))) w := by
  rw [X_sub hx hy (by omega) (by omega)]
  rw [show (a : Int) - b = c by omega]
theorem copy_head (zs xs : List Int) : ((u8s zs).toArray.toList.take 0 ++ u8s xs ++ (u8s zs).toArray.toList.drop (0 + (u8s xs).length)) = u8s (xs ++ zs.drop xs.length) := by
  show (u8s zs).take 0 ++ u8s xs ++ (u8s zs).drop (0 + (u8s xs).length) = _
  simp [u8s]
theorem tail_src {A : List Value} {tail : List Int} {x y : Value} {w : World} {b n : Nat} {t : TypeId} (h : Blk w b (A ++ (u8s tail ++ [x, y])).toArray t) (hA : A.length = 8) : ∀ a, some (⟨b, 0 + 8, none⟩ : Addr) = some a → ∀ j v, (u8s (tail.take n))[j]? = some v → w.cell? (a.add j) = some v := by
  intro a ha j v hv
  obtain rfl := Option.some.inj ha
  rw [Addr.add_lit]
  refine gblk h (0 + 8 + j) ?_
  have hj := (List.getElem?_eq_some_iff.1 hv).1
  rw [u8s_len, List.length_take] at hj
  rw [List.getElem?_append_right (by omega), hA, show 0 + 8 + j - 8 = j by omega, List.getElem?_append_left (by rw [u8s_len]; omega)]
  simp only [u8s, List.getElem?_map, List.getElem?_take] at hv ⊢
  split at hv
  · exact hv
  · omega
theorem rdb_blk {w : World} {b S n : Nat} {bs : List Int} {t : TypeId} (h : Blk w b (u8s bs).toArray t) (hne : b ≠ S) (hn : n ≤ bs.length) : RdB w S (some ⟨b, 0, none⟩) n := fun j hj =>
  ⟨b, 0, bs[j]'(by omega), rfl, hne, h.lt, by rw [Nat.zero_add]; exact gblk h j (by simp [u8s])⟩

set_option maxHeartbeats 8000000 in
set_option maxRecDepth 10000 in
/-- Digest -/
theorem digest_ret (HB : Nat) (s0 s1 s2 s3 s4 s5 s6 s7 : Int) (tail : List Int) (u : Nat) (len : Int) (w : World) (hk : Blk w HB ([Value.int .u32 s0, .int .u32 s1, .int .u32 s2, .int .u32 s3, .int .u32 s4, .int .u32 s5, .int .u32 s6, .int .u32 s7] ++ (u8s tail ++ [Value.int .i64 (u : Nat), .int .u64 len])).toArray 43) (ht : tail.length = 64) (hu : u ≤ 63) (hR : RoundAt w) (hR1 : 1 < w.heap.size) :
    Ret Tryd.prog 11 #[.pointer (some ⟨HB, 0, none⟩)] w fun v w' => ∃ bs : List Int, v = .agg (u8s bs).toArray ∧ bs.length = 32 ∧ Byt bs ∧ Below w.heap.size w w' := by
  refine ret_of_T (vs := [.pointer (some ⟨HB, 0, none⟩)]) Tryd.func11 Tryd.ntmps11 rfl (Nat.le_of_ble_eq_true rfl) ?_
  have zH := hk.lt
  repeat (first | refine T_seq ?_ | refine T_block ?_ | refine T_inBlock ?_ | refine T_skip ?_)
  refine T_region ?_
  refine L_alloc Z31 rfl fun w1 h1 => ?_
  refine L_nil ?_
  have k2 : Blk w1 w.heap.size (u8s (List.replicate 32 0)).toArray 31 := h1.new
  have b1 : Below w.heap.size w w1 := h1.below (Below.refl _ _) (Nat.le_refl _)
  have sz1 := h1.size
  have z1 := h1.lt
  have hk1 := h1.blk hk (by omega)
  repeat (first | refine T_seq ?_ | refine T_block ?_ | refine T_inBlock ?_ | refine T_skip ?_)
  refine T_region ?_
  refine L_val _ _ (X_move) rfl ?_
  refine L_val _ _ (X_nilCheck rfl) rfl ?_
  refine L_val _ _ (X_field F43_0 rfl) rfl ?_
  refine L_val _ _ (X_loadAgg [Value.int .u32 s0, .int .u32 s1, .int .u32 s2, .int .u32 s3, .int .u32 s4, .int .u32 s5, .int .u32 s6, .int .u32 s7] A40 S40 rfl rfl (hst hk1)) rfl ?_
  refine L_alloc Z40 rfl fun w2 h2 => ?_
  refine L_storeAll [Value.int .u32 s0, .int .u32 s1, .int .u32 s2, .int .u32 s3, .int .u32 s4, .int .u32 s5, .int .u32 s6, .int .u32 s7] S40 rfl rfl rfl (by simp [Value.oneCell']) h2.new rfl fun w3 h3 => ?_
  refine L_nil ?_
  have h23 := h2.trans h3
  have sz3 := h23.size
  have z3 := h23.lt
  have k3 : Blk w3 w1.heap.size ([Value.int .u32 s0, .int .u32 s1, .int .u32 s2, .int .u32 s3, .int .u32 s4, .int .u32 s5, .int .u32 s6, .int .u32 s7] ++ []).toArray 40 := h23.new
  have k23 := h23.blk k2 (by omega)
  have hk3 := h23.blk hk1 (by omega)
  have b3 := h23.below b1 sz1
  repeat (first | refine T_seq ?_ | refine T_block ?_ | refine T_inBlock ?_ | refine T_skip ?_)
  refine T_region ?_
  refine L_alloc Z54 rfl fun w4 h4 => ?_
  refine L_nil ?_
  have sz4 := h4.size
  have z4 := h4.lt
  have k4 : Blk w4 w3.heap.size (u8s (List.replicate 128 0)).toArray 54 := h4.new
  have k34 := h4.blk k3 (by omega)
  have k24 := h4.blk k23 (by omega)
  have hk4 := h4.blk hk3 (by omega)
  have b4 := h4.below b3 (by omega)
  clear h1 h2 h3 h23 h4 k2 k3 k23 hk1 hk3 b1 b3
  have hlen : (u8s (tail.take u)).length = u := by rw [u8s_len, List.length_take]; omega
  generalize w1.heap.size = B3 at *
  generalize w3.heap.size = B4 at *
  repeat (first | refine T_seq ?_ | refine T_block ?_ | refine T_inBlock ?_ | refine T_skip ?_)
  refine T_draw (fun z => Blk z HB ([Value.int .u32 s0, .int .u32 s1, .int .u32 s2, .int .u32 s3, .int .u32 s4, .int .u32 s5, .int .u32 s6, .int .u32 s7] ++ (u8s tail ++ [Value.int .i64 (u : Nat), .int .u64 len])).toArray 43) 11 rfl rfl fun w5 hsm => ?_
  have hS := hsm.blk hk4
  refine D_take 0 _ rfl (by kernel_rfl) hS (fun w hw => X_sliceA U54 S5 rfl (by decide)) rfl ?_
  refine D_take 1 _ rfl (by kernel_rfl) hS (fun w hw => X_move) rfl ?_
  refine D_take 2 _ rfl (by kernel_rfl) hS (fun w hw => X_nilCheck rfl) rfl ?_
  refine D_take 3 _ rfl (by kernel_rfl) hS (fun w hw => X_field F43_1 rfl) rfl ?_
  refine D_take 4 _ rfl (by kernel_rfl) hS (fun w hw => X_move) rfl ?_
  refine D_take 5 _ rfl (by kernel_rfl) hS (fun w hw => X_nilCheck rfl) rfl ?_
  refine D_take 6 _ rfl (by kernel_rfl) hS (fun w hw => X_field F43_2 rfl) rfl ?_
  refine D_take 7 _ rfl (by kernel_rfl) hS (fun w hw => X_load A3 rfl (gblk hw 72 (h72 rfl ht))) rfl ?_
  refine D_take 8 _ rfl (by kernel_rfl) hS (fun w hw => X_sliceAH U41 S5 rfl rfl (by decide) (show u ≤ 64 by omega)) rfl ?_
  refine D_copyG 9 (u8s (tail.take u)) rfl (by kernel_rfl) U25 S5 rfl rfl (hsm.blk k4) (by rw [hlen]; omega) (by rw [hlen]; simp [u8s]; omega) (tail_src hS rfl) (fun h => by cases h) (u8s_one _) rfl ?_
  intro w6 h6
  refine ⟨fun _ => h6.blk hS (by omega), ?_⟩
  rw [hlen]
  refine D_val 10 _ _ rfl (by kernel_rfl) X_assign rfl (fun hb => h6.blk hS (by omega)) ?_
  refine D_done (by kernel_rfl) ?_
  have k46 := h6.new
  rw [copy_head] at k46
  have h46 := hsm.chg h6
  have k36 := h46.blk k34 (by omega)
  have k26 := h46.blk k24 (by omega)
  have hk6 := h46.blk hk4 (by omega)
  have b6 := h46.below b4 (by omega)
  have hl6 : (tail.take u ++ (List.replicate 128 0).drop (tail.take u).length).length = 128 := by simp; omega
  generalize tail.take u ++ (List.replicate 128 0).drop (tail.take u).length = zs at *
  clear hS h6 h46 hsm k4 k34 k24 hk4 b4
  repeat (first | refine T_seq ?_ | refine T_block ?_ | refine T_inBlock ?_ | refine T_skip ?_)
  refine T_region ?_
  refine L_val _ _ (X_move) rfl ?_
  refine L_val _ _ (X_indexA U54 S5 rfl rfl (show u < 128 by omega)) rfl ?_
  refine L_store (.int .u8 128) S5 rfl rfl rfl k46 (by simp [u8s]; omega) fun w7 h7 => ?_
  refine L_nil ?_
  have k47 := u8set h7
  have hl7 : (zs.set u 128).length = 128 := by simpa using hl6
  have k37 := h7.blk k36 (by omega)
  have k27 := h7.blk k26 (by omega)
  have hk7 := h7.blk hk6 (by omega)
  have b7 := h7.below b6 (by omega)
  have sz7 := h7.size
  generalize zs.set u 128 = ys at *
  clear h7 k46 k36 k26 hk6 b6
  repeat (first | refine T_seq ?_ | refine T_block ?_ | refine T_inBlock ?_ | refine T_skip ?_)
  refine T_region ?_
  refine L_val _ _ (X_assign) rfl ?_
  refine L_nil ?_
  repeat (first | refine T_seq ?_ | refine T_block ?_ | refine T_inBlock ?_ | refine T_skip ?_)
  refine T_region ?_
  refine L_val _ _ (X_move) rfl ?_
  refine L_val _ _ (X_add rfl rfl (by omega) (by omega)) rfl ?_
  refine L_val _ _ (X_add rfl rfl (by omega) (by omega)) rfl ?_
  refine L_val _ _ (X_cmp rfl rfl rfl) rfl ?_
  refine L_nil ?_
  refine T_ifJ [6, 4, 3, 2, 0] (fun vs u' => ∃ e : Nat, vs = [.int .i64 ((e + 8 : Nat) : Int), .pointer (some ⟨B4, 0, none⟩), .pointer (some ⟨B3, 0, none⟩), .pointer (some ⟨w.heap.size, 0, none⟩), .pointer (some ⟨HB, 0, none⟩)] ∧ e + 8 ≤ 128 ∧ w7 = u') rfl ?_ (fun ht3 join => ?_) (fun hf3 join => ?_)
  case refine_2 =>
    refine T_region ?_
    refine L_val _ _ (X_assign) rfl ?_
    refine L_nil ?_
    exact join _ _ ⟨120, rfl, by omega, rfl⟩
  case refine_3 =>
    refine T_skip ?_
    exact join _ _ ⟨56, rfl, by omega, rfl⟩
  rintro vs ρ1 u' ⟨e, rfl, he, rfl⟩
  repeat (first | refine T_seq ?_ | refine T_block ?_ | refine T_inBlock ?_ | refine T_skip ?_)
  refine T_draw (fun z => Blk z HB ([Value.int .u32 s0, .int .u32 s1, .int .u32 s2, .int .u32 s3, .int .u32 s4, .int .u32 s5, .int .u32 s6, .int .u32 s7] ++ (u8s tail ++ [Value.int .i64 (u : Nat), .int .u64 len])).toArray 43) 10 rfl rfl fun w8 hsm => ?_
  have hS := hsm.blk hk7
  refine D_take 0 _ rfl (by kernel_rfl) hS (fun w hw => X_move) rfl ?_
  refine D_take 1 _ rfl (by kernel_rfl) hS (fun w hw => X_subN (e + 8) 8 e rfl rfl rfl (by omega)) rfl ?_
  refine D_take 2 _ rfl (by kernel_rfl) hS (fun w hw => X_move) rfl ?_
  refine D_take 3 _ rfl (by kernel_rfl) hS (fun w hw => X_sliceALH (l := e) (h := e + 8) U54 S5 rfl rfl rfl (by omega) (by omega) (by omega)) rfl ?_
  refine D_take 4 _ rfl (by kernel_rfl) hS (fun w hw => X_move) rfl ?_
  refine D_take 5 _ rfl (by kernel_rfl) hS (fun w hw => X_nilCheck rfl) rfl ?_
  refine D_take 6 _ rfl (by kernel_rfl) hS (fun w hw => X_field F43_3 rfl) rfl ?_
  refine D_take 7 _ rfl (by kernel_rfl) hS (fun w hw => X_load A27 rfl (gblk hw 73 (h73 rfl ht))) rfl ?_
  refine D_take 8 _ rfl (by kernel_rfl) hS (fun w hw => X_shl rfl rfl (by decide)) rfl ?_
  refine D_callF 9 [.slice (some ⟨B4, 0 + e * 1, none⟩) (e + 8 - e) (128 - e), .int .u64 (IntKind.u64.wrap (len * 2 ^ (min (3 : Int).toNat IntKind.u64.bits)))] rfl (by kernel_rfl) E14 rfl rfl (put_ret B4 (0 + e * 1) (128 - e) (e + 8 - e) (by omega) ys 54 _ w8 (hsm.blk k47) (by omega)) ?_
  rintro v w9 ⟨rfl, ps, hpl, h9⟩
  refine ⟨fun _ => h9.blk hS (by omega), ?_⟩
  refine D_done (by kernel_rfl) ?_
  have h9' := hsm.chg h9
  have k49 := h9'.new
  have k39 := h9'.blk k37 (by omega)
  have k29 := h9'.blk k27 (by omega)
  have b9 := h9'.below b7 (by omega)
  have z39 := k39.lt
  have z29 := k29.lt
  have hcmp := compress_ret B3 s0 s1 s2 s3 s4 s5 s6 s7 [] 40 (some ⟨B4, 0, none⟩) (e + 8) 128 w9 (by omega) (by omega) k39 (fun i hi => by obtain ⟨x, hx⟩ := hR i hi; exact ⟨x, (below_cell b9 _ hR1).trans hx⟩) (Nat.lt_of_lt_of_le hR1 b9.size) (by omega) (rdb_blk k49 (by omega) (by omega))
  repeat (first | refine T_seq ?_ | refine T_block ?_ | refine T_inBlock ?_ | refine T_skip ?_)
  refine T_region ?_
  refine L_val _ _ (X_move) rfl ?_
  refine L_val _ _ (X_sliceAH (h := e + 8) U54 S5 rfl rfl (by decide) (by omega)) rfl ?_
  refine L_callF [.pointer (some ⟨B3, 0, none⟩), .slice (some ⟨B4, 0, none⟩) (e + 8) 128] E13 rfl rfl hcmp ?_
  rintro v w10 ⟨rfl, bt10, t0, t1, t2, t3, t4, t5, t6, t7, k310⟩
  refine L_nil ?_
  have k210 : Blk w10 w.heap.size (u8s (List.replicate 32 0)).toArray 31 := (bt10.oth _ z29 (by omega)).trans k29
  have b10 : Below w.heap.size w w10 := ⟨bt10.os.trans b9.os, bt10.tape.trans b9.tape, bt10.output.trans b9.output, Nat.le_trans b9.size bt10.size, fun k hk => (bt10.oth k (by omega) (by omega)).trans (b9.block k hk)⟩
  repeat (first | refine T_seq ?_ | refine T_block ?_ | refine T_inBlock ?_ | refine T_skip ?_)
  refine T_region ?_
  refine L_callF [.pointer (some ⟨B3, 0, none⟩)] E15 rfl rfl (pack_ret B3 t0 t1 t2 t3 t4 t5 t6 t7 [] 40 w10 k310) ?_
  rintro v w11 ⟨bs, rfl, hbl, hby, b11⟩
  refine L_storeAll (u8s bs) S31 rfl rfl (by rw [u8s_len]; exact hbl) (u8s_one _) (below_blk b11 k210 k210.lt) (by simp [u8s]) fun w12 h12 => ?_
  refine L_nil ?_
  exact T_retC (u8s bs) Tryd.func11 rfl A31 S31 (by rw [u8s_len]; exact hbl) rfl (gblk0 h12.new) ⟨bs, rfl, hbl, hby, h12.below (b10.trans (b11.mono b10.size)) (Nat.le_refl _)⟩

/-- l bytes can be read. -/
def RdA (w : World) (ap : Option Addr) (l : Nat) : Prop := ∀ j, j < l → ∃ b o x, ap = some ⟨b, o, none⟩ ∧ b < w.heap.size ∧ w.cell? ⟨b, o + j, none⟩ = some (.int .u8 x)
theorem RdA.rdb {w w1 : World} {ap : Option Addr} {l S : Nat} (h : RdA w ap l) (hb : Below w.heap.size w w1) (hS : w.heap.size ≤ S) : RdB w1 S ap l := fun j hj =>
  let ⟨b, o, x, h1, h2, h3⟩ := h j hj
  ⟨b, o, x, h1, by omega, Nat.lt_of_lt_of_le h2 hb.size, (below_cell hb _ h2).trans h3⟩
set_option maxHeartbeats 4000000 in
/-- Sum256 -/
theorem sum_ret (ap : Option Addr) (l c : Nat) (w : World) (hlc : l ≤ c) (hl6 : l ≤ 65536) (hp : RdA w ap l) (hnone : ap = none → l = 0) (hI : InitAt w) (hR : RoundAt w) (hR1 : 1 < w.heap.size) :
    Ret Tryd.prog 5 #[.slice ap l c] w fun v w' => ∃ bs : List Int, v = .agg (u8s bs).toArray ∧ bs.length = 32 ∧ Byt bs ∧ Below w.heap.size w w' := by
  refine ret_of_T (vs := [.slice ap l c]) Tryd.func5 Tryd.ntmps5 rfl (Nat.le_of_ble_eq_true rfl) ?_
  repeat (first | refine T_seq ?_ | refine T_block ?_ | refine T_inBlock ?_ | refine T_skip ?_)
  refine T_region ?_
  refine L_alloc Z31 rfl fun w1 h1 => ?_
  refine L_nil ?_
  have k2 : Blk w1 w.heap.size (u8s (List.replicate 32 0)).toArray 31 := h1.new
  have b1 : Below w.heap.size w w1 := h1.below (Below.refl _ _) (Nat.le_refl _)
  have sz1 := h1.size
  have z1 := h1.lt
  repeat (first | refine T_seq ?_ | refine T_block ?_ | refine T_inBlock ?_ | refine T_skip ?_)
  refine T_region ?_
  refine L_alloc Z43 rfl fun w2 h2 => ?_
  refine L_nil ?_
  have kH : Blk w2 w1.heap.size ([Value.int .u32 0, .int .u32 0, .int .u32 0, .int .u32 0, .int .u32 0, .int .u32 0, .int .u32 0, .int .u32 0] ++ (u8s (List.replicate 64 0) ++ [Value.int .i64 0, .int .u64 0])).toArray 43 := h2.new
  have k22 := h2.blk k2 (by omega)
  have b2 := h2.below b1 sz1
  have hI2 : InitAt w2 := by
    obtain ⟨s0, s1, s2, s3, s4, s5, s6, s7, hi⟩ := hI
    exact ⟨s0, s1, s2, s3, s4, s5, s6, s7, fun j v hv => (below_cell b2 _ (by omega)).trans (hi j v hv)⟩
  have z2 := k22.lt
  repeat (first | refine T_seq ?_ | refine T_block ?_ | refine T_inBlock ?_ | refine T_skip ?_)
  refine T_region ?_
  refine L_callF [.pointer (some ⟨w1.heap.size, 0, none⟩)] E9 rfl rfl (reset_ret w1.heap.size 0 0 0 0 0 0 0 0 (List.replicate 64 0) 0 0 w2 kH (by simp) hI2) ?_
  rintro v w3 ⟨rfl, t0, t1, t2, t3, t4, t5, t6, t7, h3⟩
  refine L_nil ?_
  have kH3 := h3.new
  have k23 := h3.blk k22 (by omega)
  have b3 := h3.below b2 sz1
  have hW := write_ret w1.heap.size t0 t1 t2 t3 t4 t5 t6 t7 (List.replicate 64 0) ap l c w3 kH3 (by simp) hlc hl6 (hp.rdb b3 sz1) hnone (fun i hi => by obtain ⟨x, hx⟩ := hR i hi; exact ⟨x, (below_cell b3 _ hR1).trans hx⟩) (Nat.lt_of_lt_of_le hR1 b3.size) (by omega)
  repeat (first | refine T_seq ?_ | refine T_block ?_ | refine T_inBlock ?_ | refine T_skip ?_)
  refine T_region ?_
  refine L_val _ _ (X_move) rfl ?_
  refine L_callF [.pointer (some ⟨w1.heap.size, 0, none⟩), .slice ap l c] E10 rfl rfl hW ?_
  rintro v w4 ⟨⟨v0, v1, rfl⟩, bt4, r0, r1, r2, r3, r4, r5, r6, r7, tail, u, len, htl, hu, kH4⟩
  refine L_val _ _ (X_move) rfl ?_
  refine L_val _ _ (X_extract rfl rfl) rfl ?_
  refine L_val _ _ (X_extract rfl rfl) rfl ?_
  refine L_nil ?_
  have z3 := k23.lt
  have k24 : Blk w4 w.heap.size (u8s (List.replicate 32 0)).toArray 31 := (bt4.oth _ z3 (by omega)).trans k23
  have b4 : Below w.heap.size w w4 := ⟨bt4.os.trans b3.os, bt4.tape.trans b3.tape, bt4.output.trans b3.output, Nat.le_trans b3.size bt4.size, fun k hk => (bt4.oth k (by omega) (by omega)).trans (b3.block k hk)⟩
  have hD := digest_ret w1.heap.size r0 r1 r2 r3 r4 r5 r6 r7 tail u len w4 kH4 htl hu (fun i hi => by obtain ⟨x, hx⟩ := hR i hi; exact ⟨x, (below_cell b4 _ hR1).trans hx⟩) (Nat.lt_of_lt_of_le hR1 b4.size)
  repeat (first | refine T_seq ?_ | refine T_block ?_ | refine T_inBlock ?_ | refine T_skip ?_)
  refine T_region ?_
  refine L_callF [.pointer (some ⟨w1.heap.size, 0, none⟩)] E11 rfl rfl hD ?_
  rintro v w5 ⟨bs, rfl, hbl, hby, b5⟩
  refine L_storeAll (u8s bs) S31 rfl rfl (by rw [u8s_len]; exact hbl) (u8s_one _) (below_blk b5 k24 k24.lt) (by simp [u8s]) fun w6 h6 => ?_
  refine L_nil ?_
  exact T_retC (u8s bs) Tryd.func5 rfl A31 S31 (by rw [u8s_len]; exact hbl) rfl (gblk0 h6.new) ⟨bs, rfl, hbl, hby, h6.below (b4.trans (b5.mono b4.size)) (Nat.le_refl _)⟩
end Go.Proofs.Qxb6500866aDoor
