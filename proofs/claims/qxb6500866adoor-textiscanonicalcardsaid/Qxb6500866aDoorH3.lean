/-
  The hash is total: Reset, Write.
-/
import Derived.Test.Qxb6500866aDoorH2
namespace Go.Proofs.Qxb6500866aDoor
set_option linter.unusedSimpArgs false
set_option linter.unusedVariables false
open Go.RowKit

theorem wrapu64 (n : Int) : IntKind.u64.wrap n = n % 18446744073709551616 := by simp [IntKind.wrap, IntKind.bits, IntKind.signed]
section
variable {A : List Value} {tail : List Int} {x y v : Value}
theorem h72 (hA : A.length = 8) (ht : tail.length = 64) : (A ++ (u8s tail ++ [x, y]))[72]? = some x := by
  rw [List.getElem?_append_right (by omega), List.getElem?_append_right (by rw [u8s_len]; omega), u8s_len, hA, ht]; rfl
theorem h73 (hA : A.length = 8) (ht : tail.length = 64) : (A ++ (u8s tail ++ [x, y]))[73]? = some y := by
  rw [List.getElem?_append_right (by omega), List.getElem?_append_right (by rw [u8s_len]; omega), u8s_len, hA, ht]; rfl
theorem set72 (hA : A.length = 8) (ht : tail.length = 64) : (A ++ (u8s tail ++ [x, y])).set 72 v = A ++ (u8s tail ++ [v, y]) := by
  rw [List.set_append_right _ _ (by omega), List.set_append_right _ _ (by rw [u8s_len]; omega), u8s_len, hA, ht]; rfl
theorem set73 (hA : A.length = 8) (ht : tail.length = 64) : (A ++ (u8s tail ++ [x, y])).set 73 v = A ++ (u8s tail ++ [x, v]) := by
  rw [List.set_append_right _ _ (by omega), List.set_append_right _ _ (by rw [u8s_len]; omega), u8s_len, hA, ht]; rfl
theorem copy_tail (hA : A.length = 8) (ht : tail.length = 64) (xs : List Int) (hx : xs.length ≤ 64) : ((A ++ (u8s tail ++ [x, y])).toArray.toList.take (0 + 8) ++ u8s xs ++ (A ++ (u8s tail ++ [x, y])).toArray.toList.drop (0 + 8 + (u8s xs).length)) = A ++ (u8s (xs ++ tail.drop xs.length) ++ [x, y]) := by
  have e1 : (A ++ (u8s tail ++ [x, y])).toArray.toList.take (0 + 8) = A := by
    show (A ++ (u8s tail ++ [x, y])).take (0 + 8) = A
    rw [List.take_append_of_le_length (by omega), List.take_of_length_le (by omega)]
  have e2 : (A ++ (u8s tail ++ [x, y])).toArray.toList.drop (0 + 8 + (u8s xs).length) = u8s (tail.drop xs.length) ++ [x, y] := by
    show (A ++ (u8s tail ++ [x, y])).drop (0 + 8 + (u8s xs).length) = _
    rw [u8s_len, List.drop_append, List.drop_of_length_le (by omega), hA, List.nil_append, show 0 + 8 + xs.length - 8 = xs.length by omega, List.drop_append_of_le_length (by rw [u8s_len]; omega)]
    simp [u8s]
  rw [e1, e2]
  simp [u8s]
end
theorem RdB.but {w w1 : World} {S : Nat} {ap : Option Addr} {l : Nat} (h : RdB w S ap l) (hb : But S w w1) : RdB w1 S ap l := fun j hj =>
  let ⟨b, o, x, h1, h2, h3, h4⟩ := h j hj
  ⟨b, o, x, h1, h2, Nat.lt_of_lt_of_le h3 hb.size, (hb.cell _ h3 h2).trans h4⟩
theorem RdB.mono {w : World} {S : Nat} {ap : Option Addr} {l l' : Nat} (h : RdB w S ap l) (hl : l' ≤ l) : RdB w S ap l' := fun j hj => h j (by omega)
theorem RdB.news {w : World} {S : Nat} {ap : Option Addr} {l : Nat} (h : RdB w S ap l) : ∃ xs : List Int, xs.length = l ∧ ∀ a, ap = some a → ∀ j v, (u8s xs)[j]? = some v → w.cell? (a.add j) = some v := by
  obtain ⟨xs, hl, hp⟩ := list_of (p := fun j (x : Int) => ∃ b o, ap = some ⟨b, o, none⟩ ∧ w.cell? ⟨b, o + j, none⟩ = some (.int .u8 x)) l fun j hj => by
    obtain ⟨b, o, x, h1, _, _, h4⟩ := h j hj
    exact ⟨x, b, o, h1, h4⟩
  refine ⟨xs, hl, fun a ha j v hv => ?_⟩
  simp only [u8s, List.getElem?_map, Option.map_eq_some_iff] at hv
  obtain ⟨x, hx, rfl⟩ := hv
  obtain ⟨b, o, h1, h2⟩ := hp j x hx
  rw [ha] at h1
  obtain rfl := Option.some.inj h1
  rw [Addr.add_lit]
  exact h2
theorem andn63 (t : Nat) (ht : t ≤ 65536) : bitB .andNot .i64 (t : Int) 63 = ((t - t % 64 : Nat) : Int) := by
  have e : (BitVec.ofInt 64 (t : Int) &&& ~~~BitVec.ofInt 64 63).toNat = t - t % 64 := by
    have h1 : BitVec.ofInt 64 (t : Int) &&& ~~~BitVec.ofInt 64 63 = BitVec.ofNat 64 (t - t % 64) := by
      apply BitVec.eq_of_getLsbD_eq
      intro i hi
      have hd : t - t % 64 = 2 ^ 6 * (t / 64) := by omega
      have h63 : (BitVec.ofInt 64 63).getLsbD i = decide (i < 6) := by
        have : BitVec.ofInt 64 63 = BitVec.ofNat 64 (2 ^ 6 - 1) := by decide
        rw [this, BitVec.getLsbD_ofNat, Nat.testBit_two_pow_sub_one]
        simp [hi]
      have ht' : BitVec.ofInt 64 (t : Int) = BitVec.ofNat 64 t := by simp
      rw [BitVec.getLsbD_and, BitVec.getLsbD_not, h63, ht', BitVec.getLsbD_ofNat, BitVec.getLsbD_ofNat, hd, Nat.testBit_two_pow_mul]
      simp only [hi, decide_true, Bool.true_and]
      by_cases h6 : i < 6
      · have : ¬ 6 ≤ i := by omega
        simp [h6, this]
      · have h6' : 6 ≤ i := by omega
        simp only [h6, decide_false, Bool.not_false, Bool.and_true, ge_iff_le, h6', decide_true, Bool.true_and]
        rw [show t / 64 = t >>> 6 by rw [Nat.shiftRight_eq_div_pow], Nat.testBit_shiftRight]
        congr 1
        omega
    rw [h1, BitVec.toNat_ofNat]
    omega
  show IntKind.i64.wrap (((BitVec.ofInt 64 (t : Int) &&& ~~~BitVec.ofInt 64 63).toNat : Nat) : Int) = _
  rw [e, IntKind.wrap_i64]
  omega
theorem X_andn63 {P : Program} {ρ : Env} {w : World} {dst : Option Tmp} {gd : Option (Nat × Bool)} {ty : TypeId} {pos : String} {after : Array Edge} {t t' : TypeId} {x y : Operand} (a : Nat) (ha : a ≤ 65536) (hx : ev ρ x = .int .i64 (a : Int)) (hy : ev ρ y = .int .i64 63) :
    (execOp (ev ρ) ⟨dst, .binOp .andNot t x y t', ty, pos, after, gd⟩).run P w = .ok (.value (.int .i64 ((a - a % 64 : Nat) : Int))) w := by
  rw [X_bit rfl hx hy, andn63 a ha]

/-- Package digest's first chaining value. -/
def InitAt (w : World) : Prop := ∃ s0 s1 s2 s3 s4 s5 s6 s7 : Int, ∀ j v, [Value.int .u32 s0, .int .u32 s1, .int .u32 s2, .int .u32 s3, .int .u32 s4, .int .u32 s5, .int .u32 s6, .int .u32 s7][j]? = some v → w.cell? ⟨0, 0 + j, none⟩ = some v

set_option maxHeartbeats 4000000 in
/-- Reset -/
theorem reset_ret (HB : Nat) (s0 s1 s2 s3 s4 s5 s6 s7 : Int) (tail : List Int) (u l : Int) (w : World) (hk : Blk w HB ([Value.int .u32 s0, .int .u32 s1, .int .u32 s2, .int .u32 s3, .int .u32 s4, .int .u32 s5, .int .u32 s6, .int .u32 s7] ++ (u8s tail ++ [Value.int .i64 u, .int .u64 l])).toArray 43) (ht : tail.length = 64) (hI : InitAt w) :
    Ret Tryd.prog 9 #[.pointer (some ⟨HB, 0, none⟩)] w fun v w' => v = .tuple #[] ∧ ∃ s0 s1 s2 s3 s4 s5 s6 s7 : Int, Chg w w' HB (.cells ([Value.int .u32 s0, .int .u32 s1, .int .u32 s2, .int .u32 s3, .int .u32 s4, .int .u32 s5, .int .u32 s6, .int .u32 s7] ++ (u8s tail ++ [Value.int .i64 0, .int .u64 0])).toArray 43 (0, 0)) := by
  refine ret_of_T (vs := [.pointer (some ⟨HB, 0, none⟩)]) Tryd.func9 Tryd.ntmps9 rfl (Nat.le_of_ble_eq_true rfl) ?_
  obtain ⟨i0, i1, i2, i3, i4, i5, i6, i7, hi⟩ := hI
  repeat (first | refine T_seq ?_ | refine T_block ?_ | refine T_inBlock ?_ | refine T_skip ?_)
  refine T_region ?_
  refine L_val _ _ (X_move) rfl ?_
  refine L_val _ _ (X_loadAgg [Value.int .u32 i0, .int .u32 i1, .int .u32 i2, .int .u32 i3, .int .u32 i4, .int .u32 i5, .int .u32 i6, .int .u32 i7] A40 S40 rfl rfl hi) rfl ?_
  refine L_val _ _ (X_nilCheck rfl) rfl ?_
  refine L_val _ _ (X_field F43_0 rfl) rfl ?_
  refine L_storeAgg [Value.int .u32 i0, .int .u32 i1, .int .u32 i2, .int .u32 i3, .int .u32 i4, .int .u32 i5, .int .u32 i6, .int .u32 i7] S40 rfl rfl rfl (by simp [Value.oneCell']) hk (by simp [u8s]) fun w1 h1 => ?_
  refine L_nil ?_
  have k1 : Blk w1 HB ([Value.int .u32 i0, .int .u32 i1, .int .u32 i2, .int .u32 i3, .int .u32 i4, .int .u32 i5, .int .u32 i6, .int .u32 i7] ++ (u8s tail ++ [Value.int .i64 u, .int .u64 l])).toArray 43 := h1.new
  repeat (first | refine T_seq ?_ | refine T_block ?_ | refine T_inBlock ?_ | refine T_skip ?_)
  refine T_region ?_
  refine L_val _ _ (X_move) rfl ?_
  refine L_val _ _ (X_nilCheck rfl) rfl ?_
  refine L_val _ _ (X_field F43_2 rfl) rfl ?_
  refine L_store (.int .i64 0) S3 rfl rfl rfl k1 (by simp [u8s]; omega) fun w2 h2 => ?_
  refine L_nil ?_
  have k2 := blk_set h2
  rw [show (0 + 72 : Nat) = 72 from rfl, set72 rfl ht] at k2
  refine T_region ?_
  refine L_val _ _ (X_move) rfl ?_
  refine L_val _ _ (X_nilCheck rfl) rfl ?_
  refine L_val _ _ (X_field F43_3 rfl) rfl ?_
  refine L_store (.int .u64 0) S27 rfl rfl rfl k2 (by simp [u8s]; omega) fun w3 h3 => ?_
  refine L_nil ?_
  have k3 := blk_set h3
  rw [show (0 + 73 : Nat) = 73 from rfl, set73 rfl ht] at k3
  exact T_end0 Tryd.func9 rfl ⟨rfl, i0, i1, i2, i3, i4, i5, i6, i7, k3, fun k hk => (h3.oth k hk).trans ((h2.oth k hk).trans (h1.oth k hk)), Nat.le_trans h1.size (Nat.le_trans h2.size h3.size), h3.os.trans (h2.os.trans h1.os), h3.tape.trans (h2.tape.trans h1.tape), h3.output.trans (h2.output.trans h1.output)⟩

set_option maxHeartbeats 8000000 in
set_option maxRecDepth 10000 in
/-- Write, into a hasher that was fed nothing -/
theorem write_ret (HB : Nat) (s0 s1 s2 s3 s4 s5 s6 s7 : Int) (tail : List Int) (ap : Option Addr) (l c : Nat) (w : World) (hk : Blk w HB ([Value.int .u32 s0, .int .u32 s1, .int .u32 s2, .int .u32 s3, .int .u32 s4, .int .u32 s5, .int .u32 s6, .int .u32 s7] ++ (u8s tail ++ [Value.int .i64 0, .int .u64 0])).toArray 43) (ht : tail.length = 64) (hlc : l ≤ c) (hl6 : l ≤ 65536) (hp : RdB w HB ap l) (hnone : ap = none → l = 0) (hR : RoundAt w) (hR1 : 1 < w.heap.size) (hH : HB ≠ 1) :
    Ret Tryd.prog 10 #[.pointer (some ⟨HB, 0, none⟩), .slice ap l c] w fun v w' => (∃ v0 v1, v = .tuple #[v0, v1]) ∧ But HB w w' ∧ ∃ (s0 s1 s2 s3 s4 s5 s6 s7 : Int) (tail : List Int) (u : Nat) (len : Int), tail.length = 64 ∧ u ≤ 63 ∧ Blk w' HB ([Value.int .u32 s0, .int .u32 s1, .int .u32 s2, .int .u32 s3, .int .u32 s4, .int .u32 s5, .int .u32 s6, .int .u32 s7] ++ (u8s tail ++ [Value.int .i64 (u : Nat), .int .u64 len])).toArray 43 := by
  refine ret_of_T (vs := [.pointer (some ⟨HB, 0, none⟩), .slice ap l c]) Tryd.func10 Tryd.ntmps10 rfl (Nat.le_of_ble_eq_true rfl) ?_
  have e17 : cmpB .gtr (IntKind.u64.wrap (l : Int)) (IntKind.u64.wrap (arB .sub 2305843009213693951 0)) = false := by
    simp only [cmpB, arB, wrapu64]
    simp
    omega
  repeat (first | refine T_seq ?_ | refine T_block ?_ | refine T_inBlock ?_ | refine T_skip ?_)
  refine T_region ?_
  refine L_val _ _ (X_assign) rfl ?_
  refine L_val _ _ (X_assign) rfl ?_
  refine L_nil ?_
  repeat (first | refine T_seq ?_ | refine T_block ?_ | refine T_inBlock ?_ | refine T_skip ?_)
  refine T_region ?_
  refine L_val _ _ (X_move) rfl ?_
  refine L_val _ _ (X_lenS U25 rfl) rfl ?_
  refine L_val _ _ (X_convInt U3 U27 rfl) rfl ?_
  refine L_val _ _ (X_move) rfl ?_
  refine L_val _ _ (X_nilCheck rfl) rfl ?_
  refine L_val _ _ (X_field F43_3 rfl) rfl ?_
  refine L_val _ _ (X_load A27 rfl (gblk hk 73 (h73 rfl ht))) rfl ?_
  refine L_val _ _ (X_ar rfl rfl rfl) rfl ?_
  refine L_val _ _ (X_cmpR false rfl rfl rfl e17) rfl ?_
  refine L_nil ?_
  refine T_false rfl ?_
  repeat (first | refine T_seq ?_ | refine T_block ?_ | refine T_inBlock ?_ | refine T_skip ?_)
  refine T_region ?_
  refine L_val _ _ (X_move) rfl ?_
  refine L_val _ _ (X_lenS U25 rfl) rfl ?_
  refine L_val _ _ (X_assign) rfl ?_
  refine L_nil ?_
  repeat (first | refine T_seq ?_ | refine T_block ?_ | refine T_inBlock ?_ | refine T_skip ?_)
  refine T_region ?_
  refine L_val _ _ (X_move) rfl ?_
  refine L_val _ _ (X_nilCheck rfl) rfl ?_
  refine L_val _ _ (X_field F43_3 rfl) rfl ?_
  refine L_val _ _ (X_load A27 rfl (gblk hk 73 (h73 rfl ht))) rfl ?_
  refine L_val _ _ (X_move) rfl ?_
  refine L_val _ _ (X_convInt U3 U27 rfl) rfl ?_
  refine L_val _ _ (X_ar rfl rfl rfl) rfl ?_
  refine L_val _ _ (X_nilCheck rfl) rfl ?_
  refine L_val _ _ (X_field F43_3 rfl) rfl ?_
  refine L_store (.int .u64 (IntKind.u64.wrap (arB .add 0 (IntKind.u64.wrap (l : Int))))) S27 rfl rfl rfl hk (by simp [u8s]; omega) fun w1 h1 => ?_
  refine L_nil ?_
  have k1 := blk_set h1
  rw [show (0 + 73 : Nat) = 73 from rfl, set73 rfl ht] at k1
  have bt1 : But HB w w1 := (But.refl HB w).chg h1 (.inl rfl)
  generalize IntKind.u64.wrap (arB .add 0 (IntKind.u64.wrap (l : Int))) = len at *
  repeat (first | refine T_seq ?_ | refine T_block ?_ | refine T_inBlock ?_ | refine T_skip ?_)
  refine T_region ?_
  refine L_val _ _ (X_move) rfl ?_
  refine L_val _ _ (X_nilCheck rfl) rfl ?_
  refine L_val _ _ (X_field F43_2 rfl) rfl ?_
  refine L_val _ _ (X_load A3 rfl (gblk k1 72 (h72 rfl ht))) rfl ?_
  refine L_val _ _ (X_cmp rfl rfl rfl) rfl ?_
  refine L_nil ?_
  refine T_false rfl ?_
  refine T_skip ?_
  repeat (first | refine T_seq ?_ | refine T_block ?_ | refine T_inBlock ?_ | refine T_skip ?_)
  refine T_region ?_
  refine L_val _ _ (X_move) rfl ?_
  refine L_val _ _ (X_lenS U25 rfl) rfl ?_
  refine L_val _ _ (X_andn63 l hl6 rfl rfl) rfl ?_
  refine L_val _ _ (X_assign) rfl ?_
  refine L_nil ?_
  repeat (first | refine T_seq ?_ | refine T_block ?_ | refine T_inBlock ?_ | refine T_skip ?_)
  refine T_region ?_
  refine L_val _ _ (X_move) rfl ?_
  refine L_val _ _ (X_cmp rfl rfl rfl) rfl ?_
  refine L_nil ?_
  refine T_ifJ [0, 1, 6] (fun vs u => ∃ (ap : Option Addr) (l' c : Nat) (s0 s1 s2 s3 s4 s5 s6 s7 : Int), vs = [.pointer (some ⟨HB, 0, none⟩), .slice ap l' c, .int .i64 l] ∧ l' ≤ 63 ∧ l' ≤ c ∧ RdB w HB ap l' ∧ (ap = none → l' = 0) ∧ But HB w u ∧ Blk u HB ([Value.int .u32 s0, .int .u32 s1, .int .u32 s2, .int .u32 s3, .int .u32 s4, .int .u32 s5, .int .u32 s6, .int .u32 s7] ++ (u8s tail ++ [Value.int .i64 0, .int .u64 len])).toArray 43) rfl ?_ (fun ht3 join => ?_) (fun hf3 join => ?_)
  · clear k1 bt1 h1 hp hnone hlc hk
    rintro vs ρ1 u ⟨ap', l', c', s0, s1, s2, s3, s4, s5, s6, s7, rfl, hl63, hlc', hp, hnone, bt, k⟩
    obtain ⟨xs, hxl, hxs⟩ := (hp.but bt).news
    repeat (first | refine T_seq ?_ | refine T_block ?_ | refine T_inBlock ?_ | refine T_skip ?_)
    refine T_region ?_
    refine L_val _ _ (X_move) rfl ?_
    refine L_val _ _ (X_move) rfl ?_
    refine L_val _ _ (X_nilCheck rfl) rfl ?_
    refine L_val _ _ (X_field F43_1 rfl) rfl ?_
    refine L_val _ _ (X_sliceA U41 S5 rfl (by decide)) rfl ?_
    refine L_val _ _ (X_move) rfl ?_
    refine L_copyG (u8s xs) U25 S5 rfl rfl k (by rw [u8s_len]; omega) (by simp [u8s]; omega) hxs (fun h => by have := hnone h; have : xs = [] := List.eq_nil_of_length_eq_zero (by omega); simp [this, u8s]) (u8s_one _) rfl fun u2 h2 => ?_
    have k2 := h2.new
    rw [copy_tail rfl ht xs (by omega)] at k2
    refine L_val _ _ (X_nilCheck rfl) rfl ?_
    refine L_val _ _ (X_field F43_2 rfl) rfl ?_
    refine L_store (.int .i64 (u8s xs).length) S3 rfl rfl rfl k2 (by simp [u8s]; omega) fun u3 h3 => ?_
    refine L_nil ?_
    have k3 := blk_set h3
    have ht2 : (xs ++ tail.drop xs.length).length = 64 := by simp; omega
    rw [show (0 + 72 : Nat) = 72 from rfl, set72 rfl ht2] at k3
    repeat (first | refine T_seq ?_ | refine T_block ?_ | refine T_inBlock ?_ | refine T_skip ?_)
    refine T_region ?_
    refine L_val _ _ (X_move) rfl ?_
    refine L_val _ _ (X_assign) rfl ?_
    refine L_val _ _ (X_assign) rfl ?_
    refine L_nil ?_
    exact T_ret2 Tryd.func10 rfl ⟨⟨_, _, rfl⟩, (bt.chg h2 (.inl rfl)).chg h3 (.inl rfl), _, _, _, _, _, _, _, _, _, _, _, ht2, by rw [u8s_len]; omega, k3⟩
  · have h64 : 64 ≤ l := by simp [cmpB] at ht3; omega
    obtain ⟨pb, po, _, rfl, hpS, hpb, _⟩ := hp 0 (by omega)
    generalize hW : l - l % 64 = W at *
    have hWl : W ≤ l := by omega
    repeat (first | refine T_seq ?_ | refine T_block ?_ | refine T_inBlock ?_ | refine T_skip ?_)
    refine T_draw (fun _ => True) 7 rfl rfl fun u1 hsm => ?_
    refine D_take 0 _ rfl (by kernel_rfl) trivial (fun w hw => X_move) rfl ?_
    refine D_take 1 _ rfl (by kernel_rfl) trivial (fun w hw => X_nilCheck rfl) rfl ?_
    refine D_take 2 _ rfl (by kernel_rfl) trivial (fun w hw => X_field F43_0 rfl) rfl ?_
    refine D_take 3 _ rfl (by kernel_rfl) trivial (fun w hw => X_move) rfl ?_
    refine D_take 4 _ rfl (by kernel_rfl) trivial (fun w hw => X_move) rfl ?_
    refine D_take 5 _ rfl (by kernel_rfl) trivial (fun w hw => X_sliceH U25 S5 rfl rfl (show W ≤ c by omega)) rfl ?_
    refine D_callF 6 [.pointer (some ⟨HB, 0 + 0, none⟩), .slice (some ⟨pb, po, none⟩) W c] rfl (by kernel_rfl) E13 rfl rfl (compress_ret HB s0 s1 s2 s3 s4 s5 s6 s7 _ 43 (some ⟨pb, po, none⟩) W c u1 (by omega) (by omega) (hsm.blk k1) (fun i hi => by obtain ⟨x, hx⟩ := hR i hi; exact ⟨x, ((bt1.sm hsm).cell _ hR1 (Ne.symm hH)).trans hx⟩) (Nat.lt_of_lt_of_le hR1 (bt1.sm hsm).size) hH ((hp.mono hWl).but (bt1.sm hsm))) ?_
    rintro v u2 ⟨rfl, bt2, t0, t1, t2, t3, t4, t5, t6, t7, k2⟩
    refine ⟨fun _ => trivial, ?_⟩
    refine D_done (by kernel_rfl) ?_
    have bt12 : But HB w u2 := ⟨bt2.os.trans (bt1.sm hsm).os, bt2.tape.trans (bt1.sm hsm).tape, bt2.output.trans (bt1.sm hsm).output, Nat.le_trans (bt1.sm hsm).size bt2.size, fun k hk hne => (bt2.oth k (Nat.lt_of_lt_of_le hk (bt1.sm hsm).size) hne).trans ((bt1.sm hsm).oth k hk hne)⟩
    refine T_region ?_
    refine L_val _ _ (X_move) rfl ?_
    refine L_val _ _ (X_move) rfl ?_
    refine L_val _ _ (X_sliceLX (l := W) U25 S5 rfl rfl hWl) rfl ?_
    refine L_val _ _ (X_assign) rfl ?_
    refine L_nil ?_
    refine join _ _ ⟨_, l - W, c - W, _, _, _, _, _, _, _, _, rfl, by omega, by omega, ?_, ?_, bt12, k2⟩
    · intro j hj
      have hcW : c ≠ W := by omega
      obtain ⟨b, o, x, he, g1, g2, g3⟩ := hp (W + j) (by omega)
      cases he
      refine ⟨pb, po + W * 1, x, by simp [hcW], g1, g2, ?_⟩
      rw [show po + W * 1 + j = po + (W + j) by omega]
      exact g3
    · intro h
      split at h <;> cases h
  · have h0 : l - l % 64 = 0 := by simp [cmpB] at hf3; omega
    refine T_skip ?_
    exact join _ _ ⟨ap, l, c, _, _, _, _, _, _, _, _, rfl, by omega, hlc, hp, hnone, bt1, k1⟩
end Go.Proofs.Qxb6500866aDoor
