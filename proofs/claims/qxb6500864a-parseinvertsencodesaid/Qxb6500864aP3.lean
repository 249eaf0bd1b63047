/-
  two, eight, PutBE16, PutBE64, octets, Append.
-/
import Derived.Test.Qxb6500864aP2
namespace Go.Proofs.Qxb6500864a
set_option linter.unusedSimpArgs false
set_option linter.unusedVariables false
open Go.RowKit
section
variable {P : Program} {ρ : Env} {w : World} {dst : Option Tmp} {gd : Option (Nat × Bool)} {ty : TypeId} {pos : String} {after : Array Edge}
theorem X_sliceA {t e : TypeId} {x : Operand} {m b o : Nat} {sz : Nat} (ht : UN P t (.array m e)) (hs : SZ P e sz) (hx : ev ρ x = .pointer (some ⟨b, o, none⟩)) (hm : 0 < m) :
    (execOp (ev ρ) ⟨dst, .slice t x none none none, ty, pos, after, gd⟩).run P w = .ok (.value (.slice (some ⟨b, o, none⟩) m m)) w := by
  have h1 := ht w
  have h2 := hs w
  simp [execOp, Instr.sliceAt, Instr.slice, Instr.sliceBounds, Instr.sureAddr, hx, h1, h2, show ¬ m = 0 by omega, Addr.add_lit]
theorem X_sliceAL {t e : TypeId} {x y : Operand} {m b o l : Nat} {sz : Nat} {q : IntKind} (ht : UN P t (.array m e)) (hs : SZ P e sz) (hx : ev ρ x = .pointer (some ⟨b, o, none⟩)) (hy : ev ρ y = .int q (l : Int)) (hl : l < m) :
    (execOp (ev ρ) ⟨dst, .slice t x (some y) none none, ty, pos, after, gd⟩).run P w = .ok (.value (.slice (some ⟨b, o + l * sz, none⟩) (m - l) (m - l))) w := by
  have h1 := ht w
  have h2 := hs w
  have hb := fun code => run_bound (P := P) (w := w) (k := q) (code := code) (Nat.le_of_lt hl)
  simp [execOp, Instr.sliceAt, Instr.slice, Instr.sliceBounds, Instr.sureAddr, hx, hy, h1, h2, hb, show ¬ m = l by omega, Addr.add_lit]
end
/-- All is as it was but for block b. -/
structure But (b : Nat) (w w' : World) : Prop where
  os : w'.os = w.os
  tape : w'.tape = w.tape
  output : w'.output = w.output
  size : w.heap.size ≤ w'.heap.size
  oth : ∀ k, k < w.heap.size → k ≠ b → w'.heap[k]? = w.heap[k]?
theorem But.refl (b : Nat) (w : World) : But b w w := ⟨rfl, rfl, rfl, Nat.le_refl _, fun _ _ _ => rfl⟩
theorem But.chg {w w1 w2 : World} {b b2 : Nat} {o : Obj} (h : But b w w1) (h2 : Chg w1 w2 b2 o) (hb : b2 = b ∨ w.heap.size ≤ b2) : But b w w2 :=
  ⟨h2.os.trans h.os, h2.tape.trans h.tape, h2.output.trans h.output, Nat.le_trans h.size h2.size, fun k hk hne => (h2.oth k (by omega)).trans (h.oth k hk hne)⟩
theorem But.below {w0 w w' : World} {b B : Nat} (h : But b w w') (h0 : Below B w0 w) (hb : B ≤ b) (hB : B ≤ w.heap.size) : Below B w0 w' :=
  ⟨h.os.trans h0.os, h.tape.trans h0.tape, h.output.trans h0.output, Nat.le_trans h0.size h.size, fun k hk => (h.oth k (by omega) (by omega)).trans (h0.block k hk)⟩
theorem But.blk {w w' : World} {b k : Nat} {c : Array Value} {t : TypeId} (h : But b w w') (hb : Blk w k c t) (hne : k ≠ b) : Blk w' k c t := (h.oth k hb.lt hne).trans hb

def two (v : Nat) : List Nat := [v / 256, v % 256]
def eight (v : Nat) : List Nat := (List.range 8).map fun i => v / 256 ^ (7 - i) % 256
theorem eight_len (v : Nat) : (eight v).length = 8 := by simp [eight]
theorem bv_len (l : List Nat) : (bv l).length = l.length := by simp [bv]
theorem bv_one (l : List Nat) : ∀ v ∈ bv l, v.oneCell' = true := by
  intro v hv
  obtain ⟨x, _, rfl⟩ := List.mem_map.1 hv
  rfl
theorem bv_set (l : List Nat) (i x : Nat) : (bv l).set i (.int .u8 (x : Int)) = bv (l.set i x) := by simp [bv, List.map_set]
theorem bset {w w1 : World} {b i : Nat} {l : List Nat} {t : TypeId} {x : Nat} (h : Chg w w1 b (.cells ((bv l).toArray.setIfInBounds i (.int .u8 (x : Int))) t (0, 0))) : Blk w1 b (bv (l.set i x)).toArray t := by
  have := h.new
  rw [← bv_set]
  simpa using this
/-- two -/
theorem two_ret (v : Nat) (hv : v < 65536) (w : World) : Ret Try.prog 38 #[.int .u16 (v : Int)] w fun u w' => u = .slice (some ⟨w.heap.size, 0, none⟩) 2 2 ∧ Blk w' w.heap.size (bv (two v)).toArray 5 ∧ Below w.heap.size w w' := by
  refine ret_of_T (vs := [.int .u16 (v : Int)]) Try.func38 Try.ntmps38 rfl (Nat.le_of_ble_eq_true rfl) ?_
  repeat (first | refine T_seq ?_ | refine T_block ?_ | refine T_inBlock ?_ | refine T_skip ?_)
  refine T_region ?_
  refine L_val _ _ (X_assign) rfl ?_
  refine L_nil ?_
  repeat (first | refine T_seq ?_ | refine T_block ?_ | refine T_inBlock ?_ | refine T_skip ?_)
  refine T_region ?_
  refine L_val _ _ (X_move) rfl ?_
  refine L_val _ _ (X_quoN v 256 rfl rfl (by decide) hv) rfl ?_
  refine L_val _ _ (X_convN (v / 256) U27 U5 rfl (show v / 256 < 256 by omega)) rfl ?_
  refine L_val _ _ (X_move) rfl ?_
  refine L_val _ _ (X_remN v 256 rfl rfl (by decide)) rfl ?_
  refine L_val _ _ (X_convN (v % 256) U27 U5 rfl (show v % 256 < 256 by omega)) rfl ?_
  refine L_buildSlice (bv (two v)).toArray 5 (by kernel_rfl) rfl fun w1 h1 => ?_
  refine L_val _ _ (X_assign) rfl ?_
  refine L_nil ?_
  exact T_ret1 Try.func38 rfl ⟨rfl, h1.new, h1.below (Below.refl _ _) (Nat.le_refl _)⟩
def eiAt (v j : Nat) : List Nat := List.replicate (8 - j) 0 ++ (eight v).drop (8 - j)
theorem eiAt_len (v j : Nat) (hj : j ≤ 8) : (eiAt v j).length = 8 := by simp [eiAt, eight_len]
theorem eiAt_step (v j : Nat) (hj : j < 8) : (eiAt v j).set (7 - j) (v / 256 ^ j % 256) = eiAt v (j + 1) := by
  have : j = 0 ∨ j = 1 ∨ j = 2 ∨ j = 3 ∨ j = 4 ∨ j = 5 ∨ j = 6 ∨ j = 7 := by omega
  rcases this with rfl | rfl | rfl | rfl | rfl | rfl | rfl | rfl <;> rfl
set_option maxHeartbeats 4000000 in
/-- eight -/
theorem eight_ret (v : Nat) (hv : v < 18446744073709551616) (w : World) : Ret Try.prog 37 #[.int .u64 (v : Int)] w fun u w' => u = .slice (some ⟨w.heap.size, 0, none⟩) 8 8 ∧ Blk w' w.heap.size (bv (eight v)).toArray 5 ∧ Below w.heap.size w w' := by
  refine ret_of_T (vs := [.int .u64 (v : Int)]) Try.func37 Try.ntmps37 rfl (Nat.le_of_ble_eq_true rfl) ?_
  repeat (first | refine T_seq ?_ | refine T_block ?_ | refine T_inBlock ?_ | refine T_skip ?_)
  refine T_region ?_
  refine L_val _ _ (X_assign) rfl ?_
  refine L_nil ?_
  repeat (first | refine T_seq ?_ | refine T_block ?_ | refine T_inBlock ?_ | refine T_skip ?_)
  refine T_region ?_
  refine L_make (l := 8) (c := 8) Try.underlying25 I5 rfl rfl (Nat.le_refl _) (by omega) (by simp only [maxLen]; omega) rfl fun w1 h1 => ?_
  refine L_val _ _ (X_assign) rfl ?_
  refine L_nil ?_
  have b1 : Below w.heap.size w w1 := h1.below (Below.refl _ _) (Nat.le_refl _)
  have k1 : Blk w1 w.heap.size (bv (eiAt v 0)).toArray 5 := by
    have e : (bv (eiAt v 0)).toArray = madeCells (Value.cells (.int .u8 0)) (8 * 1) := by kernel_rfl
    rw [e]; exact h1.new
  repeat (first | refine T_seq ?_ | refine T_block ?_ | refine T_inBlock ?_ | refine T_skip ?_)
  refine T_region ?_
  refine L_val _ _ (X_assign) rfl ?_
  refine L_nil ?_
  repeat (first | refine T_seq ?_ | refine T_block ?_ | refine T_inBlock ?_ | refine T_skip ?_)
  refine T_loopS [4, 3, 0] (fun m vs z => ∃ j : Nat, vs = [.int .i64 (7 - (j : Int)), .slice (some ⟨w.heap.size, 0, none⟩) 8 8, .int .u64 ((v / 256 ^ j : Nat) : Int)] ∧ j ≤ 8 ∧ m = 8 - j ∧ Blk z w.heap.size (bv (eiAt v j)).toArray 5 ∧ Below w.heap.size w z) 8 ⟨0, by rw [Nat.pow_zero, Nat.div_one]; rfl, by omega, rfl, k1, b1⟩ ?_
  rintro m vs ρ z ⟨j, rfl, hj, rfl, kz, bz⟩ ih
  repeat (first | refine T_seq ?_ | refine T_block ?_ | refine T_inBlock ?_ | refine T_skip ?_)
  rcases Nat.lt_or_ge j 8 with hlt | hge
  case inr =>
    obtain rfl : j = 8 := by omega
    refine T_region ?_
    refine L_val _ _ (X_move) rfl ?_
    refine L_val _ _ (X_cmpR false rfl rfl rfl (by decide)) rfl ?_
    refine L_nil ?_
    refine T_false rfl ?_
    refine T_exit rfl ?_
    repeat (first | refine T_seq ?_ | refine T_block ?_ | refine T_inBlock ?_ | refine T_skip ?_)
    refine T_region ?_
    refine L_val _ _ (X_move) rfl ?_
    refine L_val _ _ (X_assign) rfl ?_
    refine L_nil ?_
    exact T_ret1 Try.func37 rfl ⟨rfl, kz, bz⟩
  have e1 : cmpB .geq (7 - (j : Int)) 0 = true := by simp [cmpB]; omega
  refine T_region ?_
  refine L_val _ _ (X_move) rfl ?_
  refine L_val _ _ (X_cmpR true rfl rfl rfl e1) rfl ?_
  refine L_nil ?_
  refine T_true rfl ?_
  have e2 : (7 - (j : Int)) = ((7 - j : Nat) : Int) := by omega
  have hvj : v / 256 ^ j < 18446744073709551616 := Nat.lt_of_le_of_lt (Nat.div_le_self _ _) hv
  repeat (first | refine T_seq ?_ | refine T_block ?_ | refine T_inBlock ?_ | refine T_skip ?_)
  refine T_region ?_
  refine L_val _ _ (X_move) rfl ?_
  refine L_val _ _ (X_move) rfl ?_
  refine L_val _ _ (X_move) rfl ?_
  refine L_val _ _ (X_remN (v / 256 ^ j) 256 rfl rfl (by decide)) rfl ?_
  refine L_val _ _ (X_convN (v / 256 ^ j % 256) U28 U5 rfl (show v / 256 ^ j % 256 < 256 by omega)) rfl ?_
  refine L_val _ _ (X_index (j := 7 - j) U25 S5 rfl (by exact congrArg (Value.int .i64) e2) (by omega)) rfl ?_
  refine L_store (.int .u8 ((v / 256 ^ j % 256 : Nat) : Int)) S5 rfl rfl rfl kz (by simp [bv_len, eiAt_len v j hj]; omega) fun z1 h1 => ?_
  refine L_nil ?_
  have k2 : Blk z1 w.heap.size (bv (eiAt v (j + 1))).toArray 5 := by
    have := bset h1
    rw [show 0 + (7 - j) * 1 = 7 - j by omega, eiAt_step v j hlt] at this
    exact this
  repeat (first | refine T_seq ?_ | refine T_block ?_ | refine T_inBlock ?_ | refine T_skip ?_)
  refine T_region ?_
  refine L_val _ _ (X_move) rfl ?_
  refine L_val _ _ (X_quoN (v / 256 ^ j) 256 rfl rfl (by decide) hvj) rfl ?_
  refine L_val _ _ (X_assign) rfl ?_
  refine L_nil ?_
  repeat (first | refine T_seq ?_ | refine T_block ?_ | refine T_inBlock ?_ | refine T_skip ?_)
  refine T_region ?_
  refine L_val _ _ (X_move) rfl ?_
  refine L_val _ _ (X_sub rfl rfl (by omega) (by omega)) rfl ?_
  refine L_val _ _ (X_assign) rfl ?_
  refine L_nil ?_
  refine ih _ _ _ (by omega) ⟨j + 1, ?_, by omega, rfl, k2, h1.below bz (Nat.le_refl _)⟩
  rw [Nat.pow_succ, ← Nat.div_div_eq_div_mul]
  show [Value.int .i64 (7 - (j : Int) - 1), _, _] = _
  congr 2
  omega
/-- PutBE16 -/
theorem put16_ret (v : Nat) (hv : v < 65536) (b o len cap : Nat) (l : List Nat) (t : TypeId) (w : World) (hl : 2 ≤ len) (hb : Blk w b (bv l).toArray t) (ho : o + 2 ≤ l.length) :
    Ret Try.prog 39 #[.slice (some ⟨b, o, none⟩) len cap, .int .u16 (v : Int)] w fun u w' => Blk w' b (bv ((l.set o (v / 256)).set (o + 1) (v % 256))).toArray t ∧ But b w w' := by
  refine ret_of_T (vs := [.slice (some ⟨b, o, none⟩) len cap, .int .u16 (v : Int)]) Try.func39 Try.ntmps39 rfl (Nat.le_of_ble_eq_true rfl) ?_
  repeat (first | refine T_seq ?_ | refine T_block ?_ | refine T_inBlock ?_ | refine T_skip ?_)
  refine T_region ?_
  refine L_val _ _ (X_move) rfl ?_
  refine L_val _ _ (X_move) rfl ?_
  refine L_val _ _ (X_move) rfl ?_
  refine L_val _ _ (X_quoN v 256 rfl rfl (by decide) hv) rfl ?_
  refine L_val _ _ (X_convN (v / 256) U27 U5 rfl (show v / 256 < 256 by omega)) rfl ?_
  refine L_val _ _ (X_move) rfl ?_
  refine L_val _ _ (X_remN v 256 rfl rfl (by decide)) rfl ?_
  refine L_val _ _ (X_convN (v % 256) U27 U5 rfl (show v % 256 < 256 by omega)) rfl ?_
  refine L_val _ _ (X_index U25 S5 rfl rfl (show 0 < len by omega)) rfl ?_
  refine L_store (.int .u8 ((v / 256 : Nat) : Int)) S5 rfl rfl rfl hb (by simp [bv_len]; omega) fun w1 h1 => ?_
  have k1 := bset h1
  refine L_val _ _ (X_index U25 S5 rfl rfl (show 1 < len by omega)) rfl ?_
  refine L_store (.int .u8 ((v % 256 : Nat) : Int)) S5 rfl rfl rfl k1 (by simp [bv_len]; omega) fun w2 h2 => ?_
  refine L_nil ?_
  have k2 := bset h2
  refine T_end0 Try.func39 rfl ⟨?_, ((But.refl b w).chg h1 (.inl rfl)).chg h2 (.inl rfl)⟩
  exact k2
set_option maxHeartbeats 4000000 in
/-- PutBE64 -/
theorem put64_ret (v : Nat) (hv : v < 18446744073709551616) (b o len cap : Nat) (l : List Nat) (t : TypeId) (w : World) (hl : 8 ≤ len) (hb : Blk w b (bv l).toArray t) (ho : o + 8 ≤ l.length) (hz : (l.drop o).take 8 = List.replicate 8 0) :
    Ret Try.prog 40 #[.slice (some ⟨b, o, none⟩) len cap, .int .u64 (v : Int)] w fun u w' => Blk w' b (bv (l.take o ++ eight v ++ l.drop (o + 8))).toArray t ∧ But b w w' := by
  refine ret_of_T (vs := [.slice (some ⟨b, o, none⟩) len cap, .int .u64 (v : Int)]) Try.func40 Try.ntmps40 rfl (Nat.le_of_ble_eq_true rfl) ?_
  have h0 : l = l.take o ++ eiAt v 0 ++ l.drop (o + 8) := by
    have e : eiAt v 0 = List.replicate 8 0 := by rfl
    rw [e, ← hz, ← List.drop_drop, List.append_assoc, List.take_append_drop, List.take_append_drop]
  repeat (first | refine T_seq ?_ | refine T_block ?_ | refine T_inBlock ?_ | refine T_skip ?_)
  refine T_region ?_
  refine L_val _ _ (X_assign) rfl ?_
  refine L_nil ?_
  repeat (first | refine T_seq ?_ | refine T_block ?_ | refine T_inBlock ?_ | refine T_skip ?_)
  refine T_loopS [4, 0, 1] (fun m vs z => ∃ j : Nat, vs = [.int .i64 (7 - (j : Int)), .slice (some ⟨b, o, none⟩) len cap, .int .u64 ((v / 256 ^ j : Nat) : Int)] ∧ j ≤ 8 ∧ m = 8 - j ∧ Blk z b (bv (l.take o ++ eiAt v j ++ l.drop (o + 8))).toArray t ∧ But b w z) 8 ⟨0, by rw [Nat.pow_zero, Nat.div_one]; rfl, by omega, rfl, by rw [← h0]; exact hb, But.refl b w⟩ ?_
  rintro m vs ρ z ⟨j, rfl, hj, rfl, kz, bz⟩ ih
  repeat (first | refine T_seq ?_ | refine T_block ?_ | refine T_inBlock ?_ | refine T_skip ?_)
  rcases Nat.lt_or_ge j 8 with hlt | hge
  case inr =>
    obtain rfl : j = 8 := by omega
    refine T_region ?_
    refine L_val _ _ (X_move) rfl ?_
    refine L_val _ _ (X_cmpR false rfl rfl rfl (by decide)) rfl ?_
    refine L_nil ?_
    refine T_false rfl ?_
    refine T_exit rfl ?_
    repeat (first | refine T_seq ?_ | refine T_block ?_ | refine T_inBlock ?_ | refine T_skip ?_)
    exact T_end0 Try.func40 rfl ⟨kz, bz⟩
  have e1 : cmpB .geq (7 - (j : Int)) 0 = true := by simp [cmpB]; omega
  refine T_region ?_
  refine L_val _ _ (X_move) rfl ?_
  refine L_val _ _ (X_cmpR true rfl rfl rfl e1) rfl ?_
  refine L_nil ?_
  refine T_true rfl ?_
  have e2 : (7 - (j : Int)) = ((7 - j : Nat) : Int) := by omega
  have hvj : v / 256 ^ j < 18446744073709551616 := Nat.lt_of_le_of_lt (Nat.div_le_self _ _) hv
  have hlen : (l.take o ++ eiAt v j ++ l.drop (o + 8)).length = l.length := by simp [eiAt_len v j hj]; omega
  repeat (first | refine T_seq ?_ | refine T_block ?_ | refine T_inBlock ?_ | refine T_skip ?_)
  refine T_region ?_
  refine L_val _ _ (X_move) rfl ?_
  refine L_val _ _ (X_move) rfl ?_
  refine L_val _ _ (X_move) rfl ?_
  refine L_val _ _ (X_remN (v / 256 ^ j) 256 rfl rfl (by decide)) rfl ?_
  refine L_val _ _ (X_convN (v / 256 ^ j % 256) U28 U5 rfl (show v / 256 ^ j % 256 < 256 by omega)) rfl ?_
  refine L_val _ _ (X_index (j := 7 - j) U25 S5 rfl (by exact congrArg (Value.int .i64) e2) (by omega)) rfl ?_
  refine L_store (.int .u8 ((v / 256 ^ j % 256 : Nat) : Int)) S5 rfl rfl rfl kz (by simp only [List.size_toArray, bv_len, hlen]; omega) fun z1 h1 => ?_
  refine L_nil ?_
  have k2 : Blk z1 b (bv (l.take o ++ eiAt v (j + 1) ++ l.drop (o + 8))).toArray t := by
    have := bset h1
    have hto : (l.take o).length = o := by rw [List.length_take]; omega
    rw [show o + (7 - j) * 1 = o + (7 - j) by omega, List.append_assoc, List.set_append_right _ _ (by omega), hto, Nat.add_sub_cancel_left, List.set_append_left _ _ (by rw [eiAt_len v j hj]; omega), eiAt_step v j hlt, ← List.append_assoc] at this
    exact this
  repeat (first | refine T_seq ?_ | refine T_block ?_ | refine T_inBlock ?_ | refine T_skip ?_)
  refine T_region ?_
  refine L_val _ _ (X_move) rfl ?_
  refine L_val _ _ (X_quoN (v / 256 ^ j) 256 rfl rfl (by decide) hvj) rfl ?_
  refine L_val _ _ (X_assign) rfl ?_
  refine L_nil ?_
  repeat (first | refine T_seq ?_ | refine T_block ?_ | refine T_inBlock ?_ | refine T_skip ?_)
  refine T_region ?_
  refine L_val _ _ (X_move) rfl ?_
  refine L_val _ _ (X_sub rfl rfl (by omega) (by omega)) rfl ?_
  refine L_val _ _ (X_assign) rfl ?_
  refine L_nil ?_
  refine ih _ _ _ (by omega) ⟨j + 1, ?_, by omega, rfl, k2, bz.chg h1 (.inl rfl)⟩
  rw [Nat.pow_succ, ← Nat.div_div_eq_div_mul]
  show [Value.int .i64 (7 - (j : Int) - 1), _, _] = _
  congr 2
  omega
/-- The sixteen octets of a header that is well formed. -/
def octN (h : Hd) : List Nat := two h.id ++ [h.fl] ++ (if h.id = 1284 then [255] ++ two h.ec ++ two h.rrc else List.replicate 5 255) ++ eight h.seq
theorem octN_len (h : Hd) : (octN h).length = 16 := by
  unfold octN
  split <;> simp [two, eight_len]
end Go.Proofs.Qxb6500864a
