/-
  The hash is total: pack, putUint64, Reset, Write, Digest, Sum256.
-/
import Derived.Test.Qxb6500866aDoorH1
import Derived.Test.Qxb6500866aDoorWk8
import Derived.Test.Qxb6500866aDoorRd
namespace Go.Proofs.Qxb6500866aDoor
set_option linter.unusedSimpArgs false
set_option linter.unusedVariables false
open Go.RowKit

def u8s (bs : List Int) : List Value := bs.map (Value.int .u8)
theorem u8s_one (bs : List Int) : ∀ v ∈ u8s bs, v.oneCell' = true := by simp [u8s, Value.oneCell']
theorem u8s_len (bs : List Int) : (u8s bs).length = bs.length := by simp [u8s]
theorem u8set {w w1 : World} {b i : Nat} {bs : List Int} {t : TypeId} {x : Int} (h : Chg w w1 b (.cells ((u8s bs).toArray.setIfInBounds (0 + i * 1) (.int .u8 x)) t (0, 0))) : Blk w1 b (u8s (bs.set i x)).toArray t := by
  have e : 0 + i * 1 = i := by omega
  rw [e] at h
  have := blk_set h
  rw [show (u8s bs).set i (.int .u8 x) = u8s (bs.set i x) by simp [u8s, List.map_set]] at this
  exact this
def Byt (bs : List Int) : Prop := ∀ b ∈ bs, 0 ≤ b ∧ b < 256
theorem Byt.set {bs : List Int} (h : Byt bs) (i : Nat) (x : Int) : Byt (bs.set i (IntKind.u8.wrap x)) := by
  intro b hb
  rcases List.mem_or_eq_of_mem_set hb with h' | rfl
  · exact h b h'
  · rw [IntKind.wrap_u8]; omega
theorem Byt.zeros (n : Nat) : Byt (List.replicate n 0) := by
  intro b hb
  rw [List.eq_of_mem_replicate hb]
  omega

set_option maxHeartbeats 4000000 in
/-- pack -/
theorem pack_ret (SB : Nat) (s0 s1 s2 s3 s4 s5 s6 s7 : Int) (rest : List Value) (tt : TypeId) (w : World) (hS : Blk w SB ([Value.int .u32 s0, .int .u32 s1, .int .u32 s2, .int .u32 s3, .int .u32 s4, .int .u32 s5, .int .u32 s6, .int .u32 s7] ++ rest).toArray tt) :
    Ret Tryd.prog 15 #[.pointer (some ⟨SB, 0, none⟩)] w fun v w' => ∃ bs : List Int, v = .agg (u8s bs).toArray ∧ bs.length = 32 ∧ Byt bs ∧ Below w.heap.size w w' := by
  refine ret_of_T (vs := [.pointer (some ⟨SB, 0, none⟩)]) Tryd.func15 Tryd.ntmps15 rfl (Nat.le_of_ble_eq_true rfl) ?_
  have zS := hS.lt
  repeat (first | refine T_seq ?_ | refine T_block ?_ | refine T_inBlock ?_ | refine T_skip ?_)
  refine T_region ?_
  refine L_alloc Z31 rfl fun w1 h1 => ?_
  refine L_nil ?_
  have k1 : Blk w1 w.heap.size (u8s (List.replicate 32 0)).toArray 31 := h1.new
  have s1 := h1.size
  have z1 := h1.lt
  have b1 : Below w.heap.size w w1 := h1.below (Below.refl _ _) (Nat.le_refl _)
  repeat (first | refine T_seq ?_ | refine T_block ?_ | refine T_inBlock ?_ | refine T_skip ?_)
  refine T_region ?_
  refine L_alloc Z31 rfl fun w2 h2 => ?_
  refine L_nil ?_
  have k2 : Blk w2 w1.heap.size (u8s (List.replicate 32 0)).toArray 31 := h2.new
  have k12 := h2.blk k1 (by omega)
  have b2 : Below w.heap.size w w2 := h2.below b1 s1
  have s2 := h2.size
  repeat (first | refine T_seq ?_ | refine T_block ?_ | refine T_inBlock ?_ | refine T_skip ?_)
  refine T_region ?_
  refine L_val _ _ (X_move) rfl ?_
  refine L_val _ _ (X_move) rfl ?_
  refine L_nil ?_
  repeat (first | refine T_seq ?_ | refine T_block ?_ | refine T_inBlock ?_ | refine T_skip ?_)
  refine T_loopS [7, 6, 2, 3] (fun m vs y => ∃ (i : Nat) (bs : List Int), vs = [.int .i64 i, .pointer (some ⟨SB, 0, none⟩), .pointer (some ⟨w.heap.size, 0, none⟩), .pointer (some ⟨w1.heap.size, 0, none⟩)] ∧ i ≤ 8 ∧ m = 8 - i ∧ Below w.heap.size w y ∧ bs.length = 32 ∧ Byt bs ∧ Blk y w1.heap.size (u8s bs).toArray 31 ∧ Blk y w.heap.size (u8s (List.replicate 32 0)).toArray 31) 8
    ⟨0, _, rfl, by omega, rfl, b2, by simp, Byt.zeros 32, k2, k12⟩ ?_
  clear k2 k12 b2 s2 b1 k1
  rintro m vs ρ y ⟨i, bs, rfl, hi, rfl, by_, hbl, hby, k3, k2⟩ ih
  repeat (first | refine T_seq ?_ | refine T_block ?_ | refine T_inBlock ?_ | refine T_skip ?_)
  refine T_region ?_
  refine L_val _ _ (X_cmp rfl rfl rfl) rfl ?_
  refine L_nil ?_
  repeat (first | refine T_seq ?_ | refine T_block ?_ | refine T_inBlock ?_ | refine T_skip ?_)
  refine T_if rfl (fun ht => ?_) (fun hf => ?_)
  case refine_2 =>
    refine T_exit rfl ?_
    repeat (first | refine T_seq ?_ | refine T_block ?_ | refine T_inBlock ?_ | refine T_skip ?_)
    refine T_region ?_
    refine L_val _ _ (X_loadAgg (u8s bs) A31 S31 (by rw [u8s_len]; exact hbl) rfl (gblk0 k3)) rfl ?_
    refine L_storeAll (u8s bs) S31 rfl rfl (by rw [u8s_len]; exact hbl) (u8s_one _) k2 (by simp [u8s]) fun w5 h5 => ?_
    refine L_nil ?_
    exact T_retC (u8s bs) Tryd.func15 rfl A31 S31 (by rw [u8s_len]; exact hbl) rfl (gblk0 h5.new) ⟨bs, rfl, hbl, hby, h5.below by_ (Nat.le_refl _)⟩
  have hlt : i < 8 := by simp [cmpB] at ht; omega
  obtain ⟨x, hx⟩ : ∃ x, y.cell? ⟨SB, 0 + i * 1, none⟩ = some (.int .u32 x) := by
    have e : 0 + i * 1 = i := by omega
    rw [e, below_cell by_ i zS]
    match i, hlt with
    | 0, _ => exact ⟨_, gblk hS 0 rfl⟩
    | 1, _ => exact ⟨_, gblk hS 1 rfl⟩
    | 2, _ => exact ⟨_, gblk hS 2 rfl⟩
    | 3, _ => exact ⟨_, gblk hS 3 rfl⟩
    | 4, _ => exact ⟨_, gblk hS 4 rfl⟩
    | 5, _ => exact ⟨_, gblk hS 5 rfl⟩
    | 6, _ => exact ⟨_, gblk hS 6 rfl⟩
    | 7, _ => exact ⟨_, gblk hS 7 rfl⟩
  repeat (first | refine T_seq ?_ | refine T_block ?_ | refine T_inBlock ?_ | refine T_skip ?_)
  refine T_quiet (fun z => Sm y z) rfl (by kernel_rfl) (sm_drew y) ?_
  refine LQ_val _ (fun w hw => X_move) rfl ?_
  refine LQ_val _ (fun w hw => X_nilCheck rfl) rfl ?_
  refine LQ_val _ (fun w hw => X_indexA U40 S39 rfl rfl hlt) rfl ?_
  refine LQ_val _ (fun w hw => X_load A39 rfl ((hw.cell _).trans hx)) rfl ?_
  refine LQ_val _ (fun w hw => X_assign) rfl ?_
  refine LQ_val _ (fun w hw => X_assign) rfl ?_
  refine LQ_nil fun y1 hy1 => ?_
  have by1 : Below w.heap.size w y1 := hy1.below by_
  have k31 := hy1.blk k3
  have k21 := hy1.blk k2
  repeat (first | refine T_seq ?_ | refine T_block ?_ | refine T_inBlock ?_ | refine T_skip ?_)
  refine T_region ?_
  refine L_val _ _ (X_move) rfl ?_
  refine L_val _ _ (X_mul rfl rfl (by omega) (by omega)) rfl ?_
  refine L_val _ _ (X_move) rfl ?_
  refine L_val _ _ (X_shr rfl rfl (by decide)) rfl ?_
  refine L_val _ _ (X_convInt U39 U5 rfl) rfl ?_
  refine L_val _ _ (X_indexA U31 S5 rfl rfl (show 4 * i < 32 by omega)) rfl ?_
  refine L_store _ S5 rfl rfl rfl k31 (by simp [u8s]; omega) fun y2 h2 => ?_
  refine L_nil ?_
  have k32 := u8set (i := 4 * i) h2
  have by2 := h2.below by1 s1
  have k22 := h2.blk k21 (by omega)
  repeat (first | refine T_seq ?_ | refine T_block ?_ | refine T_inBlock ?_ | refine T_skip ?_)
  refine T_region ?_
  refine L_val _ _ (X_move) rfl ?_
  refine L_val _ _ (X_mul rfl rfl (by omega) (by omega)) rfl ?_
  refine L_val _ _ (X_add rfl rfl (by omega) (by omega)) rfl ?_
  refine L_val _ _ (X_move) rfl ?_
  refine L_val _ _ (X_shr rfl rfl (by decide)) rfl ?_
  refine L_val _ _ (X_convInt U39 U5 rfl) rfl ?_
  refine L_val _ _ (X_indexA U31 S5 rfl rfl (show 4 * i + 1 < 32 by omega)) rfl ?_
  refine L_store _ S5 rfl rfl rfl k32 (by simp [u8s]; omega) fun y3 h3 => ?_
  refine L_nil ?_
  have k33 := u8set (i := 4 * i + 1) h3
  have by3 := h3.below by2 s1
  have k23 := h3.blk k22 (by omega)
  repeat (first | refine T_seq ?_ | refine T_block ?_ | refine T_inBlock ?_ | refine T_skip ?_)
  refine T_region ?_
  refine L_val _ _ (X_move) rfl ?_
  refine L_val _ _ (X_mul rfl rfl (by omega) (by omega)) rfl ?_
  refine L_val _ _ (X_add rfl rfl (by omega) (by omega)) rfl ?_
  refine L_val _ _ (X_move) rfl ?_
  refine L_val _ _ (X_shr rfl rfl (by decide)) rfl ?_
  refine L_val _ _ (X_convInt U39 U5 rfl) rfl ?_
  refine L_val _ _ (X_indexA U31 S5 rfl rfl (show 4 * i + 2 < 32 by omega)) rfl ?_
  refine L_store _ S5 rfl rfl rfl k33 (by simp [u8s]; omega) fun y4 h4 => ?_
  refine L_nil ?_
  have k34 := u8set (i := 4 * i + 2) h4
  have by4 := h4.below by3 s1
  have k24 := h4.blk k23 (by omega)
  refine T_region ?_
  refine L_val _ _ (X_move) rfl ?_
  refine L_val _ _ (X_mul rfl rfl (by omega) (by omega)) rfl ?_
  refine L_val _ _ (X_add rfl rfl (by omega) (by omega)) rfl ?_
  refine L_val _ _ (X_move) rfl ?_
  refine L_val _ _ (X_convInt U39 U5 rfl) rfl ?_
  refine L_val _ _ (X_indexA U31 S5 rfl rfl (show 4 * i + 3 < 32 by omega)) rfl ?_
  refine L_store _ S5 rfl rfl rfl k34 (by simp [u8s]; omega) fun y5 h5 => ?_
  refine L_nil ?_
  have k35 := u8set (i := 4 * i + 3) h5
  have by5 := h5.below by4 s1
  have k25 := h5.blk k24 (by omega)
  repeat (first | refine T_seq ?_ | refine T_block ?_ | refine T_inBlock ?_ | refine T_skip ?_)
  refine T_region ?_
  refine L_val _ _ (X_add rfl rfl (by omega) (by omega)) rfl ?_
  refine L_val _ _ (X_move) rfl ?_
  refine L_nil ?_
  exact ih _ _ _ (by omega) ⟨i + 1, _, rfl, by omega, rfl, by5, by simpa using hbl, (((hby.set _ _).set _ _).set _ _).set _ _, k35, k25⟩

set_option maxHeartbeats 4000000 in
/-- putUint64 -/
theorem put_ret (b o c n8 : Nat) (h8 : n8 = 8) (bs : List Int) (tt : TypeId) (x : Int) (w : World) (hb : Blk w b (u8s bs).toArray tt) (ho : o + 8 ≤ bs.length) :
    Ret Tryd.prog 14 #[.slice (some ⟨b, o, none⟩) n8 c, .int .u64 x] w fun v w' => v = .tuple #[] ∧ ∃ bs' : List Int, bs'.length = bs.length ∧ Chg w w' b (.cells (u8s bs').toArray tt (0, 0)) := by
  subst h8
  refine ret_of_T (vs := [.slice (some ⟨b, o, none⟩) 8 c, .int .u64 x]) Tryd.func14 Tryd.ntmps14 rfl (Nat.le_of_ble_eq_true rfl) ?_
  have h7 : w.cell? ⟨b, o + 7 * 1, none⟩ = some (.int .u8 (bs[o + 7 * 1]'(by omega))) := gblk hb _ (by simp [u8s])
  have hself : Chg w w b (.cells (u8s bs).toArray tt (0, 0)) := ⟨hb, fun _ _ => rfl, Nat.le_refl _, rfl, rfl, rfl⟩
  repeat (first | refine T_seq ?_ | refine T_block ?_ | refine T_inBlock ?_ | refine T_skip ?_)
  refine T_region ?_
  refine L_val _ _ (X_move) rfl ?_
  refine L_val _ _ (X_index U25 S5 rfl rfl (show 7 < 8 by decide)) rfl ?_
  refine L_val _ _ (X_load A5 rfl (h7)) rfl ?_
  refine L_nil ?_
  repeat (first | refine T_seq ?_ | refine T_block ?_ | refine T_inBlock ?_ | refine T_skip ?_)
  refine T_region ?_
  refine L_val _ _ (X_assign) rfl ?_
  refine L_nil ?_
  repeat (first | refine T_seq ?_ | refine T_block ?_ | refine T_inBlock ?_ | refine T_skip ?_)
  refine T_loopS [4, 0, 1] (fun m vs y => ∃ (i : Int) (x : Int) (bs' : List Int), vs = [.int .i64 i, .slice (some ⟨b, o, none⟩) 8 c, .int .u64 x] ∧ -1 ≤ i ∧ i ≤ 7 ∧ m = (i + 1).toNat ∧ bs'.length = bs.length ∧ Chg w y b (.cells (u8s bs').toArray tt (0, 0))) 8
    ⟨7, x, bs, rfl, by omega, by omega, rfl, rfl, hself⟩ ?_
  clear hself h7 x
  rintro m vs ρ y ⟨i, x, bs', rfl, hi0, hi1, rfl, hbl, hch⟩ ih
  repeat (first | refine T_seq ?_ | refine T_block ?_ | refine T_inBlock ?_ | refine T_skip ?_)
  refine T_region ?_
  refine L_val _ _ (X_move) rfl ?_
  refine L_val _ _ (X_cmp rfl rfl rfl) rfl ?_
  refine L_nil ?_
  refine T_if rfl (fun ht => ?_) (fun hf => ?_)
  case refine_2 =>
    refine T_exit rfl ?_
    repeat (first | refine T_seq ?_ | refine T_block ?_ | refine T_inBlock ?_ | refine T_skip ?_)
    exact T_end0 Tryd.func14 rfl ⟨rfl, bs', hbl, hch⟩
  have hi2 : 0 ≤ i := by simp [cmpB] at ht; omega
  obtain ⟨j, rfl⟩ : ∃ j : Nat, i = j := ⟨i.toNat, by omega⟩
  have kb : Blk y b (u8s bs').toArray tt := hch.new
  repeat (first | refine T_seq ?_ | refine T_block ?_ | refine T_inBlock ?_ | refine T_skip ?_)
  refine T_region ?_
  refine L_val _ _ (X_move) rfl ?_
  refine L_val _ _ (X_move) rfl ?_
  refine L_val _ _ (X_move) rfl ?_
  refine L_val _ _ (X_convInt U27 U5 rfl) rfl ?_
  refine L_val _ _ (X_index U25 S5 rfl rfl (by omega)) rfl ?_
  refine L_store (.int .u8 (IntKind.u8.wrap x)) S5 rfl rfl rfl kb (by simp [u8s]; omega) fun y2 h2 => ?_
  refine L_nil ?_
  have k2 : Blk y2 b (u8s (bs'.set (o + j * 1) (IntKind.u8.wrap x))).toArray tt := by
    have := blk_set h2
    rw [show (u8s bs').set (o + j * 1) (.int .u8 (IntKind.u8.wrap x)) = u8s (bs'.set (o + j * 1) (IntKind.u8.wrap x)) by simp [u8s, List.map_set]] at this
    exact this
  have h2' : Chg w y2 b (.cells (u8s (bs'.set (o + j * 1) (IntKind.u8.wrap x))).toArray tt (0, 0)) :=
    ⟨k2, fun k hk => (h2.oth k hk).trans (hch.oth k hk), Nat.le_trans hch.size h2.size, h2.os.trans hch.os, h2.tape.trans hch.tape, h2.output.trans hch.output⟩
  refine T_region ?_
  refine L_val _ _ (X_move) rfl ?_
  refine L_val _ _ (X_shr rfl rfl (by decide)) rfl ?_
  refine L_val _ _ (X_assign) rfl ?_
  refine L_nil ?_
  repeat (first | refine T_seq ?_ | refine T_block ?_ | refine T_inBlock ?_ | refine T_skip ?_)
  refine T_region ?_
  refine L_val _ _ (X_move) rfl ?_
  refine L_val _ _ (X_sub rfl rfl (by omega) (by omega)) rfl ?_
  refine L_val _ _ (X_assign) rfl ?_
  refine L_nil ?_
  exact ih _ _ _ (by omega) ⟨(j : Int) - 1, _, _, rfl, by omega, by omega, rfl, by simpa using hbl, h2'⟩
end Go.Proofs.Qxb6500866aDoor
