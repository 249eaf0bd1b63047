/-
  md5.
-/
import Derived.Test.Qxb6500863aDoorG4
namespace Go.Proofs.Qxb6500863aDoor
set_option linter.unusedSimpArgs false
set_option linter.unusedVariables false
open Go.RowKit
section
variable {P : Program} {ρ : Env} {w : World} {dst : Option Tmp} {gd : Option (Nat × Bool)} {ty : TypeId} {pos : String} {after : Array Edge} {t t' : TypeId} {x y : Operand}
theorem X_quoI (a b : Nat) (hx : ev ρ x = .int .i64 (a : Int)) (hy : ev ρ y = .int .i64 (b : Int)) (hb : b ≠ 0) (h : a < 9223372036854775808) :
    (execOp (ev ρ) ⟨dst, .binOp .quo t x y t', ty, pos, after, gd⟩).run P w = .ok (.value (.int .i64 ((a / b : Nat) : Int))) w := by
  have e : (a : Int).tdiv (b : Int) = ((a / b : Nat) : Int) := rfl
  have h2 : a / b ≤ a := Nat.div_le_self _ _
  rw [X_quo hx hy (by omega), e]
  generalize a / b = q at *
  rw [wrap_i64 (by omega) (by omega)]
end
/-- What the two tables hold, whatever it is. -/
structure Glob (sn cr : List Int) (w : World) : Prop where
  size : 1 < w.heap.size
  sin : sn.length = 64 ∧ ∀ i, i < 64 → w.cell? ⟨0, 0 + i * 1, none⟩ = some (.int .u32 (gI sn i))
  cub : cr.length = 80 ∧ ∀ i, i < 80 → w.cell? ⟨1, 0 + i * 1, none⟩ = some (.int .u64 (gI cr i))
theorem Glob.below {sn cr : List Int} {w w' : World} (h : Glob sn cr w) (hb : Below w.heap.size w w') : Glob sn cr w' :=
  ⟨Nat.lt_of_lt_of_le h.size hb.size, ⟨h.sin.1, fun i hi => (below_cell hb _ (by have := h.size; omega)).trans (h.sin.2 i hi)⟩, ⟨h.cub.1, fun i hi => (below_cell hb _ (by have := h.size; omega)).trans (h.cub.2 i hi)⟩⟩
def sh5 : List Nat := [7, 12, 17, 22, 5, 9, 14, 20, 4, 11, 16, 23, 6, 10, 15, 21]
theorem sh5_lt : ∀ k : Fin 16, gN sh5 k.val ≤ 32 := by decide
def f5 : Nat → Int → Int → Int → Int
  | 0, b, c, d => or32 (and32 b c) (and32 (cplV .u32 b) d)
  | 1, b, c, d => or32 (and32 b d) (an32 c d)
  | 2, b, c, d => xor32 (xor32 b c) d
  | _, b, c, d => xor32 c (or32 b (cplV .u32 d))
def k5 : Nat → Nat → Nat
  | 0, i => i
  | 1, i => (5 * i + 1) % 16
  | 2, i => (3 * i + 5) % 16
  | _, i => (7 * i) % 16
def step5 (sn x : List Int) (i : Nat) (s : Q4) : Q4 :=
  (s.2.2.2, add32 s.2.1 (rotlV (add32 (add32 (add32 s.1 (f5 (i / 16) s.2.1 s.2.2.1 s.2.2.2)) (gI x (k5 (i / 16) i))) (gI sn i)) ((gN sh5 (i / 16 * 4 + i % 4) : Nat) : Int)), s.2.1, s.2.2.1)
def st5 (sn x : List Int) (s : Q4) : Nat → Q4
  | 0 => s
  | k + 1 => step5 sn x k (st5 sn x s k)
def h5 (sn p : List Int) : Nat → Q4
  | 0 => ini4
  | k + 1 => addS (h5 sn p k) (st5 sn (wordsAt true (bkN 64 p k) 16) (h5 sn p k) 64)
def md5N (sn l : List Int) : List Int := spN true (Q4.l (h5 sn (padN l 64 8 true) ((padN l 64 8 true).length / 64)))
theorem md5N_len (sn l : List Int) : (md5N sn l).length = 16 := by rw [md5N, spN_len]; rfl
set_option maxHeartbeats 16000000 in
set_option maxRecDepth 10000 in
/-- digestm.md5 -/
theorem md5_ret (sn cr : List Int) (a : Option Addr) (l : List Int) (c : Nat) (w : World) (hG : Glob sn cr w) (hl : Ints .u8 w a l) (hn : a = none → l.length = 0 ∧ c = 0) (hlen : l.length ≤ 10000000) :
    Ret Tryd.prog 42 #[.slice a l.length c] w fun v w' => ∃ a' c', v = .slice a' 16 c' ∧ w'.ownsRow w.heap.size 5 1 (.slice a' 16 c') 16 (iv .u8 (md5N sn l)) ∧ Below w.heap.size w w' := by
  refine ret_of_T (vs := [.slice a l.length c]) Tryd.func42 Tryd.ntmps42 rfl (Nat.le_of_ble_eq_true rfl) ?_
  repeat (first | refine T_seq ?_ | refine T_block ?_ | refine T_inBlock ?_ | refine T_skip ?_)
  refine T_region ?_
  refine L_val _ _ (X_assign) rfl ?_
  refine L_nil ?_
  repeat (first | refine T_seq ?_ | refine T_block ?_ | refine T_inBlock ?_ | refine T_skip ?_)
  refine T_region ?_
  refine L_val _ _ (X_build (.agg (iv .i64 (nI (sh5.take 4))).toArray) (by kernel_rfl)) rfl ?_
  refine L_val _ _ (X_build (.agg (iv .i64 (nI ((sh5.drop 4).take 4))).toArray) (by kernel_rfl)) rfl ?_
  refine L_val _ _ (X_build (.agg (iv .i64 (nI ((sh5.drop 8).take 4))).toArray) (by kernel_rfl)) rfl ?_
  refine L_val _ _ (X_build (.agg (iv .i64 (nI (sh5.drop 12))).toArray) (by kernel_rfl)) rfl ?_
  refine L_val _ _ (X_build (.agg (iv .i64 (nI sh5)).toArray) (by kernel_rfl)) rfl ?_
  refine L_alloc Z89 rfl fun w1 h1 => ?_
  refine L_storeAll (iv .i64 (nI sh5)) S89 rfl rfl rfl (iv_one _ _) h1.new rfl fun w6 h2 => ?_
  refine L_nil ?_
  have h12 := h1.trans h2
  have k36 : Blk w6 w.heap.size (iv .i64 (nI sh5)).toArray 89 := h12.new
  have b6 : Below w.heap.size w w6 := h12.below (Below.refl _ _) (Nat.le_refl _)
  have z6 := h12.lt
  have s6 := h12.size
  clear h1 h2 h12
  repeat (first | refine T_seq ?_ | refine T_block ?_ | refine T_inBlock ?_ | refine T_skip ?_)
  refine T_region ?_
  refine L_buildSlice (iv .u32 (Q4.l ini4)).toArray 26 (by kernel_rfl) rfl fun w7 h7 => ?_
  refine L_val _ _ (X_assign) rfl ?_
  refine L_nil ?_
  have k6 : Blk w7 w6.heap.size (iv .u32 (Q4.l ini4)).toArray 26 := h7.new
  have b67 : Below w6.heap.size w6 w7 := h7.below (Below.refl _ _) (Nat.le_refl _)
  have b7 : Below w.heap.size w w7 := b6.trans (b67.mono b6.size)
  have s7 := b67.size
  have z7 := h7.lt
  have hpad := pad_ret a l c 64 8 true (.inl ⟨rfl, rfl⟩) w7 (hl.below b7) hn hlen
  have hmod := padN_mod l 64 8 true (.inl ⟨rfl, rfl⟩)
  have hplen := padN_len l 64 8 true
  have hzl : zerosOf l.length 64 8 < 64 := by unfold zerosOf; omega
  unfold md5N
  generalize padN l 64 8 true = p at *
  repeat (first | refine T_seq ?_ | refine T_block ?_ | refine T_inBlock ?_ | refine T_skip ?_)
  refine T_region ?_
  refine L_val _ _ (X_move) rfl ?_
  refine L_callF [.slice a l.length c, .int .i64 64, .int .i64 8, .bool true] E46 rfl rfl hpad ?_
  rintro v w8 ⟨pa, pc, rfl, op, b8⟩
  refine L_val _ _ (X_assign) rfl ?_
  refine L_nil ?_
  have hp0 : 0 < p.length := by omega
  have hpI : Ints .u8 w8 pa p := ints_owns op rfl
  have hpc := owns_cap op
  obtain ⟨pb, po, rfl, hpb⟩ := hpI.some hp0
  have b68 : Below w6.heap.size w6 w8 := b67.trans (b8.mono s7)
  have k38 := below_blk b68 k36 (by omega)
  have k68 := below_blk b8 k6 z7
  have bw8 : Below w.heap.size w w8 := b6.trans (b68.mono b6.size)
  have hG8 := hG.below bw8
  have z38 := k38.lt
  obtain ⟨nb, hnb⟩ : ∃ nb, p.length = 64 * nb := ⟨p.length / 64, by omega⟩
  have hnbd : p.length / 64 = nb := by omega
  rw [hnbd]
  clear hpad op b67 b8 b68 b6 b7 k36 k6 h7 hmod
  generalize w6.heap.size = B6 at *
  repeat (first | refine T_seq ?_ | refine T_block ?_ | refine T_inBlock ?_ | refine T_skip ?_)
  refine T_region ?_
  refine L_val _ _ (X_assign) rfl ?_
  refine L_nil ?_
  repeat (first | refine T_seq ?_ | refine T_block ?_ | refine T_inBlock ?_ | refine T_skip ?_)
  refine T_loopS [6, 5, 4, 3] (fun m vs z => ∃ (k : Nat) (hb : Nat), vs = [.int .i64 ((64 * k : Nat) : Int), .slice (some ⟨pb, po, none⟩) p.length pc, .slice (some ⟨hb, 0, none⟩) 4 4, .pointer (some ⟨w.heap.size, 0, none⟩)] ∧ k ≤ nb ∧ m = nb - k ∧ Below w8.heap.size w8 z ∧ Blk z hb (iv .u32 (Q4.l (h5 sn p k))).toArray 26) nb
    ⟨0, B6, rfl, by omega, rfl, Below.refl _ _, k68⟩ ?_
  clear k68
  rintro m vs ρ z ⟨k, hb, rfl, hk, rfl, bz, kh⟩ ih
  have sz := bz.size
  have zh := kh.lt
  have bwz : Below w.heap.size w z := bw8.trans (bz.mono bw8.size)
  repeat (first | refine T_seq ?_ | refine T_block ?_ | refine T_inBlock ?_ | refine T_skip ?_)
  rcases Nat.lt_or_ge k nb with hlt | hge
  case inr =>
    obtain rfl : k = nb := by omega
    have e1 : cmpB .lss ((64 * k : Nat) : Int) (p.length : Int) = false := by simp [cmpB]; omega
    refine T_region ?_
    refine L_val _ _ (X_move) rfl ?_
    refine L_val _ _ (X_move) rfl ?_
    refine L_val _ _ (X_lenS U25 rfl) rfl ?_
    refine L_val _ _ (X_cmpR false rfl rfl rfl e1) rfl ?_
    refine L_nil ?_
    refine T_false rfl ?_
    refine T_exit rfl ?_
    have hsp := spell_ret (some ⟨hb, 0, none⟩) (Q4.l (h5 sn p k)) 4 true z (ints_blk kh) (show 4 ≤ 8 by decide)
    repeat (first | refine T_seq ?_ | refine T_block ?_ | refine T_inBlock ?_ | refine T_skip ?_)
    refine T_region ?_
    refine L_val _ _ (X_move) rfl ?_
    refine L_callF [.slice (some ⟨hb, 0, none⟩) 4 4, .bool true] E49 rfl rfl hsp ?_
    rintro v y1 ⟨a1, c1, rfl, o1, by1⟩
    refine L_val _ _ (X_assign) rfl ?_
    refine L_nil ?_
    exact T_ret1 Tryd.func42 rfl ⟨a1, c1, rfl, World.ownsRow.mono o1 bwz.size, bwz.trans (by1.mono bwz.size)⟩
  have e1 : cmpB .lss ((64 * k : Nat) : Int) (p.length : Int) = true := by simp [cmpB]; omega
  have hbkl : (bkN 64 p k).length = 64 := bkN_len (by omega)
  have hwords := words_ret pb (po + 64 * k * 1) (pc - 64 * k) (bkN 64 p k) hbkl true z (by omega) (by
    have h1 := ints_drop (n := 64 * k) (hpI.below bz)
    rw [Nat.mul_one]
    exact ints_take h1 64)
  have hh : h5 sn p (k + 1) = addS (h5 sn p k) (st5 sn (wordsAt true (bkN 64 p k) 16) (h5 sn p k) 64) := rfl
  have hxl : (wordsAt true (bkN 64 p k) 16).length = 16 := wordsAt_len _ _ _
  generalize wordsAt true (bkN 64 p k) 16 = x at *
  refine T_region ?_
  refine L_val _ _ (X_move) rfl ?_
  refine L_val _ _ (X_move) rfl ?_
  refine L_val _ _ (X_lenS U25 rfl) rfl ?_
  refine L_val _ _ (X_cmpR true rfl rfl rfl e1) rfl ?_
  refine L_nil ?_
  refine T_true rfl ?_
  have hwords' := ret_args (b := #[.slice (some ⟨pb, po + 64 * k * 1, none⟩) (64 * k + 64 - 64 * k) (pc - 64 * k), .bool true]) (by rw [show 64 * k + 64 - 64 * k = 64 by omega]) hwords
  repeat (first | refine T_seq ?_ | refine T_block ?_ | refine T_inBlock ?_ | refine T_skip ?_)
  refine T_region ?_
  refine L_val _ _ (X_move) rfl ?_
  refine L_val _ _ (X_move) rfl ?_
  refine L_val _ _ (X_move) rfl ?_
  refine L_val _ _ (X_add rfl rfl (by omega) (by omega)) rfl ?_
  refine L_val _ _ (X_sliceLH (l := 64 * k) (h := 64 * k + 64) U25 S5 rfl rfl rfl (by omega) (by omega) (by omega)) rfl ?_
  refine L_callF [.slice (some ⟨pb, po + 64 * k * 1, none⟩) (64 * k + 64 - 64 * k) (pc - 64 * k), .bool true] E47 rfl rfl hwords' ?_
  rintro v y1 ⟨xa, xc, rfl, ox, by1⟩
  refine L_val _ _ (X_assign) rfl ?_
  refine L_nil ?_
  have hxI : Ints .u32 y1 xa x := ints_owns ox hxl
  obtain ⟨xb, xo, rfl, hxb⟩ := hxI.some (by omega)
  have bz1 : Below w8.heap.size w8 y1 := bz.trans (by1.mono sz)
  have kh1 := below_blk by1 kh zh
  have sy1 := bz1.size
  have hin : Below y1.heap.size y1 y1.drew := (sm_drew y1).below (Below.refl _ _)
  generalize hs : h5 sn p k = s0 at *
  have zh1 := kh1.lt
  clear by1 ox hwords hwords'
  have hg : ∀ u, Below y1.heap.size y1 u → ∀ j v, (iv .u32 (Q4.l s0))[j]? = some v → u.cell? ⟨hb, 0 + j * 1, none⟩ = some v := fun u hu j v hv => by
    rw [Nat.zero_add, Nat.mul_one]; exact gblk (below_blk hu kh1 zh1) j hv
  repeat (first | refine T_seq ?_ | refine T_block ?_ | refine T_inBlock ?_ | refine T_skip ?_)
  refine T_quiet (fun u => Below y1.heap.size y1 u) rfl (by kernel_rfl) (hin) ?_
  refine LQ_val _ (fun w hw => X_move) rfl ?_
  refine LQ_val _ (fun w hw => X_index U84 S26 rfl rfl (by decide)) rfl ?_
  refine LQ_val _ (fun w hw => X_load A26 rfl (hg _ hw 0 _ rfl)) rfl ?_
  refine LQ_val _ (fun w hw => X_move) rfl ?_
  refine LQ_val _ (fun w hw => X_index U84 S26 rfl rfl (by decide)) rfl ?_
  refine LQ_val _ (fun w hw => X_load A26 rfl (hg _ hw 1 _ rfl)) rfl ?_
  refine LQ_val _ (fun w hw => X_move) rfl ?_
  refine LQ_val _ (fun w hw => X_index U84 S26 rfl rfl (by decide)) rfl ?_
  refine LQ_val _ (fun w hw => X_load A26 rfl (hg _ hw 2 _ rfl)) rfl ?_
  refine LQ_val _ (fun w hw => X_move) rfl ?_
  refine LQ_val _ (fun w hw => X_index U84 S26 rfl rfl (by decide)) rfl ?_
  refine LQ_val _ (fun w hw => X_load A26 rfl (hg _ hw 3 _ rfl)) rfl ?_
  refine LQ_val _ (fun w hw => X_assign) rfl ?_
  refine LQ_val _ (fun w hw => X_assign) rfl ?_
  refine LQ_val _ (fun w hw => X_assign) rfl ?_
  refine LQ_val _ (fun w hw => X_assign) rfl ?_
  refine LQ_nil fun y2 by2 => ?_
  repeat (first | refine T_seq ?_ | refine T_block ?_ | refine T_inBlock ?_ | refine T_skip ?_)
  refine T_region ?_
  refine L_val _ _ (X_assign) rfl ?_
  refine L_nil ?_
  repeat (first | refine T_seq ?_ | refine T_block ?_ | refine T_inBlock ?_ | refine T_skip ?_)
  refine T_loopS [12, 8, 9, 10, 11, 7, 6, 5, 4, 3] (fun m vs u => ∃ i : Nat, vs = [.int .i64 i, .int .u32 (st5 sn x s0 i).1, .int .u32 (st5 sn x s0 i).2.1, .int .u32 (st5 sn x s0 i).2.2.1, .int .u32 (st5 sn x s0 i).2.2.2, .slice (some ⟨xb, xo, none⟩) 16 xc, .int .i64 ((64 * k : Nat) : Int), .slice (some ⟨pb, po, none⟩) p.length pc, .slice (some ⟨hb, 0, none⟩) 4 4, .pointer (some ⟨w.heap.size, 0, none⟩)] ∧ i ≤ 64 ∧ m = 64 - i ∧ Below y1.heap.size y1 u) 64
    ⟨0, rfl, by omega, rfl, by2⟩ ?_
  clear by2
  rintro m vs ρ3 u2 ⟨i, rfl, hi, rfl, bu2⟩ ih3
  repeat (first | refine T_seq ?_ | refine T_block ?_ | refine T_inBlock ?_ | refine T_skip ?_)
  rcases Nat.lt_or_ge i 64 with hlt64 | hge64
  case inr =>
    obtain rfl : i = 64 := by omega
    refine T_region ?_
    refine L_val _ _ (X_move) rfl ?_
    refine L_val _ _ (X_cmpR false rfl rfl rfl (by decide)) rfl ?_
    refine L_nil ?_
    refine T_false rfl ?_
    refine T_exit rfl ?_
    generalize hs48 : st5 sn x s0 64 = s3 at *
    repeat (first | refine T_seq ?_ | refine T_block ?_ | refine T_inBlock ?_ | refine T_skip ?_)
    refine T_draw (fun u => Below y1.heap.size y1 u) 21 rfl rfl fun u1 hsm => ?_
    have hS : Below y1.heap.size y1 u1 := hsm.below bu2
    refine D_take 0 _ rfl (by kernel_rfl) hS (fun w hw => X_move) rfl ?_
    refine D_take 1 _ rfl (by kernel_rfl) hS (fun w hw => X_index U84 S26 rfl rfl (by decide)) rfl ?_
    refine D_take 2 _ rfl (by kernel_rfl) hS (fun w hw => X_load A26 rfl (hg _ hw 0 _ rfl)) rfl ?_
    refine D_take 3 _ rfl (by kernel_rfl) hS (fun w hw => X_move) rfl ?_
    refine D_take 4 _ rfl (by kernel_rfl) hS (fun w hw => X_ar rfl rfl rfl) rfl ?_
    refine D_take 5 _ rfl (by kernel_rfl) hS (fun w hw => X_move) rfl ?_
    refine D_take 6 _ rfl (by kernel_rfl) hS (fun w hw => X_index U84 S26 rfl rfl (by decide)) rfl ?_
    refine D_take 7 _ rfl (by kernel_rfl) hS (fun w hw => X_load A26 rfl (hg _ hw 1 _ rfl)) rfl ?_
    refine D_take 8 _ rfl (by kernel_rfl) hS (fun w hw => X_move) rfl ?_
    refine D_take 9 _ rfl (by kernel_rfl) hS (fun w hw => X_ar rfl rfl rfl) rfl ?_
    refine D_take 10 _ rfl (by kernel_rfl) hS (fun w hw => X_move) rfl ?_
    refine D_take 11 _ rfl (by kernel_rfl) hS (fun w hw => X_index U84 S26 rfl rfl (by decide)) rfl ?_
    refine D_take 12 _ rfl (by kernel_rfl) hS (fun w hw => X_load A26 rfl (hg _ hw 2 _ rfl)) rfl ?_
    refine D_take 13 _ rfl (by kernel_rfl) hS (fun w hw => X_move) rfl ?_
    refine D_take 14 _ rfl (by kernel_rfl) hS (fun w hw => X_ar rfl rfl rfl) rfl ?_
    refine D_take 15 _ rfl (by kernel_rfl) hS (fun w hw => X_move) rfl ?_
    refine D_take 16 _ rfl (by kernel_rfl) hS (fun w hw => X_index U84 S26 rfl rfl (by decide)) rfl ?_
    refine D_take 17 _ rfl (by kernel_rfl) hS (fun w hw => X_load A26 rfl (hg _ hw 3 _ rfl)) rfl ?_
    refine D_take 18 _ rfl (by kernel_rfl) hS (fun w hw => X_move) rfl ?_
    refine D_take 19 _ rfl (by kernel_rfl) hS (fun w hw => X_ar rfl rfl rfl) rfl ?_
    skip
    refine D_buildSlice 20 (iv .u32 (Q4.l (addS s0 s3))).toArray 26 rfl (by kernel_rfl) (by kernel_rfl) rfl ?_
    intro u4 h2
    have hS2 : Below y1.heap.size y1 u4 := h2.below hS hS.size
    refine ⟨fun _ => hS2, ?_⟩
    refine D_val 21 _ _ rfl (by kernel_rfl) X_assign rfl (fun hb => by cases hb) ?_
    refine D_done (by kernel_rfl) ?_
    have k2' : Blk u4 u1.heap.size (iv .u32 (Q4.l (addS s0 s3))).toArray 26 := h2.new
    repeat (first | refine T_seq ?_ | refine T_block ?_ | refine T_inBlock ?_ | refine T_skip ?_)
    refine T_region ?_
    refine L_val _ _ (X_move) rfl ?_
    refine L_val _ _ (X_add rfl rfl (by omega) (by omega)) rfl ?_
    refine L_val _ _ (X_assign) rfl ?_
    refine L_nil ?_
    exact ih _ _ _ (by omega) ⟨k + 1, u1.heap.size, rfl, by omega, rfl, bz1.trans (hS2.mono sy1), by rw [hh]; exact k2'⟩
  have e3 : cmpB .lss (i : Int) 64 = true := by simp [cmpB]; omega
  have hstep : st5 sn x s0 (i + 1) = step5 sn x i (st5 sn x s0 i) := rfl
  generalize st5 sn x s0 i = s at *
  refine T_region ?_
  refine L_val _ _ (X_move) rfl ?_
  refine L_val _ _ (X_cmpR true rfl rfl rfl e3) rfl ?_
  refine L_nil ?_
  refine T_true rfl ?_
  repeat (first | refine T_seq ?_ | refine T_block ?_ | refine T_inBlock ?_ | refine T_skip ?_)
  refine T_region ?_
  refine L_val _ _ (X_assign) rfl ?_
  refine L_nil ?_
  repeat (first | refine T_seq ?_ | refine T_block ?_ | refine T_inBlock ?_ | refine T_skip ?_)
  refine T_region ?_
  refine L_val _ _ (X_assign) rfl ?_
  refine L_nil ?_
  refine T_seq ?_
  refine T_part [13, 14, 12, 8, 9, 10, 11, 7, 6, 5, 4, 3] (fun vs y => vs = [.int .u32 (f5 (i / 16) s.2.1 s.2.2.1 s.2.2.2), .int .i64 ((k5 (i / 16) i : Nat) : Int), .int .i64 i, .int .u32 s.1, .int .u32 s.2.1, .int .u32 s.2.2.1, .int .u32 s.2.2.2, .slice (some ⟨xb, xo, none⟩) 16 xc, .int .i64 ((64 * k : Nat) : Int), .slice (some ⟨pb, po, none⟩) p.length pc, .slice (some ⟨hb, 0, none⟩) 4 4, .pointer (some ⟨w.heap.size, 0, none⟩)] ∧ u2 = y) ?_ (fun join => ?_)
  rotate_left
  · repeat (first | refine T_seq ?_ | refine T_block ?_ | refine T_inBlock ?_ | refine T_skip ?_)
    refine T_region ?_
    refine L_val _ _ (X_move) rfl ?_
    refine L_val _ _ (X_quoI i 16 rfl rfl (by decide) (by omega)) rfl ?_
    refine L_nil ?_
    repeat (first | refine T_seq ?_ | refine T_block ?_ | refine T_inBlock ?_ | refine T_skip ?_)
    have : i / 16 = 0 ∨ i / 16 = 1 ∨ i / 16 = 2 ∨ i / 16 = 3 := by omega
    rcases this with hq | hq | hq | hq
    · rw [hq] at join ⊢
      refine T_region ?_
      refine L_val _ _ (X_cmpR true rfl rfl rfl (by decide)) rfl ?_
      refine L_val _ _ (X_assign) rfl ?_
      refine L_nil ?_
      refine T_true rfl ?_
      refine T_region ?_
      refine L_val _ _ (X_move) rfl ?_
      refine L_val _ _ (X_move) rfl ?_
      refine L_val _ _ (X_bit rfl rfl rfl) rfl ?_
      refine L_val _ _ (X_move) rfl ?_
      refine L_val _ _ (X_xor rfl) rfl ?_
      refine L_val _ _ (X_move) rfl ?_
      refine L_val _ _ (X_bit rfl rfl rfl) rfl ?_
      refine L_val _ _ (X_bit rfl rfl rfl) rfl ?_
      refine L_val _ _ (X_move) rfl ?_
      refine L_val _ _ (X_assign) rfl ?_
      refine L_val _ _ (X_assign) rfl ?_
      refine L_nil ?_
      refine T_inBlock ?_
      exact join _ _ ⟨rfl, rfl⟩
    · rw [hq] at join ⊢
      refine T_region ?_
      refine L_val _ _ (X_cmpR false rfl rfl rfl (by decide)) rfl ?_
      refine L_val _ _ (X_assign) rfl ?_
      refine L_nil ?_
      refine T_false rfl ?_
      repeat (first | refine T_seq ?_ | refine T_block ?_ | refine T_inBlock ?_ | refine T_skip ?_)
      refine T_region ?_
      refine L_val _ _ (X_cmpR true rfl rfl rfl (by decide)) rfl ?_
      refine L_val _ _ (X_assign) rfl ?_
      refine L_nil ?_
      refine T_true rfl ?_
      refine T_region ?_
      refine L_val _ _ (X_move) rfl ?_
      refine L_val _ _ (X_move) rfl ?_
      refine L_val _ _ (X_bit rfl rfl rfl) rfl ?_
      refine L_val _ _ (X_move) rfl ?_
      refine L_val _ _ (X_move) rfl ?_
      refine L_val _ _ (X_bit rfl rfl rfl) rfl ?_
      refine L_val _ _ (X_bit rfl rfl rfl) rfl ?_
      refine L_val _ _ (X_move) rfl ?_
      refine L_val _ _ (X_mul rfl rfl (by omega) (by omega)) rfl ?_
      refine L_val _ _ (X_add rfl rfl (by omega) (by omega)) rfl ?_
      refine L_val _ _ (X_remN (5 * i + 1) 16 rfl rfl (by decide)) rfl ?_
      refine L_val _ _ (X_assign) rfl ?_
      refine L_val _ _ (X_assign) rfl ?_
      refine L_nil ?_
      refine T_inBlock ?_
      exact join _ _ ⟨rfl, rfl⟩
    · rw [hq] at join ⊢
      refine T_region ?_
      refine L_val _ _ (X_cmpR false rfl rfl rfl (by decide)) rfl ?_
      refine L_val _ _ (X_assign) rfl ?_
      refine L_nil ?_
      refine T_false rfl ?_
      repeat (first | refine T_seq ?_ | refine T_block ?_ | refine T_inBlock ?_ | refine T_skip ?_)
      refine T_region ?_
      refine L_val _ _ (X_cmpR false rfl rfl rfl (by decide)) rfl ?_
      refine L_val _ _ (X_assign) rfl ?_
      refine L_nil ?_
      refine T_false rfl ?_
      repeat (first | refine T_seq ?_ | refine T_block ?_ | refine T_inBlock ?_ | refine T_skip ?_)
      refine T_region ?_
      refine L_val _ _ (X_cmpR true rfl rfl rfl (by decide)) rfl ?_
      refine L_val _ _ (X_assign) rfl ?_
      refine L_nil ?_
      refine T_true rfl ?_
      refine T_region ?_
      refine L_val _ _ (X_move) rfl ?_
      refine L_val _ _ (X_move) rfl ?_
      refine L_val _ _ (X_bit rfl rfl rfl) rfl ?_
      refine L_val _ _ (X_move) rfl ?_
      refine L_val _ _ (X_bit rfl rfl rfl) rfl ?_
      refine L_val _ _ (X_move) rfl ?_
      refine L_val _ _ (X_mul rfl rfl (by omega) (by omega)) rfl ?_
      refine L_val _ _ (X_add rfl rfl (by omega) (by omega)) rfl ?_
      refine L_val _ _ (X_remN (3 * i + 5) 16 rfl rfl (by decide)) rfl ?_
      refine L_val _ _ (X_assign) rfl ?_
      refine L_val _ _ (X_assign) rfl ?_
      refine L_nil ?_
      refine T_inBlock ?_
      exact join _ _ ⟨rfl, rfl⟩
    · rw [hq] at join ⊢
      refine T_region ?_
      refine L_val _ _ (X_cmpR false rfl rfl rfl (by decide)) rfl ?_
      refine L_val _ _ (X_assign) rfl ?_
      refine L_nil ?_
      refine T_false rfl ?_
      repeat (first | refine T_seq ?_ | refine T_block ?_ | refine T_inBlock ?_ | refine T_skip ?_)
      refine T_region ?_
      refine L_val _ _ (X_cmpR false rfl rfl rfl (by decide)) rfl ?_
      refine L_val _ _ (X_assign) rfl ?_
      refine L_nil ?_
      refine T_false rfl ?_
      repeat (first | refine T_seq ?_ | refine T_block ?_ | refine T_inBlock ?_ | refine T_skip ?_)
      refine T_region ?_
      refine L_val _ _ (X_cmpR false rfl rfl rfl (by decide)) rfl ?_
      refine L_val _ _ (X_assign) rfl ?_
      refine L_nil ?_
      refine T_false rfl ?_
      repeat (first | refine T_seq ?_ | refine T_block ?_ | refine T_inBlock ?_ | refine T_skip ?_)
      refine T_region ?_
      refine L_val _ _ (X_cmpR true rfl rfl rfl (by decide)) rfl ?_
      refine L_val _ _ (X_assign) rfl ?_
      refine L_nil ?_
      refine T_true rfl ?_
      refine T_region ?_
      refine L_val _ _ (X_move) rfl ?_
      refine L_val _ _ (X_move) rfl ?_
      refine L_val _ _ (X_move) rfl ?_
      refine L_val _ _ (X_xor rfl) rfl ?_
      refine L_val _ _ (X_bit rfl rfl rfl) rfl ?_
      refine L_val _ _ (X_bit rfl rfl rfl) rfl ?_
      refine L_val _ _ (X_move) rfl ?_
      refine L_val _ _ (X_mul rfl rfl (by omega) (by omega)) rfl ?_
      refine L_val _ _ (X_remN (7 * i) 16 rfl rfl (by decide)) rfl ?_
      refine L_val _ _ (X_assign) rfl ?_
      refine L_val _ _ (X_assign) rfl ?_
      refine L_nil ?_
      refine T_inBlock ?_
      exact join _ _ ⟨rfl, rfl⟩
  rintro vs ρ4 u3 ⟨rfl, rfl⟩
  have ho : k5 (i / 16) i < 16 := by
    have : i / 16 = 0 ∨ i / 16 = 1 ∨ i / 16 = 2 ∨ i / 16 = 3 := by omega
    rcases this with hq | hq | hq | hq <;> rw [hq] <;> simp only [k5] <;> omega
  have hsh := sh5_lt ⟨i / 16 * 4 + i % 4, by omega⟩
  simp only at hsh
  have hinu : Below y1.heap.size y1 u2.drew := (sm_drew u2).below bu2
  have hshc : ∀ v, Below y1.heap.size y1 v → v.cell? ⟨w.heap.size, 0 + i / 16 * 4 + i % 4 * 1, none⟩ = some (.int .i64 ((gN sh5 (i / 16 * 4 + i % 4) : Nat) : Int)) := fun v hv => by
    rw [show 0 + i / 16 * 4 + i % 4 * 1 = i / 16 * 4 + i % 4 by omega]
    exact gblk (below_blk (bz1.trans (hv.mono sy1)) k38 z38) _ (nI_get (show i / 16 * 4 + i % 4 < 16 by omega))
  have hsin : ∀ v, Below y1.heap.size y1 v → v.cell? ⟨0, 0 + i * 1, none⟩ = some (.int .u32 (gI sn i)) := fun v hv => (hG8.below (bz1.trans (hv.mono sy1))).sin.2 i hlt64
  have hxc : ∀ v, Below y1.heap.size y1 v → v.cell? ⟨xb, xo + k5 (i / 16) i * 1, none⟩ = some (.int .u32 (gI x (k5 (i / 16) i))) := fun v hv => by
    rw [Nat.mul_one]
    exact (below_cell hv _ hxb).trans (hxI.at _ _ (gI_at (by omega)))
  repeat (first | refine T_seq ?_ | refine T_block ?_ | refine T_inBlock ?_ | refine T_skip ?_)
  refine T_quiet (fun v => Below y1.heap.size y1 v) rfl (by kernel_rfl) (hinu) ?_
  refine LQ_val _ (fun w hw => X_move) rfl ?_
  refine LQ_val _ (fun w hw => X_move) rfl ?_
  refine LQ_val _ (fun w hw => X_move) rfl ?_
  refine LQ_val _ (fun w hw => X_ar rfl rfl rfl) rfl ?_
  refine LQ_val _ (fun w hw => X_move) rfl ?_
  refine LQ_val _ (fun w hw => X_move) rfl ?_
  refine LQ_val _ (fun w hw => X_index U84 S26 rfl rfl ho) rfl ?_
  refine LQ_val _ (fun w hw => X_load A26 rfl (hxc _ hw)) rfl ?_
  refine LQ_val _ (fun w hw => X_ar rfl rfl rfl) rfl ?_
  refine LQ_val _ (fun w hw => X_move) rfl ?_
  refine LQ_val _ (fun w hw => X_indexA U90 S26 rfl rfl hlt64) rfl ?_
  refine LQ_val _ (fun w hw => X_load A26 rfl (hsin _ hw)) rfl ?_
  refine LQ_val _ (fun w hw => X_ar rfl rfl rfl) rfl ?_
  refine LQ_val _ (fun w hw => X_move) rfl ?_
  refine LQ_val _ (fun w hw => X_quoI i 16 rfl rfl (by decide) (by omega)) rfl ?_
  refine LQ_val _ (fun w hw => X_move) rfl ?_
  refine LQ_val _ (fun w hw => X_remN i 4 rfl rfl (by decide)) rfl ?_
  refine LQ_val _ (fun w hw => X_indexA U89 S81 rfl rfl (show i / 16 < 4 by omega)) rfl ?_
  refine LQ_val _ (fun w hw => X_indexA U81 S3 rfl rfl (show i % 4 < 4 by omega)) rfl ?_
  refine LQ_val _ (fun w hw => X_load A3 rfl (hshc _ hw)) rfl ?_
  refine LQ_callF [.int .u32 (add32 (add32 (add32 s.1 (f5 (i / 16) s.2.1 s.2.2.1 s.2.2.2)) (gI x (k5 (i / 16) i))) (gI sn i)), .int .i64 ((gN sh5 (i / 16 * 4 + i % 4) : Nat) : Int)] (.int .u32 (rotlV (add32 (add32 (add32 s.1 (f5 (i / 16) s.2.1 s.2.2.1 s.2.2.2)) (gI x (k5 (i / 16) i))) (gI sn i)) ((gN sh5 (i / 16 * 4 + i % 4) : Nat) : Int))) E48 rfl rfl (fun w hw => (rotl_ret _ _ (by omega) (by omega) w).mono fun u w' hu => ⟨hu.1, hu.2.below hw⟩) ?_
  refine LQ_val _ (fun w hw => X_ar rfl rfl rfl) rfl ?_
  refine LQ_val _ (fun w hw => X_assign) rfl ?_
  refine LQ_nil fun y5 by5 => ?_
  repeat (first | refine T_seq ?_ | refine T_block ?_ | refine T_inBlock ?_ | refine T_skip ?_)
  refine T_region ?_
  refine L_val _ _ (X_move) rfl ?_
  refine L_val _ _ (X_move) rfl ?_
  refine L_val _ _ (X_move) rfl ?_
  refine L_val _ _ (X_move) rfl ?_
  refine L_val _ _ (X_assign) rfl ?_
  refine L_val _ _ (X_assign) rfl ?_
  refine L_val _ _ (X_assign) rfl ?_
  refine L_val _ _ (X_assign) rfl ?_
  refine L_nil ?_
  repeat (first | refine T_seq ?_ | refine T_block ?_ | refine T_inBlock ?_ | refine T_skip ?_)
  refine T_region ?_
  refine L_val _ _ (X_move) rfl ?_
  refine L_val _ _ (X_add rfl rfl (by omega) (by omega)) rfl ?_
  refine L_val _ _ (X_assign) rfl ?_
  refine L_nil ?_
  exact ih3 _ _ _ (by omega) ⟨i + 1, by rw [hstep]; rfl, by omega, rfl, by5⟩
end Go.Proofs.Qxb6500863aDoor
