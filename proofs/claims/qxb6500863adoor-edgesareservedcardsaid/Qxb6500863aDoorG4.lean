/-
  md4.
-/
import Derived.Test.Qxb6500863aDoorG3
namespace Go.Proofs.Qxb6500863aDoor
set_option linter.unusedSimpArgs false
set_option linter.unusedVariables false
open Go.RowKit
theorem ret_args {P : Program} {g : FuncId} {a b : Array Value} {w : World} {Z : Value → World → Prop} (h : a = b) (hr : Ret P g a w Z) : Ret P g b w Z := h ▸ hr
def nI (l : List Nat) : List Int := l.map fun (x : Nat) => (x : Int)
def gN (l : List Nat) (i : Nat) : Nat := l.getD i 0
theorem nI_get {q : IntKind} {l : List Nat} {k : Nat} (h : k < l.length) : (iv q (nI l))[k]? = some (.int q ((gN l k : Nat) : Int)) := by simp [iv, nI, gN, List.getD, h]
def and32 (x y : Int) : Int := bitB .and .u32 x y
def xor32 (x y : Int) : Int := bitB .xor .u32 x y
def an32 (x y : Int) : Int := bitB .andNot .u32 x y
def add32 (x y : Int) : Int := IntKind.u32.wrap (arB .add x y)
abbrev Q4 := Int × Int × Int × Int
def Q4.l (s : Q4) : List Int := [s.1, s.2.1, s.2.2.1, s.2.2.2]
def ord4 : List Nat := [0, 1, 2, 3, 4, 5, 6, 7, 8, 9, 10, 11, 12, 13, 14, 15, 0, 4, 8, 12, 1, 5, 9, 13, 2, 6, 10, 14, 3, 7, 11, 15, 0, 8, 4, 12, 2, 10, 6, 14, 1, 9, 5, 13, 3, 11, 7, 15]
def sh4 : List Nat := [3, 7, 11, 19, 3, 5, 9, 13, 3, 9, 11, 15]
def ad4 : List Int := [0, 1518500249, 1859775393]
theorem ord4_lt : ∀ k : Fin 48, gN ord4 k.val < 16 := by decide
theorem sh4_lt : ∀ k : Fin 12, gN sh4 k.val ≤ 32 := by decide
def f4 : Nat → Int → Int → Int → Int
  | 0, b, c, d => or32 (and32 b c) (and32 (cplV .u32 b) d)
  | 1, b, c, d => or32 (or32 (and32 b c) (and32 b d)) (and32 c d)
  | _, b, c, d => xor32 (xor32 b c) d
def step4 (x : List Int) (r i : Nat) (s : Q4) : Q4 :=
  (s.2.2.2, rotlV (add32 (add32 (add32 s.1 (f4 r s.2.1 s.2.2.1 s.2.2.2)) (gI x (gN ord4 (r * 16 + i)))) (gI ad4 r)) ((gN sh4 (r * 4 + i % 4) : Nat) : Int), s.2.1, s.2.2.1)
def st4 (x : List Int) (s : Q4) : Nat → Q4
  | 0 => s
  | k + 1 => step4 x (k / 16) (k % 16) (st4 x s k)
theorem st4_succ (x : List Int) (s : Q4) (r i : Nat) (hi : i < 16) : st4 x s (16 * r + (i + 1)) = step4 x r i (st4 x s (16 * r + i)) := by
  show step4 x ((16 * r + i) / 16) ((16 * r + i) % 16) _ = _
  rw [show (16 * r + i) / 16 = r by omega, show (16 * r + i) % 16 = i by omega]
  rfl
def addS (h s : Q4) : Q4 := (add32 h.1 s.1, add32 h.2.1 s.2.1, add32 h.2.2.1 s.2.2.1, add32 h.2.2.2 s.2.2.2)
def ini4 : Q4 := (1732584193, 4023233417, 2562383102, 271733878)
def bkN (B : Nat) (p : List Int) (k : Nat) : List Int := (p.drop (B * k)).take B
def h4 (p : List Int) : Nat → Q4
  | 0 => ini4
  | k + 1 => addS (h4 p k) (st4 (wordsAt true (bkN 64 p k) 16) (h4 p k) 48)
def md4N (l : List Int) : List Int := spN true (Q4.l (h4 (padN l 64 8 true) ((padN l 64 8 true).length / 64)))
theorem md4N_len (l : List Int) : (md4N l).length = 16 := by rw [md4N, spN_len]; rfl
theorem bkN_len {B : Nat} {p : List Int} {k : Nat} (h : B * k + B ≤ p.length) : (bkN B p k).length = B := by simp [bkN]; omega
set_option maxHeartbeats 16000000 in
set_option maxRecDepth 10000 in
/-- digestm.md4 -/
theorem md4_ret (a : Option Addr) (l : List Int) (c : Nat) (w : World) (hl : Ints .u8 w a l) (hn : a = none → l.length = 0 ∧ c = 0) (hlen : l.length ≤ 10000000) :
    Ret Tryd.prog 41 #[.slice a l.length c] w fun v w' => ∃ a' c', v = .slice a' 16 c' ∧ w'.ownsRow w.heap.size 5 1 (.slice a' 16 c') 16 (iv .u8 (md4N l)) ∧ Below w.heap.size w w' := by
  refine ret_of_T (vs := [.slice a l.length c]) Tryd.func41 Tryd.ntmps41 rfl (Nat.le_of_ble_eq_true rfl) ?_
  repeat (first | refine T_seq ?_ | refine T_block ?_ | refine T_inBlock ?_ | refine T_skip ?_)
  refine T_region ?_
  refine L_val _ _ (X_assign) rfl ?_
  refine L_nil ?_
  repeat (first | refine T_seq ?_ | refine T_block ?_ | refine T_inBlock ?_ | refine T_skip ?_)
  refine T_region ?_
  refine L_val _ _ (X_build (.agg (iv .i64 (nI (ord4.take 16))).toArray) (by kernel_rfl)) rfl ?_
  refine L_val _ _ (X_build (.agg (iv .i64 (nI ((ord4.drop 16).take 16))).toArray) (by kernel_rfl)) rfl ?_
  refine L_val _ _ (X_build (.agg (iv .i64 (nI (ord4.drop 32))).toArray) (by kernel_rfl)) rfl ?_
  refine L_val _ _ (X_build (.agg (iv .i64 (nI ord4)).toArray) (by kernel_rfl)) rfl ?_
  refine L_alloc Z80 rfl fun w1 h1 => ?_
  refine L_storeAll (iv .i64 (nI ord4)) S80 rfl rfl rfl (iv_one _ _) h1.new rfl fun w2 h2 => ?_
  refine L_nil ?_
  have h12 := h1.trans h2
  have k3 : Blk w2 w.heap.size (iv .i64 (nI ord4)).toArray 80 := h12.new
  have b2 : Below w.heap.size w w2 := h12.below (Below.refl _ _) (Nat.le_refl _)
  have z2 := h12.lt
  have s2 := h12.size
  clear h1 h2 h12
  repeat (first | refine T_seq ?_ | refine T_block ?_ | refine T_inBlock ?_ | refine T_skip ?_)
  refine T_region ?_
  refine L_val _ _ (X_build (.agg (iv .i64 (nI (sh4.take 4))).toArray) (by kernel_rfl)) rfl ?_
  refine L_val _ _ (X_build (.agg (iv .i64 (nI ((sh4.drop 4).take 4))).toArray) (by kernel_rfl)) rfl ?_
  refine L_val _ _ (X_build (.agg (iv .i64 (nI (sh4.drop 8))).toArray) (by kernel_rfl)) rfl ?_
  refine L_val _ _ (X_build (.agg (iv .i64 (nI sh4)).toArray) (by kernel_rfl)) rfl ?_
  refine L_alloc Z82 rfl fun w3 h3 => ?_
  refine L_storeAll (iv .i64 (nI sh4)) S82 rfl rfl rfl (iv_one _ _) h3.new rfl fun w4 h4' => ?_
  refine L_nil ?_
  have h34 := h3.trans h4'
  have k4 : Blk w4 w2.heap.size (iv .i64 (nI sh4)).toArray 82 := h34.new
  have b4 : Below w.heap.size w w4 := h34.below b2 s2
  have k34 := h34.blk k3 (by omega)
  have z4 := h34.lt
  have s4 := h34.size
  clear h3 h4' h34 k3 b2
  repeat (first | refine T_seq ?_ | refine T_block ?_ | refine T_inBlock ?_ | refine T_skip ?_)
  refine T_region ?_
  refine L_val _ _ (X_build (.agg (iv .u32 ad4).toArray) (by kernel_rfl)) rfl ?_
  refine L_alloc Z83 rfl fun w5 h5 => ?_
  refine L_storeAll (iv .u32 ad4) S83 rfl rfl rfl (iv_one _ _) h5.new rfl fun w6 h6 => ?_
  refine L_nil ?_
  have h56 := h5.trans h6
  have k5 : Blk w6 w4.heap.size (iv .u32 ad4).toArray 83 := h56.new
  have b6 : Below w.heap.size w w6 := h56.below b4 (by omega)
  have k36 := h56.blk k34 (by omega)
  have k46 := h56.blk k4 (by omega)
  have z6 := h56.lt
  have s6 := h56.size
  clear h5 h6 h56 k34 k4 b4
  repeat (first | refine T_seq ?_ | refine T_block ?_ | refine T_inBlock ?_ | refine T_skip ?_)
  refine T_region ?_
  refine L_buildSlice (iv .u32 (Q4.l ini4)).toArray 26 (by kernel_rfl) rfl fun w7 h7 => ?_
  refine L_val _ _ (X_assign) rfl ?_
  refine L_nil ?_
  have k6 : Blk w7 w6.heap.size (iv .u32 (Q4.l ini4)).toArray 26 := h7.new
  have b67 : Below w6.heap.size w6 w7 := h7.below (Below.refl _ _) (Nat.le_refl _)
  have b7 : Below w.heap.size w w7 := b6.trans (b67.mono b6.size)
  have s7 := b67.size
  have z7 := h7.lt
  have hpad := pad_ret a l c 64 8 true (.inl ⟨rfl, rfl⟩) w7 (hl.below b7) hn hlen
  have hmod := padN_mod l 64 8 true (.inl ⟨rfl, rfl⟩)
  have hplen := padN_len l 64 8 true
  have hzl : zerosOf l.length 64 8 < 64 := by unfold zerosOf; omega
  unfold md4N
  generalize padN l 64 8 true = p at *
  repeat (first | refine T_seq ?_ | refine T_block ?_ | refine T_inBlock ?_ | refine T_skip ?_)
  refine T_region ?_
  refine L_val _ _ (X_move) rfl ?_
  refine L_callF [.slice a l.length c, .int .i64 64, .int .i64 8, .bool true] E46 rfl rfl hpad ?_
  rintro v w8 ⟨pa, pc, rfl, op, b8⟩
  refine L_val _ _ (X_assign) rfl ?_
  refine L_nil ?_
  have hp0 : 0 < p.length := by omega
  have hpI : Ints .u8 w8 pa p := ints_owns op rfl
  have hpc := owns_cap op
  obtain ⟨pb, po, rfl, hpb⟩ := hpI.some hp0
  have b68 : Below w6.heap.size w6 w8 := b67.trans (b8.mono s7)
  have b78 := b8
  have k38 := below_blk b68 k36 (by omega)
  have k48 := below_blk b68 k46 (by omega)
  have k58 := below_blk b68 k5 (by omega)
  have k68 := below_blk b8 k6 z7
  have bw8 : Below w.heap.size w w8 := b6.trans (b68.mono b6.size)
  have z38 := k38.lt
  have z48 := k48.lt
  have z58 := k58.lt
  obtain ⟨nb, hnb⟩ : ∃ nb, p.length = 64 * nb := ⟨p.length / 64, by omega⟩
  have hnbd : p.length / 64 = nb := by omega
  rw [hnbd]
  clear hpad op b67 b8 b68 b6 b7 k36 k46 k5 k6 h7 hmod
  generalize w6.heap.size = B6 at *
  generalize w4.heap.size = B5 at *
  generalize w2.heap.size = B4 at *
  repeat (first | refine T_seq ?_ | refine T_block ?_ | refine T_inBlock ?_ | refine T_skip ?_)
  refine T_region ?_
  refine L_val _ _ (X_assign) rfl ?_
  refine L_nil ?_
  repeat (first | refine T_seq ?_ | refine T_block ?_ | refine T_inBlock ?_ | refine T_skip ?_)
  refine T_loopS [8, 7, 6, 3, 4, 5] (fun m vs z => ∃ (k : Nat) (hb : Nat), vs = [.int .i64 ((64 * k : Nat) : Int), .slice (some ⟨pb, po, none⟩) p.length pc, .slice (some ⟨hb, 0, none⟩) 4 4, .pointer (some ⟨w.heap.size, 0, none⟩), .pointer (some ⟨B4, 0, none⟩), .pointer (some ⟨B5, 0, none⟩)] ∧ k ≤ nb ∧ m = nb - k ∧ Below w8.heap.size w8 z ∧ Blk z hb (iv .u32 (Q4.l (h4 p k))).toArray 26) nb
    ⟨0, B6, rfl, by omega, rfl, Below.refl _ _, k68⟩ ?_
  clear k68
  rintro m vs ρ z ⟨k, hb, rfl, hk, rfl, bz, kh⟩ ih
  have sz := bz.size
  have zh := kh.lt
  have bwz : Below w.heap.size w z := bw8.trans (bz.mono bw8.size)
  repeat (first | refine T_seq ?_ | refine T_block ?_ | refine T_inBlock ?_ | refine T_skip ?_)
  rcases Nat.lt_or_ge k nb with hlt | hge
  case inr =>
    obtain rfl : k = nb := by omega
    have e1 : cmpB .lss ((64 * k : Nat) : Int) (p.length : Int) = false := by simp [cmpB]; omega
    refine T_region ?_
    refine L_val _ _ (X_move) rfl ?_
    refine L_val _ _ (X_move) rfl ?_
    refine L_val _ _ (X_lenS U25 rfl) rfl ?_
    refine L_val _ _ (X_cmpR false rfl rfl rfl e1) rfl ?_
    refine L_nil ?_
    refine T_false rfl ?_
    refine T_exit rfl ?_
    have hsp := spell_ret (some ⟨hb, 0, none⟩) (Q4.l (h4 p k)) 4 true z (ints_blk kh) (show 4 ≤ 8 by decide)
    repeat (first | refine T_seq ?_ | refine T_block ?_ | refine T_inBlock ?_ | refine T_skip ?_)
    refine T_region ?_
    refine L_val _ _ (X_move) rfl ?_
    refine L_callF [.slice (some ⟨hb, 0, none⟩) 4 4, .bool true] E49 rfl rfl hsp ?_
    rintro v y1 ⟨a1, c1, rfl, o1, by1⟩
    refine L_val _ _ (X_assign) rfl ?_
    refine L_nil ?_
    exact T_ret1 Tryd.func41 rfl ⟨a1, c1, rfl, World.ownsRow.mono o1 bwz.size, bwz.trans (by1.mono bwz.size)⟩
  have e1 : cmpB .lss ((64 * k : Nat) : Int) (p.length : Int) = true := by simp [cmpB]; omega
  have hbkl : (bkN 64 p k).length = 64 := bkN_len (by omega)
  have hwords := words_ret pb (po + 64 * k * 1) (pc - 64 * k) (bkN 64 p k) hbkl true z (by omega) (by
    have h1 := ints_drop (n := 64 * k) (hpI.below bz)
    rw [Nat.mul_one]
    exact ints_take h1 64)
  have hh : h4 p (k + 1) = addS (h4 p k) (st4 (wordsAt true (bkN 64 p k) 16) (h4 p k) 48) := rfl
  have hxl : (wordsAt true (bkN 64 p k) 16).length = 16 := wordsAt_len _ _ _
  generalize wordsAt true (bkN 64 p k) 16 = x at *
  refine T_region ?_
  refine L_val _ _ (X_move) rfl ?_
  refine L_val _ _ (X_move) rfl ?_
  refine L_val _ _ (X_lenS U25 rfl) rfl ?_
  refine L_val _ _ (X_cmpR true rfl rfl rfl e1) rfl ?_
  refine L_nil ?_
  refine T_true rfl ?_
  have hwords' := ret_args (b := #[.slice (some ⟨pb, po + 64 * k * 1, none⟩) (64 * k + 64 - 64 * k) (pc - 64 * k), .bool true]) (by rw [show 64 * k + 64 - 64 * k = 64 by omega]) hwords
  repeat (first | refine T_seq ?_ | refine T_block ?_ | refine T_inBlock ?_ | refine T_skip ?_)
  refine T_region ?_
  refine L_val _ _ (X_move) rfl ?_
  refine L_val _ _ (X_move) rfl ?_
  refine L_val _ _ (X_move) rfl ?_
  refine L_val _ _ (X_add rfl rfl (by omega) (by omega)) rfl ?_
  refine L_val _ _ (X_sliceLH (l := 64 * k) (h := 64 * k + 64) U25 S5 rfl rfl rfl (by omega) (by omega) (by omega)) rfl ?_
  refine L_callF [.slice (some ⟨pb, po + 64 * k * 1, none⟩) (64 * k + 64 - 64 * k) (pc - 64 * k), .bool true] E47 rfl rfl hwords' ?_
  rintro v y1 ⟨xa, xc, rfl, ox, by1⟩
  refine L_val _ _ (X_assign) rfl ?_
  refine L_nil ?_
  have hxI : Ints .u32 y1 xa x := ints_owns ox hxl
  obtain ⟨xb, xo, rfl, hxb⟩ := hxI.some (by omega)
  have bz1 : Below w8.heap.size w8 y1 := bz.trans (by1.mono sz)
  have kh1 := below_blk by1 kh zh
  have sy1 := bz1.size
  have hin : Below y1.heap.size y1 y1.drew := (sm_drew y1).below (Below.refl _ _)
  generalize hs : h4 p k = s0 at *
  have zh1 := kh1.lt
  clear by1 ox hwords hwords'
  have hg : ∀ u, Below y1.heap.size y1 u → ∀ j v, (iv .u32 (Q4.l s0))[j]? = some v → u.cell? ⟨hb, 0 + j * 1, none⟩ = some v := fun u hu j v hv => by
    rw [Nat.zero_add, Nat.mul_one]; exact gblk (below_blk hu kh1 zh1) j hv
  repeat (first | refine T_seq ?_ | refine T_block ?_ | refine T_inBlock ?_ | refine T_skip ?_)
  refine T_quiet (fun u => Below y1.heap.size y1 u) rfl (by kernel_rfl) (hin) ?_
  refine LQ_val _ (fun w hw => X_move) rfl ?_
  refine LQ_val _ (fun w hw => X_index U84 S26 rfl rfl (by decide)) rfl ?_
  refine LQ_val _ (fun w hw => X_load A26 rfl (hg _ hw 0 _ rfl)) rfl ?_
  refine LQ_val _ (fun w hw => X_move) rfl ?_
  refine LQ_val _ (fun w hw => X_index U84 S26 rfl rfl (by decide)) rfl ?_
  refine LQ_val _ (fun w hw => X_load A26 rfl (hg _ hw 1 _ rfl)) rfl ?_
  refine LQ_val _ (fun w hw => X_move) rfl ?_
  refine LQ_val _ (fun w hw => X_index U84 S26 rfl rfl (by decide)) rfl ?_
  refine LQ_val _ (fun w hw => X_load A26 rfl (hg _ hw 2 _ rfl)) rfl ?_
  refine LQ_val _ (fun w hw => X_move) rfl ?_
  refine LQ_val _ (fun w hw => X_index U84 S26 rfl rfl (by decide)) rfl ?_
  refine LQ_val _ (fun w hw => X_load A26 rfl (hg _ hw 3 _ rfl)) rfl ?_
  refine LQ_val _ (fun w hw => X_assign) rfl ?_
  refine LQ_val _ (fun w hw => X_assign) rfl ?_
  refine LQ_val _ (fun w hw => X_assign) rfl ?_
  refine LQ_val _ (fun w hw => X_assign) rfl ?_
  refine LQ_nil fun y2 by2 => ?_
  repeat (first | refine T_seq ?_ | refine T_block ?_ | refine T_inBlock ?_ | refine T_skip ?_)
  refine T_region ?_
  refine L_val _ _ (X_assign) rfl ?_
  refine L_nil ?_
  repeat (first | refine T_seq ?_ | refine T_block ?_ | refine T_inBlock ?_ | refine T_skip ?_)
  refine T_loopS [14, 10, 11, 12, 13, 9, 8, 7, 6, 3, 4, 5] (fun m vs u => ∃ r : Nat, vs = [.int .i64 r, .int .u32 (st4 x s0 (16 * r)).1, .int .u32 (st4 x s0 (16 * r)).2.1, .int .u32 (st4 x s0 (16 * r)).2.2.1, .int .u32 (st4 x s0 (16 * r)).2.2.2, .slice (some ⟨xb, xo, none⟩) 16 xc, .int .i64 ((64 * k : Nat) : Int), .slice (some ⟨pb, po, none⟩) p.length pc, .slice (some ⟨hb, 0, none⟩) 4 4, .pointer (some ⟨w.heap.size, 0, none⟩), .pointer (some ⟨B4, 0, none⟩), .pointer (some ⟨B5, 0, none⟩)] ∧ r ≤ 3 ∧ m = 3 - r ∧ Below y1.heap.size y1 u) 3
    ⟨0, rfl, by omega, rfl, by2⟩ ?_
  clear by2
  rintro m vs ρ2 u ⟨r, rfl, hr, rfl, bu⟩ ih2
  repeat (first | refine T_seq ?_ | refine T_block ?_ | refine T_inBlock ?_ | refine T_skip ?_)
  rcases Nat.lt_or_ge r 3 with hlt3 | hge3
  case inr =>
    obtain rfl : r = 3 := by omega
    refine T_region ?_
    refine L_val _ _ (X_move) rfl ?_
    refine L_val _ _ (X_cmpR false rfl rfl rfl (by decide)) rfl ?_
    refine L_nil ?_
    refine T_false rfl ?_
    refine T_exit rfl ?_
    have hinu : Below y1.heap.size y1 u.drew := (sm_drew u).below bu
    generalize hs48 : st4 x s0 (16 * 3) = s3 at *
    repeat (first | refine T_seq ?_ | refine T_block ?_ | refine T_inBlock ?_ | refine T_skip ?_)
    refine T_draw (fun u => Below y1.heap.size y1 u) 21 rfl rfl fun u1 hsm => ?_
    have hS : Below y1.heap.size y1 u1 := hsm.below bu
    refine D_take 0 _ rfl (by kernel_rfl) hS (fun w hw => X_move) rfl ?_
    refine D_take 1 _ rfl (by kernel_rfl) hS (fun w hw => X_index U84 S26 rfl rfl (by decide)) rfl ?_
    refine D_take 2 _ rfl (by kernel_rfl) hS (fun w hw => X_load A26 rfl (hg _ hw 0 _ rfl)) rfl ?_
    refine D_take 3 _ rfl (by kernel_rfl) hS (fun w hw => X_move) rfl ?_
    refine D_take 4 _ rfl (by kernel_rfl) hS (fun w hw => X_ar rfl rfl rfl) rfl ?_
    refine D_take 5 _ rfl (by kernel_rfl) hS (fun w hw => X_move) rfl ?_
    refine D_take 6 _ rfl (by kernel_rfl) hS (fun w hw => X_index U84 S26 rfl rfl (by decide)) rfl ?_
    refine D_take 7 _ rfl (by kernel_rfl) hS (fun w hw => X_load A26 rfl (hg _ hw 1 _ rfl)) rfl ?_
    refine D_take 8 _ rfl (by kernel_rfl) hS (fun w hw => X_move) rfl ?_
    refine D_take 9 _ rfl (by kernel_rfl) hS (fun w hw => X_ar rfl rfl rfl) rfl ?_
    refine D_take 10 _ rfl (by kernel_rfl) hS (fun w hw => X_move) rfl ?_
    refine D_take 11 _ rfl (by kernel_rfl) hS (fun w hw => X_index U84 S26 rfl rfl (by decide)) rfl ?_
    refine D_take 12 _ rfl (by kernel_rfl) hS (fun w hw => X_load A26 rfl (hg _ hw 2 _ rfl)) rfl ?_
    refine D_take 13 _ rfl (by kernel_rfl) hS (fun w hw => X_move) rfl ?_
    refine D_take 14 _ rfl (by kernel_rfl) hS (fun w hw => X_ar rfl rfl rfl) rfl ?_
    refine D_take 15 _ rfl (by kernel_rfl) hS (fun w hw => X_move) rfl ?_
    refine D_take 16 _ rfl (by kernel_rfl) hS (fun w hw => X_index U84 S26 rfl rfl (by decide)) rfl ?_
    refine D_take 17 _ rfl (by kernel_rfl) hS (fun w hw => X_load A26 rfl (hg _ hw 3 _ rfl)) rfl ?_
    refine D_take 18 _ rfl (by kernel_rfl) hS (fun w hw => X_move) rfl ?_
    refine D_take 19 _ rfl (by kernel_rfl) hS (fun w hw => X_ar rfl rfl rfl) rfl ?_
    skip
    refine D_buildSlice 20 (iv .u32 (Q4.l (addS s0 s3))).toArray 26 rfl (by kernel_rfl) (by kernel_rfl) rfl ?_
    intro u2 h2
    have hS2 : Below y1.heap.size y1 u2 := h2.below hS hS.size
    refine ⟨fun _ => hS2, ?_⟩
    refine D_val 21 _ _ rfl (by kernel_rfl) X_assign rfl (fun hb => by cases hb) ?_
    refine D_done (by kernel_rfl) ?_
    have k2' : Blk u2 u1.heap.size (iv .u32 (Q4.l (addS s0 s3))).toArray 26 := h2.new
    repeat (first | refine T_seq ?_ | refine T_block ?_ | refine T_inBlock ?_ | refine T_skip ?_)
    refine T_region ?_
    refine L_val _ _ (X_move) rfl ?_
    refine L_val _ _ (X_add rfl rfl (by omega) (by omega)) rfl ?_
    refine L_val _ _ (X_assign) rfl ?_
    refine L_nil ?_
    exact ih _ _ _ (by omega) ⟨k + 1, u1.heap.size, rfl, by omega, rfl, bz1.trans (hS2.mono sy1), by rw [hh]; exact k2'⟩
  have e2 : cmpB .lss (r : Int) 3 = true := by simp [cmpB]; omega
  refine T_region ?_
  refine L_val _ _ (X_move) rfl ?_
  refine L_val _ _ (X_cmpR true rfl rfl rfl e2) rfl ?_
  refine L_nil ?_
  refine T_true rfl ?_
  repeat (first | refine T_seq ?_ | refine T_block ?_ | refine T_inBlock ?_ | refine T_skip ?_)
  refine T_region ?_
  refine L_val _ _ (X_assign) rfl ?_
  refine L_nil ?_
  repeat (first | refine T_seq ?_ | refine T_block ?_ | refine T_inBlock ?_ | refine T_skip ?_)
  refine T_loopS [15, 14, 10, 11, 12, 13, 9, 8, 7, 6, 3, 4, 5] (fun m vs u => ∃ i : Nat, vs = [.int .i64 i, .int .i64 r, .int .u32 (st4 x s0 (16 * r + i)).1, .int .u32 (st4 x s0 (16 * r + i)).2.1, .int .u32 (st4 x s0 (16 * r + i)).2.2.1, .int .u32 (st4 x s0 (16 * r + i)).2.2.2, .slice (some ⟨xb, xo, none⟩) 16 xc, .int .i64 ((64 * k : Nat) : Int), .slice (some ⟨pb, po, none⟩) p.length pc, .slice (some ⟨hb, 0, none⟩) 4 4, .pointer (some ⟨w.heap.size, 0, none⟩), .pointer (some ⟨B4, 0, none⟩), .pointer (some ⟨B5, 0, none⟩)] ∧ i ≤ 16 ∧ m = 16 - i ∧ Below y1.heap.size y1 u) 16
    ⟨0, rfl, by omega, rfl, bu⟩ ?_
  clear bu
  rintro m vs ρ3 u2 ⟨i, rfl, hi, rfl, bu2⟩ ih3
  repeat (first | refine T_seq ?_ | refine T_block ?_ | refine T_inBlock ?_ | refine T_skip ?_)
  rcases Nat.lt_or_ge i 16 with hlt16 | hge16
  case inr =>
    obtain rfl : i = 16 := by omega
    refine T_region ?_
    refine L_val _ _ (X_move) rfl ?_
    refine L_val _ _ (X_cmpR false rfl rfl rfl (by decide)) rfl ?_
    refine L_nil ?_
    refine T_false rfl ?_
    refine T_exit rfl ?_
    repeat (first | refine T_seq ?_ | refine T_block ?_ | refine T_inBlock ?_ | refine T_skip ?_)
    refine T_region ?_
    refine L_val _ _ (X_move) rfl ?_
    refine L_val _ _ (X_add rfl rfl (by omega) (by omega)) rfl ?_
    refine L_val _ _ (X_assign) rfl ?_
    refine L_nil ?_
    exact ih2 _ _ _ (by omega) ⟨r + 1, by rw [show 16 * (r + 1) = 16 * r + 16 by omega]; rfl, by omega, rfl, bu2⟩
  have e3 : cmpB .lss (i : Int) 16 = true := by simp [cmpB]; omega
  have hstep := st4_succ x s0 r i hlt16
  generalize st4 x s0 (16 * r + i) = s at *
  refine T_region ?_
  refine L_val _ _ (X_move) rfl ?_
  refine L_val _ _ (X_cmpR true rfl rfl rfl e3) rfl ?_
  refine L_nil ?_
  refine T_true rfl ?_
  repeat (first | refine T_seq ?_ | refine T_block ?_ | refine T_inBlock ?_ | refine T_skip ?_)
  refine T_region ?_
  refine L_val _ _ (X_assign) rfl ?_
  refine L_nil ?_
  refine T_seq ?_
  refine T_part [16, 15, 14, 10, 11, 12, 13, 9, 8, 7, 6, 3, 4, 5] (fun vs y => vs = [.int .u32 (f4 r s.2.1 s.2.2.1 s.2.2.2), .int .i64 i, .int .i64 r, .int .u32 s.1, .int .u32 s.2.1, .int .u32 s.2.2.1, .int .u32 s.2.2.2, .slice (some ⟨xb, xo, none⟩) 16 xc, .int .i64 ((64 * k : Nat) : Int), .slice (some ⟨pb, po, none⟩) p.length pc, .slice (some ⟨hb, 0, none⟩) 4 4, .pointer (some ⟨w.heap.size, 0, none⟩), .pointer (some ⟨B4, 0, none⟩), .pointer (some ⟨B5, 0, none⟩)] ∧ u2 = y) ?_ (fun join => ?_)
  rotate_left
  · repeat (first | refine T_seq ?_ | refine T_block ?_ | refine T_inBlock ?_ | refine T_skip ?_)
    refine T_region ?_
    refine L_val _ _ (X_move) rfl ?_
    refine L_nil ?_
    repeat (first | refine T_seq ?_ | refine T_block ?_ | refine T_inBlock ?_ | refine T_skip ?_)
    have : r = 0 ∨ r = 1 ∨ r = 2 := by omega
    rcases this with rfl | rfl | rfl
    · refine T_region ?_
      refine L_val _ _ (X_cmpR true rfl rfl rfl (by decide)) rfl ?_
      refine L_val _ _ (X_assign) rfl ?_
      refine L_nil ?_
      refine T_true rfl ?_
      refine T_region ?_
      refine L_val _ _ (X_move) rfl ?_
      refine L_val _ _ (X_move) rfl ?_
      refine L_val _ _ (X_bit rfl rfl rfl) rfl ?_
      refine L_val _ _ (X_move) rfl ?_
      refine L_val _ _ (X_xor rfl) rfl ?_
      refine L_val _ _ (X_move) rfl ?_
      refine L_val _ _ (X_bit rfl rfl rfl) rfl ?_
      refine L_val _ _ (X_bit rfl rfl rfl) rfl ?_
      refine L_val _ _ (X_assign) rfl ?_
      refine L_nil ?_
      refine T_inBlock ?_
      exact join _ _ ⟨rfl, rfl⟩
    · refine T_region ?_
      refine L_val _ _ (X_cmpR false rfl rfl rfl (by decide)) rfl ?_
      refine L_val _ _ (X_assign) rfl ?_
      refine L_nil ?_
      refine T_false rfl ?_
      repeat (first | refine T_seq ?_ | refine T_block ?_ | refine T_inBlock ?_ | refine T_skip ?_)
      refine T_region ?_
      refine L_val _ _ (X_cmpR true rfl rfl rfl (by decide)) rfl ?_
      refine L_val _ _ (X_assign) rfl ?_
      refine L_nil ?_
      refine T_true rfl ?_
      refine T_region ?_
      refine L_val _ _ (X_move) rfl ?_
      refine L_val _ _ (X_move) rfl ?_
      refine L_val _ _ (X_bit rfl rfl rfl) rfl ?_
      refine L_val _ _ (X_move) rfl ?_
      refine L_val _ _ (X_move) rfl ?_
      refine L_val _ _ (X_bit rfl rfl rfl) rfl ?_
      refine L_val _ _ (X_bit rfl rfl rfl) rfl ?_
      refine L_val _ _ (X_move) rfl ?_
      refine L_val _ _ (X_move) rfl ?_
      refine L_val _ _ (X_bit rfl rfl rfl) rfl ?_
      refine L_val _ _ (X_bit rfl rfl rfl) rfl ?_
      refine L_val _ _ (X_assign) rfl ?_
      refine L_nil ?_
      refine T_inBlock ?_
      exact join _ _ ⟨rfl, rfl⟩
    · refine T_region ?_
      refine L_val _ _ (X_cmpR false rfl rfl rfl (by decide)) rfl ?_
      refine L_val _ _ (X_assign) rfl ?_
      refine L_nil ?_
      refine T_false rfl ?_
      repeat (first | refine T_seq ?_ | refine T_block ?_ | refine T_inBlock ?_ | refine T_skip ?_)
      refine T_region ?_
      refine L_val _ _ (X_cmpR false rfl rfl rfl (by decide)) rfl ?_
      refine L_val _ _ (X_assign) rfl ?_
      refine L_nil ?_
      refine T_false rfl ?_
      repeat (first | refine T_seq ?_ | refine T_block ?_ | refine T_inBlock ?_ | refine T_skip ?_)
      refine T_region ?_
      refine L_val _ _ (X_cmpR true rfl rfl rfl (by decide)) rfl ?_
      refine L_val _ _ (X_assign) rfl ?_
      refine L_nil ?_
      refine T_true rfl ?_
      refine T_region ?_
      refine L_val _ _ (X_move) rfl ?_
      refine L_val _ _ (X_move) rfl ?_
      refine L_val _ _ (X_bit rfl rfl rfl) rfl ?_
      refine L_val _ _ (X_move) rfl ?_
      refine L_val _ _ (X_bit rfl rfl rfl) rfl ?_
      refine L_val _ _ (X_assign) rfl ?_
      refine L_nil ?_
      refine T_inBlock ?_
      exact join _ _ ⟨rfl, rfl⟩
  rintro vs ρ4 u3 ⟨rfl, rfl⟩
  have ho := ord4_lt ⟨r * 16 + i, by omega⟩
  have hsh := sh4_lt ⟨r * 4 + i % 4, by omega⟩
  simp only at ho hsh
  have hinu : Below y1.heap.size y1 u2.drew := (sm_drew u2).below bu2
  have hord : ∀ v, Below y1.heap.size y1 v → v.cell? ⟨w.heap.size, 0 + r * 16 + i * 1, none⟩ = some (.int .i64 ((gN ord4 (r * 16 + i) : Nat) : Int)) := fun v hv => by
    rw [show 0 + r * 16 + i * 1 = r * 16 + i by omega]
    exact gblk (below_blk (bz1.trans (hv.mono sy1)) k38 z38) _ (nI_get (show r * 16 + i < 48 by omega))
  have hshc : ∀ v, Below y1.heap.size y1 v → v.cell? ⟨B4, 0 + r * 4 + i % 4 * 1, none⟩ = some (.int .i64 ((gN sh4 (r * 4 + i % 4) : Nat) : Int)) := fun v hv => by
    rw [show 0 + r * 4 + i % 4 * 1 = r * 4 + i % 4 by omega]
    exact gblk (below_blk (bz1.trans (hv.mono sy1)) k48 z48) _ (nI_get (show r * 4 + i % 4 < 12 by omega))
  have hadc : ∀ v, Below y1.heap.size y1 v → v.cell? ⟨B5, 0 + r * 1, none⟩ = some (.int .u32 (gI ad4 r)) := fun v hv => by
    rw [show 0 + r * 1 = r by omega]
    exact gblk (below_blk (bz1.trans (hv.mono sy1)) k58 z58) _ (iv_get (gI_at (show r < 3 by omega)))
  have hxc : ∀ v, Below y1.heap.size y1 v → v.cell? ⟨xb, xo + gN ord4 (r * 16 + i) * 1, none⟩ = some (.int .u32 (gI x (gN ord4 (r * 16 + i)))) := fun v hv => by
    rw [Nat.mul_one]
    exact (below_cell hv _ hxb).trans (hxI.at _ _ (gI_at (by omega)))
  repeat (first | refine T_seq ?_ | refine T_block ?_ | refine T_inBlock ?_ | refine T_skip ?_)
  refine T_quiet (fun v => Below y1.heap.size y1 v) rfl (by kernel_rfl) (hinu) ?_
  refine LQ_val _ (fun w hw => X_move) rfl ?_
  refine LQ_val _ (fun w hw => X_move) rfl ?_
  refine LQ_val _ (fun w hw => X_ar rfl rfl rfl) rfl ?_
  refine LQ_val _ (fun w hw => X_move) rfl ?_
  refine LQ_val _ (fun w hw => X_move) rfl ?_
  refine LQ_val _ (fun w hw => X_move) rfl ?_
  refine LQ_val _ (fun w hw => X_indexA U80 S79 rfl rfl hlt3) rfl ?_
  refine LQ_val _ (fun w hw => X_indexA U79 S3 rfl rfl hlt16) rfl ?_
  refine LQ_val _ (fun w hw => X_load A3 rfl (hord _ hw)) rfl ?_
  refine LQ_val _ (fun w hw => X_index U84 S26 rfl rfl ho) rfl ?_
  refine LQ_val _ (fun w hw => X_load A26 rfl (hxc _ hw)) rfl ?_
  refine LQ_val _ (fun w hw => X_ar rfl rfl rfl) rfl ?_
  refine LQ_val _ (fun w hw => X_move) rfl ?_
  refine LQ_val _ (fun w hw => X_indexA U83 S26 rfl rfl hlt3) rfl ?_
  refine LQ_val _ (fun w hw => X_load A26 rfl (hadc _ hw)) rfl ?_
  refine LQ_val _ (fun w hw => X_ar rfl rfl rfl) rfl ?_
  refine LQ_val _ (fun w hw => X_move) rfl ?_
  refine LQ_val _ (fun w hw => X_move) rfl ?_
  refine LQ_val _ (fun w hw => X_remN i 4 rfl rfl (by decide)) rfl ?_
  refine LQ_val _ (fun w hw => X_indexA U82 S81 rfl rfl hlt3) rfl ?_
  refine LQ_val _ (fun w hw => X_indexA U81 S3 rfl rfl (show i % 4 < 4 by omega)) rfl ?_
  refine LQ_val _ (fun w hw => X_load A3 rfl (hshc _ hw)) rfl ?_
  refine LQ_callF [.int .u32 (add32 (add32 (add32 s.1 (f4 r s.2.1 s.2.2.1 s.2.2.2)) (gI x (gN ord4 (r * 16 + i)))) (gI ad4 r)), .int .i64 ((gN sh4 (r * 4 + i % 4) : Nat) : Int)] (.int .u32 (rotlV (add32 (add32 (add32 s.1 (f4 r s.2.1 s.2.2.1 s.2.2.2)) (gI x (gN ord4 (r * 16 + i)))) (gI ad4 r)) ((gN sh4 (r * 4 + i % 4) : Nat) : Int))) E48 rfl rfl (fun w hw => (rotl_ret _ _ (by omega) (by omega) w).mono fun u w' hu => ⟨hu.1, hu.2.below hw⟩) ?_
  refine LQ_val _ (fun w hw => X_assign) rfl ?_
  refine LQ_nil fun y5 by5 => ?_
  repeat (first | refine T_seq ?_ | refine T_block ?_ | refine T_inBlock ?_ | refine T_skip ?_)
  refine T_region ?_
  refine L_val _ _ (X_move) rfl ?_
  refine L_val _ _ (X_move) rfl ?_
  refine L_val _ _ (X_move) rfl ?_
  refine L_val _ _ (X_move) rfl ?_
  refine L_val _ _ (X_assign) rfl ?_
  refine L_val _ _ (X_assign) rfl ?_
  refine L_val _ _ (X_assign) rfl ?_
  refine L_val _ _ (X_assign) rfl ?_
  refine L_nil ?_
  repeat (first | refine T_seq ?_ | refine T_block ?_ | refine T_inBlock ?_ | refine T_skip ?_)
  refine T_region ?_
  refine L_val _ _ (X_move) rfl ?_
  refine L_val _ _ (X_add rfl rfl (by omega) (by omega)) rfl ?_
  refine L_val _ _ (X_assign) rfl ?_
  refine L_nil ?_
  exact ih3 _ _ _ (by omega) ⟨i + 1, by rw [hstep]; rfl, by omega, rfl, by5⟩
end Go.Proofs.Qxb6500863aDoor
