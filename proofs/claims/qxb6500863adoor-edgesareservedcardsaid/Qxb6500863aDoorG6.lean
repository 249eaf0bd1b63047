/-
  sha1.
-/
import Derived.Test.Qxb6500863aDoorG5
import Derived.Test.Qxb6500863aDoorWk9
namespace Go.Proofs.Qxb6500863aDoor
set_option linter.unusedSimpArgs false
set_option linter.unusedVariables false
open Go.RowKit
abbrev Q5 := Int × Int × Int × Int × Int
def Q5.l (s : Q5) : List Int := [s.1, s.2.1, s.2.2.1, s.2.2.2.1, s.2.2.2.2]
def ini5 : Q5 := (1732584193, 4023233417, 2562383102, 271733878, 3285377520)
def w1At (x : List Int) : Nat → List Int
  | 0 => x
  | j + 1 => w1At x j ++ [rotlV (xor32 (xor32 (xor32 (gI (w1At x j) (13 + j)) (gI (w1At x j) (8 + j))) (gI (w1At x j) (2 + j))) (gI (w1At x j) j)) 1]
theorem w1At_len (x : List Int) : ∀ j, (w1At x j).length = x.length + j
  | 0 => rfl
  | j + 1 => by rw [w1At, List.length_append, w1At_len x j]; rfl
def f1 : Nat → Int → Int → Int → Int
  | 0, b, c, d => xor32 (and32 b c) (and32 (cplV .u32 b) d)
  | 2, b, c, d => xor32 (xor32 (and32 b c) (and32 b d)) (and32 c d)
  | _, b, c, d => xor32 (xor32 b c) d
def kk1 : Nat → Int
  | 0 => 1518500249
  | 1 => 1859775393
  | 2 => 2400959708
  | _ => 3395469782
def step1 (x : List Int) (t : Nat) (s : Q5) : Q5 :=
  (add32 (add32 (add32 (add32 (rotlV s.1 5) (f1 (t / 20) s.2.1 s.2.2.1 s.2.2.2.1)) s.2.2.2.2) (kk1 (t / 20))) (gI x t), s.1, rotlV s.2.1 30, s.2.2.1, s.2.2.2.1)
def st1 (x : List Int) (s : Q5) : Nat → Q5
  | 0 => s
  | k + 1 => step1 x k (st1 x s k)
def addS5 (h s : Q5) : Q5 := (add32 h.1 s.1, add32 h.2.1 s.2.1, add32 h.2.2.1 s.2.2.1, add32 h.2.2.2.1 s.2.2.2.1, add32 h.2.2.2.2 s.2.2.2.2)
def h1 (p : List Int) : Nat → Q5
  | 0 => ini5
  | k + 1 => addS5 (h1 p k) (st1 (w1At (wordsAt false (bkN 64 p k) 16) 64) (h1 p k) 80)
def sha1N (l : List Int) : List Int := spN false (Q5.l (h1 (padN l 64 8 false) ((padN l 64 8 false).length / 64)))
theorem sha1N_len (l : List Int) : (sha1N l).length = 20 := by rw [sha1N, spN_len]; rfl
set_option maxHeartbeats 16000000 in
set_option maxRecDepth 10000 in
/-- digestm.sha1 -/
theorem sha1_ret (a : Option Addr) (l : List Int) (c : Nat) (w : World) (hl : Ints .u8 w a l) (hn : a = none → l.length = 0 ∧ c = 0) (hlen : l.length ≤ 10000000) :
    Ret Tryd.prog 43 #[.slice a l.length c] w fun v w' => ∃ a' c', v = .slice a' 20 c' ∧ w'.ownsRow w.heap.size 5 1 (.slice a' 20 c') 20 (iv .u8 (sha1N l)) ∧ Below w.heap.size w w' := by
  refine ret_of_T (vs := [.slice a l.length c]) Tryd.func43 Tryd.ntmps43 rfl (Nat.le_of_ble_eq_true rfl) ?_
  repeat (first | refine T_seq ?_ | refine T_block ?_ | refine T_inBlock ?_ | refine T_skip ?_)
  refine T_region ?_
  refine L_val _ _ (X_assign) rfl ?_
  refine L_nil ?_
  repeat (first | refine T_seq ?_ | refine T_block ?_ | refine T_inBlock ?_ | refine T_skip ?_)
  refine T_region ?_
  refine L_buildSlice (iv .u32 (Q5.l ini5)).toArray 26 (by kernel_rfl) rfl fun w7 h7 => ?_
  refine L_val _ _ (X_assign) rfl ?_
  refine L_nil ?_
  have k6 : Blk w7 w.heap.size (iv .u32 (Q5.l ini5)).toArray 26 := h7.new
  have b7 : Below w.heap.size w w7 := h7.below (Below.refl _ _) (Nat.le_refl _)
  have s7 := b7.size
  have z7 := h7.lt
  have hpad := pad_ret a l c 64 8 false (.inl ⟨rfl, rfl⟩) w7 (hl.below b7) hn hlen
  have hmod := padN_mod l 64 8 false (.inl ⟨rfl, rfl⟩)
  have hplen := padN_len l 64 8 false
  have hzl : zerosOf l.length 64 8 < 64 := by unfold zerosOf; omega
  unfold sha1N
  generalize padN l 64 8 false = p at *
  repeat (first | refine T_seq ?_ | refine T_block ?_ | refine T_inBlock ?_ | refine T_skip ?_)
  refine T_region ?_
  refine L_val _ _ (X_move) rfl ?_
  refine L_callF [.slice a l.length c, .int .i64 64, .int .i64 8, .bool false] E46 rfl rfl hpad ?_
  rintro v w8 ⟨pa, pc, rfl, op, b8⟩
  refine L_val _ _ (X_assign) rfl ?_
  refine L_nil ?_
  have hp0 : 0 < p.length := by omega
  have hpI : Ints .u8 w8 pa p := ints_owns op rfl
  have hpc := owns_cap op
  obtain ⟨pb, po, rfl, hpb⟩ := hpI.some hp0
  have k68 := below_blk b8 k6 z7
  have bw8 : Below w.heap.size w w8 := b7.trans (b8.mono s7)
  obtain ⟨nb, hnb⟩ : ∃ nb, p.length = 64 * nb := ⟨p.length / 64, by omega⟩
  have hnbd : p.length / 64 = nb := by omega
  rw [hnbd]
  clear hpad op b8 b7 k6 h7 hmod
  repeat (first | refine T_seq ?_ | refine T_block ?_ | refine T_inBlock ?_ | refine T_skip ?_)
  refine T_region ?_
  refine L_val _ _ (X_assign) rfl ?_
  refine L_nil ?_
  repeat (first | refine T_seq ?_ | refine T_block ?_ | refine T_inBlock ?_ | refine T_skip ?_)
  refine T_loopS [5, 4, 3] (fun m vs z => ∃ (k : Nat) (hb : Nat), vs = [.int .i64 ((64 * k : Nat) : Int), .slice (some ⟨pb, po, none⟩) p.length pc, .slice (some ⟨hb, 0, none⟩) 5 5] ∧ k ≤ nb ∧ m = nb - k ∧ Below w8.heap.size w8 z ∧ Blk z hb (iv .u32 (Q5.l (h1 p k))).toArray 26) nb
    ⟨0, w.heap.size, rfl, by omega, rfl, Below.refl _ _, k68⟩ ?_
  clear k68
  rintro m vs ρ z ⟨k, hb, rfl, hk, rfl, bz, kh⟩ ih
  have sz := bz.size
  have zh := kh.lt
  have bwz : Below w.heap.size w z := bw8.trans (bz.mono bw8.size)
  repeat (first | refine T_seq ?_ | refine T_block ?_ | refine T_inBlock ?_ | refine T_skip ?_)
  rcases Nat.lt_or_ge k nb with hlt | hge
  case inr =>
    obtain rfl : k = nb := by omega
    have e1 : cmpB .lss ((64 * k : Nat) : Int) (p.length : Int) = false := by simp [cmpB]; omega
    refine T_region ?_
    refine L_val _ _ (X_move) rfl ?_
    refine L_val _ _ (X_move) rfl ?_
    refine L_val _ _ (X_lenS U25 rfl) rfl ?_
    refine L_val _ _ (X_cmpR false rfl rfl rfl e1) rfl ?_
    refine L_nil ?_
    refine T_false rfl ?_
    refine T_exit rfl ?_
    have hsp := spell_ret (some ⟨hb, 0, none⟩) (Q5.l (h1 p k)) 5 false z (ints_blk kh) (show 5 ≤ 8 by decide)
    repeat (first | refine T_seq ?_ | refine T_block ?_ | refine T_inBlock ?_ | refine T_skip ?_)
    refine T_region ?_
    refine L_val _ _ (X_move) rfl ?_
    refine L_callF [.slice (some ⟨hb, 0, none⟩) 5 5, .bool false] E49 rfl rfl hsp ?_
    rintro v y1 ⟨a1, c1, rfl, o1, by1⟩
    refine L_val _ _ (X_assign) rfl ?_
    refine L_nil ?_
    exact T_ret1 Tryd.func43 rfl ⟨a1, c1, rfl, World.ownsRow.mono o1 bwz.size, bwz.trans (by1.mono bwz.size)⟩
  have e1 : cmpB .lss ((64 * k : Nat) : Int) (p.length : Int) = true := by simp [cmpB]; omega
  have hbkl : (bkN 64 p k).length = 64 := bkN_len (by omega)
  have hwords := words_ret pb (po + 64 * k * 1) (pc - 64 * k) (bkN 64 p k) hbkl false z (by omega) (by
    have h1 := ints_drop (n := 64 * k) (hpI.below bz)
    rw [Nat.mul_one]
    exact ints_take h1 64)
  have hh : h1 p (k + 1) = addS5 (h1 p k) (st1 (w1At (wordsAt false (bkN 64 p k) 16) 64) (h1 p k) 80) := rfl
  have hxl : (wordsAt false (bkN 64 p k) 16).length = 16 := wordsAt_len _ _ _
  generalize wordsAt false (bkN 64 p k) 16 = x at *
  refine T_region ?_
  refine L_val _ _ (X_move) rfl ?_
  refine L_val _ _ (X_move) rfl ?_
  refine L_val _ _ (X_lenS U25 rfl) rfl ?_
  refine L_val _ _ (X_cmpR true rfl rfl rfl e1) rfl ?_
  refine L_nil ?_
  refine T_true rfl ?_
  have hwords' := ret_args (b := #[.slice (some ⟨pb, po + 64 * k * 1, none⟩) (64 * k + 64 - 64 * k) (pc - 64 * k), .bool false]) (by rw [show 64 * k + 64 - 64 * k = 64 by omega]) hwords
  repeat (first | refine T_seq ?_ | refine T_block ?_ | refine T_inBlock ?_ | refine T_skip ?_)
  refine T_region ?_
  refine L_val _ _ (X_move) rfl ?_
  refine L_val _ _ (X_move) rfl ?_
  refine L_val _ _ (X_move) rfl ?_
  refine L_val _ _ (X_add rfl rfl (by omega) (by omega)) rfl ?_
  refine L_val _ _ (X_sliceLH (l := 64 * k) (h := 64 * k + 64) U25 S5 rfl rfl rfl (by omega) (by omega) (by omega)) rfl ?_
  refine L_callF [.slice (some ⟨pb, po + 64 * k * 1, none⟩) (64 * k + 64 - 64 * k) (pc - 64 * k), .bool false] E47 rfl rfl hwords' ?_
  rintro v y1 ⟨xa, xc, rfl, ox, by1⟩
  refine L_val _ _ (X_assign) rfl ?_
  refine L_nil ?_
  generalize hs : h1 p k = s0 at *
  clear hwords hwords'
  repeat (first | refine T_seq ?_ | refine T_block ?_ | refine T_inBlock ?_ | refine T_skip ?_)
  refine T_region ?_
  refine L_val _ _ (X_assign) rfl ?_
  refine L_nil ?_
  repeat (first | refine T_seq ?_ | refine T_block ?_ | refine T_inBlock ?_ | refine T_skip ?_)
  refine T_loopS [7, 6, 5, 4, 3] (fun m vs u => ∃ (j : Nat) (xa : Option Addr) (xc : Nat), vs = [.int .i64 ((16 + j : Nat) : Int), .slice xa (16 + j) xc, .int .i64 ((64 * k : Nat) : Int), .slice (some ⟨pb, po, none⟩) p.length pc, .slice (some ⟨hb, 0, none⟩) 5 5] ∧ j ≤ 64 ∧ m = 64 - j ∧ u.ownsRow z.heap.size 26 1 (.slice xa (16 + j) xc) (16 + j) (iv .u32 (w1At x j)) ∧ Below z.heap.size z u) 64
    ⟨0, xa, xc, rfl, by omega, rfl, ox, by1⟩ ?_
  clear ox by1 xa xc
  rintro m vs ρ2 u ⟨j, xa, xc, rfl, hj, rfl, ou, bu⟩ ihj
  have hwl : (w1At x j).length = 16 + j := by rw [w1At_len, hxl]
  have hxI : Ints .u32 u xa (w1At x j) := ints_owns ou hwl
  obtain ⟨xb, xo, rfl, hxb⟩ := hxI.some (by omega)
  have su := bu.size
  repeat (first | refine T_seq ?_ | refine T_block ?_ | refine T_inBlock ?_ | refine T_skip ?_)
  rcases Nat.lt_or_ge j 64 with hltj | hgej
  · have e2 : cmpB .lss ((16 + j : Nat) : Int) 80 = true := by simp [cmpB]; omega
    have hcc : ∀ i, i < 16 + j → u.cell? ⟨xb, xo + i * 1, none⟩ = some (.int .u32 (gI (w1At x j) i)) := fun i hi => by
      rw [Nat.mul_one]; exact hxI.at i _ (gI_at (by omega))
    have hstep : w1At x (j + 1) = w1At x j ++ [rotlV (xor32 (xor32 (xor32 (gI (w1At x j) (13 + j)) (gI (w1At x j) (8 + j))) (gI (w1At x j) (2 + j))) (gI (w1At x j) j)) 1] := rfl
    generalize w1At x j = W at *
    refine T_region ?_
    refine L_val _ _ (X_move) rfl ?_
    refine L_val _ _ (X_cmpR true rfl rfl rfl e2) rfl ?_
    refine L_nil ?_
    refine T_true rfl ?_
    repeat (first | refine T_seq ?_ | refine T_block ?_ | refine T_inBlock ?_ | refine T_skip ?_)
    refine T_draw (fun v => Below z.heap.size z v ∧ ∀ i, i < 16 + j → v.cell? ⟨xb, xo + i * 1, none⟩ = some (.int .u32 (gI W i))) 26 rfl rfl fun u1 hsm => ?_
    have hS : Below z.heap.size z u1 ∧ ∀ i, i < 16 + j → u1.cell? ⟨xb, xo + i * 1, none⟩ = some (.int .u32 (gI W i)) := ⟨hsm.below bu, fun i hi => (hsm.cell _).trans (hcc i hi)⟩
    refine D_takeT 0 _ rfl (by kernel_rfl) hS (fun w hw => X_move) rfl ?_
    refine D_takeT 1 _ rfl (by kernel_rfl) hS (fun w hw => X_move) rfl ?_
    refine D_takeT 2 _ rfl (by kernel_rfl) hS (fun w hw => X_move) rfl ?_
    refine D_takeT 3 _ rfl (by kernel_rfl) hS (fun w hw => X_sub rfl rfl (by omega) (by omega)) rfl ?_
    refine D_takeT 4 _ rfl (by kernel_rfl) hS (fun w hw => X_index (j := 13 + j) U84 S26 rfl (by exact congrArg (Value.int .i64) (show ((16 + j : Nat) : Int) - 3 = ((13 + j : Nat) : Int) by omega)) (by omega)) rfl ?_
    refine D_takeT 5 _ rfl (by kernel_rfl) hS (fun w hw => X_load A26 rfl (hw.2 (13 + j) (by omega))) rfl ?_
    refine D_takeT 6 _ rfl (by kernel_rfl) hS (fun w hw => X_move) rfl ?_
    refine D_takeT 7 _ rfl (by kernel_rfl) hS (fun w hw => X_move) rfl ?_
    refine D_takeT 8 _ rfl (by kernel_rfl) hS (fun w hw => X_sub rfl rfl (by omega) (by omega)) rfl ?_
    refine D_takeT 9 _ rfl (by kernel_rfl) hS (fun w hw => X_index (j := 8 + j) U84 S26 rfl (by exact congrArg (Value.int .i64) (show ((16 + j : Nat) : Int) - 8 = ((8 + j : Nat) : Int) by omega)) (by omega)) rfl ?_
    refine D_takeT 10 _ rfl (by kernel_rfl) hS (fun w hw => X_load A26 rfl (hw.2 (8 + j) (by omega))) rfl ?_
    refine D_takeT 11 _ rfl (by kernel_rfl) hS (fun w hw => X_bit rfl rfl rfl) rfl ?_
    refine D_takeT 12 _ rfl (by kernel_rfl) hS (fun w hw => X_move) rfl ?_
    refine D_takeT 13 _ rfl (by kernel_rfl) hS (fun w hw => X_move) rfl ?_
    refine D_takeT 14 _ rfl (by kernel_rfl) hS (fun w hw => X_sub rfl rfl (by omega) (by omega)) rfl ?_
    refine D_takeT 15 _ rfl (by kernel_rfl) hS (fun w hw => X_index (j := 2 + j) U84 S26 rfl (by exact congrArg (Value.int .i64) (show ((16 + j : Nat) : Int) - 14 = ((2 + j : Nat) : Int) by omega)) (by omega)) rfl ?_
    refine D_takeT 16 _ rfl (by kernel_rfl) hS (fun w hw => X_load A26 rfl (hw.2 (2 + j) (by omega))) rfl ?_
    refine D_takeT 17 _ rfl (by kernel_rfl) hS (fun w hw => X_bit rfl rfl rfl) rfl ?_
    refine D_takeT 18 _ rfl (by kernel_rfl) hS (fun w hw => X_move) rfl ?_
    refine D_takeT 19 _ rfl (by kernel_rfl) hS (fun w hw => X_move) rfl ?_
    refine D_takeT 20 _ rfl (by kernel_rfl) hS (fun w hw => X_sub rfl rfl (by omega) (by omega)) rfl ?_
    refine D_takeT 21 _ rfl (by kernel_rfl) hS (fun w hw => X_index (j := j) U84 S26 rfl (by exact congrArg (Value.int .i64) (show ((16 + j : Nat) : Int) - 16 = ((j : Nat) : Int) by omega)) (by omega)) rfl ?_
    refine D_takeT 22 _ rfl (by kernel_rfl) hS (fun w hw => X_load A26 rfl (hw.2 j (by omega))) rfl ?_
    refine D_takeT 23 _ rfl (by kernel_rfl) hS (fun w hw => X_bit rfl rfl rfl) rfl ?_
    skip
    refine D_callF 24 [.int .u32 (xor32 (xor32 (xor32 (gI W (13 + j)) (gI W (8 + j))) (gI W (2 + j))) (gI W j)), .int .i64 1] rfl (by kernel_rfl) E48 rfl rfl (rotl_ret _ 1 (by decide) (by decide) u1) ?_
    rintro v u2 ⟨rfl, hsm2⟩
    have hS2 : Below z.heap.size z u2 ∧ ∀ i, i < 16 + j → u2.cell? ⟨xb, xo + i * 1, none⟩ = some (.int .u32 (gI W i)) := ⟨hsm2.below hS.1, fun i hi => (hsm2.cell _).trans (hS.2 i hi)⟩
    refine ⟨fun _ => hS2, ?_⟩
    refine D_buildSlice 25 #[.int .u32 (rotlV (xor32 (xor32 (xor32 (gI W (13 + j)) (gI W (8 + j))) (gI W (2 + j))) (gI W j)) 1)] 26 rfl (by kernel_rfl) (by kernel_rfl) rfl ?_
    intro u3 h3
    have o2 := hsm2.owns (hsm.owns ou)
    have o3 := owns_new' h3 o2
    have b3 : Below z.heap.size z u3 := h3.below hS2.1 hS2.1.size
    refine ⟨fun _ => ⟨b3, fun i hi => by
      have hx2 : xb < u2.heap.size := by rw [hsm2.heap, hsm.heap]; exact hxb
      exact (h3.cell _ (by omega)).trans (hS2.2 i hi)⟩, ?_⟩
    refine D_append1 26 z.heap.size (.slice (some ⟨xb, xo, none⟩) (16 + j) xc) (16 + j) (iv .u32 W) u2.heap.size [.int .u32 (rotlV (xor32 (xor32 (xor32 (gI W (13 + j)) (gI W (8 + j))) (gI W (2 + j))) (gI W j)) 1)] rfl (by kernel_rfl) Tryd.underlying84 I26 rfl (by decide) rfl o3 rfl rfl h3.new (by simp [Value.oneCell']) (by simp only [maxLen]; omega) (by omega) b3.size rfl ?_
    intro v4 u4 o4 g4 _
    have b4 : Below z.heap.size z u4 := grown_below b3 o3 g4 b3.size (Nat.le_refl _)
    refine ⟨fun hb => (by cases hb), ?_⟩
    obtain ⟨a4, c4, rfl, -, -⟩ := owns_val o4
    refine D_val 27 _ _ rfl (by kernel_rfl) X_assign rfl (fun hb => by cases hb) ?_
    refine D_done (by kernel_rfl) ?_
    repeat (first | refine T_seq ?_ | refine T_block ?_ | refine T_inBlock ?_ | refine T_skip ?_)
    refine T_region ?_
    refine L_val _ _ (X_move) rfl ?_
    refine L_val _ _ (X_add rfl rfl (by omega) (by omega)) rfl ?_
    refine L_val _ _ (X_assign) rfl ?_
    refine L_nil ?_
    exact ihj _ _ _ (by omega) ⟨j + 1, a4, c4, rfl, by omega, rfl, by rw [hstep, iv_app]; exact o4, b4⟩
  obtain rfl : j = 64 := by omega
  refine T_region ?_
  refine L_val _ _ (X_move) rfl ?_
  refine L_val _ _ (X_cmpR false rfl rfl rfl (by decide)) rfl ?_
  refine L_nil ?_
  refine T_false rfl ?_
  refine T_exit rfl ?_
  clear ihj ou
  generalize w1At x 64 = X at *
  have kh1 := below_blk bu kh zh
  have zh1 := kh1.lt
  have bz1 : Below w8.heap.size w8 u := bz.trans (bu.mono sz)
  have hin : Below u.heap.size u u.drew := (sm_drew u).below (Below.refl _ _)
  have hg : ∀ v, Below u.heap.size u v → ∀ j y, (iv .u32 (Q5.l s0))[j]? = some y → v.cell? ⟨hb, 0 + j * 1, none⟩ = some y := fun v hv j y hy => by
    rw [Nat.zero_add, Nat.mul_one]; exact gblk (below_blk hv kh1 zh1) j hy
  repeat (first | refine T_seq ?_ | refine T_block ?_ | refine T_inBlock ?_ | refine T_skip ?_)
  refine T_quiet (fun v => Below u.heap.size u v) rfl (by kernel_rfl) (hin) ?_
  refine LQ_val _ (fun w hw => X_move) rfl ?_
  refine LQ_val _ (fun w hw => X_index U84 S26 rfl rfl (by decide)) rfl ?_
  refine LQ_val _ (fun w hw => X_load A26 rfl (hg _ hw 0 _ rfl)) rfl ?_
  refine LQ_val _ (fun w hw => X_move) rfl ?_
  refine LQ_val _ (fun w hw => X_index U84 S26 rfl rfl (by decide)) rfl ?_
  refine LQ_val _ (fun w hw => X_load A26 rfl (hg _ hw 1 _ rfl)) rfl ?_
  refine LQ_val _ (fun w hw => X_move) rfl ?_
  refine LQ_val _ (fun w hw => X_index U84 S26 rfl rfl (by decide)) rfl ?_
  refine LQ_val _ (fun w hw => X_load A26 rfl (hg _ hw 2 _ rfl)) rfl ?_
  refine LQ_val _ (fun w hw => X_move) rfl ?_
  refine LQ_val _ (fun w hw => X_index U84 S26 rfl rfl (by decide)) rfl ?_
  refine LQ_val _ (fun w hw => X_load A26 rfl (hg _ hw 3 _ rfl)) rfl ?_
  refine LQ_val _ (fun w hw => X_move) rfl ?_
  refine LQ_val _ (fun w hw => X_index U84 S26 rfl rfl (by decide)) rfl ?_
  refine LQ_val _ (fun w hw => X_load A26 rfl (hg _ hw 4 _ rfl)) rfl ?_
  refine LQ_val _ (fun w hw => X_assign) rfl ?_
  refine LQ_val _ (fun w hw => X_assign) rfl ?_
  refine LQ_val _ (fun w hw => X_assign) rfl ?_
  refine LQ_val _ (fun w hw => X_assign) rfl ?_
  refine LQ_val _ (fun w hw => X_assign) rfl ?_
  refine LQ_nil fun y2 by2 => ?_
  repeat (first | refine T_seq ?_ | refine T_block ?_ | refine T_inBlock ?_ | refine T_skip ?_)
  refine T_region ?_
  refine L_val _ _ (X_assign) rfl ?_
  refine L_nil ?_
  repeat (first | refine T_seq ?_ | refine T_block ?_ | refine T_inBlock ?_ | refine T_skip ?_)
  refine T_loopS [13, 8, 9, 10, 11, 12, 6, 5, 4, 3] (fun m vs y => ∃ i : Nat, vs = [.int .i64 i, .int .u32 (st1 X s0 i).1, .int .u32 (st1 X s0 i).2.1, .int .u32 (st1 X s0 i).2.2.1, .int .u32 (st1 X s0 i).2.2.2.1, .int .u32 (st1 X s0 i).2.2.2.2, .slice (some ⟨xb, xo, none⟩) 80 xc, .int .i64 ((64 * k : Nat) : Int), .slice (some ⟨pb, po, none⟩) p.length pc, .slice (some ⟨hb, 0, none⟩) 5 5] ∧ i ≤ 80 ∧ m = 80 - i ∧ Below u.heap.size u y) 80
    ⟨0, rfl, by omega, rfl, by2⟩ ?_
  clear by2
  rintro m vs ρ3 y3 ⟨i, rfl, hi, rfl, by3⟩ ih3
  repeat (first | refine T_seq ?_ | refine T_block ?_ | refine T_inBlock ?_ | refine T_skip ?_)
  rcases Nat.lt_or_ge i 80 with hlt80 | hge80
  case inr =>
    obtain rfl : i = 80 := by omega
    refine T_region ?_
    refine L_val _ _ (X_move) rfl ?_
    refine L_val _ _ (X_cmpR false rfl rfl rfl (by decide)) rfl ?_
    refine L_nil ?_
    refine T_false rfl ?_
    refine T_exit rfl ?_
    generalize hs48 : st1 X s0 80 = s3 at *
    repeat (first | refine T_seq ?_ | refine T_block ?_ | refine T_inBlock ?_ | refine T_skip ?_)
    refine T_draw (fun v => Below u.heap.size u v) 26 rfl rfl fun u1 hsm => ?_
    have hS : Below u.heap.size u u1 := hsm.below by3
    refine D_take 0 _ rfl (by kernel_rfl) hS (fun w hw => X_move) rfl ?_
    refine D_take 1 _ rfl (by kernel_rfl) hS (fun w hw => X_index U84 S26 rfl rfl (by decide)) rfl ?_
    refine D_take 2 _ rfl (by kernel_rfl) hS (fun w hw => X_load A26 rfl (hg _ hw 0 _ rfl)) rfl ?_
    refine D_take 3 _ rfl (by kernel_rfl) hS (fun w hw => X_move) rfl ?_
    refine D_take 4 _ rfl (by kernel_rfl) hS (fun w hw => X_ar rfl rfl rfl) rfl ?_
    refine D_take 5 _ rfl (by kernel_rfl) hS (fun w hw => X_move) rfl ?_
    refine D_take 6 _ rfl (by kernel_rfl) hS (fun w hw => X_index U84 S26 rfl rfl (by decide)) rfl ?_
    refine D_take 7 _ rfl (by kernel_rfl) hS (fun w hw => X_load A26 rfl (hg _ hw 1 _ rfl)) rfl ?_
    refine D_take 8 _ rfl (by kernel_rfl) hS (fun w hw => X_move) rfl ?_
    refine D_take 9 _ rfl (by kernel_rfl) hS (fun w hw => X_ar rfl rfl rfl) rfl ?_
    refine D_take 10 _ rfl (by kernel_rfl) hS (fun w hw => X_move) rfl ?_
    refine D_take 11 _ rfl (by kernel_rfl) hS (fun w hw => X_index U84 S26 rfl rfl (by decide)) rfl ?_
    refine D_take 12 _ rfl (by kernel_rfl) hS (fun w hw => X_load A26 rfl (hg _ hw 2 _ rfl)) rfl ?_
    refine D_take 13 _ rfl (by kernel_rfl) hS (fun w hw => X_move) rfl ?_
    refine D_take 14 _ rfl (by kernel_rfl) hS (fun w hw => X_ar rfl rfl rfl) rfl ?_
    refine D_take 15 _ rfl (by kernel_rfl) hS (fun w hw => X_move) rfl ?_
    refine D_take 16 _ rfl (by kernel_rfl) hS (fun w hw => X_index U84 S26 rfl rfl (by decide)) rfl ?_
    refine D_take 17 _ rfl (by kernel_rfl) hS (fun w hw => X_load A26 rfl (hg _ hw 3 _ rfl)) rfl ?_
    refine D_take 18 _ rfl (by kernel_rfl) hS (fun w hw => X_move) rfl ?_
    refine D_take 19 _ rfl (by kernel_rfl) hS (fun w hw => X_ar rfl rfl rfl) rfl ?_
    refine D_take 20 _ rfl (by kernel_rfl) hS (fun w hw => X_move) rfl ?_
    refine D_take 21 _ rfl (by kernel_rfl) hS (fun w hw => X_index U84 S26 rfl rfl (by decide)) rfl ?_
    refine D_take 22 _ rfl (by kernel_rfl) hS (fun w hw => X_load A26 rfl (hg _ hw 4 _ rfl)) rfl ?_
    refine D_take 23 _ rfl (by kernel_rfl) hS (fun w hw => X_move) rfl ?_
    refine D_take 24 _ rfl (by kernel_rfl) hS (fun w hw => X_ar rfl rfl rfl) rfl ?_
    skip
    refine D_buildSlice 25 (iv .u32 (Q5.l (addS5 s0 s3))).toArray 26 rfl (by kernel_rfl) (by kernel_rfl) rfl ?_
    intro u4 h2
    have hS2 : Below u.heap.size u u4 := h2.below hS hS.size
    refine ⟨fun _ => hS2, ?_⟩
    refine D_val 26 _ _ rfl (by kernel_rfl) X_assign rfl (fun hb => by cases hb) ?_
    refine D_done (by kernel_rfl) ?_
    have k2' : Blk u4 u1.heap.size (iv .u32 (Q5.l (addS5 s0 s3))).toArray 26 := h2.new
    repeat (first | refine T_seq ?_ | refine T_block ?_ | refine T_inBlock ?_ | refine T_skip ?_)
    refine T_region ?_
    refine L_val _ _ (X_move) rfl ?_
    refine L_val _ _ (X_add rfl rfl (by omega) (by omega)) rfl ?_
    refine L_val _ _ (X_assign) rfl ?_
    refine L_nil ?_
    exact ih _ _ _ (by omega) ⟨k + 1, u1.heap.size, rfl, by omega, rfl, bz1.trans (hS2.mono bz1.size), by rw [hh]; exact k2'⟩
  have e3 : cmpB .lss (i : Int) 80 = true := by simp [cmpB]; omega
  have hstep : st1 X s0 (i + 1) = step1 X i (st1 X s0 i) := rfl
  generalize st1 X s0 i = s at *
  refine T_region ?_
  refine L_val _ _ (X_move) rfl ?_
  refine L_val _ _ (X_cmpR true rfl rfl rfl e3) rfl ?_
  refine L_nil ?_
  refine T_true rfl ?_
  repeat (first | refine T_seq ?_ | refine T_block ?_ | refine T_inBlock ?_ | refine T_skip ?_)
  refine T_region ?_
  refine L_val _ _ (X_assign) rfl ?_
  refine L_val _ _ (X_assign) rfl ?_
  refine L_nil ?_
  refine T_seq ?_
  refine T_part [14, 15, 13, 8, 9, 10, 11, 12, 6, 5, 4, 3] (fun vs y => vs = [.int .u32 (f1 (i / 20) s.2.1 s.2.2.1 s.2.2.2.1), .int .u32 (kk1 (i / 20)), .int .i64 i, .int .u32 s.1, .int .u32 s.2.1, .int .u32 s.2.2.1, .int .u32 s.2.2.2.1, .int .u32 s.2.2.2.2, .slice (some ⟨xb, xo, none⟩) 80 xc, .int .i64 ((64 * k : Nat) : Int), .slice (some ⟨pb, po, none⟩) p.length pc, .slice (some ⟨hb, 0, none⟩) 5 5] ∧ y3 = y) ?_ (fun join => ?_)
  rotate_left
  · repeat (first | refine T_seq ?_ | refine T_block ?_ | refine T_inBlock ?_ | refine T_skip ?_)
    refine T_region ?_
    refine L_val _ _ (X_move) rfl ?_
    refine L_val _ _ (X_quoI i 20 rfl rfl (by decide) (by omega)) rfl ?_
    refine L_nil ?_
    repeat (first | refine T_seq ?_ | refine T_block ?_ | refine T_inBlock ?_ | refine T_skip ?_)
    have : i / 20 = 0 ∨ i / 20 = 1 ∨ i / 20 = 2 ∨ i / 20 = 3 := by omega
    rcases this with hq | hq | hq | hq
    · rw [hq] at join ⊢
      refine T_region ?_
      refine L_val _ _ (X_cmpR true rfl rfl rfl (by decide)) rfl ?_
      refine L_val _ _ (X_assign) rfl ?_
      refine L_nil ?_
      refine T_true rfl ?_
      refine T_region ?_
      refine L_val _ _ (X_move) rfl ?_
      refine L_val _ _ (X_move) rfl ?_
      refine L_val _ _ (X_bit rfl rfl rfl) rfl ?_
      refine L_val _ _ (X_move) rfl ?_
      refine L_val _ _ (X_xor rfl) rfl ?_
      refine L_val _ _ (X_move) rfl ?_
      refine L_val _ _ (X_bit rfl rfl rfl) rfl ?_
      refine L_val _ _ (X_bit rfl rfl rfl) rfl ?_
      refine L_val _ _ (X_assign) rfl ?_
      refine L_val _ _ (X_assign) rfl ?_
      refine L_nil ?_
      refine T_inBlock ?_
      exact join _ _ ⟨rfl, rfl⟩
    · rw [hq] at join ⊢
      refine T_region ?_
      refine L_val _ _ (X_cmpR false rfl rfl rfl (by decide)) rfl ?_
      refine L_val _ _ (X_assign) rfl ?_
      refine L_nil ?_
      refine T_false rfl ?_
      repeat (first | refine T_seq ?_ | refine T_block ?_ | refine T_inBlock ?_ | refine T_skip ?_)
      refine T_region ?_
      refine L_val _ _ (X_cmpR true rfl rfl rfl (by decide)) rfl ?_
      refine L_val _ _ (X_assign) rfl ?_
      refine L_nil ?_
      refine T_true rfl ?_
      refine T_region ?_
      refine L_val _ _ (X_move) rfl ?_
      refine L_val _ _ (X_move) rfl ?_
      refine L_val _ _ (X_bit rfl rfl rfl) rfl ?_
      refine L_val _ _ (X_move) rfl ?_
      refine L_val _ _ (X_bit rfl rfl rfl) rfl ?_
      refine L_val _ _ (X_assign) rfl ?_
      refine L_val _ _ (X_assign) rfl ?_
      refine L_nil ?_
      refine T_inBlock ?_
      exact join _ _ ⟨rfl, rfl⟩
    · rw [hq] at join ⊢
      refine T_region ?_
      refine L_val _ _ (X_cmpR false rfl rfl rfl (by decide)) rfl ?_
      refine L_val _ _ (X_assign) rfl ?_
      refine L_nil ?_
      refine T_false rfl ?_
      repeat (first | refine T_seq ?_ | refine T_block ?_ | refine T_inBlock ?_ | refine T_skip ?_)
      refine T_region ?_
      refine L_val _ _ (X_cmpR false rfl rfl rfl (by decide)) rfl ?_
      refine L_val _ _ (X_assign) rfl ?_
      refine L_nil ?_
      refine T_false rfl ?_
      repeat (first | refine T_seq ?_ | refine T_block ?_ | refine T_inBlock ?_ | refine T_skip ?_)
      refine T_region ?_
      refine L_val _ _ (X_cmpR true rfl rfl rfl (by decide)) rfl ?_
      refine L_val _ _ (X_assign) rfl ?_
      refine L_nil ?_
      refine T_true rfl ?_
      refine T_region ?_
      refine L_val _ _ (X_move) rfl ?_
      refine L_val _ _ (X_move) rfl ?_
      refine L_val _ _ (X_bit rfl rfl rfl) rfl ?_
      refine L_val _ _ (X_move) rfl ?_
      refine L_val _ _ (X_move) rfl ?_
      refine L_val _ _ (X_bit rfl rfl rfl) rfl ?_
      refine L_val _ _ (X_bit rfl rfl rfl) rfl ?_
      refine L_val _ _ (X_move) rfl ?_
      refine L_val _ _ (X_move) rfl ?_
      refine L_val _ _ (X_bit rfl rfl rfl) rfl ?_
      refine L_val _ _ (X_bit rfl rfl rfl) rfl ?_
      refine L_val _ _ (X_assign) rfl ?_
      refine L_val _ _ (X_assign) rfl ?_
      refine L_nil ?_
      refine T_inBlock ?_
      exact join _ _ ⟨rfl, rfl⟩
    · rw [hq] at join ⊢
      refine T_region ?_
      refine L_val _ _ (X_cmpR false rfl rfl rfl (by decide)) rfl ?_
      refine L_val _ _ (X_assign) rfl ?_
      refine L_nil ?_
      refine T_false rfl ?_
      repeat (first | refine T_seq ?_ | refine T_block ?_ | refine T_inBlock ?_ | refine T_skip ?_)
      refine T_region ?_
      refine L_val _ _ (X_cmpR false rfl rfl rfl (by decide)) rfl ?_
      refine L_val _ _ (X_assign) rfl ?_
      refine L_nil ?_
      refine T_false rfl ?_
      repeat (first | refine T_seq ?_ | refine T_block ?_ | refine T_inBlock ?_ | refine T_skip ?_)
      refine T_region ?_
      refine L_val _ _ (X_cmpR false rfl rfl rfl (by decide)) rfl ?_
      refine L_val _ _ (X_assign) rfl ?_
      refine L_nil ?_
      refine T_false rfl ?_
      repeat (first | refine T_seq ?_ | refine T_block ?_ | refine T_inBlock ?_ | refine T_skip ?_)
      refine T_region ?_
      refine L_val _ _ (X_cmpR true rfl rfl rfl (by decide)) rfl ?_
      refine L_val _ _ (X_assign) rfl ?_
      refine L_nil ?_
      refine T_true rfl ?_
      refine T_region ?_
      refine L_val _ _ (X_move) rfl ?_
      refine L_val _ _ (X_move) rfl ?_
      refine L_val _ _ (X_bit rfl rfl rfl) rfl ?_
      refine L_val _ _ (X_move) rfl ?_
      refine L_val _ _ (X_bit rfl rfl rfl) rfl ?_
      refine L_val _ _ (X_assign) rfl ?_
      refine L_val _ _ (X_assign) rfl ?_
      refine L_nil ?_
      refine T_inBlock ?_
      exact join _ _ ⟨rfl, rfl⟩
  rintro vs ρ4 y4 ⟨rfl, rfl⟩
  have hinu : Below u.heap.size u y3.drew := (sm_drew y3).below by3
  have hxc : ∀ v, Below u.heap.size u v → v.cell? ⟨xb, xo + i * 1, none⟩ = some (.int .u32 (gI X i)) := fun v hv => by
    rw [Nat.mul_one]
    exact (below_cell hv _ hxb).trans (hxI.at _ _ (gI_at (by omega)))
  repeat (first | refine T_seq ?_ | refine T_block ?_ | refine T_inBlock ?_ | refine T_skip ?_)
  refine T_quiet (fun v => Below u.heap.size u v) rfl (by kernel_rfl) (hinu) ?_
  refine LQ_val _ (fun w hw => X_move) rfl ?_
  refine LQ_callF [.int .u32 s.1, .int .i64 5] (.int .u32 (rotlV s.1 5)) E48 rfl rfl (fun w hw => (rotl_ret _ _ (by decide) (by decide) w).mono fun u w' hu => ⟨hu.1, hu.2.below hw⟩) ?_
  refine LQ_val _ (fun w hw => X_move) rfl ?_
  refine LQ_val _ (fun w hw => X_ar rfl rfl rfl) rfl ?_
  refine LQ_val _ (fun w hw => X_move) rfl ?_
  refine LQ_val _ (fun w hw => X_ar rfl rfl rfl) rfl ?_
  refine LQ_val _ (fun w hw => X_move) rfl ?_
  refine LQ_val _ (fun w hw => X_ar rfl rfl rfl) rfl ?_
  refine LQ_val _ (fun w hw => X_move) rfl ?_
  refine LQ_val _ (fun w hw => X_move) rfl ?_
  refine LQ_val _ (fun w hw => X_index U84 S26 rfl rfl hlt80) rfl ?_
  refine LQ_val _ (fun w hw => X_load A26 rfl (hxc _ hw)) rfl ?_
  refine LQ_val _ (fun w hw => X_ar rfl rfl rfl) rfl ?_
  refine LQ_val _ (fun w hw => X_move) rfl ?_
  refine LQ_val _ (fun w hw => X_move) rfl ?_
  refine LQ_callF [.int .u32 s.2.1, .int .i64 30] (.int .u32 (rotlV s.2.1 30)) E48 rfl rfl (fun w hw => (rotl_ret _ _ (by decide) (by decide) w).mono fun u w' hu => ⟨hu.1, hu.2.below hw⟩) ?_
  refine LQ_val _ (fun w hw => X_move) rfl ?_
  refine LQ_val _ (fun w hw => X_move) rfl ?_
  refine LQ_val _ (fun w hw => X_assign) rfl ?_
  refine LQ_val _ (fun w hw => X_assign) rfl ?_
  refine LQ_val _ (fun w hw => X_assign) rfl ?_
  refine LQ_val _ (fun w hw => X_assign) rfl ?_
  refine LQ_val _ (fun w hw => X_assign) rfl ?_
  refine LQ_nil fun y5 by5 => ?_
  repeat (first | refine T_seq ?_ | refine T_block ?_ | refine T_inBlock ?_ | refine T_skip ?_)
  refine T_region ?_
  refine L_val _ _ (X_move) rfl ?_
  refine L_val _ _ (X_add rfl rfl (by omega) (by omega)) rfl ?_
  refine L_val _ _ (X_assign) rfl ?_
  refine L_nil ?_
  exact ih3 _ _ _ (by omega) ⟨i + 1, by rw [hstep]; rfl, by omega, rfl, by5⟩
end Go.Proofs.Qxb6500863aDoor
