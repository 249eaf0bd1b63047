/-
  sha256.
-/
import Derived.Test.Qxb6500863aDoorG6
namespace Go.Proofs.Qxb6500863aDoor
set_option linter.unusedSimpArgs false
set_option linter.unusedVariables false
open Go.RowKit
structure Q8 where
  a : Int
  b : Int
  c : Int
  d : Int
  e : Int
  f : Int
  g : Int
  h : Int
def Q8.l (s : Q8) : List Int := [s.a, s.b, s.c, s.d, s.e, s.f, s.g, s.h]
/-- A row of numbers of the call's own, and what lies below it. -/
structure RowC (z : World) (q : IntKind) (e : TypeId) (xb xo n xc : Nat) (W : List Int) (v : World) : Prop where
  bel : Below z.heap.size z v
  own : v.ownsRow z.heap.size e 1 (.slice (some ⟨xb, xo, none⟩) n xc) n (iv q W)
  rd : ∀ i, i < n → v.cell? ⟨xb, xo + i * 1, none⟩ = some (.int q (gI W i))
theorem RowC.sm {z v v' : World} {q : IntKind} {e : TypeId} {xb xo n xc : Nat} {W : List Int} (h : RowC z q e xb xo n xc W v) (hs : Sm v v') : RowC z q e xb xo n xc W v' :=
  ⟨hs.below h.bel, hs.owns h.own, fun i hi => (hs.cell _).trans (h.rd i hi)⟩
theorem RowC.new {z v v' : World} {q : IntKind} {e : TypeId} {xb xo n xc : Nat} {W : List Int} {o : Obj} (h : RowC z q e xb xo n xc W v) (hs : Chg v v' v.heap.size o) : RowC z q e xb xo n xc W v' := by
  refine ⟨hs.below h.bel h.bel.size, owns_new' hs h.own, fun i hi => ?_⟩
  have h1 := h.rd i hi
  have hlt : xb < v.heap.size := by
    rcases Nat.lt_or_ge xb v.heap.size with h' | h'
    · exact h'
    · simp [World.cell?, Array.getElem?_eq_none h'] at h1
  exact (hs.cell _ (by omega)).trans h1
def sg0 (W : List Int) (j : Nat) : Int := xor32 (xor32 (rotrV (gI W (1 + j)) 7) (rotrV (gI W (1 + j)) 18)) (shrV .u32 (gI W (1 + j)) 3)
def sg1 (W : List Int) (j : Nat) : Int := xor32 (xor32 (rotrV (gI W (14 + j)) 17) (rotrV (gI W (14 + j)) 19)) (shrV .u32 (gI W (14 + j)) 10)
def nw256 (W : List Int) (j : Nat) : Int := add32 (add32 (add32 (sg1 W j) (gI W (9 + j))) (sg0 W j)) (gI W j)
def w2At (x : List Int) : Nat → List Int
  | 0 => x
  | j + 1 => w2At x j ++ [nw256 (w2At x j) j]
theorem w2At_len (x : List Int) : ∀ j, (w2At x j).length = x.length + j
  | 0 => rfl
  | j + 1 => by rw [w2At, List.length_append, w2At_len x j]; rfl
def t1_256 (cr X : List Int) (t : Nat) (s : Q8) : Int := add32 (add32 (add32 (add32 s.h (xor32 (xor32 (rotrV s.e 6) (rotrV s.e 11)) (rotrV s.e 25))) (xor32 (and32 s.e s.f) (and32 (cplV .u32 s.e) s.g))) (IntKind.u32.wrap (shrV .u64 (gI cr t) 32))) (gI X t)
def t2_256 (s : Q8) : Int := add32 (xor32 (xor32 (rotrV s.a 2) (rotrV s.a 13)) (rotrV s.a 22)) (xor32 (xor32 (and32 s.a s.b) (and32 s.a s.c)) (and32 s.b s.c))
def step256 (cr X : List Int) (t : Nat) (s : Q8) : Q8 := ⟨add32 (t1_256 cr X t s) (t2_256 s), s.a, s.b, s.c, add32 s.d (t1_256 cr X t s), s.e, s.f, s.g⟩
def st256 (cr X : List Int) (s : Q8) : Nat → Q8
  | 0 => s
  | k + 1 => step256 cr X k (st256 cr X s k)
def addS8 (h s : Q8) : Q8 := ⟨add32 h.a s.a, add32 h.b s.b, add32 h.c s.c, add32 h.d s.d, add32 h.e s.e, add32 h.f s.f, add32 h.g s.g, add32 h.h s.h⟩
def ini256 : Q8 := ⟨1779033703, 3144134277, 1013904242, 2773480762, 1359893119, 2600822924, 528734635, 1541459225⟩
def h256 (cr p : List Int) : Nat → Q8
  | 0 => ini256
  | k + 1 => addS8 (h256 cr p k) (st256 cr (w2At (wordsAt false (bkN 64 p k) 16) 48) (h256 cr p k) 64)
def sha256N (cr l : List Int) : List Int := spN false (Q8.l (h256 cr (padN l 64 8 false) ((padN l 64 8 false).length / 64)))
theorem sha256N_len (cr l : List Int) : (sha256N cr l).length = 32 := by rw [sha256N, spN_len]; rfl
set_option maxHeartbeats 32000000 in
set_option maxRecDepth 10000 in
/-- digestm.sha256 -/
theorem sha256_ret (sn cr : List Int) (a : Option Addr) (l : List Int) (c : Nat) (w : World) (hG : Glob sn cr w) (hl : Ints .u8 w a l) (hn : a = none → l.length = 0 ∧ c = 0) (hlen : l.length ≤ 10000000) :
    Ret Tryd.prog 44 #[.slice a l.length c] w fun v w' => ∃ a' c', v = .slice a' 32 c' ∧ w'.ownsRow w.heap.size 5 1 (.slice a' 32 c') 32 (iv .u8 (sha256N cr l)) ∧ Below w.heap.size w w' := by
  refine ret_of_T (vs := [.slice a l.length c]) Tryd.func44 Tryd.ntmps44 rfl (Nat.le_of_ble_eq_true rfl) ?_
  repeat (first | refine T_seq ?_ | refine T_block ?_ | refine T_inBlock ?_ | refine T_skip ?_)
  refine T_region ?_
  refine L_val _ _ (X_assign) rfl ?_
  refine L_nil ?_
  repeat (first | refine T_seq ?_ | refine T_block ?_ | refine T_inBlock ?_ | refine T_skip ?_)
  refine T_region ?_
  refine L_buildSlice (iv .u32 (Q8.l ini256)).toArray 26 (by kernel_rfl) rfl fun w7 h7 => ?_
  refine L_val _ _ (X_assign) rfl ?_
  refine L_nil ?_
  have k6 : Blk w7 w.heap.size (iv .u32 (Q8.l ini256)).toArray 26 := h7.new
  have b7 : Below w.heap.size w w7 := h7.below (Below.refl _ _) (Nat.le_refl _)
  have s7 := b7.size
  have z7 := h7.lt
  have hpad := pad_ret a l c 64 8 false (.inl ⟨rfl, rfl⟩) w7 (hl.below b7) hn hlen
  have hmod := padN_mod l 64 8 false (.inl ⟨rfl, rfl⟩)
  have hplen := padN_len l 64 8 false
  have hzl : zerosOf l.length 64 8 < 64 := by unfold zerosOf; omega
  unfold sha256N
  generalize padN l 64 8 false = p at *
  repeat (first | refine T_seq ?_ | refine T_block ?_ | refine T_inBlock ?_ | refine T_skip ?_)
  refine T_region ?_
  refine L_val _ _ (X_move) rfl ?_
  refine L_callF [.slice a l.length c, .int .i64 64, .int .i64 8, .bool false] E46 rfl rfl hpad ?_
  rintro v w8 ⟨pa, pc, rfl, op, b8⟩
  refine L_val _ _ (X_assign) rfl ?_
  refine L_nil ?_
  have hp0 : 0 < p.length := by omega
  have hpI : Ints .u8 w8 pa p := ints_owns op rfl
  have hpc := owns_cap op
  obtain ⟨pb, po, rfl, hpb⟩ := hpI.some hp0
  have k68 := below_blk b8 k6 z7
  have bw8 : Below w.heap.size w w8 := b7.trans (b8.mono s7)
  have hG8 := hG.below bw8
  obtain ⟨nb, hnb⟩ : ∃ nb, p.length = 64 * nb := ⟨p.length / 64, by omega⟩
  have hnbd : p.length / 64 = nb := by omega
  rw [hnbd]
  clear hpad op b8 b7 k6 h7 hmod
  repeat (first | refine T_seq ?_ | refine T_block ?_ | refine T_inBlock ?_ | refine T_skip ?_)
  refine T_region ?_
  refine L_val _ _ (X_assign) rfl ?_
  refine L_nil ?_
  repeat (first | refine T_seq ?_ | refine T_block ?_ | refine T_inBlock ?_ | refine T_skip ?_)
  refine T_loopS [5, 4, 3] (fun m vs z => ∃ (k : Nat) (hb : Nat), vs = [.int .i64 ((64 * k : Nat) : Int), .slice (some ⟨pb, po, none⟩) p.length pc, .slice (some ⟨hb, 0, none⟩) 8 8] ∧ k ≤ nb ∧ m = nb - k ∧ Below w8.heap.size w8 z ∧ Blk z hb (iv .u32 (Q8.l (h256 cr p k))).toArray 26) nb
    ⟨0, w.heap.size, rfl, by omega, rfl, Below.refl _ _, k68⟩ ?_
  clear k68
  rintro m vs ρ z ⟨k, hb, rfl, hk, rfl, bz, kh⟩ ih
  have sz := bz.size
  have zh := kh.lt
  have bwz : Below w.heap.size w z := bw8.trans (bz.mono bw8.size)
  repeat (first | refine T_seq ?_ | refine T_block ?_ | refine T_inBlock ?_ | refine T_skip ?_)
  rcases Nat.lt_or_ge k nb with hlt | hge
  case inr =>
    obtain rfl : k = nb := by omega
    have e1 : cmpB .lss ((64 * k : Nat) : Int) (p.length : Int) = false := by simp [cmpB]; omega
    refine T_region ?_
    refine L_val _ _ (X_move) rfl ?_
    refine L_val _ _ (X_move) rfl ?_
    refine L_val _ _ (X_lenS U25 rfl) rfl ?_
    refine L_val _ _ (X_cmpR false rfl rfl rfl e1) rfl ?_
    refine L_nil ?_
    refine T_false rfl ?_
    refine T_exit rfl ?_
    have hsp := spell_ret (some ⟨hb, 0, none⟩) (Q8.l (h256 cr p k)  ) 8 false z (ints_blk kh) (show 8 ≤ 8 by decide)
    repeat (first | refine T_seq ?_ | refine T_block ?_ | refine T_inBlock ?_ | refine T_skip ?_)
    refine T_region ?_
    refine L_val _ _ (X_move) rfl ?_
    refine L_callF [.slice (some ⟨hb, 0, none⟩) 8 8, .bool false] E49 rfl rfl hsp ?_
    rintro v y1 ⟨a1, c1, rfl, o1, by1⟩
    refine L_val _ _ (X_assign) rfl ?_
    refine L_nil ?_
    exact T_ret1 Tryd.func44 rfl ⟨a1, c1, rfl, World.ownsRow.mono o1 bwz.size, bwz.trans (by1.mono bwz.size)⟩
  have e1 : cmpB .lss ((64 * k : Nat) : Int) (p.length : Int) = true := by simp [cmpB]; omega
  have hbkl : (bkN 64 p k).length = 64 := bkN_len (by omega)
  have hwords := words_ret pb (po + 64 * k * 1) (pc - 64 * k) (bkN 64 p k) hbkl false z (by omega) (by
    have h1 := ints_drop (n := 64 * k) (hpI.below bz)
    rw [Nat.mul_one]
    exact ints_take h1 64)
  have hh : h256 cr p (k + 1) = addS8 (h256 cr p k) (st256 cr (w2At (wordsAt false (bkN 64 p k) 16) 48) (h256 cr p k) 64) := rfl
  have hxl : (wordsAt false (bkN 64 p k) 16).length = 16 := wordsAt_len _ _ _
  generalize wordsAt false (bkN 64 p k) 16 = x at *
  refine T_region ?_
  refine L_val _ _ (X_move) rfl ?_
  refine L_val _ _ (X_move) rfl ?_
  refine L_val _ _ (X_lenS U25 rfl) rfl ?_
  refine L_val _ _ (X_cmpR true rfl rfl rfl e1) rfl ?_
  refine L_nil ?_
  refine T_true rfl ?_
  have hwords' := ret_args (b := #[.slice (some ⟨pb, po + 64 * k * 1, none⟩) (64 * k + 64 - 64 * k) (pc - 64 * k), .bool false]) (by rw [show 64 * k + 64 - 64 * k = 64 by omega]) hwords
  repeat (first | refine T_seq ?_ | refine T_block ?_ | refine T_inBlock ?_ | refine T_skip ?_)
  refine T_region ?_
  refine L_val _ _ (X_move) rfl ?_
  refine L_val _ _ (X_move) rfl ?_
  refine L_val _ _ (X_move) rfl ?_
  refine L_val _ _ (X_add rfl rfl (by omega) (by omega)) rfl ?_
  refine L_val _ _ (X_sliceLH (l := 64 * k) (h := 64 * k + 64) U25 S5 rfl rfl rfl (by omega) (by omega) (by omega)) rfl ?_
  refine L_callF [.slice (some ⟨pb, po + 64 * k * 1, none⟩) (64 * k + 64 - 64 * k) (pc - 64 * k), .bool false] E47 rfl rfl hwords' ?_
  rintro v y1 ⟨xa, xc, rfl, ox, by1⟩
  refine L_val _ _ (X_assign) rfl ?_
  refine L_nil ?_
  generalize hs : h256 cr p k = s0 at *
  clear hwords hwords'
  repeat (first | refine T_seq ?_ | refine T_block ?_ | refine T_inBlock ?_ | refine T_skip ?_)
  refine T_region ?_
  refine L_val _ _ (X_assign) rfl ?_
  refine L_nil ?_
  repeat (first | refine T_seq ?_ | refine T_block ?_ | refine T_inBlock ?_ | refine T_skip ?_)
  refine T_loopS [7, 6, 5, 4, 3] (fun m vs u => ∃ (j : Nat) (xa : Option Addr) (xc : Nat), vs = [.int .i64 ((16 + j : Nat) : Int), .slice xa (16 + j) xc, .int .i64 ((64 * k : Nat) : Int), .slice (some ⟨pb, po, none⟩) p.length pc, .slice (some ⟨hb, 0, none⟩) 8 8] ∧ j ≤ 48 ∧ m = 48 - j ∧ u.ownsRow z.heap.size 26 1 (.slice xa (16 + j) xc) (16 + j) (iv .u32 (w2At x j)) ∧ Below z.heap.size z u) 48
    ⟨0, xa, xc, rfl, by omega, rfl, ox, by1⟩ ?_
  clear ox by1 xa xc
  rintro m vs ρ2 u ⟨j, xa, xc, rfl, hj, rfl, ou, bu⟩ ihj
  have hwl : (w2At x j).length = 16 + j := by rw [w2At_len, hxl]
  have hxI : Ints .u32 u xa (w2At x j) := ints_owns ou hwl
  obtain ⟨xb, xo, rfl, hxb⟩ := hxI.some (by omega)
  have su := bu.size
  repeat (first | refine T_seq ?_ | refine T_block ?_ | refine T_inBlock ?_ | refine T_skip ?_)
  rcases Nat.lt_or_ge j 48 with hltj | hgej
  · have e2 : cmpB .lss ((16 + j : Nat) : Int) 64 = true := by simp [cmpB]; omega
    have hC : RowC z .u32 26 xb xo (16 + j) xc (w2At x j) u := ⟨bu, ou, fun i hi => by
      rw [Nat.mul_one]; exact hxI.at i _ (gI_at (by omega))⟩
    have hstep : w2At x (j + 1) = w2At x j ++ [nw256 (w2At x j) j] := rfl
    generalize w2At x j = W at *
    refine T_region ?_
    refine L_val _ _ (X_move) rfl ?_
    refine L_val _ _ (X_cmpR true rfl rfl rfl e2) rfl ?_
    refine L_nil ?_
    refine T_true rfl ?_
    repeat (first | refine T_seq ?_ | refine T_block ?_ | refine T_inBlock ?_ | refine T_skip ?_)
    refine T_part [8, 7, 6, 5, 4, 3] (fun vs y => vs = [.int .u32 (sg0 W j), .int .i64 ((16 + j : Nat) : Int), .slice (some ⟨xb, xo, none⟩) (16 + j) xc, .int .i64 ((64 * k : Nat) : Int), .slice (some ⟨pb, po, none⟩) p.length pc, .slice (some ⟨hb, 0, none⟩) 8 8] ∧ RowC z .u32 26 xb xo (16 + j) xc W y) ?_ (fun join => ?_)
    rotate_left
    · refine T_quiet (fun v => RowC z .u32 26 xb xo (16 + j) xc W v) rfl (by kernel_rfl) (hC.sm (sm_drew u)) ?_
      refine LQ_val _ (fun w hw => X_move) rfl ?_
      refine LQ_val _ (fun w hw => X_move) rfl ?_
      refine LQ_val _ (fun w hw => X_sub rfl rfl (by omega) (by omega)) rfl ?_
      refine LQ_val _ (fun w hw => X_index (j := 1 + j) U84 S26 rfl (by exact congrArg (Value.int .i64) (show ((16 + j : Nat) : Int) - 15 = ((1 + j : Nat) : Int) by omega)) (by omega)) rfl ?_
      refine LQ_val _ (fun w hw => X_load A26 rfl (hw.rd (1 + j) (by omega))) rfl ?_
      refine LQ_callF [.int .u32 (gI W (1 + j)), .int .i64 7] (.int .u32 (rotrV (gI W (1 + j)) 7)) E50 rfl rfl (fun w hw => (rotr_ret _ _ (by decide) (by decide) w).mono fun u w' hu => ⟨hu.1, hw.sm hu.2⟩) ?_
      refine LQ_val _ (fun w hw => X_move) rfl ?_
      refine LQ_val _ (fun w hw => X_move) rfl ?_
      refine LQ_val _ (fun w hw => X_sub rfl rfl (by omega) (by omega)) rfl ?_
      refine LQ_val _ (fun w hw => X_index (j := 1 + j) U84 S26 rfl (by exact congrArg (Value.int .i64) (show ((16 + j : Nat) : Int) - 15 = ((1 + j : Nat) : Int) by omega)) (by omega)) rfl ?_
      refine LQ_val _ (fun w hw => X_load A26 rfl (hw.rd (1 + j) (by omega))) rfl ?_
      refine LQ_callF [.int .u32 (gI W (1 + j)), .int .i64 18] (.int .u32 (rotrV (gI W (1 + j)) 18)) E50 rfl rfl (fun w hw => (rotr_ret _ _ (by decide) (by decide) w).mono fun u w' hu => ⟨hu.1, hw.sm hu.2⟩) ?_
      refine LQ_val _ (fun w hw => X_bit rfl rfl rfl) rfl ?_
      refine LQ_val _ (fun w hw => X_move) rfl ?_
      refine LQ_val _ (fun w hw => X_move) rfl ?_
      refine LQ_val _ (fun w hw => X_sub rfl rfl (by omega) (by omega)) rfl ?_
      refine LQ_val _ (fun w hw => X_index (j := 1 + j) U84 S26 rfl (by exact congrArg (Value.int .i64) (show ((16 + j : Nat) : Int) - 15 = ((1 + j : Nat) : Int) by omega)) (by omega)) rfl ?_
      refine LQ_val _ (fun w hw => X_load A26 rfl (hw.rd (1 + j) (by omega))) rfl ?_
      refine LQ_val _ (fun w hw => X_shr rfl rfl (by decide)) rfl ?_
      refine LQ_val _ (fun w hw => X_bit rfl rfl rfl) rfl ?_
      refine LQ_val _ (fun w hw => X_assign) rfl ?_
      refine LQ_nil fun u1 hC1 => ?_
      exact join _ _ ⟨rfl, hC1⟩
    rintro vs ρx1 u1 ⟨rfl, hC1⟩
    refine T_seq ?_
    refine T_part [9, 8, 7, 6, 5, 4, 3] (fun vs y => vs = [.int .u32 (sg1 W j), .int .u32 (sg0 W j), .int .i64 ((16 + j : Nat) : Int), .slice (some ⟨xb, xo, none⟩) (16 + j) xc, .int .i64 ((64 * k : Nat) : Int), .slice (some ⟨pb, po, none⟩) p.length pc, .slice (some ⟨hb, 0, none⟩) 8 8] ∧ RowC z .u32 26 xb xo (16 + j) xc W y) ?_ (fun join => ?_)
    rotate_left
    · refine T_quiet (fun v => RowC z .u32 26 xb xo (16 + j) xc W v) rfl (by kernel_rfl) (hC1.sm (sm_drew u1)) ?_
      refine LQ_val _ (fun w hw => X_move) rfl ?_
      refine LQ_val _ (fun w hw => X_move) rfl ?_
      refine LQ_val _ (fun w hw => X_sub rfl rfl (by omega) (by omega)) rfl ?_
      refine LQ_val _ (fun w hw => X_index (j := 14 + j) U84 S26 rfl (by exact congrArg (Value.int .i64) (show ((16 + j : Nat) : Int) - 2 = ((14 + j : Nat) : Int) by omega)) (by omega)) rfl ?_
      refine LQ_val _ (fun w hw => X_load A26 rfl (hw.rd (14 + j) (by omega))) rfl ?_
      refine LQ_callF [.int .u32 (gI W (14 + j)), .int .i64 17] (.int .u32 (rotrV (gI W (14 + j)) 17)) E50 rfl rfl (fun w hw => (rotr_ret _ _ (by decide) (by decide) w).mono fun u w' hu => ⟨hu.1, hw.sm hu.2⟩) ?_
      refine LQ_val _ (fun w hw => X_move) rfl ?_
      refine LQ_val _ (fun w hw => X_move) rfl ?_
      refine LQ_val _ (fun w hw => X_sub rfl rfl (by omega) (by omega)) rfl ?_
      refine LQ_val _ (fun w hw => X_index (j := 14 + j) U84 S26 rfl (by exact congrArg (Value.int .i64) (show ((16 + j : Nat) : Int) - 2 = ((14 + j : Nat) : Int) by omega)) (by omega)) rfl ?_
      refine LQ_val _ (fun w hw => X_load A26 rfl (hw.rd (14 + j) (by omega))) rfl ?_
      refine LQ_callF [.int .u32 (gI W (14 + j)), .int .i64 19] (.int .u32 (rotrV (gI W (14 + j)) 19)) E50 rfl rfl (fun w hw => (rotr_ret _ _ (by decide) (by decide) w).mono fun u w' hu => ⟨hu.1, hw.sm hu.2⟩) ?_
      refine LQ_val _ (fun w hw => X_bit rfl rfl rfl) rfl ?_
      refine LQ_val _ (fun w hw => X_move) rfl ?_
      refine LQ_val _ (fun w hw => X_move) rfl ?_
      refine LQ_val _ (fun w hw => X_sub rfl rfl (by omega) (by omega)) rfl ?_
      refine LQ_val _ (fun w hw => X_index (j := 14 + j) U84 S26 rfl (by exact congrArg (Value.int .i64) (show ((16 + j : Nat) : Int) - 2 = ((14 + j : Nat) : Int) by omega)) (by omega)) rfl ?_
      refine LQ_val _ (fun w hw => X_load A26 rfl (hw.rd (14 + j) (by omega))) rfl ?_
      refine LQ_val _ (fun w hw => X_shr rfl rfl (by decide)) rfl ?_
      refine LQ_val _ (fun w hw => X_bit rfl rfl rfl) rfl ?_
      refine LQ_val _ (fun w hw => X_assign) rfl ?_
      refine LQ_nil fun u2 hC2 => ?_
      exact join _ _ ⟨rfl, hC2⟩
    rintro vs ρx2 u2 ⟨rfl, hC2⟩
    repeat (first | refine T_seq ?_ | refine T_block ?_ | refine T_inBlock ?_ | refine T_skip ?_)
    refine T_draw (fun v => RowC z .u32 26 xb xo (16 + j) xc W v) 17 rfl rfl fun u3 hsm => ?_
    have hC3 := hC2.sm hsm
    refine D_takeT 0 _ rfl (by kernel_rfl) hC3 (fun w hw => X_move) rfl ?_
    refine D_takeT 1 _ rfl (by kernel_rfl) hC3 (fun w hw => X_move) rfl ?_
    refine D_takeT 2 _ rfl (by kernel_rfl) hC3 (fun w hw => X_move) rfl ?_
    refine D_takeT 3 _ rfl (by kernel_rfl) hC3 (fun w hw => X_move) rfl ?_
    refine D_takeT 4 _ rfl (by kernel_rfl) hC3 (fun w hw => X_sub rfl rfl (by omega) (by omega)) rfl ?_
    refine D_takeT 5 _ rfl (by kernel_rfl) hC3 (fun w hw => X_index (j := 9 + j) U84 S26 rfl (by exact congrArg (Value.int .i64) (show ((16 + j : Nat) : Int) - 7 = ((9 + j : Nat) : Int) by omega)) (by omega)) rfl ?_
    refine D_takeT 6 _ rfl (by kernel_rfl) hC3 (fun w hw => X_load A26 rfl (hw.rd (9 + j) (by omega))) rfl ?_
    refine D_takeT 7 _ rfl (by kernel_rfl) hC3 (fun w hw => X_ar rfl rfl rfl) rfl ?_
    refine D_takeT 8 _ rfl (by kernel_rfl) hC3 (fun w hw => X_move) rfl ?_
    refine D_takeT 9 _ rfl (by kernel_rfl) hC3 (fun w hw => X_ar rfl rfl rfl) rfl ?_
    refine D_takeT 10 _ rfl (by kernel_rfl) hC3 (fun w hw => X_move) rfl ?_
    refine D_takeT 11 _ rfl (by kernel_rfl) hC3 (fun w hw => X_move) rfl ?_
    refine D_takeT 12 _ rfl (by kernel_rfl) hC3 (fun w hw => X_sub rfl rfl (by omega) (by omega)) rfl ?_
    refine D_takeT 13 _ rfl (by kernel_rfl) hC3 (fun w hw => X_index (j := j) U84 S26 rfl (by exact congrArg (Value.int .i64) (show ((16 + j : Nat) : Int) - 16 = ((j : Nat) : Int) by omega)) (by omega)) rfl ?_
    refine D_takeT 14 _ rfl (by kernel_rfl) hC3 (fun w hw => X_load A26 rfl (hw.rd j (by omega))) rfl ?_
    refine D_takeT 15 _ rfl (by kernel_rfl) hC3 (fun w hw => X_ar rfl rfl rfl) rfl ?_
    skip
    refine D_buildSlice 16 #[.int .u32 (nw256 W j)] 26 rfl (by kernel_rfl) (by kernel_rfl) rfl ?_
    intro u4 h4
    have hC4 := hC3.new h4
    refine ⟨fun _ => hC4, ?_⟩
    refine D_append1 17 z.heap.size (.slice (some ⟨xb, xo, none⟩) (16 + j) xc) (16 + j) (iv .u32 W) u3.heap.size [.int .u32 (nw256 W j)] rfl (by kernel_rfl) Tryd.underlying84 I26 rfl (by decide) rfl hC4.own rfl rfl h4.new (by simp [Value.oneCell']) (by simp only [maxLen]; omega) (by omega) hC4.bel.size rfl ?_
    intro v5 u5 o5 g5 _
    have b5 : Below z.heap.size z u5 := grown_below hC4.bel hC4.own g5 hC4.bel.size (Nat.le_refl _)
    refine ⟨fun hb => (by cases hb), ?_⟩
    obtain ⟨a5, c5, rfl, -, -⟩ := owns_val o5
    refine D_val 18 _ _ rfl (by kernel_rfl) X_assign rfl (fun hb => by cases hb) ?_
    refine D_done (by kernel_rfl) ?_
    repeat (first | refine T_seq ?_ | refine T_block ?_ | refine T_inBlock ?_ | refine T_skip ?_)
    refine T_region ?_
    refine L_val _ _ (X_move) rfl ?_
    refine L_val _ _ (X_add rfl rfl (by omega) (by omega)) rfl ?_
    refine L_val _ _ (X_assign) rfl ?_
    refine L_nil ?_
    exact ihj _ _ _ (by omega) ⟨j + 1, a5, c5, rfl, by omega, rfl, by rw [hstep, iv_app]; exact o5, b5⟩
  obtain rfl : j = 48 := by omega
  refine T_region ?_
  refine L_val _ _ (X_move) rfl ?_
  refine L_val _ _ (X_cmpR false rfl rfl rfl (by decide)) rfl ?_
  refine L_nil ?_
  refine T_false rfl ?_
  refine T_exit rfl ?_
  clear ihj ou
  generalize w2At x 48 = X at *
  have kh1 := below_blk bu kh zh
  have zh1 := kh1.lt
  have bz1 : Below w8.heap.size w8 u := bz.trans (bu.mono sz)
  have hin : Below u.heap.size u u.drew := (sm_drew u).below (Below.refl _ _)
  have hg : ∀ v, Below u.heap.size u v → ∀ j y, (iv .u32 (Q8.l s0))[j]? = some y → v.cell? ⟨hb, 0 + j * 1, none⟩ = some y := fun v hv j y hy => by
    rw [Nat.zero_add, Nat.mul_one]; exact gblk (below_blk hv kh1 zh1) j hy
  repeat (first | refine T_seq ?_ | refine T_block ?_ | refine T_inBlock ?_ | refine T_skip ?_)
  refine T_quiet (fun v => Below u.heap.size u v) rfl (by kernel_rfl) (hin) ?_
  refine LQ_val _ (fun w hw => X_move) rfl ?_
  refine LQ_val _ (fun w hw => X_index U84 S26 rfl rfl (by decide)) rfl ?_
  refine LQ_val _ (fun w hw => X_load A26 rfl (hg _ hw 0 _ rfl)) rfl ?_
  refine LQ_val _ (fun w hw => X_move) rfl ?_
  refine LQ_val _ (fun w hw => X_index U84 S26 rfl rfl (by decide)) rfl ?_
  refine LQ_val _ (fun w hw => X_load A26 rfl (hg _ hw 1 _ rfl)) rfl ?_
  refine LQ_val _ (fun w hw => X_move) rfl ?_
  refine LQ_val _ (fun w hw => X_index U84 S26 rfl rfl (by decide)) rfl ?_
  refine LQ_val _ (fun w hw => X_load A26 rfl (hg _ hw 2 _ rfl)) rfl ?_
  refine LQ_val _ (fun w hw => X_move) rfl ?_
  refine LQ_val _ (fun w hw => X_index U84 S26 rfl rfl (by decide)) rfl ?_
  refine LQ_val _ (fun w hw => X_load A26 rfl (hg _ hw 3 _ rfl)) rfl ?_
  refine LQ_val _ (fun w hw => X_move) rfl ?_
  refine LQ_val _ (fun w hw => X_index U84 S26 rfl rfl (by decide)) rfl ?_
  refine LQ_val _ (fun w hw => X_load A26 rfl (hg _ hw 4 _ rfl)) rfl ?_
  refine LQ_val _ (fun w hw => X_move) rfl ?_
  refine LQ_val _ (fun w hw => X_index U84 S26 rfl rfl (by decide)) rfl ?_
  refine LQ_val _ (fun w hw => X_load A26 rfl (hg _ hw 5 _ rfl)) rfl ?_
  refine LQ_val _ (fun w hw => X_move) rfl ?_
  refine LQ_val _ (fun w hw => X_index U84 S26 rfl rfl (by decide)) rfl ?_
  refine LQ_val _ (fun w hw => X_load A26 rfl (hg _ hw 6 _ rfl)) rfl ?_
  refine LQ_val _ (fun w hw => X_move) rfl ?_
  refine LQ_val _ (fun w hw => X_index U84 S26 rfl rfl (by decide)) rfl ?_
  refine LQ_val _ (fun w hw => X_load A26 rfl (hg _ hw 7 _ rfl)) rfl ?_
  refine LQ_val _ (fun w hw => X_assign) rfl ?_
  refine LQ_val _ (fun w hw => X_assign) rfl ?_
  refine LQ_val _ (fun w hw => X_assign) rfl ?_
  refine LQ_val _ (fun w hw => X_assign) rfl ?_
  refine LQ_val _ (fun w hw => X_assign) rfl ?_
  refine LQ_val _ (fun w hw => X_assign) rfl ?_
  refine LQ_val _ (fun w hw => X_assign) rfl ?_
  refine LQ_val _ (fun w hw => X_assign) rfl ?_
  refine LQ_nil fun y2 by2 => ?_
  repeat (first | refine T_seq ?_ | refine T_block ?_ | refine T_inBlock ?_ | refine T_skip ?_)
  refine T_region ?_
  refine L_val _ _ (X_assign) rfl ?_
  refine L_nil ?_
  repeat (first | refine T_seq ?_ | refine T_block ?_ | refine T_inBlock ?_ | refine T_skip ?_)
  refine T_loopS [18, 10, 11, 12, 13, 14, 15, 16, 17, 6, 5, 4, 3] (fun m vs y => ∃ i : Nat, vs = [.int .i64 i, .int .u32 (st256 cr X s0 i).a, .int .u32 (st256 cr X s0 i).b, .int .u32 (st256 cr X s0 i).c, .int .u32 (st256 cr X s0 i).d, .int .u32 (st256 cr X s0 i).e, .int .u32 (st256 cr X s0 i).f, .int .u32 (st256 cr X s0 i).g, .int .u32 (st256 cr X s0 i).h, .slice (some ⟨xb, xo, none⟩) 64 xc, .int .i64 ((64 * k : Nat) : Int), .slice (some ⟨pb, po, none⟩) p.length pc, .slice (some ⟨hb, 0, none⟩) 8 8] ∧ i ≤ 64 ∧ m = 64 - i ∧ Below u.heap.size u y) 64
    ⟨0, rfl, by omega, rfl, by2⟩ ?_
  clear by2
  rintro m vs ρ3 y3 ⟨i, rfl, hi, rfl, by3⟩ ih3
  repeat (first | refine T_seq ?_ | refine T_block ?_ | refine T_inBlock ?_ | refine T_skip ?_)
  rcases Nat.lt_or_ge i 64 with hltn | hgen
  case inr =>
    obtain rfl : i = 64 := by omega
    refine T_region ?_
    refine L_val _ _ (X_move) rfl ?_
    refine L_val _ _ (X_cmpR false rfl rfl rfl (by decide)) rfl ?_
    refine L_nil ?_
    refine T_false rfl ?_
    refine T_exit rfl ?_
    generalize hs48 : st256 cr X s0 64 = s3 at *
    repeat (first | refine T_seq ?_ | refine T_block ?_ | refine T_inBlock ?_ | refine T_skip ?_)
    refine T_draw (fun v => Below u.heap.size u v) 41 rfl rfl fun u1 hsm => ?_
    have hS : Below u.heap.size u u1 := hsm.below by3
    refine D_take 0 _ rfl (by kernel_rfl) hS (fun w hw => X_move) rfl ?_
    refine D_take 1 _ rfl (by kernel_rfl) hS (fun w hw => X_index U84 S26 rfl rfl (by decide)) rfl ?_
    refine D_take 2 _ rfl (by kernel_rfl) hS (fun w hw => X_load A26 rfl (hg _ hw 0 _ rfl)) rfl ?_
    refine D_take 3 _ rfl (by kernel_rfl) hS (fun w hw => X_move) rfl ?_
    refine D_take 4 _ rfl (by kernel_rfl) hS (fun w hw => X_ar rfl rfl rfl) rfl ?_
    refine D_take 5 _ rfl (by kernel_rfl) hS (fun w hw => X_move) rfl ?_
    refine D_take 6 _ rfl (by kernel_rfl) hS (fun w hw => X_index U84 S26 rfl rfl (by decide)) rfl ?_
    refine D_take 7 _ rfl (by kernel_rfl) hS (fun w hw => X_load A26 rfl (hg _ hw 1 _ rfl)) rfl ?_
    refine D_take 8 _ rfl (by kernel_rfl) hS (fun w hw => X_move) rfl ?_
    refine D_take 9 _ rfl (by kernel_rfl) hS (fun w hw => X_ar rfl rfl rfl) rfl ?_
    refine D_take 10 _ rfl (by kernel_rfl) hS (fun w hw => X_move) rfl ?_
    refine D_take 11 _ rfl (by kernel_rfl) hS (fun w hw => X_index U84 S26 rfl rfl (by decide)) rfl ?_
    refine D_take 12 _ rfl (by kernel_rfl) hS (fun w hw => X_load A26 rfl (hg _ hw 2 _ rfl)) rfl ?_
    refine D_take 13 _ rfl (by kernel_rfl) hS (fun w hw => X_move) rfl ?_
    refine D_take 14 _ rfl (by kernel_rfl) hS (fun w hw => X_ar rfl rfl rfl) rfl ?_
    refine D_take 15 _ rfl (by kernel_rfl) hS (fun w hw => X_move) rfl ?_
    refine D_take 16 _ rfl (by kernel_rfl) hS (fun w hw => X_index U84 S26 rfl rfl (by decide)) rfl ?_
    refine D_take 17 _ rfl (by kernel_rfl) hS (fun w hw => X_load A26 rfl (hg _ hw 3 _ rfl)) rfl ?_
    refine D_take 18 _ rfl (by kernel_rfl) hS (fun w hw => X_move) rfl ?_
    refine D_take 19 _ rfl (by kernel_rfl) hS (fun w hw => X_ar rfl rfl rfl) rfl ?_
    refine D_take 20 _ rfl (by kernel_rfl) hS (fun w hw => X_move) rfl ?_
    refine D_take 21 _ rfl (by kernel_rfl) hS (fun w hw => X_index U84 S26 rfl rfl (by decide)) rfl ?_
    refine D_take 22 _ rfl (by kernel_rfl) hS (fun w hw => X_load A26 rfl (hg _ hw 4 _ rfl)) rfl ?_
    refine D_take 23 _ rfl (by kernel_rfl) hS (fun w hw => X_move) rfl ?_
    refine D_take 24 _ rfl (by kernel_rfl) hS (fun w hw => X_ar rfl rfl rfl) rfl ?_
    refine D_take 25 _ rfl (by kernel_rfl) hS (fun w hw => X_move) rfl ?_
    refine D_take 26 _ rfl (by kernel_rfl) hS (fun w hw => X_index U84 S26 rfl rfl (by decide)) rfl ?_
    refine D_take 27 _ rfl (by kernel_rfl) hS (fun w hw => X_load A26 rfl (hg _ hw 5 _ rfl)) rfl ?_
    refine D_take 28 _ rfl (by kernel_rfl) hS (fun w hw => X_move) rfl ?_
    refine D_take 29 _ rfl (by kernel_rfl) hS (fun w hw => X_ar rfl rfl rfl) rfl ?_
    refine D_take 30 _ rfl (by kernel_rfl) hS (fun w hw => X_move) rfl ?_
    refine D_take 31 _ rfl (by kernel_rfl) hS (fun w hw => X_index U84 S26 rfl rfl (by decide)) rfl ?_
    refine D_take 32 _ rfl (by kernel_rfl) hS (fun w hw => X_load A26 rfl (hg _ hw 6 _ rfl)) rfl ?_
    refine D_take 33 _ rfl (by kernel_rfl) hS (fun w hw => X_move) rfl ?_
    refine D_take 34 _ rfl (by kernel_rfl) hS (fun w hw => X_ar rfl rfl rfl) rfl ?_
    refine D_take 35 _ rfl (by kernel_rfl) hS (fun w hw => X_move) rfl ?_
    refine D_take 36 _ rfl (by kernel_rfl) hS (fun w hw => X_index U84 S26 rfl rfl (by decide)) rfl ?_
    refine D_take 37 _ rfl (by kernel_rfl) hS (fun w hw => X_load A26 rfl (hg _ hw 7 _ rfl)) rfl ?_
    refine D_take 38 _ rfl (by kernel_rfl) hS (fun w hw => X_move) rfl ?_
    refine D_take 39 _ rfl (by kernel_rfl) hS (fun w hw => X_ar rfl rfl rfl) rfl ?_
    skip
    refine D_buildSlice 40 (iv .u32 (Q8.l (addS8 s0 s3))).toArray 26 rfl (by kernel_rfl) (by kernel_rfl) rfl ?_
    intro u4 h2
    have hS2 : Below u.heap.size u u4 := h2.below hS hS.size
    refine ⟨fun _ => hS2, ?_⟩
    refine D_val 41 _ _ rfl (by kernel_rfl) X_assign rfl (fun hb => by cases hb) ?_
    refine D_done (by kernel_rfl) ?_
    have k2' : Blk u4 u1.heap.size (iv .u32 (Q8.l (addS8 s0 s3))).toArray 26 := h2.new
    repeat (first | refine T_seq ?_ | refine T_block ?_ | refine T_inBlock ?_ | refine T_skip ?_)
    refine T_region ?_
    refine L_val _ _ (X_move) rfl ?_
    refine L_val _ _ (X_add rfl rfl (by omega) (by omega)) rfl ?_
    refine L_val _ _ (X_assign) rfl ?_
    refine L_nil ?_
    exact ih _ _ _ (by omega) ⟨k + 1, u1.heap.size, rfl, by omega, rfl, bz1.trans (hS2.mono bz1.size), by rw [hh]; exact k2'⟩
  have e3 : cmpB .lss (i : Int) 64 = true := by simp [cmpB]; omega
  have hstep : st256 cr X s0 (i + 1) = step256 cr X i (st256 cr X s0 i) := rfl
  generalize st256 cr X s0 i = s at *
  refine T_region ?_
  refine L_val _ _ (X_move) rfl ?_
  refine L_val _ _ (X_cmpR true rfl rfl rfl e3) rfl ?_
  refine L_nil ?_
  refine T_true rfl ?_
  have hinu : Below u.heap.size u y3.drew := (sm_drew y3).below by3
  have hxc : ∀ v, Below u.heap.size u v → v.cell? ⟨xb, xo + i * 1, none⟩ = some (.int .u32 (gI X i)) := fun v hv => by
    rw [Nat.mul_one]
    exact (below_cell hv _ hxb).trans (hxI.at _ _ (gI_at (by omega)))
  have hcub : ∀ v, Below u.heap.size u v → v.cell? ⟨1, 0 + i * 1, none⟩ = some (.int .u64 (gI cr i)) := fun v hv => (hG8.below (bz1.trans (hv.mono bz1.size))).cub.2 i (by omega)
  repeat (first | refine T_seq ?_ | refine T_block ?_ | refine T_inBlock ?_ | refine T_skip ?_)
  refine T_part [19, 18, 10, 11, 12, 13, 14, 15, 16, 17, 6, 5, 4, 3] (fun vs y => vs = [.int .u32 (t1_256 cr X i s), .int .i64 i, .int .u32 s.a, .int .u32 s.b, .int .u32 s.c, .int .u32 s.d, .int .u32 s.e, .int .u32 s.f, .int .u32 s.g, .int .u32 s.h, .slice (some ⟨xb, xo, none⟩) 64 xc, .int .i64 ((64 * k : Nat) : Int), .slice (some ⟨pb, po, none⟩) p.length pc, .slice (some ⟨hb, 0, none⟩) 8 8] ∧ Below u.heap.size u y) ?_ (fun join => ?_)
  rotate_left
  · refine T_quiet (fun v => Below u.heap.size u v) rfl (by kernel_rfl) (hinu) ?_
    refine LQ_val _ (fun w hw => X_move) rfl ?_
    refine LQ_val _ (fun w hw => X_move) rfl ?_
    refine LQ_callF [.int .u32 s.e, .int .i64 6] (.int .u32 (rotrV s.e 6)) E50 rfl rfl (fun w hw => (rotr_ret _ _ (by decide) (by decide) w).mono fun u w' hu => ⟨hu.1, hu.2.below hw⟩) ?_
    refine LQ_val _ (fun w hw => X_move) rfl ?_
    refine LQ_callF [.int .u32 s.e, .int .i64 11] (.int .u32 (rotrV s.e 11)) E50 rfl rfl (fun w hw => (rotr_ret _ _ (by decide) (by decide) w).mono fun u w' hu => ⟨hu.1, hu.2.below hw⟩) ?_
    refine LQ_val _ (fun w hw => X_bit rfl rfl rfl) rfl ?_
    refine LQ_val _ (fun w hw => X_move) rfl ?_
    refine LQ_callF [.int .u32 s.e, .int .i64 25] (.int .u32 (rotrV s.e 25)) E50 rfl rfl (fun w hw => (rotr_ret _ _ (by decide) (by decide) w).mono fun u w' hu => ⟨hu.1, hu.2.below hw⟩) ?_
    refine LQ_val _ (fun w hw => X_bit rfl rfl rfl) rfl ?_
    refine LQ_val _ (fun w hw => X_ar rfl rfl rfl) rfl ?_
    refine LQ_val _ (fun w hw => X_move) rfl ?_
    refine LQ_val _ (fun w hw => X_move) rfl ?_
    refine LQ_val _ (fun w hw => X_bit rfl rfl rfl) rfl ?_
    refine LQ_val _ (fun w hw => X_move) rfl ?_
    refine LQ_val _ (fun w hw => X_xor rfl) rfl ?_
    refine LQ_val _ (fun w hw => X_move) rfl ?_
    refine LQ_val _ (fun w hw => X_bit rfl rfl rfl) rfl ?_
    refine LQ_val _ (fun w hw => X_bit rfl rfl rfl) rfl ?_
    refine LQ_val _ (fun w hw => X_ar rfl rfl rfl) rfl ?_
    refine LQ_val _ (fun w hw => X_move) rfl ?_
    refine LQ_val _ (fun w hw => X_indexA U92 S91 rfl rfl (show i < 80 by omega)) rfl ?_
    refine LQ_val _ (fun w hw => X_load A91 rfl (hcub _ hw)) rfl ?_
    refine LQ_val _ (fun w hw => X_shr rfl rfl (by decide)) rfl ?_
    refine LQ_val _ (fun w hw => X_convInt U91 U26 rfl) rfl ?_
    refine LQ_val _ (fun w hw => X_ar rfl rfl rfl) rfl ?_
    refine LQ_val _ (fun w hw => X_move) rfl ?_
    refine LQ_val _ (fun w hw => X_move) rfl ?_
    refine LQ_val _ (fun w hw => X_index U84 S26 rfl rfl hltn) rfl ?_
    refine LQ_val _ (fun w hw => X_load A26 rfl (hxc _ hw)) rfl ?_
    refine LQ_val _ (fun w hw => X_ar rfl rfl rfl) rfl ?_
    refine LQ_val _ (fun w hw => X_assign) rfl ?_
    refine LQ_nil fun y4 by4 => ?_
    exact join _ _ ⟨rfl, by4⟩
  rintro vs ρ4 y4 ⟨rfl, by4⟩
  refine T_seq ?_
  refine T_part [19, 20, 18, 10, 11, 12, 13, 14, 15, 16, 17, 6, 5, 4, 3] (fun vs y => vs = [.int .u32 (t1_256 cr X i s), .int .u32 (t2_256 s), .int .i64 i, .int .u32 s.a, .int .u32 s.b, .int .u32 s.c, .int .u32 s.d, .int .u32 s.e, .int .u32 s.f, .int .u32 s.g, .int .u32 s.h, .slice (some ⟨xb, xo, none⟩) 64 xc, .int .i64 ((64 * k : Nat) : Int), .slice (some ⟨pb, po, none⟩) p.length pc, .slice (some ⟨hb, 0, none⟩) 8 8] ∧ Below u.heap.size u y) ?_ (fun join => ?_)
  rotate_left
  · refine T_region ?_
    refine L_val _ _ (X_move) rfl ?_
    refine L_callF [.int .u32 s.a, .int .i64 2] E50 rfl rfl (rotr_ret _ _ (by decide) (by decide) _) ?_
    rintro v y5 ⟨rfl, hy5⟩
    refine L_val _ _ (X_move) rfl ?_
    refine L_callF [.int .u32 s.a, .int .i64 13] E50 rfl rfl (rotr_ret _ _ (by decide) (by decide) _) ?_
    rintro v y6 ⟨rfl, hy6⟩
    refine L_val _ _ (X_bit rfl rfl rfl) rfl ?_
    refine L_val _ _ (X_move) rfl ?_
    refine L_callF [.int .u32 s.a, .int .i64 22] E50 rfl rfl (rotr_ret _ _ (by decide) (by decide) _) ?_
    rintro v y7 ⟨rfl, hy7⟩
    refine L_val _ _ (X_bit rfl rfl rfl) rfl ?_
    refine L_val _ _ (X_move) rfl ?_
    refine L_val _ _ (X_move) rfl ?_
    refine L_val _ _ (X_bit rfl rfl rfl) rfl ?_
    refine L_val _ _ (X_move) rfl ?_
    refine L_val _ _ (X_move) rfl ?_
    refine L_val _ _ (X_bit rfl rfl rfl) rfl ?_
    refine L_val _ _ (X_bit rfl rfl rfl) rfl ?_
    refine L_val _ _ (X_move) rfl ?_
    refine L_val _ _ (X_move) rfl ?_
    refine L_val _ _ (X_bit rfl rfl rfl) rfl ?_
    refine L_val _ _ (X_bit rfl rfl rfl) rfl ?_
    refine L_val _ _ (X_ar rfl rfl rfl) rfl ?_
    refine L_val _ _ (X_assign) rfl ?_
    refine L_nil ?_
    exact join _ _ ⟨rfl, hy7.below (hy6.below (hy5.below by4))⟩
  rintro vs ρ5 y7 ⟨rfl, by7⟩
  repeat (first | refine T_seq ?_ | refine T_block ?_ | refine T_inBlock ?_ | refine T_skip ?_)
  refine T_region ?_
  refine L_val _ _ (X_move) rfl ?_
  refine L_val _ _ (X_move) rfl ?_
  refine L_val _ _ (X_ar rfl rfl rfl) rfl ?_
  refine L_val _ _ (X_move) rfl ?_
  refine L_val _ _ (X_move) rfl ?_
  refine L_val _ _ (X_move) rfl ?_
  refine L_val _ _ (X_move) rfl ?_
  refine L_val _ _ (X_move) rfl ?_
  refine L_val _ _ (X_ar rfl rfl rfl) rfl ?_
  refine L_val _ _ (X_move) rfl ?_
  refine L_val _ _ (X_move) rfl ?_
  refine L_val _ _ (X_move) rfl ?_
  refine L_val _ _ (X_assign) rfl ?_
  refine L_val _ _ (X_assign) rfl ?_
  refine L_val _ _ (X_assign) rfl ?_
  refine L_val _ _ (X_assign) rfl ?_
  refine L_val _ _ (X_assign) rfl ?_
  refine L_val _ _ (X_assign) rfl ?_
  refine L_val _ _ (X_assign) rfl ?_
  refine L_val _ _ (X_assign) rfl ?_
  refine L_nil ?_
  repeat (first | refine T_seq ?_ | refine T_block ?_ | refine T_inBlock ?_ | refine T_skip ?_)
  refine T_region ?_
  refine L_val _ _ (X_move) rfl ?_
  refine L_val _ _ (X_add rfl rfl (by omega) (by omega)) rfl ?_
  refine L_val _ _ (X_assign) rfl ?_
  refine L_nil ?_
  exact ih3 _ _ _ (by omega) ⟨i + 1, by rw [hstep]; rfl, by omega, rfl, by7⟩
end Go.Proofs.Qxb6500863aDoor
