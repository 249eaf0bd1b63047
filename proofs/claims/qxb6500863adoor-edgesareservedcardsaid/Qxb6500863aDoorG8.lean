/-
  sha384.
-/
import Derived.Test.Qxb6500863aDoorG7
namespace Go.Proofs.Qxb6500863aDoor
set_option linter.unusedSimpArgs false
set_option linter.unusedVariables false
open Go.RowKit
def and64 (x y : Int) : Int := bitB .and .u64 x y
def xor64 (x y : Int) : Int := bitB .xor .u64 x y
def or64 (x y : Int) : Int := bitB .or .u64 x y
def add64 (x y : Int) : Int := IntKind.u64.wrap (arB .add x y)
def x8 (p : List Int) (base : Nat) : Nat → Int
  | 0 => 0
  | i + 1 => or64 (shlV .u64 (x8 p base i) 8) (IntKind.u64.wrap (gI p (base + i)))
def wAt64 (p : List Int) (base : Nat) : Nat → List Int
  | 0 => []
  | k + 1 => wAt64 p base k ++ [x8 p (base + 8 * k) 8]
theorem wAt64_len (p : List Int) (base : Nat) : ∀ k, (wAt64 p base k).length = k
  | 0 => rfl
  | k + 1 => by rw [wAt64, List.length_append, wAt64_len p base k]; rfl
def tg0 (W : List Int) (j : Nat) : Int := xor64 (xor64 (rotr64V (gI W (1 + j)) 1) (rotr64V (gI W (1 + j)) 8)) (shrV .u64 (gI W (1 + j)) 7)
def tg1 (W : List Int) (j : Nat) : Int := xor64 (xor64 (rotr64V (gI W (14 + j)) 19) (rotr64V (gI W (14 + j)) 61)) (shrV .u64 (gI W (14 + j)) 6)
def nw384 (W : List Int) (j : Nat) : Int := add64 (add64 (add64 (tg1 W j) (gI W (9 + j))) (tg0 W j)) (gI W j)
def w3At (x : List Int) : Nat → List Int
  | 0 => x
  | j + 1 => w3At x j ++ [nw384 (w3At x j) j]
theorem w3At_len (x : List Int) : ∀ j, (w3At x j).length = x.length + j
  | 0 => rfl
  | j + 1 => by rw [w3At, List.length_append, w3At_len x j]; rfl
def t1_384 (cr X : List Int) (t : Nat) (s : Q8) : Int := add64 (add64 (add64 (add64 s.h (xor64 (xor64 (rotr64V s.e 14) (rotr64V s.e 18)) (rotr64V s.e 41))) (xor64 (and64 s.e s.f) (and64 (cplV .u64 s.e) s.g))) (gI cr t)) (gI X t)
def t2_384 (s : Q8) : Int := add64 (xor64 (xor64 (rotr64V s.a 28) (rotr64V s.a 34)) (rotr64V s.a 39)) (xor64 (xor64 (and64 s.a s.b) (and64 s.a s.c)) (and64 s.b s.c))
def step384 (cr X : List Int) (t : Nat) (s : Q8) : Q8 := ⟨add64 (t1_384 cr X t s) (t2_384 s), s.a, s.b, s.c, add64 s.d (t1_384 cr X t s), s.e, s.f, s.g⟩
def st384 (cr X : List Int) (s : Q8) : Nat → Q8
  | 0 => s
  | k + 1 => step384 cr X k (st384 cr X s k)
def addS9 (h s : Q8) : Q8 := ⟨add64 h.a s.a, add64 h.b s.b, add64 h.c s.c, add64 h.d s.d, add64 h.e s.e, add64 h.f s.f, add64 h.g s.g, add64 h.h s.h⟩
def ini384 : Q8 := ⟨14680500436340154072, 7105036623409894663, 10473403895298186519, 1526699215303891257, 7436329637833083697, 10282925794625328401, 15784041429090275239, 5167115440072839076⟩
def h384 (cr p : List Int) : Nat → Q8
  | 0 => ini384
  | k + 1 => addS9 (h384 cr p k) (st384 cr (w3At (wAt64 p (128 * k) 16) 64) (h384 cr p k) 80)
def sp8 (x : Int) : Nat → List Int
  | 0 => []
  | i + 1 => sp8 x i ++ [by8 .u64 x (56 - 8 * (i : Int))]
theorem sp8_len (x : Int) : ∀ i, (sp8 x i).length = i
  | 0 => rfl
  | i + 1 => by rw [sp8, List.length_append, sp8_len x i]; rfl
def sp8N (ws : List Int) : Nat → List Int
  | 0 => []
  | k + 1 => sp8N ws k ++ sp8 (gI ws k) 8
theorem sp8N_len (ws : List Int) : ∀ k, (sp8N ws k).length = 8 * k
  | 0 => rfl
  | k + 1 => by rw [sp8N, List.length_append, sp8N_len ws k, sp8_len]; omega
def sha384N (cr l : List Int) : List Int := sp8N (Q8.l (h384 cr (padN l 128 16 false) ((padN l 128 16 false).length / 128))) 6
theorem sha384N_len (cr l : List Int) : (sha384N cr l).length = 48 := by rw [sha384N, sp8N_len]
set_option maxHeartbeats 32000000 in
set_option maxRecDepth 10000 in
/-- digestm.sha384 -/
theorem sha384_ret (sn cr : List Int) (a : Option Addr) (l : List Int) (c : Nat) (w : World) (hG : Glob sn cr w) (hl : Ints .u8 w a l) (hn : a = none → l.length = 0 ∧ c = 0) (hlen : l.length ≤ 10000000) :
    Ret Tryd.prog 45 #[.slice a l.length c] w fun v w' => ∃ a' c', v = .slice a' 48 c' ∧ w'.ownsRow w.heap.size 5 1 (.slice a' 48 c') 48 (iv .u8 (sha384N cr l)) ∧ Below w.heap.size w w' := by
  refine ret_of_T (vs := [.slice a l.length c]) Tryd.func45 Tryd.ntmps45 rfl (Nat.le_of_ble_eq_true rfl) ?_
  repeat (first | refine T_seq ?_ | refine T_block ?_ | refine T_inBlock ?_ | refine T_skip ?_)
  refine T_region ?_
  refine L_val _ _ (X_assign) rfl ?_
  refine L_nil ?_
  repeat (first | refine T_seq ?_ | refine T_block ?_ | refine T_inBlock ?_ | refine T_skip ?_)
  refine T_region ?_
  refine L_buildSlice (iv .u64 (Q8.l ini384)).toArray 91 (by kernel_rfl) rfl fun w7 h7 => ?_
  refine L_val _ _ (X_assign) rfl ?_
  refine L_nil ?_
  have k6 : Blk w7 w.heap.size (iv .u64 (Q8.l ini384)).toArray 91 := h7.new
  have b7 : Below w.heap.size w w7 := h7.below (Below.refl _ _) (Nat.le_refl _)
  have s7 := b7.size
  have z7 := h7.lt
  have hpad := pad_ret a l c 128 16 false (.inr ⟨rfl, rfl⟩) w7 (hl.below b7) hn hlen
  have hmod := padN_mod l 128 16 false (.inr ⟨rfl, rfl⟩)
  have hplen := padN_len l 128 16 false
  have hzl : zerosOf l.length 128 16 < 128 := by unfold zerosOf; omega
  unfold sha384N
  generalize padN l 128 16 false = p at *
  repeat (first | refine T_seq ?_ | refine T_block ?_ | refine T_inBlock ?_ | refine T_skip ?_)
  refine T_region ?_
  refine L_val _ _ (X_move) rfl ?_
  refine L_callF [.slice a l.length c, .int .i64 128, .int .i64 16, .bool false] E46 rfl rfl hpad ?_
  rintro v w8 ⟨pa, pc, rfl, op, b8⟩
  refine L_val _ _ (X_assign) rfl ?_
  refine L_nil ?_
  have hp0 : 0 < p.length := by omega
  have hpI : Ints .u8 w8 pa p := ints_owns op rfl
  have hpc := owns_cap op
  obtain ⟨pb, po, rfl, hpb⟩ := hpI.some hp0
  have k68 := below_blk b8 k6 z7
  have bw8 : Below w.heap.size w w8 := b7.trans (b8.mono s7)
  have hG8 := hG.below bw8
  obtain ⟨nb, hnb⟩ : ∃ nb, p.length = 128 * nb := ⟨p.length / 128, by omega⟩
  have hnbd : p.length / 128 = nb := by omega
  rw [hnbd]
  clear hpad op b8 b7 k6 h7 hmod
  repeat (first | refine T_seq ?_ | refine T_block ?_ | refine T_inBlock ?_ | refine T_skip ?_)
  refine T_region ?_
  refine L_val _ _ (X_assign) rfl ?_
  refine L_nil ?_
  repeat (first | refine T_seq ?_ | refine T_block ?_ | refine T_inBlock ?_ | refine T_skip ?_)
  refine T_loopS [5, 4, 3] (fun m vs z => ∃ (k : Nat) (hb : Nat), vs = [.int .i64 ((128 * k : Nat) : Int), .slice (some ⟨pb, po, none⟩) p.length pc, .slice (some ⟨hb, 0, none⟩) 8 8] ∧ k ≤ nb ∧ m = nb - k ∧ Below w8.heap.size w8 z ∧ Blk z hb (iv .u64 (Q8.l (h384 cr p k))).toArray 91) nb
    ⟨0, w.heap.size, rfl, by omega, rfl, Below.refl _ _, k68⟩ ?_
  clear k68
  rintro m vs ρ z ⟨k, hb, rfl, hk, rfl, bz, kh⟩ ih
  have sz := bz.size
  have zh := kh.lt
  have bwz : Below w.heap.size w z := bw8.trans (bz.mono bw8.size)
  repeat (first | refine T_seq ?_ | refine T_block ?_ | refine T_inBlock ?_ | refine T_skip ?_)
  rcases Nat.lt_or_ge k nb with hlt | hge
  case inr =>
    obtain rfl : k = nb := by omega
    have e1 : cmpB .lss ((128 * k : Nat) : Int) (p.length : Int) = false := by simp [cmpB]; omega
    refine T_region ?_
    refine L_val _ _ (X_move) rfl ?_
    refine L_val _ _ (X_move) rfl ?_
    refine L_val _ _ (X_lenS U25 rfl) rfl ?_
    refine L_val _ _ (X_cmpR false rfl rfl rfl e1) rfl ?_
    refine L_nil ?_
    refine T_false rfl ?_
    refine T_exit rfl ?_
    have khI : Ints .u64 z (some ⟨hb, 0, none⟩) (Q8.l (h384 cr p k)) := ints_blk kh
    generalize hws : Q8.l (h384 cr p k) = ws at *
    have hwsl : ws.length = 8 := by rw [← hws]; rfl
    repeat (first | refine T_seq ?_ | refine T_block ?_ | refine T_inBlock ?_ | refine T_skip ?_)
    refine T_region ?_
    refine L_buildSlice #[] 5 (by kernel_rfl) rfl fun y1 h1 => ?_
    refine L_val _ _ (X_assign) rfl ?_
    refine L_nil ?_
    have o1 : y1.ownsRow z.heap.size 5 1 (.slice (some ⟨z.heap.size, 0, none⟩) 0 0) 0 [] := owns_made (c := 0) (z := #[.int .u8 0]) (by rw [made0]; exact h1) (Nat.le_refl _) (by simp [maxLen])
    have by1 : Below z.heap.size z y1 := h1.below (Below.refl _ _) (Nat.le_refl _)
    repeat (first | refine T_seq ?_ | refine T_block ?_ | refine T_inBlock ?_ | refine T_skip ?_)
    refine T_region ?_
    refine L_val _ _ (X_move) rfl ?_
    refine L_val _ _ (X_sliceH (h := 6) U93 S91 rfl rfl (by decide)) rfl ?_
    refine L_val _ _ (X_lenS U93 rfl) rfl ?_
    refine L_val _ _ (X_move) rfl ?_
    refine L_nil ?_
    repeat (first | refine T_seq ?_ | refine T_block ?_ | refine T_inBlock ?_ | refine T_skip ?_)
    refine T_loopS [261, 260, 259, 25] (fun m vs y => ∃ (kk : Nat) (a' : Option Addr) (c' : Nat), vs = [.int .i64 kk, .int .i64 6, .slice (some ⟨hb, 0, none⟩) 6 8, .slice a' (8 * kk) c'] ∧ kk ≤ 6 ∧ m = 6 - kk ∧ y.ownsRow z.heap.size 5 1 (.slice a' (8 * kk) c') (8 * kk) (iv .u8 (sp8N ws kk)) ∧ Below z.heap.size z y) 6
      ⟨0, some ⟨z.heap.size, 0, none⟩, 0, rfl, by omega, rfl, o1, by1⟩ ?_
    clear o1 by1 h1
    rintro m vs ρ2 y ⟨kk, a', c', rfl, hkk, rfl, oy, by_⟩ ih2
    repeat (first | refine T_seq ?_ | refine T_block ?_ | refine T_inBlock ?_ | refine T_skip ?_)
    refine T_region ?_
    refine L_val _ _ (X_cmp rfl rfl rfl) rfl ?_
    refine L_nil ?_
    repeat (first | refine T_seq ?_ | refine T_block ?_ | refine T_inBlock ?_ | refine T_skip ?_)
    refine T_if rfl (fun ht2 => ?_) (fun hf2 => ?_)
    case refine_2 =>
      obtain rfl : kk = 6 := by simp [cmpB] at hf2; omega
      refine T_exit rfl ?_
      repeat (first | refine T_seq ?_ | refine T_block ?_ | refine T_inBlock ?_ | refine T_skip ?_)
      refine T_region ?_
      refine L_val _ _ (X_move) rfl ?_
      refine L_val _ _ (X_assign) rfl ?_
      refine L_nil ?_
      exact T_ret1 Tryd.func45 rfl ⟨a', c', rfl, World.ownsRow.mono oy bwz.size, bwz.trans (by_.mono bwz.size)⟩
    have hlt6 : kk < 6 := by simp [cmpB] at ht2; omega
    have hcx : y.cell? ⟨hb, 0 + kk * 1, none⟩ = some (.int .u64 (gI ws kk)) := by
      rw [Nat.mul_one]; exact (khI.below by_).at kk _ (gI_at (by omega))
    have hsn : sp8N ws (kk + 1) = sp8N ws kk ++ sp8 (gI ws kk) 8 := rfl
    generalize gI ws kk = xx at *
    repeat (first | refine T_seq ?_ | refine T_block ?_ | refine T_inBlock ?_ | refine T_skip ?_)
    refine T_region ?_
    refine L_val _ _ (X_index U93 S91 rfl rfl hlt6) rfl ?_
    refine L_val _ _ (X_load A91 rfl (hcx)) rfl ?_
    refine L_val _ _ (X_assign) rfl ?_
    refine L_nil ?_
    repeat (first | refine T_seq ?_ | refine T_block ?_ | refine T_inBlock ?_ | refine T_skip ?_)
    refine T_region ?_
    refine L_val _ _ (X_assign) rfl ?_
    refine L_nil ?_
    repeat (first | refine T_seq ?_ | refine T_block ?_ | refine T_inBlock ?_ | refine T_skip ?_)
    refine T_loopS [28, 27, 25, 261, 260, 259] (fun m vs v => ∃ (i : Nat) (a' : Option Addr) (c' : Nat), vs = [.int .i64 (56 - 8 * (i : Int)), .int .u64 xx, .slice a' (8 * kk + i) c', .int .i64 kk, .int .i64 6, .slice (some ⟨hb, 0, none⟩) 6 8] ∧ i ≤ 8 ∧ m = 8 - i ∧ v.ownsRow z.heap.size 5 1 (.slice a' (8 * kk + i) c') (8 * kk + i) (iv .u8 (sp8N ws kk ++ sp8 xx i)) ∧ Below z.heap.size z v) 8
      ⟨0, a', c', rfl, by omega, rfl, by rw [show sp8 xx 0 = [] from rfl, List.append_nil]; exact oy, by_⟩ ?_
    clear oy by_
    rintro m vs ρ3 v ⟨i, a', c', rfl, hi, rfl, ov, bv'⟩ ih3
    have sv := bv'.size
    repeat (first | refine T_seq ?_ | refine T_block ?_ | refine T_inBlock ?_ | refine T_skip ?_)
    rcases Nat.lt_or_ge i 8 with hlt8 | hge8
    · have e2 : cmpB .geq (56 - 8 * (i : Int)) 0 = true := by simp [cmpB]; omega
      refine T_region ?_
      refine L_val _ _ (X_move) rfl ?_
      refine L_val _ _ (X_cmpR true rfl rfl rfl e2) rfl ?_
      refine L_nil ?_
      refine T_true rfl ?_
      repeat (first | refine T_seq ?_ | refine T_block ?_ | refine T_inBlock ?_ | refine T_skip ?_)
      refine T_region ?_
      refine L_val _ _ (X_move) rfl ?_
      refine L_val _ _ (X_move) rfl ?_
      refine L_val _ _ (X_move) rfl ?_
      refine L_val _ _ (X_shr rfl rfl (by omega)) rfl ?_
      refine L_val _ _ (X_convInt U91 U5 rfl) rfl ?_
      refine L_buildSlice #[.int .u8 (by8 .u64 xx (56 - 8 * (i : Int)))] 5 (by kernel_rfl) rfl fun w3 h3 => ?_
      have b23 : Below v.heap.size v w3 := h3.below (Below.refl _ _) (Nat.le_refl _)
      have o3 := own_below ov b23
      have b3 := bv'.trans (b23.mono sv)
      have s3 := b3.size
      refine L_append1 z.heap.size (.slice a' (8 * kk + i) c') (8 * kk + i) (iv .u8 (sp8N ws kk ++ sp8 xx i)) v.heap.size [.int .u8 (by8 .u64 xx (56 - 8 * (i : Int)))] Tryd.underlying25 I5 rfl (by decide) rfl o3 rfl rfl h3.new (by simp [Value.oneCell']) (by simp only [maxLen]; omega) (by omega) s3 rfl fun v4 w4 o4 g4 => ?_
      obtain ⟨a4, c4, rfl, -, -⟩ := owns_val o4
      refine L_val _ _ (X_assign) rfl ?_
      refine L_nil ?_
      repeat (first | refine T_seq ?_ | refine T_block ?_ | refine T_inBlock ?_ | refine T_skip ?_)
      refine T_region ?_
      refine L_val _ _ (X_move) rfl ?_
      refine L_val _ _ (X_sub rfl rfl (by omega) (by omega)) rfl ?_
      refine L_val _ _ (X_assign) rfl ?_
      refine L_nil ?_
      exact ih3 _ _ _ (by omega) ⟨i + 1, a4, c4, by
        show [Value.int .i64 (56 - 8 * (i : Int) - 8), _, _, _, _, _] = _
        rw [show (56 - 8 * (i : Int) - 8) = 56 - 8 * ((i + 1 : Nat) : Int) by omega]
        rfl, by omega, rfl, by rw [show sp8 xx (i + 1) = sp8 xx i ++ [by8 .u64 xx (56 - 8 * (i : Int))] from rfl, ← List.append_assoc, iv_app]; exact o4, grown_below b3 o3 g4 s3 (Nat.le_refl _)⟩
    obtain rfl : i = 8 := by omega
    refine T_region ?_
    refine L_val _ _ (X_move) rfl ?_
    refine L_val _ _ (X_cmpR false rfl rfl rfl (by decide)) rfl ?_
    refine L_nil ?_
    refine T_false rfl ?_
    refine T_exit rfl ?_
    repeat (first | refine T_seq ?_ | refine T_block ?_ | refine T_inBlock ?_ | refine T_skip ?_)
    refine T_region ?_
    refine L_val _ _ (X_add rfl rfl (by omega) (by omega)) rfl ?_
    refine L_val _ _ (X_move) rfl ?_
    refine L_nil ?_
    exact ih2 _ _ _ (by omega) ⟨kk + 1, a', c', rfl, by omega, rfl, by rw [hsn]; exact ov, bv'⟩
  have e1 : cmpB .lss ((128 * k : Nat) : Int) (p.length : Int) = true := by simp [cmpB]; omega
  have hh : h384 cr p (k + 1) = addS9 (h384 cr p k) (st384 cr (w3At (wAt64 p (128 * k) 16) 64) (h384 cr p k) 80) := rfl
  have hcell : ∀ u, Below z.heap.size z u → ∀ j, j < p.length → u.cell? ⟨pb, po + j, none⟩ = some (.int .u8 (gI p j)) := fun u hu j hj => ((hpI.below bz).below hu).at j _ (gI_at hj)
  generalize hs : h384 cr p k = s0 at *
  refine T_region ?_
  refine L_val _ _ (X_move) rfl ?_
  refine L_val _ _ (X_move) rfl ?_
  refine L_val _ _ (X_lenS U25 rfl) rfl ?_
  refine L_val _ _ (X_cmpR true rfl rfl rfl e1) rfl ?_
  refine L_nil ?_
  refine T_true rfl ?_
  repeat (first | refine T_seq ?_ | refine T_block ?_ | refine T_inBlock ?_ | refine T_skip ?_)
  refine T_region ?_
  refine L_buildSlice #[] 91 (by kernel_rfl) rfl fun y1 h1 => ?_
  refine L_val _ _ (X_assign) rfl ?_
  refine L_nil ?_
  have o1 : y1.ownsRow z.heap.size 91 1 (.slice (some ⟨z.heap.size, 0, none⟩) 0 0) 0 [] := owns_made (c := 0) (z := #[.int .u64 0]) (by rw [made0]; exact h1) (Nat.le_refl _) (by simp [maxLen])
  have by1 : Below z.heap.size z y1 := h1.below (Below.refl _ _) (Nat.le_refl _)
  clear h1
  repeat (first | refine T_seq ?_ | refine T_block ?_ | refine T_inBlock ?_ | refine T_skip ?_)
  refine T_region ?_
  refine L_val _ _ (X_move) rfl ?_
  refine L_val _ _ (X_assign) rfl ?_
  refine L_nil ?_
  repeat (first | refine T_seq ?_ | refine T_block ?_ | refine T_inBlock ?_ | refine T_skip ?_)
  refine T_loopS [7, 6, 5, 4, 3] (fun m vs u => ∃ (j : Nat) (xa : Option Addr) (xc : Nat), vs = [.int .i64 ((128 * k + 8 * j : Nat) : Int), .slice xa j xc, .int .i64 ((128 * k : Nat) : Int), .slice (some ⟨pb, po, none⟩) p.length pc, .slice (some ⟨hb, 0, none⟩) 8 8] ∧ j ≤ 16 ∧ m = 16 - j ∧ u.ownsRow z.heap.size 91 1 (.slice xa j xc) j (iv .u64 (wAt64 p (128 * k) j)) ∧ Below z.heap.size z u) 16
    ⟨0, some ⟨z.heap.size, 0, none⟩, 0, rfl, by omega, rfl, o1, by1⟩ ?_
  clear o1 by1
  rintro m vs ρ2 u ⟨j, xa, xc, rfl, hj, rfl, ou, bu⟩ ihj
  have su := bu.size
  repeat (first | refine T_seq ?_ | refine T_block ?_ | refine T_inBlock ?_ | refine T_skip ?_)
  rcases Nat.lt_or_ge j 16 with hltj | hgej
  · have e2 : cmpB .lss ((128 * k + 8 * j : Nat) : Int) (((128 * k : Nat) : Int) + 128) = true := by simp only [cmpB, decide_eq_true_eq]; omega
    refine T_region ?_
    refine L_val _ _ (X_move) rfl ?_
    refine L_val _ _ (X_move) rfl ?_
    refine L_val _ _ (X_add rfl rfl (by omega) (by omega)) rfl ?_
    refine L_val _ _ (X_cmpR true rfl rfl rfl e2) rfl ?_
    refine L_nil ?_
    refine T_true rfl ?_
    repeat (first | refine T_seq ?_ | refine T_block ?_ | refine T_inBlock ?_ | refine T_skip ?_)
    refine T_region ?_
    refine L_val _ _ (X_assign) rfl ?_
    refine L_nil ?_
    repeat (first | refine T_seq ?_ | refine T_block ?_ | refine T_inBlock ?_ | refine T_skip ?_)
    refine T_region ?_
    refine L_val _ _ (X_move) rfl ?_
    refine L_val _ _ (X_move) rfl ?_
    refine L_val _ _ (X_move) rfl ?_
    refine L_val _ _ (X_add rfl rfl (by omega) (by omega)) rfl ?_
    refine L_val _ _ (X_sliceLH (l := 128 * k + 8 * j) (h := 128 * k + 8 * j + 8) U25 S5 rfl rfl rfl (by omega) (by omega) (by omega)) rfl ?_
    refine L_val _ _ (X_lenS U25 rfl) rfl ?_
    refine L_val _ _ (X_move) rfl ?_
    refine L_nil ?_
    repeat (first | refine T_seq ?_ | refine T_block ?_ | refine T_inBlock ?_ | refine T_skip ?_)
    refine T_loopS [52, 51, 50, 8, 7, 6, 5, 4, 3] (fun m vs v => ∃ (i : Nat), vs = [.int .i64 i, .int .i64 ((128 * k + 8 * j + 8 - (128 * k + 8 * j) : Nat) : Int), .slice (some ⟨pb, po + (128 * k + 8 * j) * 1, none⟩) (128 * k + 8 * j + 8 - (128 * k + 8 * j)) (pc - (128 * k + 8 * j)), .int .u64 (x8 p (128 * k + 8 * j) i), .int .i64 ((128 * k + 8 * j : Nat) : Int), .slice xa j xc, .int .i64 ((128 * k : Nat) : Int), .slice (some ⟨pb, po, none⟩) p.length pc, .slice (some ⟨hb, 0, none⟩) 8 8] ∧ i ≤ 8 ∧ m = 8 - i ∧ u = v) 8
      ⟨0, rfl, by omega, rfl, rfl⟩ ?_
    rintro m vs ρ3 v ⟨i, rfl, hi, rfl, rfl⟩ ih3
    repeat (first | refine T_seq ?_ | refine T_block ?_ | refine T_inBlock ?_ | refine T_skip ?_)
    rcases Nat.lt_or_ge i 8 with hlt8 | hge8
    · have e3 : cmpB .lss (i : Int) ((128 * k + 8 * j + 8 - (128 * k + 8 * j) : Nat) : Int) = true := by simp only [cmpB, decide_eq_true_eq]; omega
      have hci : u.cell? ⟨pb, po + (128 * k + 8 * j) * 1 + i * 1, none⟩ = some (.int .u8 (gI p (128 * k + 8 * j + i))) := by
        have := hcell _ bu (128 * k + 8 * j + i) (by omega)
        rw [show po + (128 * k + 8 * j) * 1 + i * 1 = po + (128 * k + 8 * j + i) by omega]; exact this
      refine T_region ?_
      refine L_val _ _ (X_cmpR true rfl rfl rfl e3) rfl ?_
      refine L_nil ?_
      repeat (first | refine T_seq ?_ | refine T_block ?_ | refine T_inBlock ?_ | refine T_skip ?_)
      refine T_true rfl ?_
      repeat (first | refine T_seq ?_ | refine T_block ?_ | refine T_inBlock ?_ | refine T_skip ?_)
      refine T_region ?_
      refine L_val _ _ (X_index U25 S5 rfl rfl (by omega)) rfl ?_
      refine L_val _ _ (X_load A5 rfl (hci)) rfl ?_
      refine L_val _ _ (X_assign) rfl ?_
      refine L_nil ?_
      repeat (first | refine T_seq ?_ | refine T_block ?_ | refine T_inBlock ?_ | refine T_skip ?_)
      refine T_region ?_
      refine L_val _ _ (X_move) rfl ?_
      refine L_val _ _ (X_shl rfl rfl (by decide)) rfl ?_
      refine L_val _ _ (X_move) rfl ?_
      refine L_val _ _ (X_convInt U5 U91 rfl) rfl ?_
      refine L_val _ _ (X_bit rfl rfl rfl) rfl ?_
      refine L_val _ _ (X_assign) rfl ?_
      refine L_nil ?_
      repeat (first | refine T_seq ?_ | refine T_block ?_ | refine T_inBlock ?_ | refine T_skip ?_)
      refine T_region ?_
      refine L_val _ _ (X_add rfl rfl (by omega) (by omega)) rfl ?_
      refine L_val _ _ (X_move) rfl ?_
      refine L_nil ?_
      exact ih3 _ _ _ (by omega) ⟨i + 1, rfl, by omega, rfl, rfl⟩
    obtain rfl : i = 8 := by omega
    have e3 : cmpB .lss ((8 : Nat) : Int) ((128 * k + 8 * j + 8 - (128 * k + 8 * j) : Nat) : Int) = false := by simp only [cmpB, decide_eq_false_iff_not]; omega
    refine T_region ?_
    refine L_val _ _ (X_cmpR false rfl rfl rfl e3) rfl ?_
    refine L_nil ?_
    repeat (first | refine T_seq ?_ | refine T_block ?_ | refine T_inBlock ?_ | refine T_skip ?_)
    refine T_false rfl ?_
    refine T_exit rfl ?_
    repeat (first | refine T_seq ?_ | refine T_block ?_ | refine T_inBlock ?_ | refine T_skip ?_)
    refine T_region ?_
    refine L_val _ _ (X_move) rfl ?_
    refine L_val _ _ (X_move) rfl ?_
    refine L_buildSlice #[.int .u64 (x8 p (128 * k + 8 * j) 8)] 91 (by kernel_rfl) rfl fun w3 h3 => ?_
    have b23 : Below u.heap.size u w3 := h3.below (Below.refl _ _) (Nat.le_refl _)
    have o3 := own_below ou b23
    have b3 := bu.trans (b23.mono su)
    have s3 := b3.size
    refine L_append1 z.heap.size (.slice xa j xc) j (iv .u64 (wAt64 p (128 * k) j)) u.heap.size [.int .u64 (x8 p (128 * k + 8 * j) 8)] Tryd.underlying93 I91 rfl (by decide) rfl o3 rfl rfl h3.new (by simp [Value.oneCell']) (by simp only [maxLen]; omega) (by omega) s3 rfl fun v4 w4 o4 g4 => ?_
    obtain ⟨a4, c4, rfl, -, -⟩ := owns_val o4
    refine L_val _ _ (X_assign) rfl ?_
    refine L_nil ?_
    repeat (first | refine T_seq ?_ | refine T_block ?_ | refine T_inBlock ?_ | refine T_skip ?_)
    refine T_region ?_
    refine L_val _ _ (X_move) rfl ?_
    refine L_val _ _ (X_add rfl rfl (by omega) (by omega)) rfl ?_
    refine L_val _ _ (X_assign) rfl ?_
    refine L_nil ?_
    exact ihj _ _ _ (by omega) ⟨j + 1, a4, c4, rfl, by omega, rfl, by rw [wAt64, iv_app]; exact o4, grown_below b3 o3 g4 s3 (Nat.le_refl _)⟩
  obtain rfl : j = 16 := by omega
  have e2 : cmpB .lss ((128 * k + 8 * 16 : Nat) : Int) (((128 * k : Nat) : Int) + 128) = false := by simp only [cmpB, decide_eq_false_iff_not]; omega
  refine T_region ?_
  refine L_val _ _ (X_move) rfl ?_
  refine L_val _ _ (X_move) rfl ?_
  refine L_val _ _ (X_add rfl rfl (by omega) (by omega)) rfl ?_
  refine L_val _ _ (X_cmpR false rfl rfl rfl e2) rfl ?_
  refine L_nil ?_
  refine T_false rfl ?_
  refine T_exit rfl ?_
  clear ihj
  have hxl : (wAt64 p (128 * k) 16).length = 16 := wAt64_len _ _ _
  generalize wAt64 p (128 * k) 16 = x at *
  repeat (first | refine T_seq ?_ | refine T_block ?_ | refine T_inBlock ?_ | refine T_skip ?_)
  refine T_region ?_
  refine L_val _ _ (X_assign) rfl ?_
  refine L_nil ?_
  repeat (first | refine T_seq ?_ | refine T_block ?_ | refine T_inBlock ?_ | refine T_skip ?_)
  refine T_loopS [11, 6, 5, 4, 3] (fun m vs u => ∃ (j : Nat) (xa : Option Addr) (xc : Nat), vs = [.int .i64 ((16 + j : Nat) : Int), .slice xa (16 + j) xc, .int .i64 ((128 * k : Nat) : Int), .slice (some ⟨pb, po, none⟩) p.length pc, .slice (some ⟨hb, 0, none⟩) 8 8] ∧ j ≤ 64 ∧ m = 64 - j ∧ u.ownsRow z.heap.size 91 1 (.slice xa (16 + j) xc) (16 + j) (iv .u64 (w3At x j)) ∧ Below z.heap.size z u) 64
    ⟨0, xa, xc, rfl, by omega, rfl, ou, bu⟩ ?_
  clear ou bu su xa xc u
  rintro m vs ρ2 u ⟨j, xa, xc, rfl, hj, rfl, ou, bu⟩ ihj
  have hwl : (w3At x j).length = 16 + j := by rw [w3At_len, hxl]
  have hxI : Ints .u64 u xa (w3At x j) := ints_owns ou hwl
  obtain ⟨xb, xo, rfl, hxb⟩ := hxI.some (by omega)
  have su := bu.size
  repeat (first | refine T_seq ?_ | refine T_block ?_ | refine T_inBlock ?_ | refine T_skip ?_)
  rcases Nat.lt_or_ge j 64 with hltj | hgej
  · have e2 : cmpB .lss ((16 + j : Nat) : Int) 80 = true := by simp [cmpB]; omega
    have hC : RowC z .u64 91 xb xo (16 + j) xc (w3At x j) u := ⟨bu, ou, fun i hi => by
      rw [Nat.mul_one]; exact hxI.at i _ (gI_at (by omega))⟩
    have hstep : w3At x (j + 1) = w3At x j ++ [nw384 (w3At x j) j] := rfl
    generalize w3At x j = W at *
    refine T_region ?_
    refine L_val _ _ (X_move) rfl ?_
    refine L_val _ _ (X_cmpR true rfl rfl rfl e2) rfl ?_
    refine L_nil ?_
    refine T_true rfl ?_
    repeat (first | refine T_seq ?_ | refine T_block ?_ | refine T_inBlock ?_ | refine T_skip ?_)
    refine T_part [12, 11, 6, 5, 4, 3] (fun vs y => vs = [.int .u64 (tg0 W j), .int .i64 ((16 + j : Nat) : Int), .slice (some ⟨xb, xo, none⟩) (16 + j) xc, .int .i64 ((128 * k : Nat) : Int), .slice (some ⟨pb, po, none⟩) p.length pc, .slice (some ⟨hb, 0, none⟩) 8 8] ∧ RowC z .u64 91 xb xo (16 + j) xc W y) ?_ (fun join => ?_)
    rotate_left
    · refine T_quiet (fun v => RowC z .u64 91 xb xo (16 + j) xc W v) rfl (by kernel_rfl) (hC.sm (sm_drew u)) ?_
      refine LQ_val _ (fun w hw => X_move) rfl ?_
      refine LQ_val _ (fun w hw => X_move) rfl ?_
      refine LQ_val _ (fun w hw => X_sub rfl rfl (by omega) (by omega)) rfl ?_
      refine LQ_val _ (fun w hw => X_index (j := 1 + j) U93 S91 rfl (by exact congrArg (Value.int .i64) (show ((16 + j : Nat) : Int) - 15 = ((1 + j : Nat) : Int) by omega)) (by omega)) rfl ?_
      refine LQ_val _ (fun w hw => X_load A91 rfl (hw.rd (1 + j) (by omega))) rfl ?_
      refine LQ_callF [.int .u64 (gI W (1 + j)), .int .i64 1] (.int .u64 (rotr64V (gI W (1 + j)) 1)) E51 rfl rfl (fun w hw => (rotr64_ret _ _ (by decide) (by decide) w).mono fun u w' hu => ⟨hu.1, hw.sm hu.2⟩) ?_
      refine LQ_val _ (fun w hw => X_move) rfl ?_
      refine LQ_val _ (fun w hw => X_move) rfl ?_
      refine LQ_val _ (fun w hw => X_sub rfl rfl (by omega) (by omega)) rfl ?_
      refine LQ_val _ (fun w hw => X_index (j := 1 + j) U93 S91 rfl (by exact congrArg (Value.int .i64) (show ((16 + j : Nat) : Int) - 15 = ((1 + j : Nat) : Int) by omega)) (by omega)) rfl ?_
      refine LQ_val _ (fun w hw => X_load A91 rfl (hw.rd (1 + j) (by omega))) rfl ?_
      refine LQ_callF [.int .u64 (gI W (1 + j)), .int .i64 8] (.int .u64 (rotr64V (gI W (1 + j)) 8)) E51 rfl rfl (fun w hw => (rotr64_ret _ _ (by decide) (by decide) w).mono fun u w' hu => ⟨hu.1, hw.sm hu.2⟩) ?_
      refine LQ_val _ (fun w hw => X_bit rfl rfl rfl) rfl ?_
      refine LQ_val _ (fun w hw => X_move) rfl ?_
      refine LQ_val _ (fun w hw => X_move) rfl ?_
      refine LQ_val _ (fun w hw => X_sub rfl rfl (by omega) (by omega)) rfl ?_
      refine LQ_val _ (fun w hw => X_index (j := 1 + j) U93 S91 rfl (by exact congrArg (Value.int .i64) (show ((16 + j : Nat) : Int) - 15 = ((1 + j : Nat) : Int) by omega)) (by omega)) rfl ?_
      refine LQ_val _ (fun w hw => X_load A91 rfl (hw.rd (1 + j) (by omega))) rfl ?_
      refine LQ_val _ (fun w hw => X_shr rfl rfl (by decide)) rfl ?_
      refine LQ_val _ (fun w hw => X_bit rfl rfl rfl) rfl ?_
      refine LQ_val _ (fun w hw => X_assign) rfl ?_
      refine LQ_nil fun u1 hC1 => ?_
      exact join _ _ ⟨rfl, hC1⟩
    rintro vs ρx1 u1 ⟨rfl, hC1⟩
    refine T_seq ?_
    refine T_part [13, 12, 11, 6, 5, 4, 3] (fun vs y => vs = [.int .u64 (tg1 W j), .int .u64 (tg0 W j), .int .i64 ((16 + j : Nat) : Int), .slice (some ⟨xb, xo, none⟩) (16 + j) xc, .int .i64 ((128 * k : Nat) : Int), .slice (some ⟨pb, po, none⟩) p.length pc, .slice (some ⟨hb, 0, none⟩) 8 8] ∧ RowC z .u64 91 xb xo (16 + j) xc W y) ?_ (fun join => ?_)
    rotate_left
    · refine T_quiet (fun v => RowC z .u64 91 xb xo (16 + j) xc W v) rfl (by kernel_rfl) (hC1.sm (sm_drew u1)) ?_
      refine LQ_val _ (fun w hw => X_move) rfl ?_
      refine LQ_val _ (fun w hw => X_move) rfl ?_
      refine LQ_val _ (fun w hw => X_sub rfl rfl (by omega) (by omega)) rfl ?_
      refine LQ_val _ (fun w hw => X_index (j := 14 + j) U93 S91 rfl (by exact congrArg (Value.int .i64) (show ((16 + j : Nat) : Int) - 2 = ((14 + j : Nat) : Int) by omega)) (by omega)) rfl ?_
      refine LQ_val _ (fun w hw => X_load A91 rfl (hw.rd (14 + j) (by omega))) rfl ?_
      refine LQ_callF [.int .u64 (gI W (14 + j)), .int .i64 19] (.int .u64 (rotr64V (gI W (14 + j)) 19)) E51 rfl rfl (fun w hw => (rotr64_ret _ _ (by decide) (by decide) w).mono fun u w' hu => ⟨hu.1, hw.sm hu.2⟩) ?_
      refine LQ_val _ (fun w hw => X_move) rfl ?_
      refine LQ_val _ (fun w hw => X_move) rfl ?_
      refine LQ_val _ (fun w hw => X_sub rfl rfl (by omega) (by omega)) rfl ?_
      refine LQ_val _ (fun w hw => X_index (j := 14 + j) U93 S91 rfl (by exact congrArg (Value.int .i64) (show ((16 + j : Nat) : Int) - 2 = ((14 + j : Nat) : Int) by omega)) (by omega)) rfl ?_
      refine LQ_val _ (fun w hw => X_load A91 rfl (hw.rd (14 + j) (by omega))) rfl ?_
      refine LQ_callF [.int .u64 (gI W (14 + j)), .int .i64 61] (.int .u64 (rotr64V (gI W (14 + j)) 61)) E51 rfl rfl (fun w hw => (rotr64_ret _ _ (by decide) (by decide) w).mono fun u w' hu => ⟨hu.1, hw.sm hu.2⟩) ?_
      refine LQ_val _ (fun w hw => X_bit rfl rfl rfl) rfl ?_
      refine LQ_val _ (fun w hw => X_move) rfl ?_
      refine LQ_val _ (fun w hw => X_move) rfl ?_
      refine LQ_val _ (fun w hw => X_sub rfl rfl (by omega) (by omega)) rfl ?_
      refine LQ_val _ (fun w hw => X_index (j := 14 + j) U93 S91 rfl (by exact congrArg (Value.int .i64) (show ((16 + j : Nat) : Int) - 2 = ((14 + j : Nat) : Int) by omega)) (by omega)) rfl ?_
      refine LQ_val _ (fun w hw => X_load A91 rfl (hw.rd (14 + j) (by omega))) rfl ?_
      refine LQ_val _ (fun w hw => X_shr rfl rfl (by decide)) rfl ?_
      refine LQ_val _ (fun w hw => X_bit rfl rfl rfl) rfl ?_
      refine LQ_val _ (fun w hw => X_assign) rfl ?_
      refine LQ_nil fun u2 hC2 => ?_
      exact join _ _ ⟨rfl, hC2⟩
    rintro vs ρx2 u2 ⟨rfl, hC2⟩
    repeat (first | refine T_seq ?_ | refine T_block ?_ | refine T_inBlock ?_ | refine T_skip ?_)
    refine T_draw (fun v => RowC z .u64 91 xb xo (16 + j) xc W v) 17 rfl rfl fun u3 hsm => ?_
    have hC3 := hC2.sm hsm
    refine D_takeT 0 _ rfl (by kernel_rfl) hC3 (fun w hw => X_move) rfl ?_
    refine D_takeT 1 _ rfl (by kernel_rfl) hC3 (fun w hw => X_move) rfl ?_
    refine D_takeT 2 _ rfl (by kernel_rfl) hC3 (fun w hw => X_move) rfl ?_
    refine D_takeT 3 _ rfl (by kernel_rfl) hC3 (fun w hw => X_move) rfl ?_
    refine D_takeT 4 _ rfl (by kernel_rfl) hC3 (fun w hw => X_sub rfl rfl (by omega) (by omega)) rfl ?_
    refine D_takeT 5 _ rfl (by kernel_rfl) hC3 (fun w hw => X_index (j := 9 + j) U93 S91 rfl (by exact congrArg (Value.int .i64) (show ((16 + j : Nat) : Int) - 7 = ((9 + j : Nat) : Int) by omega)) (by omega)) rfl ?_
    refine D_takeT 6 _ rfl (by kernel_rfl) hC3 (fun w hw => X_load A91 rfl (hw.rd (9 + j) (by omega))) rfl ?_
    refine D_takeT 7 _ rfl (by kernel_rfl) hC3 (fun w hw => X_ar rfl rfl rfl) rfl ?_
    refine D_takeT 8 _ rfl (by kernel_rfl) hC3 (fun w hw => X_move) rfl ?_
    refine D_takeT 9 _ rfl (by kernel_rfl) hC3 (fun w hw => X_ar rfl rfl rfl) rfl ?_
    refine D_takeT 10 _ rfl (by kernel_rfl) hC3 (fun w hw => X_move) rfl ?_
    refine D_takeT 11 _ rfl (by kernel_rfl) hC3 (fun w hw => X_move) rfl ?_
    refine D_takeT 12 _ rfl (by kernel_rfl) hC3 (fun w hw => X_sub rfl rfl (by omega) (by omega)) rfl ?_
    refine D_takeT 13 _ rfl (by kernel_rfl) hC3 (fun w hw => X_index (j := j) U93 S91 rfl (by exact congrArg (Value.int .i64) (show ((16 + j : Nat) : Int) - 16 = ((j : Nat) : Int) by omega)) (by omega)) rfl ?_
    refine D_takeT 14 _ rfl (by kernel_rfl) hC3 (fun w hw => X_load A91 rfl (hw.rd j (by omega))) rfl ?_
    refine D_takeT 15 _ rfl (by kernel_rfl) hC3 (fun w hw => X_ar rfl rfl rfl) rfl ?_
    skip
    refine D_buildSlice 16 #[.int .u64 (nw384 W j)] 91 rfl (by kernel_rfl) (by kernel_rfl) rfl ?_
    intro u4 h4
    have hC4 := hC3.new h4
    refine ⟨fun _ => hC4, ?_⟩
    refine D_append1 17 z.heap.size (.slice (some ⟨xb, xo, none⟩) (16 + j) xc) (16 + j) (iv .u64 W) u3.heap.size [.int .u64 (nw384 W j)] rfl (by kernel_rfl) Tryd.underlying93 I91 rfl (by decide) rfl hC4.own rfl rfl h4.new (by simp [Value.oneCell']) (by simp only [maxLen]; omega) (by omega) hC4.bel.size rfl ?_
    intro v5 u5 o5 g5 _
    have b5 : Below z.heap.size z u5 := grown_below hC4.bel hC4.own g5 hC4.bel.size (Nat.le_refl _)
    refine ⟨fun hb => (by cases hb), ?_⟩
    obtain ⟨a5, c5, rfl, -, -⟩ := owns_val o5
    refine D_val 18 _ _ rfl (by kernel_rfl) X_assign rfl (fun hb => by cases hb) ?_
    refine D_done (by kernel_rfl) ?_
    repeat (first | refine T_seq ?_ | refine T_block ?_ | refine T_inBlock ?_ | refine T_skip ?_)
    refine T_region ?_
    refine L_val _ _ (X_move) rfl ?_
    refine L_val _ _ (X_add rfl rfl (by omega) (by omega)) rfl ?_
    refine L_val _ _ (X_assign) rfl ?_
    refine L_nil ?_
    exact ihj _ _ _ (by omega) ⟨j + 1, a5, c5, rfl, by omega, rfl, by rw [hstep, iv_app]; exact o5, b5⟩
  obtain rfl : j = 64 := by omega
  refine T_region ?_
  refine L_val _ _ (X_move) rfl ?_
  refine L_val _ _ (X_cmpR false rfl rfl rfl (by decide)) rfl ?_
  refine L_nil ?_
  refine T_false rfl ?_
  refine T_exit rfl ?_
  clear ihj ou
  generalize w3At x 64 = X at *
  have kh1 := below_blk bu kh zh
  have zh1 := kh1.lt
  have bz1 : Below w8.heap.size w8 u := bz.trans (bu.mono sz)
  have hin : Below u.heap.size u u.drew := (sm_drew u).below (Below.refl _ _)
  have hg : ∀ v, Below u.heap.size u v → ∀ j y, (iv .u64 (Q8.l s0))[j]? = some y → v.cell? ⟨hb, 0 + j * 1, none⟩ = some y := fun v hv j y hy => by
    rw [Nat.zero_add, Nat.mul_one]; exact gblk (below_blk hv kh1 zh1) j hy
  repeat (first | refine T_seq ?_ | refine T_block ?_ | refine T_inBlock ?_ | refine T_skip ?_)
  refine T_quiet (fun v => Below u.heap.size u v) rfl (by kernel_rfl) (hin) ?_
  refine LQ_val _ (fun w hw => X_move) rfl ?_
  refine LQ_val _ (fun w hw => X_index U93 S91 rfl rfl (by decide)) rfl ?_
  refine LQ_val _ (fun w hw => X_load A91 rfl (hg _ hw 0 _ rfl)) rfl ?_
  refine LQ_val _ (fun w hw => X_move) rfl ?_
  refine LQ_val _ (fun w hw => X_index U93 S91 rfl rfl (by decide)) rfl ?_
  refine LQ_val _ (fun w hw => X_load A91 rfl (hg _ hw 1 _ rfl)) rfl ?_
  refine LQ_val _ (fun w hw => X_move) rfl ?_
  refine LQ_val _ (fun w hw => X_index U93 S91 rfl rfl (by decide)) rfl ?_
  refine LQ_val _ (fun w hw => X_load A91 rfl (hg _ hw 2 _ rfl)) rfl ?_
  refine LQ_val _ (fun w hw => X_move) rfl ?_
  refine LQ_val _ (fun w hw => X_index U93 S91 rfl rfl (by decide)) rfl ?_
  refine LQ_val _ (fun w hw => X_load A91 rfl (hg _ hw 3 _ rfl)) rfl ?_
  refine LQ_val _ (fun w hw => X_move) rfl ?_
  refine LQ_val _ (fun w hw => X_index U93 S91 rfl rfl (by decide)) rfl ?_
  refine LQ_val _ (fun w hw => X_load A91 rfl (hg _ hw 4 _ rfl)) rfl ?_
  refine LQ_val _ (fun w hw => X_move) rfl ?_
  refine LQ_val _ (fun w hw => X_index U93 S91 rfl rfl (by decide)) rfl ?_
  refine LQ_val _ (fun w hw => X_load A91 rfl (hg _ hw 5 _ rfl)) rfl ?_
  refine LQ_val _ (fun w hw => X_move) rfl ?_
  refine LQ_val _ (fun w hw => X_index U93 S91 rfl rfl (by decide)) rfl ?_
  refine LQ_val _ (fun w hw => X_load A91 rfl (hg _ hw 6 _ rfl)) rfl ?_
  refine LQ_val _ (fun w hw => X_move) rfl ?_
  refine LQ_val _ (fun w hw => X_index U93 S91 rfl rfl (by decide)) rfl ?_
  refine LQ_val _ (fun w hw => X_load A91 rfl (hg _ hw 7 _ rfl)) rfl ?_
  refine LQ_val _ (fun w hw => X_assign) rfl ?_
  refine LQ_val _ (fun w hw => X_assign) rfl ?_
  refine LQ_val _ (fun w hw => X_assign) rfl ?_
  refine LQ_val _ (fun w hw => X_assign) rfl ?_
  refine LQ_val _ (fun w hw => X_assign) rfl ?_
  refine LQ_val _ (fun w hw => X_assign) rfl ?_
  refine LQ_val _ (fun w hw => X_assign) rfl ?_
  refine LQ_val _ (fun w hw => X_assign) rfl ?_
  refine LQ_nil fun y2 by2 => ?_
  repeat (first | refine T_seq ?_ | refine T_block ?_ | refine T_inBlock ?_ | refine T_skip ?_)
  refine T_region ?_
  refine L_val _ _ (X_assign) rfl ?_
  refine L_nil ?_
  repeat (first | refine T_seq ?_ | refine T_block ?_ | refine T_inBlock ?_ | refine T_skip ?_)
  refine T_loopS [22, 14, 15, 16, 17, 18, 19, 20, 21, 6, 5, 4, 3] (fun m vs y => ∃ i : Nat, vs = [.int .i64 i, .int .u64 (st384 cr X s0 i).a, .int .u64 (st384 cr X s0 i).b, .int .u64 (st384 cr X s0 i).c, .int .u64 (st384 cr X s0 i).d, .int .u64 (st384 cr X s0 i).e, .int .u64 (st384 cr X s0 i).f, .int .u64 (st384 cr X s0 i).g, .int .u64 (st384 cr X s0 i).h, .slice (some ⟨xb, xo, none⟩) 80 xc, .int .i64 ((128 * k : Nat) : Int), .slice (some ⟨pb, po, none⟩) p.length pc, .slice (some ⟨hb, 0, none⟩) 8 8] ∧ i ≤ 80 ∧ m = 80 - i ∧ Below u.heap.size u y) 80
    ⟨0, rfl, by omega, rfl, by2⟩ ?_
  clear by2
  rintro m vs ρ3 y3 ⟨i, rfl, hi, rfl, by3⟩ ih3
  repeat (first | refine T_seq ?_ | refine T_block ?_ | refine T_inBlock ?_ | refine T_skip ?_)
  rcases Nat.lt_or_ge i 80 with hltn | hgen
  case inr =>
    obtain rfl : i = 80 := by omega
    refine T_region ?_
    refine L_val _ _ (X_move) rfl ?_
    refine L_val _ _ (X_cmpR false rfl rfl rfl (by decide)) rfl ?_
    refine L_nil ?_
    refine T_false rfl ?_
    refine T_exit rfl ?_
    generalize hs48 : st384 cr X s0 80 = s3 at *
    repeat (first | refine T_seq ?_ | refine T_block ?_ | refine T_inBlock ?_ | refine T_skip ?_)
    refine T_draw (fun v => Below u.heap.size u v) 41 rfl rfl fun u1 hsm => ?_
    have hS : Below u.heap.size u u1 := hsm.below by3
    refine D_take 0 _ rfl (by kernel_rfl) hS (fun w hw => X_move) rfl ?_
    refine D_take 1 _ rfl (by kernel_rfl) hS (fun w hw => X_index U93 S91 rfl rfl (by decide)) rfl ?_
    refine D_take 2 _ rfl (by kernel_rfl) hS (fun w hw => X_load A91 rfl (hg _ hw 0 _ rfl)) rfl ?_
    refine D_take 3 _ rfl (by kernel_rfl) hS (fun w hw => X_move) rfl ?_
    refine D_take 4 _ rfl (by kernel_rfl) hS (fun w hw => X_ar rfl rfl rfl) rfl ?_
    refine D_take 5 _ rfl (by kernel_rfl) hS (fun w hw => X_move) rfl ?_
    refine D_take 6 _ rfl (by kernel_rfl) hS (fun w hw => X_index U93 S91 rfl rfl (by decide)) rfl ?_
    refine D_take 7 _ rfl (by kernel_rfl) hS (fun w hw => X_load A91 rfl (hg _ hw 1 _ rfl)) rfl ?_
    refine D_take 8 _ rfl (by kernel_rfl) hS (fun w hw => X_move) rfl ?_
    refine D_take 9 _ rfl (by kernel_rfl) hS (fun w hw => X_ar rfl rfl rfl) rfl ?_
    refine D_take 10 _ rfl (by kernel_rfl) hS (fun w hw => X_move) rfl ?_
    refine D_take 11 _ rfl (by kernel_rfl) hS (fun w hw => X_index U93 S91 rfl rfl (by decide)) rfl ?_
    refine D_take 12 _ rfl (by kernel_rfl) hS (fun w hw => X_load A91 rfl (hg _ hw 2 _ rfl)) rfl ?_
    refine D_take 13 _ rfl (by kernel_rfl) hS (fun w hw => X_move) rfl ?_
    refine D_take 14 _ rfl (by kernel_rfl) hS (fun w hw => X_ar rfl rfl rfl) rfl ?_
    refine D_take 15 _ rfl (by kernel_rfl) hS (fun w hw => X_move) rfl ?_
    refine D_take 16 _ rfl (by kernel_rfl) hS (fun w hw => X_index U93 S91 rfl rfl (by decide)) rfl ?_
    refine D_take 17 _ rfl (by kernel_rfl) hS (fun w hw => X_load A91 rfl (hg _ hw 3 _ rfl)) rfl ?_
    refine D_take 18 _ rfl (by kernel_rfl) hS (fun w hw => X_move) rfl ?_
    refine D_take 19 _ rfl (by kernel_rfl) hS (fun w hw => X_ar rfl rfl rfl) rfl ?_
    refine D_take 20 _ rfl (by kernel_rfl) hS (fun w hw => X_move) rfl ?_
    refine D_take 21 _ rfl (by kernel_rfl) hS (fun w hw => X_index U93 S91 rfl rfl (by decide)) rfl ?_
    refine D_take 22 _ rfl (by kernel_rfl) hS (fun w hw => X_load A91 rfl (hg _ hw 4 _ rfl)) rfl ?_
    refine D_take 23 _ rfl (by kernel_rfl) hS (fun w hw => X_move) rfl ?_
    refine D_take 24 _ rfl (by kernel_rfl) hS (fun w hw => X_ar rfl rfl rfl) rfl ?_
    refine D_take 25 _ rfl (by kernel_rfl) hS (fun w hw => X_move) rfl ?_
    refine D_take 26 _ rfl (by kernel_rfl) hS (fun w hw => X_index U93 S91 rfl rfl (by decide)) rfl ?_
    refine D_take 27 _ rfl (by kernel_rfl) hS (fun w hw => X_load A91 rfl (hg _ hw 5 _ rfl)) rfl ?_
    refine D_take 28 _ rfl (by kernel_rfl) hS (fun w hw => X_move) rfl ?_
    refine D_take 29 _ rfl (by kernel_rfl) hS (fun w hw => X_ar rfl rfl rfl) rfl ?_
    refine D_take 30 _ rfl (by kernel_rfl) hS (fun w hw => X_move) rfl ?_
    refine D_take 31 _ rfl (by kernel_rfl) hS (fun w hw => X_index U93 S91 rfl rfl (by decide)) rfl ?_
    refine D_take 32 _ rfl (by kernel_rfl) hS (fun w hw => X_load A91 rfl (hg _ hw 6 _ rfl)) rfl ?_
    refine D_take 33 _ rfl (by kernel_rfl) hS (fun w hw => X_move) rfl ?_
    refine D_take 34 _ rfl (by kernel_rfl) hS (fun w hw => X_ar rfl rfl rfl) rfl ?_
    refine D_take 35 _ rfl (by kernel_rfl) hS (fun w hw => X_move) rfl ?_
    refine D_take 36 _ rfl (by kernel_rfl) hS (fun w hw => X_index U93 S91 rfl rfl (by decide)) rfl ?_
    refine D_take 37 _ rfl (by kernel_rfl) hS (fun w hw => X_load A91 rfl (hg _ hw 7 _ rfl)) rfl ?_
    refine D_take 38 _ rfl (by kernel_rfl) hS (fun w hw => X_move) rfl ?_
    refine D_take 39 _ rfl (by kernel_rfl) hS (fun w hw => X_ar rfl rfl rfl) rfl ?_
    skip
    refine D_buildSlice 40 (iv .u64 (Q8.l (addS9 s0 s3))).toArray 91 rfl (by kernel_rfl) (by kernel_rfl) rfl ?_
    intro u4 h2
    have hS2 : Below u.heap.size u u4 := h2.below hS hS.size
    refine ⟨fun _ => hS2, ?_⟩
    refine D_val 41 _ _ rfl (by kernel_rfl) X_assign rfl (fun hb => by cases hb) ?_
    refine D_done (by kernel_rfl) ?_
    have k2' : Blk u4 u1.heap.size (iv .u64 (Q8.l (addS9 s0 s3))).toArray 91 := h2.new
    repeat (first | refine T_seq ?_ | refine T_block ?_ | refine T_inBlock ?_ | refine T_skip ?_)
    refine T_region ?_
    refine L_val _ _ (X_move) rfl ?_
    refine L_val _ _ (X_add rfl rfl (by omega) (by omega)) rfl ?_
    refine L_val _ _ (X_assign) rfl ?_
    refine L_nil ?_
    exact ih _ _ _ (by omega) ⟨k + 1, u1.heap.size, rfl, by omega, rfl, bz1.trans (hS2.mono bz1.size), by rw [hh]; exact k2'⟩
  have e3 : cmpB .lss (i : Int) 80 = true := by simp [cmpB]; omega
  have hstep : st384 cr X s0 (i + 1) = step384 cr X i (st384 cr X s0 i) := rfl
  generalize st384 cr X s0 i = s at *
  refine T_region ?_
  refine L_val _ _ (X_move) rfl ?_
  refine L_val _ _ (X_cmpR true rfl rfl rfl e3) rfl ?_
  refine L_nil ?_
  refine T_true rfl ?_
  have hinu : Below u.heap.size u y3.drew := (sm_drew y3).below by3
  have hxc : ∀ v, Below u.heap.size u v → v.cell? ⟨xb, xo + i * 1, none⟩ = some (.int .u64 (gI X i)) := fun v hv => by
    rw [Nat.mul_one]
    exact (below_cell hv _ hxb).trans (hxI.at _ _ (gI_at (by omega)))
  have hcub : ∀ v, Below u.heap.size u v → v.cell? ⟨1, 0 + i * 1, none⟩ = some (.int .u64 (gI cr i)) := fun v hv => (hG8.below (bz1.trans (hv.mono bz1.size))).cub.2 i (by omega)
  repeat (first | refine T_seq ?_ | refine T_block ?_ | refine T_inBlock ?_ | refine T_skip ?_)
  refine T_part [23, 22, 14, 15, 16, 17, 18, 19, 20, 21, 6, 5, 4, 3] (fun vs y => vs = [.int .u64 (t1_384 cr X i s), .int .i64 i, .int .u64 s.a, .int .u64 s.b, .int .u64 s.c, .int .u64 s.d, .int .u64 s.e, .int .u64 s.f, .int .u64 s.g, .int .u64 s.h, .slice (some ⟨xb, xo, none⟩) 80 xc, .int .i64 ((128 * k : Nat) : Int), .slice (some ⟨pb, po, none⟩) p.length pc, .slice (some ⟨hb, 0, none⟩) 8 8] ∧ Below u.heap.size u y) ?_ (fun join => ?_)
  rotate_left
  · refine T_quiet (fun v => Below u.heap.size u v) rfl (by kernel_rfl) (hinu) ?_
    refine LQ_val _ (fun w hw => X_move) rfl ?_
    refine LQ_val _ (fun w hw => X_move) rfl ?_
    refine LQ_callF [.int .u64 s.e, .int .i64 14] (.int .u64 (rotr64V s.e 14)) E51 rfl rfl (fun w hw => (rotr64_ret _ _ (by decide) (by decide) w).mono fun u w' hu => ⟨hu.1, hu.2.below hw⟩) ?_
    refine LQ_val _ (fun w hw => X_move) rfl ?_
    refine LQ_callF [.int .u64 s.e, .int .i64 18] (.int .u64 (rotr64V s.e 18)) E51 rfl rfl (fun w hw => (rotr64_ret _ _ (by decide) (by decide) w).mono fun u w' hu => ⟨hu.1, hu.2.below hw⟩) ?_
    refine LQ_val _ (fun w hw => X_bit rfl rfl rfl) rfl ?_
    refine LQ_val _ (fun w hw => X_move) rfl ?_
    refine LQ_callF [.int .u64 s.e, .int .i64 41] (.int .u64 (rotr64V s.e 41)) E51 rfl rfl (fun w hw => (rotr64_ret _ _ (by decide) (by decide) w).mono fun u w' hu => ⟨hu.1, hu.2.below hw⟩) ?_
    refine LQ_val _ (fun w hw => X_bit rfl rfl rfl) rfl ?_
    refine LQ_val _ (fun w hw => X_ar rfl rfl rfl) rfl ?_
    refine LQ_val _ (fun w hw => X_move) rfl ?_
    refine LQ_val _ (fun w hw => X_move) rfl ?_
    refine LQ_val _ (fun w hw => X_bit rfl rfl rfl) rfl ?_
    refine LQ_val _ (fun w hw => X_move) rfl ?_
    refine LQ_val _ (fun w hw => X_xor rfl) rfl ?_
    refine LQ_val _ (fun w hw => X_move) rfl ?_
    refine LQ_val _ (fun w hw => X_bit rfl rfl rfl) rfl ?_
    refine LQ_val _ (fun w hw => X_bit rfl rfl rfl) rfl ?_
    refine LQ_val _ (fun w hw => X_ar rfl rfl rfl) rfl ?_
    refine LQ_val _ (fun w hw => X_move) rfl ?_
    refine LQ_val _ (fun w hw => X_indexA U92 S91 rfl rfl (show i < 80 by omega)) rfl ?_
    refine LQ_val _ (fun w hw => X_load A91 rfl (hcub _ hw)) rfl ?_
    refine LQ_val _ (fun w hw => X_ar rfl rfl rfl) rfl ?_
    refine LQ_val _ (fun w hw => X_move) rfl ?_
    refine LQ_val _ (fun w hw => X_move) rfl ?_
    refine LQ_val _ (fun w hw => X_index U93 S91 rfl rfl hltn) rfl ?_
    refine LQ_val _ (fun w hw => X_load A91 rfl (hxc _ hw)) rfl ?_
    refine LQ_val _ (fun w hw => X_ar rfl rfl rfl) rfl ?_
    refine LQ_val _ (fun w hw => X_assign) rfl ?_
    refine LQ_nil fun y4 by4 => ?_
    exact join _ _ ⟨rfl, by4⟩
  rintro vs ρ4 y4 ⟨rfl, by4⟩
  refine T_seq ?_
  refine T_part [23, 24, 22, 14, 15, 16, 17, 18, 19, 20, 21, 6, 5, 4, 3] (fun vs y => vs = [.int .u64 (t1_384 cr X i s), .int .u64 (t2_384 s), .int .i64 i, .int .u64 s.a, .int .u64 s.b, .int .u64 s.c, .int .u64 s.d, .int .u64 s.e, .int .u64 s.f, .int .u64 s.g, .int .u64 s.h, .slice (some ⟨xb, xo, none⟩) 80 xc, .int .i64 ((128 * k : Nat) : Int), .slice (some ⟨pb, po, none⟩) p.length pc, .slice (some ⟨hb, 0, none⟩) 8 8] ∧ Below u.heap.size u y) ?_ (fun join => ?_)
  rotate_left
  · refine T_region ?_
    refine L_val _ _ (X_move) rfl ?_
    refine L_callF [.int .u64 s.a, .int .i64 28] E51 rfl rfl (rotr64_ret _ _ (by decide) (by decide) _) ?_
    rintro v y5 ⟨rfl, hy5⟩
    refine L_val _ _ (X_move) rfl ?_
    refine L_callF [.int .u64 s.a, .int .i64 34] E51 rfl rfl (rotr64_ret _ _ (by decide) (by decide) _) ?_
    rintro v y6 ⟨rfl, hy6⟩
    refine L_val _ _ (X_bit rfl rfl rfl) rfl ?_
    refine L_val _ _ (X_move) rfl ?_
    refine L_callF [.int .u64 s.a, .int .i64 39] E51 rfl rfl (rotr64_ret _ _ (by decide) (by decide) _) ?_
    rintro v y7 ⟨rfl, hy7⟩
    refine L_val _ _ (X_bit rfl rfl rfl) rfl ?_
    refine L_val _ _ (X_move) rfl ?_
    refine L_val _ _ (X_move) rfl ?_
    refine L_val _ _ (X_bit rfl rfl rfl) rfl ?_
    refine L_val _ _ (X_move) rfl ?_
    refine L_val _ _ (X_move) rfl ?_
    refine L_val _ _ (X_bit rfl rfl rfl) rfl ?_
    refine L_val _ _ (X_bit rfl rfl rfl) rfl ?_
    refine L_val _ _ (X_move) rfl ?_
    refine L_val _ _ (X_move) rfl ?_
    refine L_val _ _ (X_bit rfl rfl rfl) rfl ?_
    refine L_val _ _ (X_bit rfl rfl rfl) rfl ?_
    refine L_val _ _ (X_ar rfl rfl rfl) rfl ?_
    refine L_val _ _ (X_assign) rfl ?_
    refine L_nil ?_
    exact join _ _ ⟨rfl, hy7.below (hy6.below (hy5.below by4))⟩
  rintro vs ρ5 y7 ⟨rfl, by7⟩
  repeat (first | refine T_seq ?_ | refine T_block ?_ | refine T_inBlock ?_ | refine T_skip ?_)
  refine T_region ?_
  refine L_val _ _ (X_move) rfl ?_
  refine L_val _ _ (X_move) rfl ?_
  refine L_val _ _ (X_ar rfl rfl rfl) rfl ?_
  refine L_val _ _ (X_move) rfl ?_
  refine L_val _ _ (X_move) rfl ?_
  refine L_val _ _ (X_move) rfl ?_
  refine L_val _ _ (X_move) rfl ?_
  refine L_val _ _ (X_move) rfl ?_
  refine L_val _ _ (X_ar rfl rfl rfl) rfl ?_
  refine L_val _ _ (X_move) rfl ?_
  refine L_val _ _ (X_move) rfl ?_
  refine L_val _ _ (X_move) rfl ?_
  refine L_val _ _ (X_assign) rfl ?_
  refine L_val _ _ (X_assign) rfl ?_
  refine L_val _ _ (X_assign) rfl ?_
  refine L_val _ _ (X_assign) rfl ?_
  refine L_val _ _ (X_assign) rfl ?_
  refine L_val _ _ (X_assign) rfl ?_
  refine L_val _ _ (X_assign) rfl ?_
  refine L_val _ _ (X_assign) rfl ?_
  refine L_nil ?_
  repeat (first | refine T_seq ?_ | refine T_block ?_ | refine T_inBlock ?_ | refine T_skip ?_)
  refine T_region ?_
  refine L_val _ _ (X_move) rfl ?_
  refine L_val _ _ (X_add rfl rfl (by omega) (by omega)) rfl ?_
  refine L_val _ _ (X_assign) rfl ?_
  refine L_nil ?_
  exact ih3 _ _ _ (by omega) ⟨i + 1, by rw [hstep]; rfl, by omega, rfl, by7⟩
end Go.Proofs.Qxb6500863aDoor
