/-
  pad, words32, spell32.
-/
import Derived.Test.Qxb6500863aDoorG1
namespace Go.Proofs.Qxb6500863aDoor
set_option linter.unusedSimpArgs false
set_option linter.unusedVariables false
open Go.RowKit
theorem T_part {P : Program} {f : Cx} {n : Nat} {R : Value → World → Prop} {ρ : Env} {w : World} {k : List Item} {x : Item} (ss : List Nat) (I : List Value → World → Prop) (rest : ∀ vs ρ w, I vs w → T P f n k R (sets ρ ss vs) w)
    (h : (∀ ρ w, I (ss.map ρ) w → T P f n k R ρ w) → T P f n (x :: k) R ρ w) : T P f n (x :: k) R ρ w := by
  refine h fun ρ w hI => ?_
  have := rest _ ρ w hI
  rw [sets_self] at this
  exact this
theorem made0 (v : Value) : madeCells #[v] (0 * 1) = #[] := by simp [madeCells]
def bitsOf (n : Nat) : Int := IntKind.u64.wrap (arB .mul (IntKind.u64.wrap (n : Int)) 8)
def cb (bits : Int) (i : Nat) : Int := IntKind.u8.wrap (shrV .u64 bits (8 * (i : Int)))
def cntAt (lo : Nat) (little : Bool) (bits : Int) : Nat → List Int
  | 0 => List.replicate lo 0
  | i + 1 => (cntAt lo little bits i).set (bif little then i else lo - 1 - i) (cb bits i)
theorem cntAt_len (lo : Nat) (little : Bool) (bits : Int) : ∀ i, (cntAt lo little bits i).length = lo
  | 0 => by simp [cntAt]
  | i + 1 => by rw [cntAt, List.length_set, cntAt_len lo little bits i]
def zerosOf (n blk lo : Nat) : Nat := (2 * blk - lo - (n + 1) % blk) % blk
def padN (l : List Int) (blk lo : Nat) (little : Bool) : List Int := l ++ [128] ++ List.replicate (zerosOf l.length blk lo) 0 ++ cntAt lo little (bitsOf l.length) 8
theorem padN_len (l : List Int) (blk lo : Nat) (little : Bool) : (padN l blk lo little).length = l.length + 1 + zerosOf l.length blk lo + lo := by simp [padN, cntAt_len]; omega
theorem padN_mod (l : List Int) (blk lo : Nat) (little : Bool) (hb : (blk = 64 ∧ lo = 8) ∨ (blk = 128 ∧ lo = 16)) : (padN l blk lo little).length % blk = 0 := by
  rw [padN_len, zerosOf]
  rcases hb with ⟨rfl, rfl⟩ | ⟨rfl, rfl⟩ <;> omega
set_option maxHeartbeats 8000000 in
set_option maxRecDepth 10000 in
/-- digestm.pad -/
theorem pad_ret (a : Option Addr) (l : List Int) (c blk lo : Nat) (little : Bool) (hb : (blk = 64 ∧ lo = 8) ∨ (blk = 128 ∧ lo = 16)) (w : World) (hl : Ints .u8 w a l) (hn : a = none → l.length = 0 ∧ c = 0) (hlen : l.length ≤ 10000000) :
    Ret Tryd.prog 46 #[.slice a l.length c, .int .i64 (blk : Int), .int .i64 (lo : Int), .bool little] w fun v w' => ∃ a' c', v = .slice a' (padN l blk lo little).length c' ∧ w'.ownsRow w.heap.size 5 1 v (padN l blk lo little).length (iv .u8 (padN l blk lo little)) ∧ Below w.heap.size w w' := by
  refine ret_of_T (vs := [.slice a l.length c, .int .i64 (blk : Int), .int .i64 (lo : Int), .bool little]) Tryd.func46 Tryd.ntmps46 rfl (Nat.le_of_ble_eq_true rfl) ?_
  have hz : zerosOf l.length blk lo < 128 := by unfold zerosOf; rcases hb with ⟨rfl, rfl⟩ | ⟨rfl, rfl⟩ <;> omega
  have hlo : 8 ≤ lo ∧ lo ≤ 16 := by rcases hb with ⟨rfl, rfl⟩ | ⟨rfl, rfl⟩ <;> omega
  have hblk : 64 ≤ blk ∧ blk ≤ 128 := by rcases hb with ⟨rfl, rfl⟩ | ⟨rfl, rfl⟩ <;> omega
  repeat (first | refine T_seq ?_ | refine T_block ?_ | refine T_inBlock ?_ | refine T_skip ?_)
  refine T_region ?_
  refine L_val _ _ (X_assign) rfl ?_
  refine L_nil ?_
  repeat (first | refine T_seq ?_ | refine T_block ?_ | refine T_inBlock ?_ | refine T_skip ?_)
  refine T_region ?_
  refine L_buildSlice #[] 5 (by kernel_rfl) rfl fun w1 h1 => ?_
  have o1 : w1.ownsRow w.heap.size 5 1 (.slice (some ⟨w.heap.size, 0, none⟩) 0 0) 0 [] := owns_made (c := 0) (z := #[.int .u8 0]) (by rw [made0]; exact h1) (Nat.le_refl _) (by simp [maxLen])
  have b1 : Below w.heap.size w w1 := h1.below (Below.refl _ _) (Nat.le_refl _)
  have s1 := b1.size
  refine L_val _ _ (X_move) rfl ?_
  refine L_append w.heap.size (.slice (some ⟨w.heap.size, 0, none⟩) 0 0) 0 [] a l.length c (iv .u8 l) Tryd.underlying25 I5 rfl (by decide) rfl o1 rfl (by rw [iv_len, Nat.mul_one]) hn (ints_src (hl.below b1)) (iv_one _ _) (by simp only [maxLen]; omega) (by omega) s1 rfl fun v2 w2 o2 g2 => ?_
  obtain ⟨a2, c2, rfl, -, -⟩ := owns_val o2
  refine L_val _ _ (X_assign) rfl ?_
  refine L_nil ?_
  have b2 : Below w.heap.size w w2 := grown_below b1 o1 g2 s1 (Nat.le_refl _)
  have s2 := b2.size
  rw [Nat.zero_add, List.nil_append] at o2
  repeat (first | refine T_seq ?_ | refine T_block ?_ | refine T_inBlock ?_ | refine T_skip ?_)
  refine T_region ?_
  refine L_val _ _ (X_move) rfl ?_
  refine L_buildSlice #[.int .u8 128] 5 (by kernel_rfl) rfl fun w3 h3 => ?_
  have b23 : Below w2.heap.size w2 w3 := h3.below (Below.refl _ _) (Nat.le_refl _)
  have o3 := own_below o2 b23
  have b3 := b2.trans (b23.mono s2)
  have s3 := b3.size
  refine L_append1 w.heap.size (.slice a2 (0 + l.length) c2) l.length (iv .u8 l) w2.heap.size [.int .u8 128] Tryd.underlying25 I5 rfl (by decide) rfl (by rw [Nat.zero_add]; exact o3) rfl rfl h3.new (by simp [Value.oneCell']) (by simp only [maxLen]; omega) (by omega) s3 rfl fun v4 w4 o4 g4 => ?_
  obtain ⟨a4, c4, rfl, -, -⟩ := owns_val o4
  refine L_val _ _ (X_assign) rfl ?_
  refine L_nil ?_
  have b4 : Below w.heap.size w w4 := grown_below b3 o3 (by rw [Nat.zero_add] at g4; exact g4) s3 (Nat.le_refl _)
  have o4' : w4.ownsRow w.heap.size 5 1 (.slice a4 (l.length + 1 + 0) c4) (l.length + 1 + 0) (iv .u8 (l ++ [128] ++ List.replicate 0 0)) := by
    rw [List.replicate_zero, List.append_nil, iv_app]; exact o4
  clear o1 o2 o3 o4 g2 g4 h1 h3 b1 b2 b3 b23
  repeat (first | refine T_seq ?_ | refine T_block ?_ | refine T_inBlock ?_ | refine T_skip ?_)
  refine T_loopS [9, 0, 1, 2, 3] (fun m vs z => ∃ (j : Nat) (a' : Option Addr) (c' : Nat), vs = [.slice a' (l.length + 1 + j) c', .slice a l.length c, .int .i64 (blk : Int), .int .i64 (lo : Int), .bool little] ∧ j ≤ zerosOf l.length blk lo ∧ m = zerosOf l.length blk lo - j ∧ z.ownsRow w.heap.size 5 1 (.slice a' (l.length + 1 + j) c') (l.length + 1 + j) (iv .u8 (l ++ [128] ++ List.replicate j 0)) ∧ Below w.heap.size w z) (zerosOf l.length blk lo)
    ⟨0, a4, c4, rfl, by omega, rfl, o4', b4⟩ ?_
  clear o4' b4
  rintro m vs ρ z ⟨j, a', c', rfl, hj, rfl, oz, bz⟩ ih
  have sz := bz.size
  have hrem : ((l.length + 1 + j : Nat) : Int).tmod (blk : Int) = (((l.length + 1 + j) % blk : Nat) : Int) := rfl
  repeat (first | refine T_seq ?_ | refine T_block ?_ | refine T_inBlock ?_ | refine T_skip ?_)
  rcases Nat.lt_or_ge j (zerosOf l.length blk lo) with hlt | hge
  · have e1 : cmpB .neq (((l.length + 1 + j) % blk : Nat) : Int) ((blk : Int) - (lo : Int)) = true := by
      simp only [cmpB, bne_iff_ne, ne_eq]
      unfold zerosOf at hlt hj
      rcases hb with ⟨rfl, rfl⟩ | ⟨rfl, rfl⟩ <;> omega
    refine T_region ?_
    refine L_val _ _ (X_move) rfl ?_
    refine L_val _ _ (X_lenS U25 rfl) rfl ?_
    refine L_val _ _ (X_move) rfl ?_
    refine L_val _ _ (X_remN (l.length + 1 + j) blk rfl rfl (by omega)) rfl ?_
    refine L_val _ _ (X_move) rfl ?_
    refine L_val _ _ (X_move) rfl ?_
    refine L_val _ _ (X_sub rfl rfl (by omega) (by omega)) rfl ?_
    refine L_val _ _ (X_cmpR true rfl rfl rfl e1) rfl ?_
    refine L_nil ?_
    refine T_true rfl ?_
    repeat (first | refine T_seq ?_ | refine T_block ?_ | refine T_inBlock ?_ | refine T_skip ?_)
    refine T_region ?_
    refine L_val _ _ (X_move) rfl ?_
    refine L_buildSlice #[.int .u8 0] 5 (by kernel_rfl) rfl fun w3 h3 => ?_
    have b23 : Below z.heap.size z w3 := h3.below (Below.refl _ _) (Nat.le_refl _)
    have o3 := own_below oz b23
    have b3 := bz.trans (b23.mono sz)
    have s3 := b3.size
    refine L_append1 w.heap.size (.slice a' (l.length + 1 + j) c') (l.length + 1 + j) (iv .u8 (l ++ [128] ++ List.replicate j 0)) z.heap.size [.int .u8 0] Tryd.underlying25 I5 rfl (by decide) rfl o3 rfl rfl h3.new (by simp [Value.oneCell']) (by simp only [maxLen]; omega) (by omega) s3 rfl fun v4 w4 o4 g4 => ?_
    obtain ⟨a4, c4, rfl, -, -⟩ := owns_val o4
    refine L_val _ _ (X_assign) rfl ?_
    refine L_nil ?_
    have o4' : w4.ownsRow w.heap.size 5 1 (.slice a4 (l.length + 1 + (j + 1)) c4) (l.length + 1 + (j + 1)) (iv .u8 (l ++ [128] ++ List.replicate (j + 1) 0)) := by
      rw [List.replicate_succ', ← List.append_assoc, iv_app]; exact o4
    repeat (first | refine T_seq ?_ | refine T_block ?_ | refine T_inBlock ?_ | refine T_skip ?_)
    exact ih _ _ _ (by omega) ⟨j + 1, a4, c4, rfl, by omega, rfl, o4', grown_below b3 o3 g4 s3 (Nat.le_refl _)⟩
  obtain rfl : j = zerosOf l.length blk lo := by omega
  have e1 : cmpB .neq (((l.length + 1 + zerosOf l.length blk lo) % blk : Nat) : Int) ((blk : Int) - (lo : Int)) = false := by
    have : (((l.length + 1 + zerosOf l.length blk lo) % blk : Nat) : Int) = (blk : Int) - (lo : Int) := by
      unfold zerosOf
      rcases hb with ⟨rfl, rfl⟩ | ⟨rfl, rfl⟩ <;> omega
    simp [cmpB, this]
  refine T_region ?_
  refine L_val _ _ (X_move) rfl ?_
  refine L_val _ _ (X_lenS U25 rfl) rfl ?_
  refine L_val _ _ (X_move) rfl ?_
  refine L_val _ _ (X_remN (l.length + 1 + zerosOf l.length blk lo) blk rfl rfl (by omega)) rfl ?_
  refine L_val _ _ (X_move) rfl ?_
  refine L_val _ _ (X_move) rfl ?_
  refine L_val _ _ (X_sub rfl rfl (by omega) (by omega)) rfl ?_
  refine L_val _ _ (X_cmpR false rfl rfl rfl e1) rfl ?_
  refine L_nil ?_
  refine T_false rfl ?_
  refine T_exit rfl ?_
  clear ih
  generalize hzz : zerosOf l.length blk lo = zz at *
  repeat (first | refine T_seq ?_ | refine T_block ?_ | refine T_inBlock ?_ | refine T_skip ?_)
  refine T_region ?_
  refine L_val _ _ (X_move) rfl ?_
  refine L_val _ _ (X_lenS U25 rfl) rfl ?_
  refine L_val _ _ (X_convInt U3 U91 rfl) rfl ?_
  refine L_val _ _ (X_ar rfl rfl rfl) rfl ?_
  refine L_val _ _ (X_assign) rfl ?_
  refine L_nil ?_
  repeat (first | refine T_seq ?_ | refine T_block ?_ | refine T_inBlock ?_ | refine T_skip ?_)
  refine T_region ?_
  refine L_val _ _ (X_move) rfl ?_
  refine L_make (l := lo) (c := lo) Tryd.underlying25 I5 rfl rfl (Nat.le_refl _) (by omega) (by simp only [maxLen]; omega) rfl fun w5 h5 => ?_
  refine L_val _ _ (X_assign) rfl ?_
  refine L_nil ?_
  have bz5 : Below z.heap.size z w5 := h5.below (Below.refl _ _) (Nat.le_refl _)
  have o5 := own_below oz bz5
  have b5 : Below w.heap.size w w5 := bz.trans (bz5.mono sz)
  have k5 : Blk w5 z.heap.size (iv .u8 (cntAt lo little (bitsOf l.length) 0)).toArray 5 := by
    have e : (iv .u8 (cntAt lo little (bitsOf l.length) 0)).toArray = madeCells (Value.cells (.int .u8 0)) (lo * 1) := by
      rcases hb with ⟨rfl, rfl⟩ | ⟨rfl, rfl⟩ <;> kernel_rfl
    rw [e]; exact h5.new
  have hoz : ∀ bb, (Value.slice a' (l.length + 1 + zz) c').ownBlock = some bb → bb < z.heap.size := fun bb hbb => (oz.lt bb hbb).2
  have hG := h5.lt
  clear h5 bz5
  repeat (first | refine T_seq ?_ | refine T_block ?_ | refine T_inBlock ?_ | refine T_skip ?_)
  refine T_region ?_
  refine L_val _ _ (X_assign) rfl ?_
  refine L_nil ?_
  repeat (first | refine T_seq ?_ | refine T_block ?_ | refine T_inBlock ?_ | refine T_skip ?_)
  refine T_loopS [12, 9, 10, 11, 2, 3] (fun m vs y => ∃ i : Nat, vs = [.int .i64 i, .slice a' (l.length + 1 + zz) c', .int .u64 (bitsOf l.length), .slice (some ⟨z.heap.size, 0, none⟩) lo lo, .int .i64 (lo : Int), .bool little] ∧ i ≤ 8 ∧ m = 8 - i ∧ Blk y z.heap.size (iv .u8 (cntAt lo little (bitsOf l.length) i)).toArray 5 ∧ y.ownsRow w.heap.size 5 1 (.slice a' (l.length + 1 + zz) c') (l.length + 1 + zz) (iv .u8 (l ++ [128] ++ List.replicate zz 0)) ∧ Below w.heap.size w y) 8
    ⟨0, rfl, by omega, rfl, k5, o5, b5⟩ ?_
  clear k5 o5 b5
  rintro m vs ρ2 y ⟨i, rfl, hi, rfl, ky, oy, by_⟩ ih
  have hcl := cntAt_len lo little (bitsOf l.length) i
  repeat (first | refine T_seq ?_ | refine T_block ?_ | refine T_inBlock ?_ | refine T_skip ?_)
  rcases Nat.lt_or_ge i 8 with hlt8 | hge8
  · have e2 : cmpB .lss (i : Int) 8 = true := by simp [cmpB]; omega
    refine T_region ?_
    refine L_val _ _ (X_move) rfl ?_
    refine L_val _ _ (X_cmpR true rfl rfl rfl e2) rfl ?_
    refine L_nil ?_
    refine T_true rfl ?_
    repeat (first | refine T_seq ?_ | refine T_block ?_ | refine T_inBlock ?_ | refine T_skip ?_)
    refine T_region ?_
    refine L_val _ _ (X_move) rfl ?_
    refine L_nil ?_
    cases little with
    | true =>
      refine T_true rfl ?_
      refine T_region ?_
      refine L_val _ _ (X_move) rfl ?_
      refine L_val _ _ (X_move) rfl ?_
      refine L_val _ _ (X_move) rfl ?_
      refine L_val _ _ (X_move) rfl ?_
      refine L_val _ _ (X_mul rfl rfl (by omega) (by omega)) rfl ?_
      refine L_val _ _ (X_shr rfl rfl (by omega)) rfl ?_
      refine L_val _ _ (X_convInt U91 U5 rfl) rfl ?_
      refine L_val _ _ (X_index U25 S5 rfl rfl (show i < lo by omega)) rfl ?_
      refine L_store (.int .u8 (cb (bitsOf l.length) i)) S5 rfl rfl rfl ky (by simp [iv_len, hcl]; omega) fun y1 h1 => ?_
      refine L_nil ?_
      have k1 := iset h1
      rw [show 0 + i * 1 = i by omega] at k1
      have oy1 := chg_owns h1 oy (fun hv => by have := hoz _ hv; omega)
      repeat (first | refine T_seq ?_ | refine T_block ?_ | refine T_inBlock ?_ | refine T_skip ?_)
      refine T_region ?_
      refine L_val _ _ (X_move) rfl ?_
      refine L_val _ _ (X_add rfl rfl (by omega) (by omega)) rfl ?_
      refine L_val _ _ (X_assign) rfl ?_
      refine L_nil ?_
      exact ih _ _ _ (by omega) ⟨i + 1, rfl, by omega, rfl, k1, oy1, h1.below by_ sz⟩
    | false =>
      refine T_false rfl ?_
      have e3 : (lo : Int) - 1 - (i : Int) = ((lo - 1 - i : Nat) : Int) := by omega
      refine T_region ?_
      refine L_val _ _ (X_move) rfl ?_
      refine L_val _ _ (X_move) rfl ?_
      refine L_val _ _ (X_sub rfl rfl (by omega) (by omega)) rfl ?_
      refine L_val _ _ (X_move) rfl ?_
      refine L_val _ _ (X_sub rfl rfl (by omega) (by omega)) rfl ?_
      refine L_val _ _ (X_move) rfl ?_
      refine L_val _ _ (X_move) rfl ?_
      refine L_val _ _ (X_mul rfl rfl (by omega) (by omega)) rfl ?_
      refine L_val _ _ (X_shr rfl rfl (by omega)) rfl ?_
      refine L_val _ _ (X_convInt U91 U5 rfl) rfl ?_
      refine L_val _ _ (X_index (j := lo - 1 - i) U25 S5 rfl (by exact congrArg (Value.int .i64) e3) (by omega)) rfl ?_
      refine L_store (.int .u8 (cb (bitsOf l.length) i)) S5 rfl rfl rfl ky (by simp [iv_len, hcl]; omega) fun y1 h1 => ?_
      refine L_nil ?_
      have k1 := iset h1
      rw [show 0 + (lo - 1 - i) * 1 = lo - 1 - i by omega] at k1
      have oy1 := chg_owns h1 oy (fun hv => by have := hoz _ hv; omega)
      repeat (first | refine T_seq ?_ | refine T_block ?_ | refine T_inBlock ?_ | refine T_skip ?_)
      refine T_region ?_
      refine L_val _ _ (X_move) rfl ?_
      refine L_val _ _ (X_add rfl rfl (by omega) (by omega)) rfl ?_
      refine L_val _ _ (X_assign) rfl ?_
      refine L_nil ?_
      exact ih _ _ _ (by omega) ⟨i + 1, rfl, by omega, rfl, k1, oy1, h1.below by_ sz⟩
  obtain rfl : i = 8 := by omega
  refine T_region ?_
  refine L_val _ _ (X_move) rfl ?_
  refine L_val _ _ (X_cmpR false rfl rfl rfl (by decide)) rfl ?_
  refine L_nil ?_
  refine T_false rfl ?_
  refine T_exit rfl ?_
  have sy := by_.size
  have hsrc := ints_src (ints_blk ky)
  repeat (first | refine T_seq ?_ | refine T_block ?_ | refine T_inBlock ?_ | refine T_skip ?_)
  refine T_region ?_
  refine L_val _ _ (X_move) rfl ?_
  refine L_val _ _ (X_move) rfl ?_
  refine L_append w.heap.size (.slice a' (l.length + 1 + zz) c') (l.length + 1 + zz) (iv .u8 (l ++ [128] ++ List.replicate zz 0)) (some ⟨z.heap.size, 0, none⟩) lo lo (iv .u8 (cntAt lo little (bitsOf l.length) 8)) Tryd.underlying25 I5 rfl (by decide) rfl oy rfl (by rw [iv_len, hcl, Nat.mul_one]) (by simp) hsrc (iv_one _ _) (by simp only [maxLen]; omega) (by omega) sy rfl fun v6 w6 o6 g6 => ?_
  obtain ⟨a6, c6, rfl, -, -⟩ := owns_val o6
  refine L_val _ _ (X_assign) rfl ?_
  refine L_nil ?_
  have hpl : (padN l blk lo little).length = l.length + 1 + zz + lo := by rw [padN_len, hzz]
  refine T_ret1 Tryd.func46 rfl ⟨a6, c6, by rw [hpl]; rfl, ?_, grown_below by_ oy g6 sy (Nat.le_refl _)⟩
  rw [hpl, padN, hzz, iv_app]
  exact o6
end Go.Proofs.Qxb6500863aDoor
