/-
  Text and Parse, walked.
-/
import Derived.Test.Qxb6500866aDoorT1
namespace Go.Proofs.Qxb6500866aDoor
set_option linter.unusedSimpArgs false
set_option linter.unusedVariables false
open Go.RowKit

def digl : List Int := [48, 49, 50, 51, 52, 53, 54, 55, 56, 57, 97, 98, 99, 100, 101, 102]
theorem digl_byt : Byt digl := by
  intro b hb
  simp only [digl, List.mem_cons, List.not_mem_nil, or_false] at hb
  omega
theorem digl_get {k : Nat} (h : k < 16) : digl[k]? = some (hexd k) := by
  have t : ((List.range 16).all fun k => digl[k]? == some (hexd (k : Nat))) = true := by kernel_rfl
  have := List.all_eq_true.1 t k (List.mem_range.2 h)
  simpa using this
theorem X_shr4 {P : Program} {ρ : Env} {w : World} {dst : Option Tmp} {gd : Option (Nat × Bool)} {ty : TypeId} {pos : String} {after : Array Edge} {t t' : TypeId} {x y : Operand} (n : Nat) (hx : ev ρ x = .int .u8 (n : Int)) (hy : ev ρ y = .int .u64 4) :
    (execOp (ev ρ) ⟨dst, .binOp .shr t x y t', ty, pos, after, gd⟩).run P w = .ok (.value (.int .u8 ((n / 16 : Nat) : Int))) w := by
  rw [X_shr hx hy (by decide)]
  have e : (n : Int).fdiv (2 ^ (min (4 : Int).toNat IntKind.u8.bits)) = ((n / 16 : Nat) : Int) := by
    have : (2 : Int) ^ (min (4 : Int).toNat IntKind.u8.bits) = 16 := by decide
    rw [this, Int.fdiv_eq_ediv_of_nonneg _ (by decide)]
    omega
  rw [e]
theorem X_and15b {P : Program} {ρ : Env} {w : World} {dst : Option Tmp} {gd : Option (Nat × Bool)} {ty : TypeId} {pos : String} {after : Array Edge} {t t' : TypeId} {x y : Operand} (n : Nat) (hn : n < 256) (hx : ev ρ x = .int .u8 (n : Int)) (hy : ev ρ y = .int .u8 15) :
    (execOp (ev ρ) ⟨dst, .binOp .and t x y t', ty, pos, after, gd⟩).run P w = .ok (.value (.int .u8 ((n % 16 : Nat) : Int))) w := by
  rw [X_bit rfl hx hy, andNib (by omega) (by omega)]
  rfl
theorem X_orN {P : Program} {ρ : Env} {w : World} {dst : Option Tmp} {gd : Option (Nat × Bool)} {ty : TypeId} {pos : String} {after : Array Edge} {t t' : TypeId} {x y : Operand} (a b : Int) (h0 : 0 ≤ a) (h1 : a < 16) (h2 : 0 ≤ b) (h3 : b < 16) (hx : ev ρ x = .int .u8 (IntKind.u8.wrap (a * 2 ^ (min (4 : Int).toNat IntKind.u8.bits)))) (hy : ev ρ y = .int .u8 b) :
    (execOp (ev ρ) ⟨dst, .binOp .or t x y t', ty, pos, after, gd⟩).run P w = .ok (.value (.int .u8 (16 * a + b))) w := by
  rw [X_bit rfl hx hy, orNib h0 h1 h2 h3]
theorem textOf_snoc (bs : List Int) (b : Int) : textOf (bs ++ [b]) = textOf bs ++ [hexd (b / 16), hexd (b % 16)] := by simp [textOf]
theorem u8_at {A zs : List Int} {z : Int} {w : World} {b : Nat} {t : TypeId} {w1 : World} {n : Nat} {x : Int} (hA : A.length = n) (h : Chg w w1 b (.cells ((u8s (A ++ z :: zs)).toArray.setIfInBounds (0 + n * 1) (.int .u8 x)) t (0, 0))) : Blk w1 b (u8s (A ++ x :: zs)).toArray t := by
  have := u8set h
  rw [List.set_append_right _ _ (by omega), show n - A.length = 0 by omega] at this
  exact this

set_option maxHeartbeats 4000000 in
/-- Text -/
theorem text_ret (bs : List Int) (hl : bs.length = 32) (hb : Byt bs) (w : World) :
    Ret Tryd.prog 7 #[.agg (u8s bs).toArray] w fun v w' => v = .string (strOfNums (textOf bs)) ∧ Below w.heap.size w w' := by
  refine ret_of_T (vs := [.agg (u8s bs).toArray]) Tryd.func7 Tryd.ntmps7 rfl (Nat.le_of_ble_eq_true rfl) ?_
  repeat (first | refine T_seq ?_ | refine T_block ?_ | refine T_inBlock ?_ | refine T_skip ?_)
  refine T_region ?_
  refine L_box rfl fun w1 h1 => ?_
  refine L_val _ _ (X_assign) rfl ?_
  refine L_nil ?_
  have k1 : Blk w1 w.heap.size (u8s bs).toArray 31 := h1.new
  have b1 : Below w.heap.size w w1 := h1.below (Below.refl _ _) (Nat.le_refl _)
  have sz1 := h1.size
  have z1 := h1.lt
  repeat (first | refine T_seq ?_ | refine T_block ?_ | refine T_inBlock ?_ | refine T_skip ?_)
  refine T_region ?_
  refine L_alloc Z41 rfl fun w2 h2 => ?_
  refine L_nil ?_
  have k3 : Blk w2 w1.heap.size (u8s (textOf (bs.take 0) ++ List.replicate 64 0)).toArray 41 := h2.new
  have k12 := h2.blk k1 (by omega)
  have b2 := h2.below b1 sz1
  repeat (first | refine T_seq ?_ | refine T_block ?_ | refine T_inBlock ?_ | refine T_skip ?_)
  refine T_region ?_
  refine L_val _ _ (X_loadAgg (u8s bs) A31 S31 (by rw [u8s_len]; exact hl) rfl (gblk0 k12)) rfl ?_
  refine L_val _ _ (X_move) rfl ?_
  refine L_nil ?_
  repeat (first | refine T_seq ?_ | refine T_block ?_ | refine T_inBlock ?_ | refine T_skip ?_)
  refine T_loopS [7, 6, 3] (fun m vs y => ∃ (i : Nat) (zs : List Int), vs = [.int .i64 i, .agg (u8s bs).toArray, .pointer (some ⟨w1.heap.size, 0, none⟩)] ∧ i ≤ 32 ∧ m = 32 - i ∧ zs.length = 64 - 2 * i ∧ Below w.heap.size w y ∧ Blk y w1.heap.size (u8s (textOf (bs.take i) ++ zs)).toArray 41) 32
    ⟨0, _, rfl, by omega, rfl, by simp, b2, k3⟩ ?_
  clear k3 k12 b2 k1 b1 h1 h2
  rintro m vs ρ y ⟨i, zs, rfl, hi, rfl, hz, by_, k3⟩ ih
  repeat (first | refine T_seq ?_ | refine T_block ?_ | refine T_inBlock ?_ | refine T_skip ?_)
  refine T_region ?_
  refine L_val _ _ (X_cmp rfl rfl rfl) rfl ?_
  refine L_nil ?_
  repeat (first | refine T_seq ?_ | refine T_block ?_ | refine T_inBlock ?_ | refine T_skip ?_)
  refine T_if rfl (fun ht => ?_) (fun hf => ?_)
  case refine_2 =>
    have hge : ¬ i < 32 := by simp [cmpB] at hf; omega
    obtain rfl : i = 32 := by omega
    obtain rfl : zs = [] := List.eq_nil_of_length_eq_zero (by omega)
    rw [List.append_nil, List.take_of_length_le (by omega)] at k3
    have hc : ∀ a, some (⟨w1.heap.size, 0, none⟩ : Addr) = some a → ∃ b o, a = ⟨b, o, none⟩ ∧ ∀ j, j < 64 → y.cell? ⟨b, o + j, none⟩ = some (.int .u8 ((textOf bs).getD j 0)) := by
      intro a ha
      obtain rfl := Option.some.inj ha
      refine ⟨_, _, rfl, fun j hj => ?_⟩
      rw [Nat.zero_add]
      have hj2 : j < (textOf bs).length := by rw [textOf_length]; omega
      exact gblk k3 j (by simp [u8s, List.getElem?_eq_getElem hj2, List.getD_eq_getElem?_getD])
    refine T_exit rfl ?_
    repeat (first | refine T_seq ?_ | refine T_block ?_ | refine T_inBlock ?_ | refine T_skip ?_)
    refine T_region ?_
    refine L_val _ _ (X_sliceA U41 S5 rfl (by decide)) rfl ?_
    refine L_val _ _ (X_toStr (some ⟨w1.heap.size, 0, none⟩) 64 64 (textOf bs) Tryd.underlying25 Tryd.underlying5 Tryd.underlying9 rfl (by rw [textOf_length]; omega) hc (fun h => by cases h)) rfl ?_
    refine L_val _ _ (X_assign) rfl ?_
    refine L_nil ?_
    exact T_ret1 Tryd.func7 rfl ⟨rfl, by_⟩
  have hlt : i < 32 := by simp [cmpB] at ht; omega
  have hib : i < bs.length := by omega
  obtain ⟨n, hn, hn2⟩ : ∃ n : Nat, bs[i] = n ∧ n < 256 := by
    have := hb bs[i] (by simp)
    exact ⟨bs[i].toNat, by omega, by omega⟩
  have hv : (u8s bs).toArray[i]? = some (.int .u8 (n : Nat)) := by simp [u8s, hib, hn]
  have htk : textOf (bs.take (i + 1)) = textOf (bs.take i) ++ [hexd ((n / 16 : Nat) : Int), hexd ((n % 16 : Nat) : Int)] := by
    rw [List.take_succ_eq_append_getElem hib, textOf_snoc, hn]
    rfl
  have hlen : (textOf (bs.take i)).length = 2 * i := by rw [textOf_length, List.length_take]; omega
  obtain ⟨c0, c1, zs', rfl⟩ : ∃ c0 c1 zs', zs = c0 :: c1 :: zs' := by
    match zs, hz with
    | c0 :: c1 :: zs', _ => exact ⟨c0, c1, zs', rfl⟩
    | [c0], h => simp at h; omega
    | [], h => simp at h; omega
  have hlz : (u8s (textOf (bs.take i) ++ c0 :: c1 :: zs')).toArray.size = 64 := by simp [u8s, hlen] at hz ⊢; omega
  repeat (first | refine T_seq ?_ | refine T_block ?_ | refine T_inBlock ?_ | refine T_skip ?_)
  refine T_region ?_
  refine L_val _ _ (X_move) rfl ?_
  refine L_val _ _ (X_idx U31 S5 A5 rfl rfl hlt hv) rfl ?_
  refine L_val _ _ (X_assign) rfl ?_
  refine L_val _ _ (X_assign) rfl ?_
  refine L_nil ?_
  repeat (first | refine T_seq ?_ | refine T_block ?_ | refine T_inBlock ?_ | refine T_skip ?_)
  refine T_region ?_
  refine L_val _ _ (X_move) rfl ?_
  refine L_val _ _ (X_mul rfl rfl (by omega) (by omega)) rfl ?_
  refine L_val _ _ (X_move) rfl ?_
  refine L_val _ _ (X_shr4 n rfl rfl) rfl ?_
  refine L_val _ _ (X_idxStr digl (n / 16) _ digl_byt Tryd.underlying9 rfl rfl (digl_get (by omega))) rfl ?_
  refine L_val _ _ (X_indexA U41 S5 rfl rfl (show 2 * i < 64 by omega)) rfl ?_
  refine L_store (.int .u8 (hexd ((n / 16 : Nat) : Int))) S5 rfl rfl rfl k3 (by rw [hlz]; show 0 + 2 * i * 1 < 64; omega) fun y1 g1 => ?_
  refine L_nil ?_
  have k31 := u8_at (n := 2 * i) hlen g1
  have b1 := g1.below by_ sz1
  have e1 : textOf (bs.take i) ++ hexd ((n / 16 : Nat) : Int) :: c1 :: zs' = (textOf (bs.take i) ++ [hexd ((n / 16 : Nat) : Int)]) ++ c1 :: zs' := by simp
  rw [e1] at k31
  have hl31 : (u8s ((textOf (bs.take i) ++ [hexd ((n / 16 : Nat) : Int)]) ++ c1 :: zs')).toArray.size = 64 := by rw [← e1]; simp [u8s, hlen] at hz ⊢; omega
  refine T_region ?_
  refine L_val _ _ (X_move) rfl ?_
  refine L_val _ _ (X_mul rfl rfl (by omega) (by omega)) rfl ?_
  refine L_val _ _ (X_add rfl rfl (by omega) (by omega)) rfl ?_
  refine L_val _ _ (X_move) rfl ?_
  refine L_val _ _ (X_and15b n hn2 rfl rfl) rfl ?_
  refine L_val _ _ (X_idxStr digl (n % 16) _ digl_byt Tryd.underlying9 rfl rfl (digl_get (by omega))) rfl ?_
  refine L_val _ _ (X_indexA U41 S5 rfl rfl (show 2 * i + 1 < 64 by omega)) rfl ?_
  refine L_store (.int .u8 (hexd ((n % 16 : Nat) : Int))) S5 rfl rfl rfl k31 (by rw [hl31]; show 0 + (2 * i + 1) * 1 < 64; omega) fun y2 g2 => ?_
  refine L_nil ?_
  have k32 := u8_at (n := 2 * i + 1) (by simp [hlen]) g2
  repeat (first | refine T_seq ?_ | refine T_block ?_ | refine T_inBlock ?_ | refine T_skip ?_)
  refine T_region ?_
  refine L_val _ _ (X_add rfl rfl (by omega) (by omega)) rfl ?_
  refine L_val _ _ (X_move) rfl ?_
  refine L_nil ?_
  refine ih _ _ _ (by omega) ⟨i + 1, zs', rfl, by omega, rfl, by simp at hz; omega, g2.below b1 sz1, ?_⟩
  rw [htk]
  have e2 : textOf (bs.take i) ++ [hexd ((n / 16 : Nat) : Int), hexd ((n % 16 : Nat) : Int)] ++ zs' = textOf (bs.take i) ++ [hexd ((n / 16 : Nat) : Int)] ++ hexd ((n % 16 : Nat) : Int) :: zs' := by simp
  rw [e2]
  exact k32
end Go.Proofs.Qxb6500866aDoor
