/-
  uint8 as a set of bits.
-/
import Derived.Test.Qxb6500865aWk3
namespace Go.Proofs.Qxb6500865a
set_option linter.unusedSimpArgs false
set_option linter.unusedVariables false

theorem wrap_u8 (n : Int) : IntKind.u8.wrap n = n % 256 := by simp [IntKind.wrap, IntKind.bits, IntKind.signed]
theorem wrap_u64 (n : Int) : IntKind.u64.wrap n = n % 18446744073709551616 := by simp [IntKind.wrap, IntKind.bits, IntKind.signed]
theorem ofInt_nat (m : Nat) : BitVec.ofInt 8 (m : Int) = BitVec.ofNat 8 m := by
  apply BitVec.eq_of_toNat_eq
  simp
/-- m without the bits of k. -/
def andn (m k : Nat) : Nat := m &&& (255 ^^^ k)
theorem bit_or {m k : Nat} (hm : m < 256) (hk : k < 256) : bitB .or .u8 (m : Int) (k : Int) = ((m ||| k : Nat) : Int) := by
  have h : m ||| k < 2 ^ 8 := Nat.or_lt_two_pow hm hk
  show IntKind.u8.wrap ((BitVec.ofInt 8 (m : Int) ||| BitVec.ofInt 8 (k : Int)).toNat : Int) = _
  rw [ofInt_nat, ofInt_nat, wrap_u8, BitVec.toNat_or, BitVec.toNat_ofNat, BitVec.toNat_ofNat, Nat.mod_eq_of_lt hm, Nat.mod_eq_of_lt hk]
  omega
theorem bit_and {m k : Nat} (hm : m < 256) (hk : k < 256) : bitB .and .u8 (m : Int) (k : Int) = ((m &&& k : Nat) : Int) := by
  have h : m &&& k < 2 ^ 8 := Nat.and_lt_two_pow _ hk
  show IntKind.u8.wrap ((BitVec.ofInt 8 (m : Int) &&& BitVec.ofInt 8 (k : Int)).toNat : Int) = _
  rw [ofInt_nat, ofInt_nat, wrap_u8, BitVec.toNat_and, BitVec.toNat_ofNat, BitVec.toNat_ofNat, Nat.mod_eq_of_lt hm, Nat.mod_eq_of_lt hk]
  omega
theorem bit_andn {m k : Nat} (hm : m < 256) (hk : k < 256) : bitB .andNot .u8 (m : Int) (k : Int) = ((andn m k : Nat) : Int) := by
  have e : (BitVec.ofNat 8 m &&& ~~~BitVec.ofNat 8 k).toNat = andn m k := by
    unfold andn
    rw [BitVec.toNat_and, BitVec.toNat_not, BitVec.toNat_ofNat, BitVec.toNat_ofNat, Nat.mod_eq_of_lt hm, Nat.mod_eq_of_lt hk]
    congr 1
    apply Nat.eq_of_testBit_eq
    intro i
    rw [Nat.testBit_xor]
    have : 2 ^ 8 - 1 - k = 2 ^ 8 - (k + 1) := by omega
    rw [this, Nat.testBit_two_pow_sub_succ hk]
    have h255 : (255 : Nat).testBit i = decide (i < 8) := by
      have := Nat.testBit_two_pow_sub_one 8 i
      simpa using this
    rw [h255]
    by_cases hi : i < 8
    · simp [hi]
    · have : k.testBit i = false := Nat.testBit_lt_two_pow (Nat.lt_of_lt_of_le hk (by
        have : 2 ^ 8 ≤ 2 ^ i := Nat.pow_le_pow_right (by decide) (by omega)
        simpa using this))
      simp [hi, this]
  have h : andn m k < 2 ^ 8 := by unfold andn; exact Nat.lt_of_le_of_lt (Nat.and_le_left) hm
  show IntKind.u8.wrap ((BitVec.ofInt 8 (m : Int) &&& ~~~BitVec.ofInt 8 (k : Int)).toNat : Int) = _
  rw [ofInt_nat, ofInt_nat, wrap_u8, e]
  omega
theorem andn_lt {m k : Nat} (hm : m < 256) : andn m k < 256 := Nat.lt_of_le_of_lt (Nat.and_le_left) hm
theorem test_andn {m k i : Nat} (hi : i < 8) : (andn m k).testBit i = (m.testBit i && !k.testBit i) := by
  unfold andn
  have h255 : (255 : Nat).testBit i = decide (i < 8) := by
    have := Nat.testBit_two_pow_sub_one 8 i
    simpa using this
  rw [Nat.testBit_and, Nat.testBit_xor, h255]
  simp [hi]
/-- '1 << uint(k)' as a uint8. -/
theorem one_shl {k : Nat} (hk : k < 8) : IntKind.u8.wrap (1 * 2 ^ (min (IntKind.u64.wrap (k : Int)).toNat IntKind.u8.bits)) = ((2 ^ k : Nat) : Int) := by
  have h1 : (IntKind.u64.wrap (k : Int)).toNat = k := by rw [wrap_u64]; omega
  rw [h1, wrap_u8, show min k IntKind.u8.bits = k from Nat.min_eq_left (by simp [IntKind.bits]; omega)]
  have : (2 : Nat) ^ k < 256 := by
    have : (2 : Nat) ^ k < 2 ^ 8 := Nat.pow_lt_pow_right (by decide) hk
    simpa using this
  have h2 : ((2 ^ k : Nat) : Int) = (2 : Int) ^ k := by simp
  rw [← h2]
  generalize 2 ^ k = q at *
  omega
theorem pow_lt {k : Nat} (hk : k < 8) : 2 ^ k < 256 := by
  have : (2 : Nat) ^ k < 2 ^ 8 := Nat.pow_lt_pow_right (by decide) hk
  simpa using this
theorem or_lt {m k : Nat} (hm : m < 256) (hk : k < 256) : m ||| k < 256 := Nat.or_lt_two_pow (n := 8) hm hk
theorem and_pow_zero {m i : Nat} : (m &&& 2 ^ i = 0) ↔ m.testBit i = false := by
  constructor
  · intro h
    have := congrArg (fun x => Nat.testBit x i) h
    simpa [Nat.testBit_and, Nat.testBit_two_pow] using this
  · intro h
    apply Nat.eq_of_testBit_eq
    intro j
    rw [Nat.testBit_and, Nat.testBit_two_pow]
    by_cases hij : i = j
    · subst hij; simp [h]
    · simp [hij]
theorem zero_of_bits {m : Nat} (hm : m < 256) (h : ∀ i, i < 8 → m.testBit i = false) : m = 0 := by
  apply Nat.eq_of_testBit_eq
  intro i
  by_cases hi : i < 8
  · simp [h i hi]
  · rw [Nat.testBit_lt_two_pow (Nat.lt_of_lt_of_le hm (by
        have : 2 ^ 8 ≤ 2 ^ i := Nat.pow_le_pow_right (by decide) (by omega)
        simpa using this))]
    simp
theorem bit_of_pos {m : Nat} (hm : m < 256) (h : m ≠ 0) : ∃ i, i < 8 ∧ m.testBit i = true := by
  apply Classical.byContradiction
  intro hc
  apply h
  apply zero_of_bits hm
  intro i hi
  cases hb : m.testBit i with
  | false => rfl
  | true => exact absurd ⟨i, hi, hb⟩ hc

theorem eq0_no {x : Nat} (h : x ≠ 0) : cmpB .eql (x : Int) 0 = false := by simp [cmpB]; omega
theorem eq0_yes {x : Nat} (h : x = 0) : cmpB .eql (x : Int) 0 = true := by simp [cmpB]; omega
theorem ne0_no {x : Nat} (h : x = 0) : cmpB .neq (x : Int) 0 = false := by simp [cmpB]; omega
theorem ne0_yes {x : Nat} (h : x ≠ 0) : cmpB .neq (x : Int) 0 = true := by simp [cmpB]; omega
theorem and_pow_ne {m i : Nat} (h : m.testBit i = true) : m &&& 2 ^ i ≠ 0 := fun e => by rw [and_pow_zero, h] at e; cases e

section
variable {P : Program} {ρ : Env} {w : World} {dst : Option Tmp} {gd : Option (Nat × Bool)} {ty : TypeId} {pos : String} {after : Array Edge}
theorem X_shl1 {t t' : TypeId} {x y : Operand} {k : Nat} (hx : ev ρ x = .int .u8 1) (hy : ev ρ y = .int .u64 (IntKind.u64.wrap (k : Int))) (hk : k < 8) :
    (execOp (ev ρ) ⟨dst, .binOp .shl t x y t', ty, pos, after, gd⟩).run P w = .ok (.value (.int .u8 ((2 ^ k : Nat) : Int))) w := by
  rw [X_shl hx hy (by rw [wrap_u64]; omega), one_shl hk]
theorem X_or8 {t t' : TypeId} {x y : Operand} {m k : Nat} (hx : ev ρ x = .int .u8 (m : Int)) (hy : ev ρ y = .int .u8 (k : Int)) (hm : m < 256) (hk : k < 256) :
    (execOp (ev ρ) ⟨dst, .binOp .or t x y t', ty, pos, after, gd⟩).run P w = .ok (.value (.int .u8 ((m ||| k : Nat) : Int))) w := by
  rw [X_bit rfl hx hy, bit_or hm hk]
theorem X_and8 {t t' : TypeId} {x y : Operand} {m k : Nat} (hx : ev ρ x = .int .u8 (m : Int)) (hy : ev ρ y = .int .u8 (k : Int)) (hm : m < 256) (hk : k < 256) :
    (execOp (ev ρ) ⟨dst, .binOp .and t x y t', ty, pos, after, gd⟩).run P w = .ok (.value (.int .u8 ((m &&& k : Nat) : Int))) w := by
  rw [X_bit rfl hx hy, bit_and hm hk]
theorem X_andn8 {t t' : TypeId} {x y : Operand} {m k : Nat} (hx : ev ρ x = .int .u8 (m : Int)) (hy : ev ρ y = .int .u8 (k : Int)) (hm : m < 256) (hk : k < 256) :
    (execOp (ev ρ) ⟨dst, .binOp .andNot t x y t', ty, pos, after, gd⟩).run P w = .ok (.value (.int .u8 ((andn m k : Nat) : Int))) w := by
  rw [X_bit rfl hx hy, bit_andn hm hk]
end
end Go.Proofs.Qxb6500865a
