/-
  Text and Parse.
-/
import Derived.Test.Qxb6500866aDoorH4
import Derived.Laws.BytesArg
import Derived.Laws.Strings
namespace Go.Proofs.Qxb6500866aDoor
set_option linter.unusedSimpArgs false
set_option linter.unusedVariables false
open Go.RowKit

def hexd (k : Int) : Int := if k < 10 then 48 + k else 87 + k
def nib (c : Int) : Option Int := if 48 ≤ c ∧ c ≤ 57 then some (c - 48) else if 97 ≤ c ∧ c ≤ 102 then some (c - 87) else none
theorem nib_hexd {k : Int} (h0 : 0 ≤ k) (h1 : k < 16) : nib (hexd k) = some k := by
  unfold nib hexd
  split
  · rw [if_pos (by omega)]; congr 1; omega
  · rw [if_neg (by omega), if_pos (by omega)]; congr 1; omega
theorem hexd_nib {c k : Int} (h : nib c = some k) : c = hexd k ∧ 0 ≤ k ∧ k < 16 := by
  unfold nib at h
  unfold hexd
  split at h
  · cases h
    split <;> omega
  · split at h
    · cases h
      split <;> omega
    · cases h
def textOf (bs : List Int) : List Int := bs.flatMap fun b => [hexd (b / 16), hexd (b % 16)]
theorem textOf_length : ∀ bs : List Int, (textOf bs).length = 2 * bs.length
  | [] => rfl
  | b :: bs => by
    have := textOf_length bs
    simp only [textOf, List.flatMap_cons, List.length_append, List.length_cons, List.length_nil] at *
    omega
theorem textOf_get : ∀ (bs : List Int) (i : Nat) (b : Int), bs[i]? = some b → (textOf bs)[2 * i]? = some (hexd (b / 16)) ∧ (textOf bs)[2 * i + 1]? = some (hexd (b % 16))
  | [], i, b, h => by simp at h
  | x :: bs, 0, b, h => by
    simp at h
    subst h
    exact ⟨rfl, rfl⟩
  | x :: bs, i + 1, b, h => by
    have := textOf_get bs i b (by simpa using h)
    have e1 : 2 * (i + 1) = 2 * i + 1 + 1 := by omega
    rw [e1]
    exact this
theorem hexd_byte {k : Int} (h0 : 0 ≤ k) (h1 : k < 16) : 0 ≤ hexd k ∧ hexd k < 256 := by unfold hexd; split <;> omega

theorem strget {xs : List Int} (hb : Byt xs) {j : Nat} (hj : j < xs.length) (h2 : j < (strOfNums xs).size) : (((strOfNums xs)[j]).toNat : Int) = xs[j] := by
  have e : (strOfNums xs)[j] = UInt8.ofNat (xs[j]).toNat := by
    show (strOfNums xs).data[j] = _
    simp [strOfNums]
  have hx := hb xs[j] (by simp)
  rw [e]
  simp
  omega
theorem X_idxStr {P : Program} {ρ : Env} {w : World} {dst : Option Tmp} {gd : Option (Nat × Bool)} {ty : TypeId} {pos : String} {after : Array Edge} {t : TypeId} {x y : Operand} {q : IntKind} (xs : List Int) (j : Nat) (v : Int) (hb : Byt xs) (ht : P.underlying t = some .string) (hx : ev ρ x = .string (strOfNums xs)) (hy : ev ρ y = .int q (j : Int)) (hj : xs[j]? = some v) :
    (execOp (ev ρ) ⟨dst, .index t x y, ty, pos, after, gd⟩).run P w = .ok (.value (.int .u8 v)) w := by
  obtain ⟨h1, h2⟩ := List.getElem?_eq_some_iff.1 hj
  have hs : j < (strOfNums xs).size := by rw [strOfNums_size]; exact h1
  have hr := run_index_string (P := P) w t (strOfNums xs) q j ht
  rw [dif_pos ⟨by omega, by omega⟩] at hr
  have e : (((strOfNums xs)[(j : Int).toNat]'(by simpa using hs)).toNat : Int) = v := by
    have := strget hb h1 hs
    simp only [Int.toNat_natCast]
    rw [this, h2]
  simp only [execOp, hx, hy, Sem.run_bind, hr, Result.andThen_ok, e]
  rfl
theorem X_toStr {P : Program} {ρ : Env} {w : World} {dst : Option Tmp} {gd : Option (Nat × Bool)} {ty : TypeId} {pos : String} {after : Array Edge} {s t e : TypeId} {x : Operand} (ap : Option Addr) (l c : Nat) (xs : List Int) (hs : P.underlying s = some (.slice e)) (he : P.underlying e = some (.int .u8)) (ht : P.underlying t = some .string) (hx : ev ρ x = .slice ap l c) (hl : xs.length = l)
    (hc : ∀ a, ap = some a → ∃ b o, a = ⟨b, o, none⟩ ∧ ∀ i, i < l → w.cell? ⟨b, o + i, none⟩ = some (.int .u8 (xs.getD i 0))) (hn : ap = none → xs = []) :
    (execOp (ev ρ) ⟨dst, .convert s t x, ty, pos, after, gd⟩).run P w = .ok (.value (.string (strOfNums xs))) w := by
  cases ap with
  | none =>
    obtain rfl := hn rfl
    have := run_convert_bytes_nil (P := P) w s e hs he l c t ht
    simp only [execOp, hx, Sem.run_bind, this, Result.andThen_ok]
    rfl
  | some a =>
    obtain ⟨b, o, rfl, hcc⟩ := hc a rfl
    have := run_convert_bytes_arg (P := P) w s e hs he b o l c xs hl hcc t ht
    simp only [execOp, hx, Sem.run_bind, this, Result.andThen_ok]
    rfl
theorem orTab : ((List.range 16).all fun a => (List.range 16).all fun b => bitB .or .u8 (IntKind.u8.wrap ((a : Int) * 2 ^ (min (4 : Int).toNat IntKind.u8.bits))) (b : Int) == ((16 * a + b : Nat) : Int)) = true := by kernel_rfl
theorem orNib {a b : Int} (h0 : 0 ≤ a) (h1 : a < 16) (h2 : 0 ≤ b) (h3 : b < 16) : bitB .or .u8 (IntKind.u8.wrap (a * 2 ^ (min (4 : Int).toNat IntKind.u8.bits))) b = 16 * a + b := by
  obtain ⟨a', rfl⟩ : ∃ a' : Nat, a = a' := ⟨a.toNat, by omega⟩
  obtain ⟨b', rfl⟩ : ∃ b' : Nat, b = b' := ⟨b.toNat, by omega⟩
  have := List.all_eq_true.1 (List.all_eq_true.1 orTab a' (List.mem_range.2 (by omega))) b' (List.mem_range.2 (by omega))
  rw [beq_iff_eq] at this
  rw [this]
  omega
theorem andTab : ((List.range 256).all fun a => bitB .and .u8 (a : Int) 15 == ((a % 16 : Nat) : Int)) = true := by kernel_rfl
theorem andNib {a : Int} (h0 : 0 ≤ a) (h1 : a < 256) : bitB .and .u8 a 15 = a % 16 := by
  obtain ⟨a', rfl⟩ : ∃ a' : Nat, a = a' := ⟨a.toNat, by omega⟩
  have := List.all_eq_true.1 andTab a' (List.mem_range.2 (by omega))
  rw [beq_iff_eq] at this
  rw [this]
  omega

set_option maxHeartbeats 4000000 in
/-- nibble -/
theorem nibble_ret (c : Int) (h0 : 0 ≤ c) (h1 : c < 256) (w : World) : Ret Tryd.prog 12 #[.int .u8 c] w fun v w' => v = .tuple #[.int .u8 ((nib c).getD 0), .bool (nib c).isSome] ∧ w = w' := by
  refine ret_of_T (vs := [.int .u8 c]) Tryd.func12 Tryd.ntmps12 rfl (Nat.le_of_ble_eq_true rfl) ?_
  repeat (first | refine T_seq ?_ | refine T_block ?_ | refine T_inBlock ?_ | refine T_skip ?_)
  refine T_region ?_
  refine L_val _ _ (X_assign) rfl ?_
  refine L_val _ _ (X_assign) rfl ?_
  refine L_nil ?_
  repeat (first | refine T_seq ?_ | refine T_block ?_ | refine T_inBlock ?_ | refine T_skip ?_)
  by_cases hd : 48 ≤ c ∧ c ≤ 57
  · have e1 : cmpB .leq 48 c = true := by simp [cmpB]; omega
    have e2 : cmpB .leq c 57 = true := by simp [cmpB]; omega
    have hn : nib c = some (c - 48) := by simp [nib, hd]
    have hw : IntKind.u8.wrap (arB .sub c 48) = c - 48 := by rw [IntKind.wrap_u8]; simp only [arB]; omega
    refine T_region ?_
    refine L_val _ _ (X_move) rfl ?_
    refine L_val _ _ (X_cmpR true rfl rfl rfl e1) rfl ?_
    refine L_val _ _ (X_move) rfl ?_
    refine L_guard rfl rfl rfl ?_
    refine L_val _ _ (X_move) rfl ?_
    refine L_guard rfl rfl rfl ?_
    refine L_val _ _ (X_cmpR true rfl rfl rfl e2) rfl ?_
    refine L_val _ _ (X_pick rfl) rfl ?_
    refine L_val _ _ (X_assign) rfl ?_
    refine L_nil ?_
    refine T_true rfl ?_
    repeat (first | refine T_seq ?_ | refine T_block ?_ | refine T_inBlock ?_ | refine T_skip ?_)
    refine T_region ?_
    refine L_val _ _ (X_move) rfl ?_
    refine L_val _ _ (X_ar rfl rfl rfl) rfl ?_
    refine L_val _ _ (X_assign) rfl ?_
    refine L_val _ _ (X_assign) rfl ?_
    refine L_nil ?_
    refine T_ret2 Tryd.func12 rfl ⟨?_, rfl⟩
    rw [hn]
    show Value.tuple #[.int .u8 (IntKind.u8.wrap (arB .sub c 48)), .bool true] = _
    rw [hw]
    rfl
  by_cases hd2 : 97 ≤ c ∧ c ≤ 102
  · have e1 : cmpB .leq 48 c = true := by simp [cmpB]; omega
    have e2 : cmpB .leq c 57 = false := by simp [cmpB]; omega
    have e3 : cmpB .leq 97 c = true := by simp [cmpB]; omega
    have e4 : cmpB .leq c 102 = true := by simp [cmpB]; omega
    have hn : nib c = some (c - 87) := by simp [nib, hd, hd2]
    have hw : IntKind.u8.wrap (arB .add (IntKind.u8.wrap (arB .sub c 97)) 10) = c - 87 := by rw [IntKind.wrap_u8, IntKind.wrap_u8]; simp only [arB]; omega
    refine T_region ?_
    refine L_val _ _ (X_move) rfl ?_
    refine L_val _ _ (X_cmpR true rfl rfl rfl e1) rfl ?_
    refine L_val _ _ (X_move) rfl ?_
    refine L_guard rfl rfl rfl ?_
    refine L_val _ _ (X_move) rfl ?_
    refine L_guard rfl rfl rfl ?_
    refine L_val _ _ (X_cmpR false rfl rfl rfl e2) rfl ?_
    refine L_val _ _ (X_pick rfl) rfl ?_
    refine L_val _ _ (X_assign) rfl ?_
    refine L_nil ?_
    refine T_false rfl ?_
    repeat (first | refine T_seq ?_ | refine T_block ?_ | refine T_inBlock ?_ | refine T_skip ?_)
    refine T_region ?_
    refine L_val _ _ (X_move) rfl ?_
    refine L_val _ _ (X_cmpR true rfl rfl rfl e3) rfl ?_
    refine L_val _ _ (X_move) rfl ?_
    refine L_guard rfl rfl rfl ?_
    refine L_val _ _ (X_move) rfl ?_
    refine L_guard rfl rfl rfl ?_
    refine L_val _ _ (X_cmpR true rfl rfl rfl e4) rfl ?_
    refine L_val _ _ (X_pick rfl) rfl ?_
    refine L_val _ _ (X_assign) rfl ?_
    refine L_nil ?_
    refine T_true rfl ?_
    repeat (first | refine T_seq ?_ | refine T_block ?_ | refine T_inBlock ?_ | refine T_skip ?_)
    refine T_region ?_
    refine L_val _ _ (X_move) rfl ?_
    refine L_val _ _ (X_ar rfl rfl rfl) rfl ?_
    refine L_val _ _ (X_ar rfl rfl rfl) rfl ?_
    refine L_val _ _ (X_assign) rfl ?_
    refine L_val _ _ (X_assign) rfl ?_
    refine L_nil ?_
    refine T_ret2 Tryd.func12 rfl ⟨?_, rfl⟩
    rw [hn]
    show Value.tuple #[.int .u8 (IntKind.u8.wrap (arB .add (IntKind.u8.wrap (arB .sub c 97)) 10)), .bool true] = _
    rw [hw]
    rfl
  have hn : nib c = none := by simp [nib, hd, hd2]
  rw [hn]
  rcases Decidable.em (48 ≤ c) with hc | hc
  · have e1 : cmpB .leq 48 c = true := by simp [cmpB]; omega
    have e2 : cmpB .leq c 57 = false := by simp [cmpB]; omega
    refine T_region ?_
    refine L_val _ _ (X_move) rfl ?_
    refine L_val _ _ (X_cmpR true rfl rfl rfl e1) rfl ?_
    refine L_val _ _ (X_move) rfl ?_
    refine L_guard rfl rfl rfl ?_
    refine L_val _ _ (X_move) rfl ?_
    refine L_guard rfl rfl rfl ?_
    refine L_val _ _ (X_cmpR false rfl rfl rfl e2) rfl ?_
    refine L_val _ _ (X_pick rfl) rfl ?_
    refine L_val _ _ (X_assign) rfl ?_
    refine L_nil ?_
    refine T_false rfl ?_
    repeat (first | refine T_seq ?_ | refine T_block ?_ | refine T_inBlock ?_ | refine T_skip ?_)
    rcases Decidable.em (97 ≤ c) with hc2 | hc2
    · have e3 : cmpB .leq 97 c = true := by simp [cmpB]; omega
      have e4 : cmpB .leq c 102 = false := by simp [cmpB]; omega
      refine T_region ?_
      refine L_val _ _ (X_move) rfl ?_
      refine L_val _ _ (X_cmpR true rfl rfl rfl e3) rfl ?_
      refine L_val _ _ (X_move) rfl ?_
      refine L_guard rfl rfl rfl ?_
      refine L_val _ _ (X_move) rfl ?_
      refine L_guard rfl rfl rfl ?_
      refine L_val _ _ (X_cmpR false rfl rfl rfl e4) rfl ?_
      refine L_val _ _ (X_pick rfl) rfl ?_
      refine L_val _ _ (X_assign) rfl ?_
      refine L_nil ?_
      refine T_false rfl ?_
      repeat (first | refine T_seq ?_ | refine T_block ?_ | refine T_inBlock ?_ | refine T_skip ?_)
      refine T_region ?_
      refine L_val _ _ (X_assign) rfl ?_
      refine L_val _ _ (X_assign) rfl ?_
      refine L_nil ?_
      exact T_ret2 Tryd.func12 rfl ⟨rfl, rfl⟩
    · have e3 : cmpB .leq 97 c = false := by simp [cmpB]; omega
      refine T_region ?_
      refine L_val _ _ (X_move) rfl ?_
      refine L_val _ _ (X_cmpR false rfl rfl rfl e3) rfl ?_
      refine L_val _ _ (X_move) rfl ?_
      refine L_passB rfl rfl rfl ?_
      refine L_passB rfl rfl rfl ?_
      refine L_val _ _ (X_pick rfl) rfl ?_
      refine L_val _ _ (X_assign) rfl ?_
      refine L_nil ?_
      refine T_false rfl ?_
      repeat (first | refine T_seq ?_ | refine T_block ?_ | refine T_inBlock ?_ | refine T_skip ?_)
      refine T_region ?_
      refine L_val _ _ (X_assign) rfl ?_
      refine L_val _ _ (X_assign) rfl ?_
      refine L_nil ?_
      exact T_ret2 Tryd.func12 rfl ⟨rfl, rfl⟩
  · have e1 : cmpB .leq 48 c = false := by simp [cmpB]; omega
    have e3 : cmpB .leq 97 c = false := by simp [cmpB]; omega
    refine T_region ?_
    refine L_val _ _ (X_move) rfl ?_
    refine L_val _ _ (X_cmpR false rfl rfl rfl e1) rfl ?_
    refine L_val _ _ (X_move) rfl ?_
    refine L_passB rfl rfl rfl ?_
    refine L_passB rfl rfl rfl ?_
    refine L_val _ _ (X_pick rfl) rfl ?_
    refine L_val _ _ (X_assign) rfl ?_
    refine L_nil ?_
    refine T_false rfl ?_
    repeat (first | refine T_seq ?_ | refine T_block ?_ | refine T_inBlock ?_ | refine T_skip ?_)
    refine T_region ?_
    refine L_val _ _ (X_move) rfl ?_
    refine L_val _ _ (X_cmpR false rfl rfl rfl e3) rfl ?_
    refine L_val _ _ (X_move) rfl ?_
    refine L_passB rfl rfl rfl ?_
    refine L_passB rfl rfl rfl ?_
    refine L_val _ _ (X_pick rfl) rfl ?_
    refine L_val _ _ (X_assign) rfl ?_
    refine L_nil ?_
    refine T_false rfl ?_
    repeat (first | refine T_seq ?_ | refine T_block ?_ | refine T_inBlock ?_ | refine T_skip ?_)
    refine T_region ?_
    refine L_val _ _ (X_assign) rfl ?_
    refine L_val _ _ (X_assign) rfl ?_
    refine L_nil ?_
    exact T_ret2 Tryd.func12 rfl ⟨rfl, rfl⟩
end Go.Proofs.Qxb6500866aDoor
