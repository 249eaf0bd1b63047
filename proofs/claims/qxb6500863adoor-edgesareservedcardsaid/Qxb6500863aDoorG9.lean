/-
  Sum, BlockSize, Size, Equal, Join, Zeros, Xor, digestOf, fit.
-/
import Derived.Test.Qxb6500863aDoorG8
namespace Go.Proofs.Qxb6500863aDoor
set_option linter.unusedSimpArgs false
set_option linter.unusedVariables false
open Go.RowKit
section
variable {P : Program} {f : Cx} {n : Nat} {R : Value → World → Prop} {ρ : Env} {w : World} {k : List Item} {ops : Array Oper} {rest : List Oper}
variable {d : Nat} {ty : TypeId} {pos : String} {after : Array Edge}
/-- append onto a row of the call's own, with the place of the new row. -/
theorem L_appendA {t e : TypeId} {s x : Operand} {sz by_ : Nat} {z : Value} (base : Nat) (v : Value) (m0 : Nat) (xs : List Value) (ao : Option Addr) (m c : Nat) (news : List Value)
    (ht : P.underlying t = some (.slice e)) (hi : (P.info? e).map (fun i => (i.zero, i.size, i.bytes)) = some (some z, sz, by_)) (hzs : z.cells.size = sz) (hsz : 0 < sz)
    (hs : ev ρ s = v) (hown : w.ownsRow base e sz v m0 xs) (hx : ev ρ x = .slice ao m c) (hl : news.length = m * sz) (hnone : ao = none → m = 0 ∧ c = 0)
    (hc : ∀ a, ao = some a → ∀ j u, news[j]? = some u → w.cell? (a.add j) = some u) (h1 : ∀ u ∈ news, u.oneCell' = true)
    (h63 : m0 + m ≤ maxLen) (hb : (m0 + m) * by_ ≤ 140737488355328) (hbase : base ≤ w.heap.size) (hd : Nat.blt d n = true)
    (h : ∀ v' w1, w1.ownsRow base e sz v' (m0 + m) (xs ++ news) → w.grownBy w1 v.ownBlock → (v'.ownBlock = v.ownBlock ∨ v'.ownBlock = some w.heap.size) → L P f n ops rest k R (upd ρ d v') w1) :
    L P f n ops (⟨some d, .call { callee := .builtin .append, args := #[s, x], argTypes := #[t, t] }, ty, pos, after, none⟩ :: rest) k R ρ w := by
  obtain ⟨i, hi1, hi2, hi3, hi4⟩ := info_parts hi
  cases ao with
  | none =>
    obtain ⟨rfl, rfl⟩ := hnone rfl
    have hn0 : news = [] := List.eq_nil_of_length_eq_zero (by simpa using hl)
    subst hn0
    have hr := run_append_owned_none (P := P) w base t ty e i sz ht hi1 v m0 xs hown
    refine L_val v w ?_ hd (h v w (by simpa using hown) (World.grownBy.refl _ _) (.inl rfl))
    simp [execOp, resolve, invoke, builtin, hs, hx, hr]
  | some a =>
    obtain ⟨v', w', hr, o1, o2, _, o3⟩ := run_append_own_at (P := P) w base t ty e i z sz by_ ht hi1 hi2 hi3 hi4 hzs hsz v m0 xs hown a m c news hl (hc a rfl) h1 h63 hb hbase
    refine L_val v' w' ?_ hd (h v' w' o1 o2 o3)
    simp [execOp, resolve, invoke, builtin, hs, hx, hr]
end
/-- Two slices of the call's own that do not share a block. -/
def Ap (v1 v2 : Value) : Prop := ∀ b, v1.ownBlock = some b → v2.ownBlock ≠ some b
theorem Ap.symm {v1 v2 : Value} (h : Ap v1 v2) : Ap v2 v1 := fun b h1 h2 => h b h2 h1
theorem Ap.kept {w w1 : World} {base n : Nat} {e : TypeId} {sz : Nat} {v1 v2 : Value} {xs : List Value} (ha : Ap v1 v2) (h : w.ownsRow base e sz v2 n xs) (hg : w.grownBy w1 v1.ownBlock) : w1.ownsRow base e sz v2 n xs := by
  refine World.ownsRow.kept h hg ?_
  cases hv : v2.ownBlock with
  | none => exact .inl rfl
  | some b => exact .inr fun he => ha b he.symm hv
theorem Ap.grow {w : World} {base n : Nat} {e : TypeId} {sz : Nat} {v1 v2 v1' : Value} {xs : List Value} (ha : Ap v1 v2) (h2 : w.ownsRow base e sz v2 n xs) (h : v1'.ownBlock = v1.ownBlock ∨ v1'.ownBlock = some w.heap.size) : Ap v1' v2 := by
  intro b hb h3
  rcases h with h | h
  · rw [h] at hb; exact ha b hb h3
  · rw [h] at hb
    have := (h2.lt b h3).2
    have hb' := Option.some.inj hb
    omega
def blkL : List Nat := [64, 64, 64, 64, 128]
def szL : List Nat := [16, 16, 20, 32, 48]
def blkD (id : Nat) : Nat := gN blkL id
def szD (id : Nat) : Nat := gN szL id
theorem blkD_cases {id : Nat} (h : id < 5) : blkD id = 64 ∨ blkD id = 128 := by
  have : id = 0 ∨ id = 1 ∨ id = 2 ∨ id = 3 ∨ id = 4 := by omega
  rcases this with rfl | rfl | rfl | rfl | rfl <;> decide
theorem szD_le {id : Nat} (h : id < 5) : 0 < szD id ∧ szD id ≤ 48 ∧ szD id ≤ blkD id := by
  have : id = 0 ∨ id = 1 ∨ id = 2 ∨ id = 3 ∨ id = 4 := by omega
  rcases this with rfl | rfl | rfl | rfl | rfl <;> decide
/-- The five digests. -/
def dg (sn cr : List Int) (id : Nat) (l : List Int) : List Int := match id with
  | 0 => md4N l
  | 1 => md5N sn l
  | 2 => sha1N l
  | 3 => sha256N cr l
  | _ => sha384N cr l
theorem dg_len (sn cr : List Int) {id : Nat} (h : id < 5) (l : List Int) : (dg sn cr id l).length = szD id := by
  have : id = 0 ∨ id = 1 ∨ id = 2 ∨ id = 3 ∨ id = 4 := by omega
  rcases this with rfl | rfl | rfl | rfl | rfl
  · exact md4N_len l
  · exact md5N_len sn l
  · exact sha1N_len l
  · exact sha256N_len cr l
  · exact sha384N_len cr l
/-- BlockSize -/
theorem bs_ret (id : Nat) (hid : id < 5) (w : World) : Ret Tryd.prog 7 #[.int .i64 (id : Int)] w fun v w' => v = .int .i64 (blkD id : Int) ∧ Below w.heap.size w w' := by
  refine ret_of_T (vs := [.int .i64 (id : Int)]) Tryd.func7 Tryd.ntmps7 rfl (Nat.le_of_ble_eq_true rfl) ?_
  repeat (first | refine T_seq ?_ | refine T_block ?_ | refine T_inBlock ?_ | refine T_skip ?_)
  refine T_region ?_
  refine L_val _ _ (X_assign) rfl ?_
  refine L_nil ?_
  repeat (first | refine T_seq ?_ | refine T_block ?_ | refine T_inBlock ?_ | refine T_skip ?_)
  refine T_region ?_
  refine L_buildSlice (iv .i64 (nI blkL)).toArray 3 (by kernel_rfl) rfl fun w1 h1 => ?_
  have hk : Blk w1 w.heap.size (iv .i64 (nI blkL)).toArray 3 := h1.new
  refine L_val _ _ (X_move) rfl ?_
  refine L_val _ _ (X_index U54 S3 rfl rfl hid) rfl ?_
  refine L_val _ _ (X_load A3 rfl ((by rw [Nat.zero_add, Nat.mul_one]; exact gblk hk id (nI_get hid)))) rfl ?_
  refine L_val _ _ (X_assign) rfl ?_
  refine L_nil ?_
  exact T_ret1 Tryd.func7 rfl ⟨rfl, h1.below (Below.refl _ _) (Nat.le_refl _)⟩
/-- Size -/
theorem size_ret (id : Nat) (hid : id < 5) (w : World) : Ret Tryd.prog 22 #[.int .i64 (id : Int)] w fun v w' => v = .int .i64 (szD id : Int) ∧ Below w.heap.size w w' := by
  refine ret_of_T (vs := [.int .i64 (id : Int)]) Tryd.func22 Tryd.ntmps22 rfl (Nat.le_of_ble_eq_true rfl) ?_
  repeat (first | refine T_seq ?_ | refine T_block ?_ | refine T_inBlock ?_ | refine T_skip ?_)
  refine T_region ?_
  refine L_val _ _ (X_assign) rfl ?_
  refine L_nil ?_
  repeat (first | refine T_seq ?_ | refine T_block ?_ | refine T_inBlock ?_ | refine T_skip ?_)
  refine T_region ?_
  refine L_buildSlice (iv .i64 (nI szL)).toArray 3 (by kernel_rfl) rfl fun w1 h1 => ?_
  have hk : Blk w1 w.heap.size (iv .i64 (nI szL)).toArray 3 := h1.new
  refine L_val _ _ (X_move) rfl ?_
  refine L_val _ _ (X_index U54 S3 rfl rfl hid) rfl ?_
  refine L_val _ _ (X_load A3 rfl ((by rw [Nat.zero_add, Nat.mul_one]; exact gblk hk id (nI_get hid)))) rfl ?_
  refine L_val _ _ (X_assign) rfl ?_
  refine L_nil ?_
  exact T_ret1 Tryd.func22 rfl ⟨rfl, h1.below (Below.refl _ _) (Nat.le_refl _)⟩
/-- What a call that makes octets leaves. -/
def Made (w : World) (l : List Int) (v : Value) (w' : World) : Prop := ∃ a c, v = .slice a l.length c ∧ w'.ownsRow w.heap.size 5 1 v l.length (iv .u8 l) ∧ Below w.heap.size w w'
set_option maxHeartbeats 4000000 in
/-- digestm.Sum -/
theorem sum_ret (sn cr : List Int) (id : Nat) (hid : id < 5) (a : Option Addr) (l : List Int) (c : Nat) (w : World) (hG : Glob sn cr w) (hl : Ints .u8 w a l) (hn : a = none → l.length = 0 ∧ c = 0) (hlen : l.length ≤ 10000000) :
    Ret Tryd.prog 38 #[.int .i64 (id : Int), .slice a l.length c] w (Made w (dg sn cr id l)) := by
  refine ret_of_T (vs := [.int .i64 (id : Int), .slice a l.length c]) Tryd.func38 Tryd.ntmps38 rfl (Nat.le_of_ble_eq_true rfl) ?_
  have mk : ∀ (N : Nat) (D : List Int) (a' : Option Addr) (c' : Nat) (w' : World), D.length = N → w'.ownsRow w.heap.size 5 1 (.slice a' N c') N (iv .u8 D) → Below w.heap.size w w' → Made w D (.slice a' N c') w' := by
    intro N D a' c' w' hN ho hb
    subst hN
    exact ⟨a', c', rfl, ho, hb⟩
  repeat (first | refine T_seq ?_ | refine T_block ?_ | refine T_inBlock ?_ | refine T_skip ?_)
  refine T_region ?_
  refine L_val _ _ (X_assign) rfl ?_
  refine L_nil ?_
  repeat (first | refine T_seq ?_ | refine T_block ?_ | refine T_inBlock ?_ | refine T_skip ?_)
  refine T_region ?_
  refine L_val _ _ (X_move) rfl ?_
  refine L_nil ?_
  repeat (first | refine T_seq ?_ | refine T_block ?_ | refine T_inBlock ?_ | refine T_skip ?_)
  have : id = 0 ∨ id = 1 ∨ id = 2 ∨ id = 3 ∨ id = 4 := by omega
  rcases this with rfl | rfl | rfl | rfl | rfl
  · refine T_region ?_
    refine L_val _ _ (X_cmpR true rfl rfl rfl (by decide)) rfl ?_
    refine L_val _ _ (X_assign) rfl ?_
    refine L_nil ?_
    refine T_true rfl ?_
    repeat (first | refine T_seq ?_ | refine T_block ?_ | refine T_inBlock ?_ | refine T_skip ?_)
    refine T_region ?_
    refine L_val _ _ (X_move) rfl ?_
    refine L_callF [.slice a l.length c] E41 rfl rfl (md4_ret a l c w hl hn hlen) ?_
    rintro v w1 ⟨a', c', rfl, o1, b1⟩
    refine L_val _ _ (X_assign) rfl ?_
    refine L_nil ?_
    exact T_ret1 Tryd.func38 rfl (mk 16 _ a' c' w1 (md4N_len l) o1 b1)
  · refine T_region ?_
    refine L_val _ _ (X_cmpR false rfl rfl rfl (by decide)) rfl ?_
    refine L_val _ _ (X_assign) rfl ?_
    refine L_nil ?_
    refine T_false rfl ?_
    repeat (first | refine T_seq ?_ | refine T_block ?_ | refine T_inBlock ?_ | refine T_skip ?_)
    refine T_region ?_
    refine L_val _ _ (X_cmpR true rfl rfl rfl (by decide)) rfl ?_
    refine L_val _ _ (X_assign) rfl ?_
    refine L_nil ?_
    refine T_true rfl ?_
    repeat (first | refine T_seq ?_ | refine T_block ?_ | refine T_inBlock ?_ | refine T_skip ?_)
    refine T_region ?_
    refine L_val _ _ (X_move) rfl ?_
    refine L_callF [.slice a l.length c] E42 rfl rfl (md5_ret sn cr a l c w hG hl hn hlen) ?_
    rintro v w1 ⟨a', c', rfl, o1, b1⟩
    refine L_val _ _ (X_assign) rfl ?_
    refine L_nil ?_
    exact T_ret1 Tryd.func38 rfl (mk 16 _ a' c' w1 (md5N_len sn l) o1 b1)
  · refine T_region ?_
    refine L_val _ _ (X_cmpR false rfl rfl rfl (by decide)) rfl ?_
    refine L_val _ _ (X_assign) rfl ?_
    refine L_nil ?_
    refine T_false rfl ?_
    repeat (first | refine T_seq ?_ | refine T_block ?_ | refine T_inBlock ?_ | refine T_skip ?_)
    refine T_region ?_
    refine L_val _ _ (X_cmpR false rfl rfl rfl (by decide)) rfl ?_
    refine L_val _ _ (X_assign) rfl ?_
    refine L_nil ?_
    refine T_false rfl ?_
    repeat (first | refine T_seq ?_ | refine T_block ?_ | refine T_inBlock ?_ | refine T_skip ?_)
    refine T_region ?_
    refine L_val _ _ (X_cmpR true rfl rfl rfl (by decide)) rfl ?_
    refine L_val _ _ (X_assign) rfl ?_
    refine L_nil ?_
    refine T_true rfl ?_
    repeat (first | refine T_seq ?_ | refine T_block ?_ | refine T_inBlock ?_ | refine T_skip ?_)
    refine T_region ?_
    refine L_val _ _ (X_move) rfl ?_
    refine L_callF [.slice a l.length c] E43 rfl rfl (sha1_ret a l c w hl hn hlen) ?_
    rintro v w1 ⟨a', c', rfl, o1, b1⟩
    refine L_val _ _ (X_assign) rfl ?_
    refine L_nil ?_
    exact T_ret1 Tryd.func38 rfl (mk 20 _ a' c' w1 (sha1N_len l) o1 b1)
  · refine T_region ?_
    refine L_val _ _ (X_cmpR false rfl rfl rfl (by decide)) rfl ?_
    refine L_val _ _ (X_assign) rfl ?_
    refine L_nil ?_
    refine T_false rfl ?_
    repeat (first | refine T_seq ?_ | refine T_block ?_ | refine T_inBlock ?_ | refine T_skip ?_)
    refine T_region ?_
    refine L_val _ _ (X_cmpR false rfl rfl rfl (by decide)) rfl ?_
    refine L_val _ _ (X_assign) rfl ?_
    refine L_nil ?_
    refine T_false rfl ?_
    repeat (first | refine T_seq ?_ | refine T_block ?_ | refine T_inBlock ?_ | refine T_skip ?_)
    refine T_region ?_
    refine L_val _ _ (X_cmpR false rfl rfl rfl (by decide)) rfl ?_
    refine L_val _ _ (X_assign) rfl ?_
    refine L_nil ?_
    refine T_false rfl ?_
    repeat (first | refine T_seq ?_ | refine T_block ?_ | refine T_inBlock ?_ | refine T_skip ?_)
    refine T_region ?_
    refine L_val _ _ (X_cmpR true rfl rfl rfl (by decide)) rfl ?_
    refine L_val _ _ (X_assign) rfl ?_
    refine L_nil ?_
    refine T_true rfl ?_
    repeat (first | refine T_seq ?_ | refine T_block ?_ | refine T_inBlock ?_ | refine T_skip ?_)
    refine T_region ?_
    refine L_val _ _ (X_move) rfl ?_
    refine L_callF [.slice a l.length c] E44 rfl rfl (sha256_ret sn cr a l c w hG hl hn hlen) ?_
    rintro v w1 ⟨a', c', rfl, o1, b1⟩
    refine L_val _ _ (X_assign) rfl ?_
    refine L_nil ?_
    exact T_ret1 Tryd.func38 rfl (mk 32 _ a' c' w1 (sha256N_len cr l) o1 b1)
  · refine T_region ?_
    refine L_val _ _ (X_cmpR false rfl rfl rfl (by decide)) rfl ?_
    refine L_val _ _ (X_assign) rfl ?_
    refine L_nil ?_
    refine T_false rfl ?_
    repeat (first | refine T_seq ?_ | refine T_block ?_ | refine T_inBlock ?_ | refine T_skip ?_)
    refine T_region ?_
    refine L_val _ _ (X_cmpR false rfl rfl rfl (by decide)) rfl ?_
    refine L_val _ _ (X_assign) rfl ?_
    refine L_nil ?_
    refine T_false rfl ?_
    repeat (first | refine T_seq ?_ | refine T_block ?_ | refine T_inBlock ?_ | refine T_skip ?_)
    refine T_region ?_
    refine L_val _ _ (X_cmpR false rfl rfl rfl (by decide)) rfl ?_
    refine L_val _ _ (X_assign) rfl ?_
    refine L_nil ?_
    refine T_false rfl ?_
    repeat (first | refine T_seq ?_ | refine T_block ?_ | refine T_inBlock ?_ | refine T_skip ?_)
    refine T_region ?_
    refine L_val _ _ (X_cmpR false rfl rfl rfl (by decide)) rfl ?_
    refine L_val _ _ (X_assign) rfl ?_
    refine L_nil ?_
    refine T_false rfl ?_
    repeat (first | refine T_seq ?_ | refine T_block ?_ | refine T_inBlock ?_ | refine T_skip ?_)
    refine T_region ?_
    refine L_val _ _ (X_move) rfl ?_
    refine L_callF [.slice a l.length c] E45 rfl rfl (sha384_ret sn cr a l c w hG hl hn hlen) ?_
    rintro v w1 ⟨a', c', rfl, o1, b1⟩
    refine L_val _ _ (X_assign) rfl ?_
    refine L_nil ?_
    exact T_ret1 Tryd.func38 rfl (mk 48 _ a' c' w1 (sha384N_len cr l) o1 b1)
set_option maxHeartbeats 4000000 in
/-- octetsm.Equal -/
theorem equal_ret (a1 a2 : Option Addr) (l1 l2 : List Int) (c1 c2 : Nat) (w : World) (h1 : Ints .u8 w a1 l1) (h2 : Ints .u8 w a2 l2) (hn : l1.length ≤ 1000000) : Ret Tryd.prog 12 #[.slice a1 l1.length c1, .slice a2 l2.length c2] w fun v w' => v = .bool (decide (l1 = l2)) ∧ Below w.heap.size w w' := by
  refine ret_of_T (vs := [.slice a1 l1.length c1, .slice a2 l2.length c2]) Tryd.func12 Tryd.ntmps12 rfl (Nat.le_of_ble_eq_true rfl) ?_
  repeat (first | refine T_seq ?_ | refine T_block ?_ | refine T_inBlock ?_ | refine T_skip ?_)
  refine T_region ?_
  refine L_val _ _ (X_assign) rfl ?_
  refine L_nil ?_
  repeat (first | refine T_seq ?_ | refine T_block ?_ | refine T_inBlock ?_ | refine T_skip ?_)
  by_cases hlen : l1.length = l2.length
  case neg =>
    have e1 : cmpB .neq (l1.length : Int) (l2.length : Int) = true := by simp [cmpB]; omega
    refine T_region ?_
    refine L_val _ _ (X_move) rfl ?_
    refine L_val _ _ (X_lenS U25 rfl) rfl ?_
    refine L_val _ _ (X_move) rfl ?_
    refine L_val _ _ (X_lenS U25 rfl) rfl ?_
    refine L_val _ _ (X_cmpR true rfl rfl rfl e1) rfl ?_
    refine L_nil ?_
    refine T_true rfl ?_
    repeat (first | refine T_seq ?_ | refine T_block ?_ | refine T_inBlock ?_ | refine T_skip ?_)
    refine T_region ?_
    refine L_val _ _ (X_assign) rfl ?_
    refine L_nil ?_
    exact T_ret1 Tryd.func12 rfl ⟨by rw [decide_eq_false (fun h => hlen (by rw [h]))]; rfl, Below.refl _ _⟩
  have e1 : cmpB .neq (l1.length : Int) (l2.length : Int) = false := by simp [cmpB]; omega
  refine T_region ?_
  refine L_val _ _ (X_move) rfl ?_
  refine L_val _ _ (X_lenS U25 rfl) rfl ?_
  refine L_val _ _ (X_move) rfl ?_
  refine L_val _ _ (X_lenS U25 rfl) rfl ?_
  refine L_val _ _ (X_cmpR false rfl rfl rfl e1) rfl ?_
  refine L_nil ?_
  refine T_false rfl ?_
  repeat (first | refine T_seq ?_ | refine T_block ?_ | refine T_inBlock ?_ | refine T_skip ?_)
  refine T_region ?_
  refine L_val _ _ (X_move) rfl ?_
  refine L_val _ _ (X_lenS U25 rfl) rfl ?_
  refine L_val _ _ (X_move) rfl ?_
  refine L_nil ?_
  repeat (first | refine T_seq ?_ | refine T_block ?_ | refine T_inBlock ?_ | refine T_skip ?_)
  refine T_loopS [13, 12, 0, 1] (fun m vs z => ∃ i : Nat, vs = [.int .i64 i, .int .i64 l1.length, .slice a1 l1.length c1, .slice a2 l2.length c2] ∧ i ≤ l1.length ∧ m = l1.length - i ∧ Below w.heap.size w z ∧ l1.take i = l2.take i) l1.length ⟨0, rfl, by omega, rfl, Below.refl _ _, by simp⟩ ?_
  rintro m vs ρ z ⟨i, rfl, hi, rfl, bz, hpre⟩ ih
  repeat (first | refine T_seq ?_ | refine T_block ?_ | refine T_inBlock ?_ | refine T_skip ?_)
  refine T_region ?_
  refine L_val _ _ (X_cmp rfl rfl rfl) rfl ?_
  refine L_nil ?_
  repeat (first | refine T_seq ?_ | refine T_block ?_ | refine T_inBlock ?_ | refine T_skip ?_)
  refine T_if rfl (fun ht => ?_) (fun hf => ?_)
  case refine_2 =>
    have hge : ¬ i < l1.length := by simpa [cmpB] using hf
    refine T_exit rfl ?_
    repeat (first | refine T_seq ?_ | refine T_block ?_ | refine T_inBlock ?_ | refine T_skip ?_)
    refine T_region ?_
    refine L_val _ _ (X_assign) rfl ?_
    refine L_nil ?_
    refine T_ret1 Tryd.func12 rfl ⟨?_, bz⟩
    rw [List.take_of_length_le (by omega), List.take_of_length_le (by omega)] at hpre
    rw [decide_eq_true hpre]
    rfl
  have hlt : i < l1.length := by simpa [cmpB] using ht
  have hlt2 : i < l2.length := by omega
  have q1 : l1[i]? = some l1[i] := by simp
  have q2 : l2[i]? = some l2[i] := by simp
  have t1 : l1.take (i + 1) = l1.take i ++ [l1[i]] := List.take_succ_eq_append_getElem hlt
  have t2 : l2.take (i + 1) = l2.take i ++ [l2[i]] := List.take_succ_eq_append_getElem hlt2
  generalize l1[i] = x at *
  generalize l2[i] = y at *
  obtain ⟨p1, r1, rfl, hp1, hc1⟩ := (h1.below bz).cell i x q1
  obtain ⟨p2, r2, rfl, hp2, hc2⟩ := (h2.below bz).cell i y q2
  repeat (first | refine T_seq ?_ | refine T_block ?_ | refine T_inBlock ?_ | refine T_skip ?_)
  refine T_region ?_
  refine L_val _ _ (X_move) rfl ?_
  refine L_val _ _ (X_assign) rfl ?_
  refine L_nil ?_
  repeat (first | refine T_seq ?_ | refine T_block ?_ | refine T_inBlock ?_ | refine T_skip ?_)
  by_cases hxy : x = y
  · have e2 : cmpB .neq x y = false := by simp [cmpB, hxy]
    refine T_quiet (fun u => Sm z u) rfl (by kernel_rfl) (sm_drew z) ?_
    refine LQ_val _ (fun w hw => X_move) rfl ?_
    refine LQ_val _ (fun w hw => X_move) rfl ?_
    refine LQ_val _ (fun w hw => X_index U25 S5 rfl rfl hlt) rfl ?_
    refine LQ_val _ (fun w hw => X_load A5 rfl ((by rw [Nat.mul_one]; exact (hw.cell _).trans hc1))) rfl ?_
    refine LQ_val _ (fun w hw => X_move) rfl ?_
    refine LQ_val _ (fun w hw => X_move) rfl ?_
    refine LQ_val _ (fun w hw => X_index U25 S5 rfl rfl hlt2) rfl ?_
    refine LQ_val _ (fun w hw => X_load A5 rfl ((by rw [Nat.mul_one]; exact (hw.cell _).trans hc2))) rfl ?_
    refine LQ_val _ (fun w hw => X_cmpR false rfl rfl rfl e2) rfl ?_
    refine LQ_nil fun z1 hz1 => ?_
    refine T_false rfl ?_
    repeat (first | refine T_seq ?_ | refine T_block ?_ | refine T_inBlock ?_ | refine T_skip ?_)
    refine T_region ?_
    refine L_val _ _ (X_add rfl rfl (by omega) (by omega)) rfl ?_
    refine L_val _ _ (X_move) rfl ?_
    refine L_nil ?_
    exact ih _ _ _ (by omega) ⟨i + 1, rfl, by omega, rfl, hz1.below bz, by rw [t1, t2, hpre, hxy]⟩
  · have e2 : cmpB .neq x y = true := by simp [cmpB, hxy]
    refine T_quiet (fun u => Sm z u) rfl (by kernel_rfl) (sm_drew z) ?_
    refine LQ_val _ (fun w hw => X_move) rfl ?_
    refine LQ_val _ (fun w hw => X_move) rfl ?_
    refine LQ_val _ (fun w hw => X_index U25 S5 rfl rfl hlt) rfl ?_
    refine LQ_val _ (fun w hw => X_load A5 rfl ((by rw [Nat.mul_one]; exact (hw.cell _).trans hc1))) rfl ?_
    refine LQ_val _ (fun w hw => X_move) rfl ?_
    refine LQ_val _ (fun w hw => X_move) rfl ?_
    refine LQ_val _ (fun w hw => X_index U25 S5 rfl rfl hlt2) rfl ?_
    refine LQ_val _ (fun w hw => X_load A5 rfl ((by rw [Nat.mul_one]; exact (hw.cell _).trans hc2))) rfl ?_
    refine LQ_val _ (fun w hw => X_cmpR true rfl rfl rfl e2) rfl ?_
    refine LQ_nil fun z1 hz1 => ?_
    refine T_true rfl ?_
    repeat (first | refine T_seq ?_ | refine T_block ?_ | refine T_inBlock ?_ | refine T_skip ?_)
    refine T_region ?_
    refine L_val _ _ (X_assign) rfl ?_
    refine L_nil ?_
    refine T_ret1 Tryd.func12 rfl ⟨?_, hz1.below bz⟩
    rw [decide_eq_false (fun h => hxy ?_)]
    · rfl
    · subst h
      rw [q1] at q2
      exact Option.some.inj q2
/-- A list of octets as a slice: where, the octets, the capacity. -/
abbrev Sl := Option Addr × List Int × Nat
def Sl.val (x : Sl) : Value := .slice x.1 x.2.1.length x.2.2
def Sl.ok (w : World) (x : Sl) : Prop := Ints .u8 w x.1 x.2.1 ∧ (x.1 = none → x.2.1.length = 0 ∧ x.2.2 = 0)
theorem Sl.ok.below {w w' : World} {x : Sl} (h : Sl.ok w x) (hb : Below w.heap.size w w') : Sl.ok w' x := ⟨h.1.below hb, h.2⟩
def cat (ls : List Sl) : List Int := (ls.map (·.2.1)).flatten
theorem cat_take {ls : List Sl} {i : Nat} {x : Sl} (h : ls[i]? = some x) : cat (ls.take (i + 1)) = cat (ls.take i) ++ x.2.1 := by
  obtain ⟨hi, he⟩ := List.getElem?_eq_some_iff.1 h
  rw [List.take_succ_eq_append_getElem hi, he]
  simp [cat]
theorem cat_take_le (ls : List Sl) (i : Nat) : (cat (ls.take i)).length ≤ (cat ls).length := by
  have : cat ls = cat (ls.take i) ++ cat (ls.drop i) := by
    conv => lhs; rw [← List.take_append_drop i ls]
    simp only [cat, List.map_append, List.flatten_append]
  rw [this, List.length_append]
  omega
set_option maxHeartbeats 4000000 in
/-- modesm.Join -/
theorem join_ret (b o cap : Nat) (ls : List Sl) (w : World) (hb : b < w.heap.size) (hcell : ∀ (i : Nat) (x : Sl), ls[i]? = some x → w.cell? ⟨b, o + i, none⟩ = some x.val) (hok : ∀ x ∈ ls, Sl.ok w x) (hls : ls.length ≤ 6) (htot : (cat ls).length ≤ 10000000) :
    Ret Tryd.prog 26 #[.slice (some ⟨b, o, none⟩) ls.length cap] w (Made w (cat ls)) := by
  refine ret_of_T (vs := [.slice (some ⟨b, o, none⟩) ls.length cap]) Tryd.func26 Tryd.ntmps26 rfl (Nat.le_of_ble_eq_true rfl) ?_
  repeat (first | refine T_seq ?_ | refine T_block ?_ | refine T_inBlock ?_ | refine T_skip ?_)
  refine T_region ?_
  refine L_val _ _ (X_assign) rfl ?_
  refine L_nil ?_
  repeat (first | refine T_seq ?_ | refine T_block ?_ | refine T_inBlock ?_ | refine T_skip ?_)
  refine T_region ?_
  refine L_buildSlice #[] 5 (by kernel_rfl) rfl fun w1 h1 => ?_
  refine L_val _ _ (X_assign) rfl ?_
  refine L_nil ?_
  have o1 : w1.ownsRow w.heap.size 5 1 (.slice (some ⟨w.heap.size, 0, none⟩) 0 0) 0 [] := owns_made (c := 0) (z := #[.int .u8 0]) (by rw [made0]; exact h1) (Nat.le_refl _) (by simp [maxLen])
  have b1 : Below w.heap.size w w1 := h1.below (Below.refl _ _) (Nat.le_refl _)
  repeat (first | refine T_seq ?_ | refine T_block ?_ | refine T_inBlock ?_ | refine T_skip ?_)
  refine T_region ?_
  refine L_val _ _ (X_move) rfl ?_
  refine L_val _ _ (X_lenS U33 rfl) rfl ?_
  refine L_val _ _ (X_move) rfl ?_
  refine L_nil ?_
  repeat (first | refine T_seq ?_ | refine T_block ?_ | refine T_inBlock ?_ | refine T_skip ?_)
  refine T_loopS [9, 8, 7, 3] (fun m vs z => ∃ (i : Nat) (a : Option Addr) (c : Nat), vs = [.int .i64 i, .int .i64 ls.length, .slice (some ⟨b, o, none⟩) ls.length cap, .slice a (cat (ls.take i)).length c] ∧ i ≤ ls.length ∧ m = ls.length - i ∧ z.ownsRow w.heap.size 5 1 (.slice a (cat (ls.take i)).length c) (cat (ls.take i)).length (iv .u8 (cat (ls.take i))) ∧ Below w.heap.size w z) ls.length
    ⟨0, some ⟨w.heap.size, 0, none⟩, 0, rfl, by omega, rfl, o1, b1⟩ ?_
  rintro m vs ρ z ⟨i, a, c, rfl, hi, rfl, oz, bz⟩ ih
  repeat (first | refine T_seq ?_ | refine T_block ?_ | refine T_inBlock ?_ | refine T_skip ?_)
  refine T_region ?_
  refine L_val _ _ (X_cmp rfl rfl rfl) rfl ?_
  refine L_nil ?_
  repeat (first | refine T_seq ?_ | refine T_block ?_ | refine T_inBlock ?_ | refine T_skip ?_)
  refine T_if rfl (fun ht => ?_) (fun hf => ?_)
  case refine_2 =>
    have hge : ¬ i < ls.length := by simpa [cmpB] using hf
    refine T_exit rfl ?_
    repeat (first | refine T_seq ?_ | refine T_block ?_ | refine T_inBlock ?_ | refine T_skip ?_)
    refine T_region ?_
    refine L_val _ _ (X_move) rfl ?_
    refine L_val _ _ (X_assign) rfl ?_
    refine L_nil ?_
    rw [List.take_of_length_le (by omega)] at oz ⊢
    exact T_ret1 Tryd.func26 rfl ⟨a, c, rfl, oz, bz⟩
  have hlt : i < ls.length := by simpa [cmpB] using ht
  have hx : ls[i]? = some ls[i] := by simp
  have hox := hok ls[i] (by simp)
  have hct := cat_take hx
  have hle := cat_take_le ls (i + 1)
  have hc0 := hcell i _ hx
  generalize ls[i] = x at *
  have hcz : z.cell? ⟨b, o + i * 1, none⟩ = some (.slice x.1 x.2.1.length x.2.2) := by rw [Nat.mul_one]; exact (below_cell bz _ hb).trans hc0
  have hbx : Ints .u8 z x.1 x.2.1 := hox.1.below bz
  have sz := bz.size
  repeat (first | refine T_seq ?_ | refine T_block ?_ | refine T_inBlock ?_ | refine T_skip ?_)
  refine T_region ?_
  refine L_val _ _ (X_index U33 S25 rfl rfl hlt) rfl ?_
  refine L_val _ _ (X_load A25 rfl (hcz)) rfl ?_
  refine L_val _ _ (X_assign) rfl ?_
  refine L_nil ?_
  rw [hct, List.length_append] at hle
  repeat (first | refine T_seq ?_ | refine T_block ?_ | refine T_inBlock ?_ | refine T_skip ?_)
  refine T_region ?_
  refine L_val _ _ (X_move) rfl ?_
  refine L_val _ _ (X_move) rfl ?_
  refine L_append w.heap.size (.slice a (cat (ls.take i)).length c) (cat (ls.take i)).length (iv .u8 (cat (ls.take i))) x.1 x.2.1.length x.2.2 (iv .u8 x.2.1) Tryd.underlying25 I5 rfl (by decide) rfl oz rfl (by rw [iv_len, Nat.mul_one]) hox.2 (ints_src hbx) (iv_one _ _) (by simp only [maxLen]; omega) (by omega) sz rfl fun v6 w6 o6 g6 => ?_
  obtain ⟨na, nc, rfl, -, -⟩ := owns_val o6
  refine L_val _ _ (X_assign) rfl ?_
  refine L_nil ?_
  repeat (first | refine T_seq ?_ | refine T_block ?_ | refine T_inBlock ?_ | refine T_skip ?_)
  refine T_region ?_
  refine L_val _ _ (X_add rfl rfl (by omega) (by omega)) rfl ?_
  refine L_val _ _ (X_move) rfl ?_
  refine L_nil ?_
  refine ih _ _ _ (by omega) ⟨i + 1, na, nc, ?_, by omega, rfl, ?_, grown_below bz oz g6 sz (Nat.le_refl _)⟩
  · rw [hct, List.length_append]; rfl
  · rw [hct, List.length_append, iv_app]; exact o6
end Go.Proofs.Qxb6500863aDoor
