/-
  fit; digestOf; zzSmall1.
-/
import Derived.Test.Qxb6500863aDoorGK
namespace Go.Proofs.Qxb6500863aDoor
set_option linter.unusedSimpArgs false
set_option linter.unusedVariables false
open Go.RowKit
/-- Some octets, not many. -/
def SlE (v : Value) (w : World) : Prop := ∃ a l c, v = Sl.val (a, l, c) ∧ Sl.ok w (a, l, c) ∧ l.length ≤ 300
theorem SlE.below {v : Value} {w w' : World} (h : SlE v w) (hb : Below w.heap.size w w') : SlE v w' := by
  obtain ⟨a, l, c, rfl, h1, h2⟩ := h
  exact ⟨a, l, c, rfl, h1.below hb, h2⟩
set_option maxHeartbeats 2000000 in
/-- modeslaw.fit -/
theorem fit_ret' (ka : Option Addr) (kl : List Int) (kc : Nat) (n : Nat) (hn : n ≤ 300) (w : World) (hK : Sl.ok w (ka, kl, kc)) : Ret Tryd.prog 8 #[Sl.val (ka, kl, kc), .int .i64 (n : Int)] w fun v w' => SlE v w' ∧ Below w.heap.size w w' := by
  refine ret_of_T (vs := [Sl.val (ka, kl, kc), .int .i64 (n : Int)]) Tryd.func8 Tryd.ntmps8 rfl (Nat.le_of_ble_eq_true rfl) ?_
  repeat (first | refine T_seq ?_ | refine T_block ?_ | refine T_inBlock ?_ | refine T_skip ?_)
  refine T_region ?_
  refine L_val _ _ (X_assign) rfl ?_
  refine L_nil ?_
  repeat (first | refine T_seq ?_ | refine T_block ?_ | refine T_inBlock ?_ | refine T_skip ?_)
  refine T_region ?_
  refine L_val _ _ (X_move) rfl ?_
  refine L_make (l := n) (c := n) Tryd.underlying25 I5 rfl rfl (Nat.le_refl _) (by omega) (by simp only [maxLen]; omega) rfl fun w1 h1 => ?_
  refine L_val _ _ (X_assign) rfl ?_
  refine L_nil ?_
  have k1 : Blk w1 w.heap.size (iv .u8 (List.replicate n 0)).toArray 5 := by
    have e : (iv .u8 (List.replicate n 0)).toArray = madeCells (Value.cells (.int .u8 0)) (n * 1) := by
      rw [Nat.mul_one]
      apply Array.ext'
      apply List.ext_getElem?
      intro i
      simp only [iv, madeCells, Value.cells]
      by_cases hi : i < n <;> simp [hi, List.getElem?_replicate, Nat.mod_one]
    rw [e]; exact h1.new
  have b1 : Below w.heap.size w w1 := h1.below (Below.refl _ _) (Nat.le_refl _)
  clear h1
  repeat (first | refine T_seq ?_ | refine T_block ?_ | refine T_inBlock ?_ | refine T_skip ?_)
  refine T_region ?_
  refine L_val _ _ (X_move) rfl ?_
  refine L_val _ _ (X_lenS U25 rfl) rfl ?_
  refine L_val _ _ (X_move) rfl ?_
  refine L_nil ?_
  repeat (first | refine T_seq ?_ | refine T_block ?_ | refine T_inBlock ?_ | refine T_skip ?_)
  refine T_loopS [11, 10, 5, 0] (fun m vs z => ∃ (i : Nat) (l : List Int), vs = [.int .i64 i, .int .i64 n, .slice (some ⟨w.heap.size, 0, none⟩) n n, Sl.val (ka, kl, kc)] ∧ i ≤ n ∧ m = n - i ∧ l.length = n ∧ Blk z w.heap.size (iv .u8 l).toArray 5 ∧ Below w.heap.size w z) n
    ⟨0, _, rfl, by omega, rfl, by simp, k1, b1⟩ ?_
  clear k1 b1
  rintro m vs ρ z ⟨i, l, rfl, hi, rfl, hl, kz, bz⟩ ih
  repeat (first | refine T_seq ?_ | refine T_block ?_ | refine T_inBlock ?_ | refine T_skip ?_)
  refine T_region ?_
  refine L_val _ _ (X_cmp rfl rfl rfl) rfl ?_
  refine L_nil ?_
  repeat (first | refine T_seq ?_ | refine T_block ?_ | refine T_inBlock ?_ | refine T_skip ?_)
  refine T_if rfl (fun ht => ?_) (fun hf => ?_)
  case refine_2 =>
    refine T_exit rfl ?_
    repeat (first | refine T_seq ?_ | refine T_block ?_ | refine T_inBlock ?_ | refine T_skip ?_)
    refine T_region ?_
    refine L_val _ _ (X_move) rfl ?_
    refine L_val _ _ (X_assign) rfl ?_
    refine L_nil ?_
    exact T_ret1 Tryd.func8 rfl ⟨⟨some ⟨w.heap.size, 0, none⟩, l, n, by show Value.slice (some ⟨w.heap.size, 0, none⟩) n n = Value.slice _ l.length n; rw [hl], ⟨ints_blk kz, fun h => by cases h⟩, by omega⟩, bz⟩
  have hlt : i < n := by simpa [cmpB] using ht
  repeat (first | refine T_seq ?_ | refine T_block ?_ | refine T_inBlock ?_ | refine T_skip ?_)
  refine T_region ?_
  refine L_val _ _ (X_move) rfl ?_
  refine L_val _ _ (X_assign) rfl ?_
  refine L_nil ?_
  rcases Nat.eq_zero_or_pos kl.length with h0 | h0
  · have e1 := cmp_gtr0' h0
    repeat (first | refine T_seq ?_ | refine T_block ?_ | refine T_inBlock ?_ | refine T_skip ?_)
    refine T_region ?_
    refine L_val _ _ (X_move) rfl ?_
    refine L_val _ _ (X_lenS U25 rfl) rfl ?_
    refine L_val _ _ (X_cmpR false rfl rfl rfl e1) rfl ?_
    refine L_nil ?_
    refine T_false rfl ?_
    refine T_skip ?_
    repeat (first | refine T_seq ?_ | refine T_block ?_ | refine T_inBlock ?_ | refine T_skip ?_)
    refine T_region ?_
    refine L_val _ _ (X_add rfl rfl (by omega) (by omega)) rfl ?_
    refine L_val _ _ (X_move) rfl ?_
    refine L_nil ?_
    exact ih _ _ _ (by omega) ⟨i + 1, l, rfl, by omega, rfl, hl, kz, bz⟩
  · have e1 := cmp_gtr0 h0
    have hmod := Nat.mod_lt i h0
    obtain ⟨p1, r1, rfl, hp1, hc1⟩ := (hK.below bz).1.cell (i % kl.length) _ (gI_at hmod)
    generalize gI kl (i % kl.length) = x at *
    repeat (first | refine T_seq ?_ | refine T_block ?_ | refine T_inBlock ?_ | refine T_skip ?_)
    refine T_region ?_
    refine L_val _ _ (X_move) rfl ?_
    refine L_val _ _ (X_lenS U25 rfl) rfl ?_
    refine L_val _ _ (X_cmpR true rfl rfl rfl e1) rfl ?_
    refine L_nil ?_
    refine T_true rfl ?_
    refine T_region ?_
    refine L_val _ _ (X_move) rfl ?_
    refine L_val _ _ (X_move) rfl ?_
    refine L_val _ _ (X_move) rfl ?_
    refine L_val _ _ (X_move) rfl ?_
    refine L_val _ _ (X_move) rfl ?_
    refine L_val _ _ (X_lenS U25 rfl) rfl ?_
    refine L_val _ _ (X_remN i kl.length rfl rfl (by omega)) rfl ?_
    refine L_val _ _ (X_index (j := i % kl.length) U25 S5 rfl rfl hmod) rfl ?_
    refine L_val _ _ (X_load A5 rfl ((by rw [Nat.mul_one]; exact hc1))) rfl ?_
    refine L_val _ _ (X_index U25 S5 rfl rfl hlt) rfl ?_
    refine L_store (.int .u8 x) S5 rfl rfl rfl kz (by simp [iv_len]; omega) fun z1 h1 => ?_
    refine L_nil ?_
    rw [Nat.mul_one, Nat.zero_add, ivA_set] at h1
    have bz1 : Below w.heap.size w z1 := h1.below bz (Nat.le_refl _)
    repeat (first | refine T_seq ?_ | refine T_block ?_ | refine T_inBlock ?_ | refine T_skip ?_)
    refine T_region ?_
    refine L_val _ _ (X_add rfl rfl (by omega) (by omega)) rfl ?_
    refine L_val _ _ (X_move) rfl ?_
    refine L_nil ?_
    exact ih _ _ _ (by omega) ⟨i + 1, l.set i x, rfl, by omega, rfl, by simp [hl], h1.new, bz1⟩
theorem fit_ret (K : Sl) (n : Nat) (hn : n ≤ 300) (w : World) (hK : Sl.ok w K) : Ret Tryd.prog 8 #[K.val, .int .i64 (n : Int)] w fun v w' => SlE v w' ∧ Below w.heap.size w w' := fit_ret' K.1 K.2.1 K.2.2 n hn w hK
/-- One step of a script. -/
structure OpT where
  kind : Int
  alg : Int
  K : Sl
  V : Sl
  D : Sl
  A : Sl
  cnt : Int
  len : Int
def OpT.cells (x : OpT) : List Value := [.int .i64 x.kind, .int .i64 x.alg, x.K.val, x.V.val, x.D.val, x.A.val, .int .u32 x.cnt, .int .i64 x.len]
structure OpOk (w : World) (x : OpT) : Prop where
  K : Sl.ok w x.K
  V : Sl.ok w x.V
  D : Sl.ok w x.D
  A : Sl.ok w x.A
  Vb : ∀ b ∈ x.V.2.1, 0 ≤ b ∧ b < 256
  Dc : x.D.2.1.length ≤ x.D.2.2
  Ac : x.A.2.1.length ≤ x.A.2.2
  lK : x.K.2.1.length ≤ 140737488355328
  lV : x.V.2.1.length ≤ 140737488355328
  lD : x.D.2.1.length ≤ 140737488355328
  lA : x.A.2.1.length ≤ 140737488355328
structure Script (w : World) (a : Option Addr) (xs : List OpT) : Prop where
  cell : ∀ (i : Nat) (x : OpT), xs[i]? = some x → ∃ b o, a = some ⟨b, o, none⟩ ∧ b < w.heap.size ∧ ∀ (j : Nat) (v : Value), x.cells[j]? = some v → w.cell? ⟨b, o + i * 8 + j, none⟩ = some v
  ok : ∀ x ∈ xs, OpOk w x
  len : xs.length ≤ 140737488355328
theorem tmod5 (a : Int) : ∃ id : Nat, id < 5 ∧ IntKind.wrap .i64 ((IntKind.wrap .u64 a).tmod 5) = (id : Int) := by
  have h1 : 0 ≤ IntKind.wrap .u64 a := by
    have e : IntKind.wrap .u64 a = a % (2 ^ 64 : Int) := by simp [IntKind.wrap, IntKind.signed, IntKind.bits]
    rw [e]
    exact Int.emod_nonneg _ (by decide)
  obtain ⟨n, hn⟩ := Int.eq_ofNat_of_zero_le h1
  rw [hn]
  refine ⟨n % 5, Nat.mod_lt _ (by decide), ?_⟩
  have : ((n : Int).tmod 5) = ((n % 5 : Nat) : Int) := rfl
  rw [this]
  have := Nat.mod_lt n (show 5 > 0 by decide)
  exact wrap_i64 (by omega) (by omega)
/-- modeslaw.digestOf -/
theorem digestOf_ret (x : OpT) (w : World) : Ret Tryd.prog 6 #[.agg x.cells.toArray] w fun v w' => (∃ id : Nat, id < 5 ∧ v = .int .i64 (id : Int)) ∧ Below w.heap.size w w' := by
  refine ret_of_T (vs := [.agg x.cells.toArray]) Tryd.func6 Tryd.ntmps6 rfl (Nat.le_of_ble_eq_true rfl) ?_
  repeat (first | refine T_seq ?_ | refine T_block ?_ | refine T_inBlock ?_ | refine T_skip ?_)
  refine T_region ?_
  refine L_box rfl fun w1 h1 => ?_
  refine L_val _ _ (X_assign) rfl ?_
  refine L_nil ?_
  have k1 : Blk w1 w.heap.size x.cells.toArray 28 := h1.new
  repeat (first | refine T_seq ?_ | refine T_block ?_ | refine T_inBlock ?_ | refine T_skip ?_)
  refine T_region ?_
  refine L_val _ _ (X_field F28_1 rfl) rfl ?_
  refine L_val _ _ (X_load A3 rfl (gblk k1 1 rfl)) rfl ?_
  refine L_val _ _ (X_convInt U3 U53 rfl) rfl ?_
  refine L_val _ _ (X_rem rfl rfl (by decide)) rfl ?_
  refine L_val _ _ (X_convInt U53 U29 rfl) rfl ?_
  refine L_val _ _ (X_assign) rfl ?_
  refine L_nil ?_
  obtain ⟨id, h2, h3⟩ := tmod5 x.alg
  exact T_ret1 Tryd.func6 rfl ⟨⟨id, h2, congrArg (Value.int .i64) h3⟩, h1.below (Below.refl _ _) (Nat.le_refl _)⟩
def OpT.small (x : OpT) : Prop := x.K.2.1.length ≤ 65536 ∧ x.V.2.1.length ≤ 65536 ∧ x.D.2.1.length ≤ 65536 ∧ x.A.2.1.length ≤ 65536
set_option maxHeartbeats 4000000 in
/-- modeslaw.zzSmall1 -/
theorem small_ret (a : Option Addr) (c : Nat) (xs : List OpT) (w : World) (hs : Script w a xs) : Ret Tryd.prog 5 #[.slice a xs.length c] w fun v w' => w' = w ∧ ∃ b : Bool, v = .bool b ∧ (b = true → ∀ x ∈ xs, x.small) := by
  refine ret_of_T (vs := [.slice a xs.length c]) Tryd.func5 Tryd.ntmps5 rfl (Nat.le_of_ble_eq_true rfl) ?_
  have hxl := hs.len
  repeat (first | refine T_seq ?_ | refine T_block ?_ | refine T_inBlock ?_ | refine T_skip ?_)
  refine T_region ?_
  refine L_val _ _ (X_assign) rfl ?_
  refine L_nil ?_
  repeat (first | refine T_seq ?_ | refine T_block ?_ | refine T_inBlock ?_ | refine T_skip ?_)
  refine T_region ?_
  refine L_val _ _ (X_move) rfl ?_
  refine L_val _ _ (X_lenS U22 rfl) rfl ?_
  refine L_val _ _ (X_assign) rfl ?_
  refine L_nil ?_
  repeat (first | refine T_seq ?_ | refine T_block ?_ | refine T_inBlock ?_ | refine T_skip ?_)
  refine T_region ?_
  refine L_val _ _ (X_move) rfl ?_
  refine L_val _ _ (X_cmp rfl rfl rfl) rfl ?_
  refine L_nil ?_
  refine T_if rfl (fun ht => ?_) (fun hf => ?_)
  · repeat (first | refine T_seq ?_ | refine T_block ?_ | refine T_inBlock ?_ | refine T_skip ?_)
    refine T_region ?_
    refine L_val _ _ (X_assign) rfl ?_
    refine L_nil ?_
    exact T_ret1 Tryd.func5 rfl ⟨rfl, false, rfl, fun h => by cases h⟩
  have hx65 : xs.length ≤ 65536 := by simp [cmpB] at hf; omega
  refine T_skip ?_
  repeat (first | refine T_seq ?_ | refine T_block ?_ | refine T_inBlock ?_ | refine T_skip ?_)
  refine T_region ?_
  refine L_val _ _ (X_assign) rfl ?_
  refine L_nil ?_
  repeat (first | refine T_seq ?_ | refine T_block ?_ | refine T_inBlock ?_ | refine T_skip ?_)
  refine T_loopS [4, 3, 0] (fun m vs z => ∃ (i s : Nat), vs = [.int .i64 i, .int .i64 s, .slice a xs.length c] ∧ i ≤ xs.length ∧ m = xs.length - i ∧ s ≤ 65536 ∧ z = w ∧ ∀ j x, j < i → xs[j]? = some x → x.small) xs.length
    ⟨0, xs.length, rfl, by omega, rfl, hx65, rfl, fun j x hj => by omega⟩ ?_
  rintro m vs ρ z ⟨i, s, rfl, hi, rfl, hs65, rfl, hsm⟩ ih
  repeat (first | refine T_seq ?_ | refine T_block ?_ | refine T_inBlock ?_ | refine T_skip ?_)
  refine T_region ?_
  refine L_val _ _ (X_move) rfl ?_
  refine L_val _ _ (X_move) rfl ?_
  refine L_val _ _ (X_lenS U22 rfl) rfl ?_
  refine L_val _ _ (X_cmp rfl rfl rfl) rfl ?_
  refine L_nil ?_
  refine T_if rfl (fun ht => ?_) (fun hf => ?_)
  case refine_2 =>
    have hge : ¬ i < xs.length := by simpa [cmpB] using hf
    refine T_exit rfl ?_
    repeat (first | refine T_seq ?_ | refine T_block ?_ | refine T_inBlock ?_ | refine T_skip ?_)
    refine T_region ?_
    refine L_val _ _ (X_assign) rfl ?_
    refine L_nil ?_
    refine T_ret1 Tryd.func5 rfl ⟨rfl, true, rfl, fun _ x hx => ?_⟩
    obtain ⟨j, hj⟩ := List.getElem?_of_mem hx
    have hjl := (List.getElem?_eq_some_iff.1 hj).1
    exact hsm j x (by omega) hj
  have hlt : i < xs.length := by simpa [cmpB] using ht
  obtain ⟨x, hx⟩ : ∃ x, xs[i]? = some x := ⟨xs[i], List.getElem?_eq_getElem hlt⟩
  obtain ⟨b, o, rfl, hb, hc⟩ := hs.cell i x hx
  have hok := hs.ok x (List.mem_of_getElem? hx)
  have l1 := hok.lK
  have l2 := hok.lV
  have l3 := hok.lD
  have l4 := hok.lA
  refine T_skip ?_
  repeat (first | refine T_seq ?_ | refine T_block ?_ | refine T_inBlock ?_ | refine T_skip ?_)
  refine T_region ?_
  refine L_val _ _ (X_move) rfl ?_
  refine L_val _ _ (X_move) rfl ?_
  refine L_val _ _ (X_move) rfl ?_
  refine L_val _ _ (X_index U22 S28 rfl rfl hlt) rfl ?_
  refine L_val _ _ (X_field F28_2 rfl) rfl ?_
  refine L_val _ _ (X_load A25 rfl ((hc 2 _ rfl))) rfl ?_
  refine L_val _ _ (X_lenS U25 rfl) rfl ?_
  refine L_val _ _ (X_add rfl rfl (by omega) (by omega)) rfl ?_
  refine L_val _ _ (X_assign) rfl ?_
  refine L_nil ?_
  repeat (first | refine T_seq ?_ | refine T_block ?_ | refine T_inBlock ?_ | refine T_skip ?_)
  refine T_region ?_
  refine L_val _ _ (X_move) rfl ?_
  refine L_val _ _ (X_cmp rfl rfl rfl) rfl ?_
  refine L_nil ?_
  refine T_if rfl (fun ht => ?_) (fun hf => ?_)
  · repeat (first | refine T_seq ?_ | refine T_block ?_ | refine T_inBlock ?_ | refine T_skip ?_)
    refine T_region ?_
    refine L_val _ _ (X_assign) rfl ?_
    refine L_nil ?_
    exact T_ret1 Tryd.func5 rfl ⟨rfl, false, rfl, fun h => by cases h⟩
  have s1 : s + x.K.2.1.length ≤ 65536 := by simp [cmpB] at hf; omega
  refine T_skip ?_
  repeat (first | refine T_seq ?_ | refine T_block ?_ | refine T_inBlock ?_ | refine T_skip ?_)
  refine T_region ?_
  refine L_val _ _ (X_move) rfl ?_
  refine L_val _ _ (X_move) rfl ?_
  refine L_val _ _ (X_move) rfl ?_
  refine L_val _ _ (X_index U22 S28 rfl rfl hlt) rfl ?_
  refine L_val _ _ (X_field F28_3 rfl) rfl ?_
  refine L_val _ _ (X_load A25 rfl ((hc 3 _ rfl))) rfl ?_
  refine L_val _ _ (X_lenS U25 rfl) rfl ?_
  refine L_val _ _ (X_add rfl rfl (by omega) (by omega)) rfl ?_
  refine L_val _ _ (X_assign) rfl ?_
  refine L_nil ?_
  repeat (first | refine T_seq ?_ | refine T_block ?_ | refine T_inBlock ?_ | refine T_skip ?_)
  refine T_region ?_
  refine L_val _ _ (X_move) rfl ?_
  refine L_val _ _ (X_cmp rfl rfl rfl) rfl ?_
  refine L_nil ?_
  refine T_if rfl (fun ht => ?_) (fun hf => ?_)
  · repeat (first | refine T_seq ?_ | refine T_block ?_ | refine T_inBlock ?_ | refine T_skip ?_)
    refine T_region ?_
    refine L_val _ _ (X_assign) rfl ?_
    refine L_nil ?_
    exact T_ret1 Tryd.func5 rfl ⟨rfl, false, rfl, fun h => by cases h⟩
  have s2 : s + x.K.2.1.length + x.V.2.1.length ≤ 65536 := by simp [cmpB] at hf; omega
  refine T_skip ?_
  repeat (first | refine T_seq ?_ | refine T_block ?_ | refine T_inBlock ?_ | refine T_skip ?_)
  refine T_region ?_
  refine L_val _ _ (X_move) rfl ?_
  refine L_val _ _ (X_move) rfl ?_
  refine L_val _ _ (X_move) rfl ?_
  refine L_val _ _ (X_index U22 S28 rfl rfl hlt) rfl ?_
  refine L_val _ _ (X_field F28_4 rfl) rfl ?_
  refine L_val _ _ (X_load A25 rfl ((hc 4 _ rfl))) rfl ?_
  refine L_val _ _ (X_lenS U25 rfl) rfl ?_
  refine L_val _ _ (X_add rfl rfl (by omega) (by omega)) rfl ?_
  refine L_val _ _ (X_assign) rfl ?_
  refine L_nil ?_
  repeat (first | refine T_seq ?_ | refine T_block ?_ | refine T_inBlock ?_ | refine T_skip ?_)
  refine T_region ?_
  refine L_val _ _ (X_move) rfl ?_
  refine L_val _ _ (X_cmp rfl rfl rfl) rfl ?_
  refine L_nil ?_
  refine T_if rfl (fun ht => ?_) (fun hf => ?_)
  · repeat (first | refine T_seq ?_ | refine T_block ?_ | refine T_inBlock ?_ | refine T_skip ?_)
    refine T_region ?_
    refine L_val _ _ (X_assign) rfl ?_
    refine L_nil ?_
    exact T_ret1 Tryd.func5 rfl ⟨rfl, false, rfl, fun h => by cases h⟩
  have s3 : s + x.K.2.1.length + x.V.2.1.length + x.D.2.1.length ≤ 65536 := by simp [cmpB] at hf; omega
  refine T_skip ?_
  repeat (first | refine T_seq ?_ | refine T_block ?_ | refine T_inBlock ?_ | refine T_skip ?_)
  refine T_region ?_
  refine L_val _ _ (X_move) rfl ?_
  refine L_val _ _ (X_move) rfl ?_
  refine L_val _ _ (X_move) rfl ?_
  refine L_val _ _ (X_index U22 S28 rfl rfl hlt) rfl ?_
  refine L_val _ _ (X_field F28_5 rfl) rfl ?_
  refine L_val _ _ (X_load A25 rfl ((hc 5 _ rfl))) rfl ?_
  refine L_val _ _ (X_lenS U25 rfl) rfl ?_
  refine L_val _ _ (X_add rfl rfl (by omega) (by omega)) rfl ?_
  refine L_val _ _ (X_assign) rfl ?_
  refine L_nil ?_
  repeat (first | refine T_seq ?_ | refine T_block ?_ | refine T_inBlock ?_ | refine T_skip ?_)
  refine T_region ?_
  refine L_val _ _ (X_move) rfl ?_
  refine L_val _ _ (X_cmp rfl rfl rfl) rfl ?_
  refine L_nil ?_
  refine T_if rfl (fun ht => ?_) (fun hf => ?_)
  · repeat (first | refine T_seq ?_ | refine T_block ?_ | refine T_inBlock ?_ | refine T_skip ?_)
    refine T_region ?_
    refine L_val _ _ (X_assign) rfl ?_
    refine L_nil ?_
    exact T_ret1 Tryd.func5 rfl ⟨rfl, false, rfl, fun h => by cases h⟩
  have s4 : s + x.K.2.1.length + x.V.2.1.length + x.D.2.1.length + x.A.2.1.length ≤ 65536 := by simp [cmpB] at hf; omega
  refine T_skip ?_
  repeat (first | refine T_seq ?_ | refine T_block ?_ | refine T_inBlock ?_ | refine T_skip ?_)
  refine T_region ?_
  refine L_val _ _ (X_move) rfl ?_
  refine L_val _ _ (X_add rfl rfl (by omega) (by omega)) rfl ?_
  refine L_val _ _ (X_assign) rfl ?_
  refine L_nil ?_
  refine ih _ _ _ (by omega) ⟨i + 1, s + x.K.2.1.length + x.V.2.1.length + x.D.2.1.length + x.A.2.1.length, rfl, by omega, rfl, s4, rfl, fun j y hj hy => ?_⟩
  rcases Nat.lt_or_ge j i with h | h
  · exact hsm j y h hy
  · obtain rfl : j = i := by omega
    rw [hx] at hy
    obtain rfl := Option.some.inj hy
    exact ⟨by omega, by omega, by omega, by omega⟩
end Go.Proofs.Qxb6500863aDoor
