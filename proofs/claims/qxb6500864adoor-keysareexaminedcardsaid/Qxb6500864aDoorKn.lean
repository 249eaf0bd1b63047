/-
  token.New, fit, and the codec's three readers.
-/
import Derived.Test.Qxb6500864aDoorKd
namespace Go.Proofs.Qxb6500864aDoor
set_option linter.unusedSimpArgs false
set_option linter.unusedVariables false
open Go.RowKit

theorem made_ints (n : Nat) : madeCells #[Value.int .u8 0] (n * 1) = ((List.replicate n (0 : Int)).map (Value.int .u8)).toArray := by
  apply Array.ext
  · simp [madeCells]
  · intro i h1 h2
    simp [madeCells, Nat.mod_one]
theorem set_ints (bs : List Int) (i : Nat) (x : Int) : (bs.map (Value.int .u8)).toArray.setIfInBounds (0 + i * 1) (.int .u8 x) = ((bs.set i x).map (Value.int .u8)).toArray := by
  have : 0 + i * 1 = i := by omega
  rw [this]
  simp [List.map_set]

set_option maxHeartbeats 4000000 in
/-- tokenlaw.fit -/
theorem fit_ret (a : Option Addr) (c : Nat) (key : List Int) (n : Nat) (w : World) (hA : Arr w a 1 (ints .u8 key)) (hk : key.length ≤ 65536) (hn : n ≤ 64) :
    Ret Tryd.prog 9 #[.slice a key.length c, .int .i64 n] w fun v w' => ∃ (b : Nat) (bs : List Int), v = .slice (some ⟨b, 0, none⟩) n n ∧ bs.length = n ∧ Blk w' b (bs.map (Value.int .u8)).toArray 5 ∧ w.heap.size ≤ b ∧ Below w.heap.size w w' := by
  refine ret_of_T (vs := [.slice a key.length c, .int .i64 n]) Tryd.func9 Tryd.ntmps9 rfl (Nat.le_of_ble_eq_true rfl) ?_
  repeat (first | refine T_seq ?_ | refine T_block ?_ | refine T_inBlock ?_ | refine T_skip ?_)
  refine T_region ?_
  refine L_val _ _ (X_assign) rfl ?_
  refine L_nil ?_
  repeat (first | refine T_seq ?_ | refine T_block ?_ | refine T_inBlock ?_ | refine T_skip ?_)
  refine T_region ?_
  refine L_val _ _ (X_move) rfl ?_
  refine L_make Tryd.underlying25 I5 rfl rfl (Nat.le_refl _) (by omega) (by simp only [maxLen]; omega) rfl fun w1 h1 => ?_
  refine L_val _ _ (X_assign) rfl ?_
  refine L_nil ?_
  have h1' : Blk w1 w.heap.size ((List.replicate n (0 : Int)).map (Value.int .u8)).toArray 5 := by
    have := h1.new
    rw [show (Value.int .u8 0).cells = #[Value.int .u8 0] from rfl, made_ints] at this
    exact this
  have b1 := h1.below (Below.refl _ _) (Nat.le_refl _)
  repeat (first | refine T_seq ?_ | refine T_block ?_ | refine T_inBlock ?_ | refine T_skip ?_)
  refine T_region ?_
  refine L_val _ _ (X_move) rfl ?_
  refine L_val _ _ (X_lenS U25 rfl) rfl ?_
  refine L_val _ _ (X_move) rfl ?_
  refine L_nil ?_
  repeat (first | refine T_seq ?_ | refine T_block ?_ | refine T_inBlock ?_ | refine T_skip ?_)
  refine T_loopS [11, 10, 5, 0] (fun m vs y => ∃ i : Nat, vs = [.int .i64 i, .int .i64 n, .slice (some ⟨w.heap.size, 0, none⟩) n n, .slice a key.length c] ∧ i ≤ n ∧ m = n - i ∧ Below w.heap.size w y ∧ ∃ bs : List Int, bs.length = n ∧ Blk y w.heap.size (bs.map (Value.int .u8)).toArray 5) n ⟨0, rfl, by omega, rfl, b1, _, by simp, h1'⟩ ?_
  rintro m vs ρ y ⟨i, rfl, hi, rfl, by_, bs, hbl, kb⟩ ih
  repeat (first | refine T_seq ?_ | refine T_block ?_ | refine T_inBlock ?_ | refine T_skip ?_)
  refine T_region ?_
  refine L_val _ _ (X_cmp rfl rfl rfl) rfl ?_
  refine L_nil ?_
  repeat (first | refine T_seq ?_ | refine T_block ?_ | refine T_inBlock ?_ | refine T_skip ?_)
  refine T_if rfl (fun ht => ?_) (fun hf => ?_)
  case refine_2 =>
    refine T_exit rfl ?_
    repeat (first | refine T_seq ?_ | refine T_block ?_ | refine T_inBlock ?_ | refine T_skip ?_)
    refine T_region ?_
    refine L_val _ _ (X_move) rfl ?_
    refine L_val _ _ (X_assign) rfl ?_
    refine L_nil ?_
    exact T_ret1 Tryd.func9 rfl ⟨_, bs, rfl, hbl, kb, Nat.le_refl _, by_⟩
  have hlt : i < n := by simpa [cmpB] using ht
  repeat (first | refine T_seq ?_ | refine T_block ?_ | refine T_inBlock ?_ | refine T_skip ?_)
  refine T_region ?_
  refine L_val _ _ (X_move) rfl ?_
  refine L_val _ _ (X_assign) rfl ?_
  refine L_nil ?_
  repeat (first | refine T_seq ?_ | refine T_block ?_ | refine T_inBlock ?_ | refine T_skip ?_)
  refine T_region ?_
  refine L_val _ _ (X_move) rfl ?_
  refine L_val _ _ (X_lenS U25 rfl) rfl ?_
  refine L_val _ _ (X_cmp rfl rfl rfl) rfl ?_
  refine L_nil ?_
  refine T_if rfl (fun ht2 => ?_) (fun hf2 => ?_)
  · have hpos : 0 < key.length := by simpa [cmpB] using ht2
    have hmod : i % key.length < key.length := Nat.mod_lt _ hpos
    have hne : key.length ≠ 0 := by omega
    obtain ⟨b2, o2, rfl, hb2, hc2⟩ := (hA.below by_).cell (i % key.length) [.int .u8 key[i % key.length]] (by simp [ints, hmod])
    have hcell := hc2 0 _ rfl
    generalize key[i % key.length] = x at *
    refine T_region ?_
    refine L_val _ _ (X_move) rfl ?_
    refine L_val _ _ (X_move) rfl ?_
    refine L_val _ _ (X_move) rfl ?_
    refine L_val _ _ (X_move) rfl ?_
    refine L_val _ _ (X_move) rfl ?_
    refine L_val _ _ (X_lenS U25 rfl) rfl ?_
    refine L_val _ _ (X_remN i key.length rfl rfl hne) rfl ?_
    refine L_val _ _ (X_index U25 S5 rfl rfl hmod) rfl ?_
    refine L_val _ _ (X_load A5 rfl (hcell)) rfl ?_
    refine L_val _ _ (X_index U25 S5 rfl rfl hlt) rfl ?_
    refine L_store (.int .u8 x) S5 rfl rfl rfl kb (by simp; omega) fun w3 h3 => ?_
    refine L_nil ?_
    rw [set_ints] at h3
    repeat (first | refine T_seq ?_ | refine T_block ?_ | refine T_inBlock ?_ | refine T_skip ?_)
    refine T_region ?_
    refine L_val _ _ (X_add rfl rfl (by omega) (by omega)) rfl ?_
    refine L_val _ _ (X_move) rfl ?_
    refine L_nil ?_
    exact ih _ _ _ (by omega) ⟨i + 1, rfl, by omega, rfl, h3.below by_ (Nat.le_refl _), _, by simpa using hbl, h3.new⟩
  repeat (first | refine T_seq ?_ | refine T_block ?_ | refine T_inBlock ?_ | refine T_skip ?_)
  refine T_region ?_
  refine L_val _ _ (X_add rfl rfl (by omega) (by omega)) rfl ?_
  refine L_val _ _ (X_move) rfl ?_
  refine L_nil ?_
  exact ih _ _ _ (by omega) ⟨i + 1, rfl, by omega, rfl, by_, bs, hbl, kb⟩

/-- A codec's cells. -/
def ccells (e : Int) (kv : Value) (s : Sz) : List Value := .int .i64 e :: kv :: scells s
theorem szOf_pos {e : Int} (h : (look e).isSome = true) : 16 ≤ (szOf e).1 ∧ (szOf e).1 ≤ 32 := by
  rcases look_cases h with rfl | rfl | rfl | rfl | rfl | rfl | rfl | rfl <;> decide

set_option maxHeartbeats 8000000 in
/-- token.New -/
theorem new_ret (e : Int) (a : Option Addr) (c : Nat) (key : List Int) (w : World) (hG : SupAt w) (hW : 1 < w.heap.size) (hA : Arr w a 1 (ints .u8 key)) (hkl : key.length ≤ 65536) :
    Ret Tryd.prog 5 #[.int .i64 e, .slice a key.length c] w fun v w' => ∃ pv, v = .tuple #[pv, errOf (newErr e key.length)] ∧ Below w.heap.size w w' ∧
      (newErr e key.length ≠ 0 → pv = .pointer none) ∧ (newErr e key.length = 0 → ∃ b kv, pv = .pointer (some ⟨b, 0, none⟩) ∧ w.heap.size ≤ b ∧ Blk w' b (ccells e kv (szOf e)).toArray 52) := by
  refine ret_of_T (vs := [.int .i64 e, .slice a key.length c]) Tryd.func5 Tryd.ntmps5 rfl (Nat.le_of_ble_eq_true rfl) ?_
  have hlk := lookup_ret e w
  repeat (first | refine T_seq ?_ | refine T_block ?_ | refine T_inBlock ?_ | refine T_skip ?_)
  refine T_region ?_
  refine L_val _ _ (X_assign) rfl ?_
  refine L_val _ _ (X_assign) rfl ?_
  refine L_nil ?_
  repeat (first | refine T_seq ?_ | refine T_block ?_ | refine T_inBlock ?_ | refine T_skip ?_)
  refine T_region ?_
  refine L_val _ _ (X_move) rfl ?_
  refine L_callF [.int .i64 e] E8 rfl rfl hlk ?_
  rintro v w1 ⟨rfl, b1⟩
  refine L_val _ _ (X_move) rfl ?_
  refine L_val _ _ (X_extract rfl rfl) rfl ?_
  refine L_val _ _ (X_extract rfl rfl) rfl ?_
  refine L_alloc Z41 rfl fun w2 h2 => ?_
  refine L_storeAll (scells (szOf e)) S41 rfl rfl rfl (scells_one _) h2.new rfl fun w3 h3 => ?_
  refine L_val _ _ (X_assign) rfl ?_
  refine L_nil ?_
  have h23 := h2.trans h3
  have s1 := b1.size
  have s3 := h23.size
  have z3 := h23.lt
  have b3 : Below w.heap.size w w3 := h23.below b1 b1.size
  have k5 : Blk w3 w1.heap.size (scells (szOf e)).toArray 41 := h23.new
  have hG3 : SupAt w3 := fun j v hv => (below_cell b3 _ hW).trans (hG j v hv)
  clear h2 h3 h23
  generalize w1.heap.size = B1 at *
  repeat (first | refine T_seq ?_ | refine T_block ?_ | refine T_inBlock ?_ | refine T_skip ?_)
  cases hk : (look e).isSome with
  | false =>
    have hne : newErr e key.length = 1 := by simp [newErr, hk]
    rw [hne]
    refine T_region ?_
    refine L_val _ _ (X_move) rfl ?_
    refine L_val _ _ (X_not rfl) rfl ?_
    refine L_val _ _ (X_move) rfl ?_
    refine L_passB rfl rfl rfl ?_
    refine L_passB rfl rfl rfl ?_
    refine L_passB rfl rfl rfl ?_
    refine L_val _ _ (X_pick rfl) rfl ?_
    refine L_nil ?_
    refine T_true rfl ?_
    repeat (first | refine T_seq ?_ | refine T_block ?_ | refine T_inBlock ?_ | refine T_skip ?_)
    refine T_region ?_
    refine L_val _ _ (X_mkIface U46 (by simp)) rfl ?_
    refine L_val _ _ (X_assign) rfl ?_
    refine L_val _ _ (X_assign) rfl ?_
    refine L_nil ?_
    exact T_ret2 Tryd.func5 rfl ⟨_, rfl, b3, fun _ => rfl, fun h => by omega⟩
  | true =>
  cases hs : svd e with
  | false =>
    have hne : newErr e key.length = 1 := by simp [newErr, hs]
    rw [hne]
    refine T_region ?_
    refine L_val _ _ (X_move) rfl ?_
    refine L_val _ _ (X_not rfl) rfl ?_
    refine L_val _ _ (X_move) rfl ?_
    refine L_guard rfl rfl rfl ?_
    refine L_val _ _ (X_move) rfl ?_
    refine L_guard rfl rfl rfl ?_
    refine L_callF [.int .i64 e] E10 rfl rfl (sup_ret e w3 hG3) ?_
    rintro v w4 ⟨rfl, rfl⟩
    rw [hs]
    refine L_guard rfl rfl rfl ?_
    refine L_val _ _ (X_not rfl) rfl ?_
    refine L_val _ _ (X_pick rfl) rfl ?_
    refine L_nil ?_
    refine T_true rfl ?_
    repeat (first | refine T_seq ?_ | refine T_block ?_ | refine T_inBlock ?_ | refine T_skip ?_)
    refine T_region ?_
    refine L_val _ _ (X_mkIface U46 (by simp)) rfl ?_
    refine L_val _ _ (X_assign) rfl ?_
    refine L_val _ _ (X_assign) rfl ?_
    refine L_nil ?_
    exact T_ret2 Tryd.func5 rfl ⟨_, rfl, b3, fun _ => rfl, fun h => by omega⟩
  | true =>
  refine T_region ?_
  refine L_val _ _ (X_move) rfl ?_
  refine L_val _ _ (X_not rfl) rfl ?_
  refine L_val _ _ (X_move) rfl ?_
  refine L_guard rfl rfl rfl ?_
  refine L_val _ _ (X_move) rfl ?_
  refine L_guard rfl rfl rfl ?_
  refine L_callF [.int .i64 e] E10 rfl rfl (sup_ret e w3 hG3) ?_
  rintro v w4 ⟨rfl, rfl⟩
  rw [hs]
  refine L_guard rfl rfl rfl ?_
  refine L_val _ _ (X_not rfl) rfl ?_
  refine L_val _ _ (X_pick rfl) rfl ?_
  refine L_nil ?_
  refine T_false rfl ?_
  repeat (first | refine T_seq ?_ | refine T_block ?_ | refine T_inBlock ?_ | refine T_skip ?_)
  refine T_region ?_
  refine L_val _ _ (X_move) rfl ?_
  refine L_val _ _ (X_lenS U25 rfl) rfl ?_
  refine L_val _ _ (X_field F41_0 rfl) rfl ?_
  refine L_val _ _ (X_load A3 rfl (gblk k5 0 rfl)) rfl ?_
  refine L_val _ _ (X_cmp rfl rfl rfl) rfl ?_
  refine L_nil ?_
  refine T_if rfl (fun ht => ?_) (fun hf => ?_)
  · have hl : key.length ≠ (szOf e).1 := by simp [cmpB] at ht; omega
    have hne : newErr e key.length = 2 := by simp [newErr, hk, hs, hl]
    rw [hne]
    repeat (first | refine T_seq ?_ | refine T_block ?_ | refine T_inBlock ?_ | refine T_skip ?_)
    refine T_region ?_
    refine L_val _ _ (X_mkIface U46 (by simp)) rfl ?_
    refine L_val _ _ (X_assign) rfl ?_
    refine L_val _ _ (X_assign) rfl ?_
    refine L_nil ?_
    exact T_ret2 Tryd.func5 rfl ⟨_, rfl, b3, fun _ => rfl, fun h => by omega⟩
  have hl : key.length = (szOf e).1 := by simp [cmpB] at hf; omega
  have hne : newErr e key.length = 0 := by simp [newErr, hk, hs, ← hl]
  have hsz := szOf_pos hk
  rw [hne]
  obtain ⟨b2, o2, rfl, hb2, _⟩ := hA.cell 0 [.int .u8 (key[0]'(by omega))] (by simp [ints] <;> omega)
  repeat (first | refine T_seq ?_ | refine T_block ?_ | refine T_inBlock ?_ | refine T_skip ?_)
  refine T_region ?_
  refine L_val _ _ (X_move) rfl ?_
  refine L_val _ _ (X_lenS U25 rfl) rfl ?_
  refine L_make Tryd.underlying25 I5 rfl rfl (Nat.le_refl _) (by omega) (by simp only [maxLen]; omega) rfl fun w5 h5 => ?_
  refine L_val _ _ (X_assign) rfl ?_
  refine L_nil ?_
  have b5 : Below w.heap.size w w5 := h5.below b3 (by omega)
  have s5 := h5.size
  have z5 := h5.lt
  have k55 := h5.blk k5 (by omega)
  have kk := h5.new
  have hsrc : ∀ j v, (key.map (Value.int .u8))[j]? = some v → w5.cell? ⟨b2, o2 + j, none⟩ = some v := by
    intro j v hv
    simp only [List.getElem?_map, Option.map_eq_some_iff] at hv
    obtain ⟨x, hx, rfl⟩ := hv
    obtain ⟨b', o', he', _, hc'⟩ := (hA.below b5).cell j [.int .u8 x] (by simp [ints, hx])
    cases he'
    have := hc' 0 _ rfl
    simpa using this
  repeat (first | refine T_seq ?_ | refine T_block ?_ | refine T_inBlock ?_ | refine T_skip ?_)
  refine T_region ?_
  refine L_val _ _ (X_move) rfl ?_
  refine L_val _ _ (X_move) rfl ?_
  refine L_copy (key.map (Value.int .u8)) U25 S5 rfl rfl kk (by simp [size_madeCells]) (by simp) hsrc (by simp [Value.oneCell']) rfl fun w6 h6 => ?_
  refine L_nil ?_
  have s6 := h6.size
  have k56 := h6.blk k55 (by omega)
  have b6 : Below w.heap.size w w6 := h6.below b5 (by omega)
  repeat (first | refine T_seq ?_ | refine T_block ?_ | refine T_inBlock ?_ | refine T_skip ?_)
  refine T_region ?_
  refine L_val _ _ (X_move) rfl ?_
  refine L_val _ _ (X_move) rfl ?_
  refine L_val _ _ (X_build (.agg #[.int .i64 e, .slice (some ⟨w3.heap.size, 0, none⟩) key.length key.length]) (by kernel_rfl)) rfl ?_
  refine L_val _ _ (X_loadAgg (scells (szOf e)) A41 S41 rfl rfl (gblk0 k56)) rfl ?_
  refine L_val _ _ (X_build (.agg (ccells e (.slice (some ⟨w3.heap.size, 0, none⟩) key.length key.length) (szOf e)).toArray) (by kernel_rfl)) rfl ?_
  refine L_box rfl fun w7 h7 => ?_
  refine L_val _ _ (X_assign) rfl ?_
  refine L_val _ _ (X_assign) rfl ?_
  refine L_nil ?_
  exact T_ret2 Tryd.func5 rfl ⟨_, rfl, h7.below b6 (by omega), fun h => absurd rfl h, fun _ => ⟨_, _, rfl, by omega, h7.new⟩⟩

theorem etype_ret (e : Int) (kv : Value) (s : Sz) (b : Nat) (w : World) (hb : Blk w b (ccells e kv s).toArray 52) : Ret Tryd.prog 11 #[.pointer (some ⟨b, 0, none⟩)] w fun v w' => v = .int .i64 e ∧ w = w' := by
  refine ret_of_T (vs := [.pointer (some ⟨b, 0, none⟩)]) Tryd.func11 Tryd.ntmps11 rfl (Nat.le_of_ble_eq_true rfl) ?_
  repeat (first | refine T_seq ?_ | refine T_block ?_ | refine T_inBlock ?_ | refine T_skip ?_)
  refine T_region ?_
  refine L_val _ _ (X_assign) rfl ?_
  refine L_nil ?_
  repeat (first | refine T_seq ?_ | refine T_block ?_ | refine T_inBlock ?_ | refine T_skip ?_)
  refine T_region ?_
  refine L_val _ _ (X_move) rfl ?_
  refine L_val _ _ (X_nilCheck rfl) rfl ?_
  refine L_val _ _ (X_field F52_0 rfl) rfl ?_
  refine L_val _ _ (X_field F50_0 rfl) rfl ?_
  refine L_val _ _ (X_load A3 rfl (gblk hb 0 rfl)) rfl ?_
  refine L_val _ _ (X_assign) rfl ?_
  refine L_nil ?_
  exact T_ret1 Tryd.func11 rfl ⟨rfl, rfl⟩
theorem sum_ret (e : Int) (kv : Value) (s : Sz) (b : Nat) (w : World) (hb : Blk w b (ccells e kv s).toArray 52) : Ret Tryd.prog 12 #[.pointer (some ⟨b, 0, none⟩)] w fun v w' => v = .int .i64 s.2.2.2 ∧ w = w' := by
  refine ret_of_T (vs := [.pointer (some ⟨b, 0, none⟩)]) Tryd.func12 Tryd.ntmps12 rfl (Nat.le_of_ble_eq_true rfl) ?_
  repeat (first | refine T_seq ?_ | refine T_block ?_ | refine T_inBlock ?_ | refine T_skip ?_)
  refine T_region ?_
  refine L_val _ _ (X_assign) rfl ?_
  refine L_nil ?_
  repeat (first | refine T_seq ?_ | refine T_block ?_ | refine T_inBlock ?_ | refine T_skip ?_)
  refine T_region ?_
  refine L_val _ _ (X_move) rfl ?_
  refine L_val _ _ (X_nilCheck rfl) rfl ?_
  refine L_val _ _ (X_field F52_1 rfl) rfl ?_
  refine L_val _ _ (X_field F41_3 rfl) rfl ?_
  refine L_val _ _ (X_load A3 rfl (gblk hb 5 rfl)) rfl ?_
  refine L_val _ _ (X_assign) rfl ?_
  refine L_nil ?_
  exact T_ret1 Tryd.func12 rfl ⟨rfl, rfl⟩
theorem conf_ret (e : Int) (kv : Value) (s : Sz) (b : Nat) (w : World) (hb : Blk w b (ccells e kv s).toArray 52) : Ret Tryd.prog 13 #[.pointer (some ⟨b, 0, none⟩)] w fun v w' => v = .int .i64 s.2.1 ∧ w = w' := by
  refine ret_of_T (vs := [.pointer (some ⟨b, 0, none⟩)]) Tryd.func13 Tryd.ntmps13 rfl (Nat.le_of_ble_eq_true rfl) ?_
  repeat (first | refine T_seq ?_ | refine T_block ?_ | refine T_inBlock ?_ | refine T_skip ?_)
  refine T_region ?_
  refine L_val _ _ (X_assign) rfl ?_
  refine L_nil ?_
  repeat (first | refine T_seq ?_ | refine T_block ?_ | refine T_inBlock ?_ | refine T_skip ?_)
  refine T_region ?_
  refine L_val _ _ (X_move) rfl ?_
  refine L_val _ _ (X_nilCheck rfl) rfl ?_
  refine L_val _ _ (X_field F52_1 rfl) rfl ?_
  refine L_val _ _ (X_field F41_1 rfl) rfl ?_
  refine L_val _ _ (X_load A3 rfl (gblk hb 3 rfl)) rfl ?_
  refine L_val _ _ (X_assign) rfl ?_
  refine L_nil ?_
  exact T_ret1 Tryd.func13 rfl ⟨rfl, rfl⟩
end Go.Proofs.Qxb6500864aDoor
