/-
  KeysAreExamined: the data in plain words, and the small functions.
-/
import Derived.Test.Qxb6500864aDoorFa
import Derived.Test.Qxb6500864aDoorWk6
namespace Go.Proofs.Qxb6500864aDoor
set_option linter.unusedSimpArgs false
set_option linter.unusedVariables false
open Go.RowKit

/-- The elements of a slice, each a list of 'sz' cells, lie in memory. -/
structure Arr (w : World) (a : Option Addr) (sz : Nat) (css : List (List Value)) : Prop where
  cell : ∀ i cs, css[i]? = some cs → ∃ b o, a = some ⟨b, o, none⟩ ∧ b < w.heap.size ∧ ∀ j x, cs[j]? = some x → w.cell? ⟨b, o + i * sz + j, none⟩ = some x
theorem Arr.below {w w' : World} {a : Option Addr} {sz : Nat} {css : List (List Value)} (h : Arr w a sz css) (hb : Below w.heap.size w w') : Arr w' a sz css :=
  ⟨fun i cs hi => let ⟨b, o, ha, hbb, hc⟩ := h.cell i cs hi; ⟨b, o, ha, Nat.lt_of_lt_of_le hbb hb.size, fun j x hx => (below_cell hb _ hbb).trans (hc j x hx)⟩⟩
def ints (q : IntKind) (l : List Int) : List (List Value) := l.map fun x => [.int q x]
theorem below_blk {B : Nat} {w w' : World} {k : Nat} {c : Array Value} {t : TypeId} (h : Below B w w') (hb : Blk w k c t) (hk : k < B) : Blk w' k c t := (h.block k hk).trans hb
theorem gblk {w : World} {b : Nat} {cs : List Value} {t : TypeId} (h : Blk w b cs.toArray t) (i : Nat) {v : Value} (hv : cs[i]? = some v) : w.cell? ⟨b, i, none⟩ = some v := by
  rw [h.cell]; simpa using hv
theorem gblk0 {w : World} {b : Nat} {cs : List Value} {t : TypeId} (h : Blk w b cs.toArray t) : ∀ j v, cs[j]? = some v → w.cell? ⟨b, 0 + j, none⟩ = some v := by
  intro j v hv
  rw [Nat.zero_add]
  exact gblk h j hv
/-- Bytes in a block of their own are an array. -/
theorem arr_of_blk {w : World} {b : Nat} {bs : List Int} {t : TypeId} (h : Blk w b (bs.map (Value.int .u8)).toArray t) : Arr w (some ⟨b, 0, none⟩) 1 (ints .u8 bs) := by
  refine ⟨fun i cs hi => ⟨b, 0, rfl, h.lt, fun j x hx => ?_⟩⟩
  simp only [ints, List.getElem?_map, Option.map_eq_some_iff] at hi
  obtain ⟨y, hy, rfl⟩ := hi
  have hj : j = 0 := by
    have := (List.getElem?_eq_some_iff.1 hx).1
    simp at this
    exact this
  subst hj
  simp at hx
  subst hx
  have e : 0 + i * 1 + 0 = i := by omega
  rw [e]
  exact gblk h i (by simp [hy])

abbrev Sz := Nat × Nat × Nat × Nat
def look (e : Int) : Option Sz :=
  if e = 16 then some (24, 8, 8, 20)
  else if e = 17 then some (16, 16, 1, 12)
  else if e = 18 then some (32, 16, 1, 12)
  else if e = 19 then some (16, 16, 1, 16)
  else if e = 20 then some (32, 16, 1, 24)
  else if e = 23 then some (16, 8, 1, 16)
  else if e = 25 then some (16, 16, 1, 16)
  else if e = 26 then some (32, 16, 1, 16)
  else none
def szOf (e : Int) : Sz := (look e).getD (0, 0, 0, 0)
def scells (s : Sz) : List Value := [.int .i64 s.1, .int .i64 s.2.1, .int .i64 s.2.2.1, .int .i64 s.2.2.2]
theorem scells_one (s : Sz) : ∀ v ∈ scells s, v.oneCell' = true := by simp [scells, Value.oneCell']
theorem look_cases {e : Int} (h : (look e).isSome = true) : e = 16 ∨ e = 17 ∨ e = 18 ∨ e = 19 ∨ e = 20 ∨ e = 23 ∨ e = 25 ∨ e = 26 := by
  unfold look at h
  repeat (split at h; · omega)
  simp at h
def svl : List Int := [17, 18, 19, 20, 25, 26]
def svd (e : Int) : Bool := svl.contains e
def svals : List Value := svl.map (Value.int .i64)
theorem svd_known {e : Int} (h : (look e).isSome = true) (h16 : e ≠ 16) (h23 : e ≠ 23) : svd e = true := by
  rcases look_cases h with rfl | rfl | rfl | rfl | rfl | rfl | rfl | rfl <;> first | rfl | (exact absurd rfl h16) | (exact absurd rfl h23)
/-- What token.New answers: 0: a codec; 1: ErrEnctype; 2: ErrKeyLength. -/
def newErr (e : Int) (l : Nat) : Nat := if (look e).isSome = true ∧ svd e = true then (if l = (szOf e).1 then 0 else 2) else 1

set_option maxHeartbeats 4000000 in
/-- profilem.Lookup -/
theorem lookup_ret (e : Int) (w : World) :
    Ret Tryd.prog 8 #[.int .i64 e] w fun v w' => v = .tuple #[.agg (scells (szOf e)).toArray, .bool (look e).isSome] ∧ Below w.heap.size w w' := by
  refine ret_of_T (vs := [.int .i64 e]) Tryd.func8 Tryd.ntmps8 rfl (Nat.le_of_ble_eq_true rfl) ?_
  repeat (first | refine T_seq ?_ | refine T_block ?_ | refine T_inBlock ?_ | refine T_skip ?_)
  refine T_region ?_
  refine L_alloc Z41 rfl fun w1 h1 => ?_
  refine L_val _ _ (X_assign) rfl ?_
  refine L_nil ?_
  have b1 := h1.below (Below.refl _ _) (Nat.le_refl _)
  have k1 : Blk w1 w.heap.size (scells (0, 0, 0, 0)).toArray 41 := h1.new
  repeat (first | refine T_seq ?_ | refine T_block ?_ | refine T_inBlock ?_ | refine T_skip ?_)
  refine T_region ?_
  refine L_val _ _ (X_move) rfl ?_
  refine L_nil ?_
  repeat (first | refine T_seq ?_ | refine T_block ?_ | refine T_inBlock ?_ | refine T_skip ?_)
  refine T_region ?_
  refine L_val _ _ (X_cmp rfl rfl rfl) rfl ?_
  refine L_val _ _ (X_assign) rfl ?_
  refine L_nil ?_
  refine T_if rfl (fun hA => ?_) (fun hB => ?_)
  · have he : e = 16 := by simpa [cmpB] using hA
    subst he
    repeat (first | refine T_seq ?_ | refine T_block ?_ | refine T_inBlock ?_ | refine T_skip ?_)
    refine T_region ?_
    refine L_val _ _ (X_build (.agg (scells (24, 8, 8, 20)).toArray) (by kernel_rfl)) rfl ?_
    refine L_storeAll (scells (24, 8, 8, 20)) S41 rfl rfl rfl (scells_one _) k1 rfl fun w2 h2 => ?_
    refine L_val _ _ (X_assign) rfl ?_
    refine L_nil ?_
    exact T_retCT (scells (24, 8, 8, 20)) Tryd.func8 rfl A41 S41 rfl rfl (gblk0 h2.new) ⟨rfl, h2.below b1 (Nat.le_refl _)⟩
  have n16 : e ≠ 16 := by simpa [cmpB] using hB
  repeat (first | refine T_seq ?_ | refine T_block ?_ | refine T_inBlock ?_ | refine T_skip ?_)
  refine T_region ?_
  refine L_val _ _ (X_cmp rfl rfl rfl) rfl ?_
  refine L_val _ _ (X_assign) rfl ?_
  refine L_nil ?_
  refine T_if rfl (fun hA => ?_) (fun hB => ?_)
  · have he : e = 17 := by simpa [cmpB] using hA
    subst he
    repeat (first | refine T_seq ?_ | refine T_block ?_ | refine T_inBlock ?_ | refine T_skip ?_)
    refine T_region ?_
    refine L_val _ _ (X_build (.agg (scells (16, 16, 1, 12)).toArray) (by kernel_rfl)) rfl ?_
    refine L_storeAll (scells (16, 16, 1, 12)) S41 rfl rfl rfl (scells_one _) k1 rfl fun w2 h2 => ?_
    refine L_val _ _ (X_assign) rfl ?_
    refine L_nil ?_
    exact T_retCT (scells (16, 16, 1, 12)) Tryd.func8 rfl A41 S41 rfl rfl (gblk0 h2.new) ⟨rfl, h2.below b1 (Nat.le_refl _)⟩
  have n17 : e ≠ 17 := by simpa [cmpB] using hB
  repeat (first | refine T_seq ?_ | refine T_block ?_ | refine T_inBlock ?_ | refine T_skip ?_)
  refine T_region ?_
  refine L_val _ _ (X_cmp rfl rfl rfl) rfl ?_
  refine L_val _ _ (X_assign) rfl ?_
  refine L_nil ?_
  refine T_if rfl (fun hA => ?_) (fun hB => ?_)
  · have he : e = 18 := by simpa [cmpB] using hA
    subst he
    repeat (first | refine T_seq ?_ | refine T_block ?_ | refine T_inBlock ?_ | refine T_skip ?_)
    refine T_region ?_
    refine L_val _ _ (X_build (.agg (scells (32, 16, 1, 12)).toArray) (by kernel_rfl)) rfl ?_
    refine L_storeAll (scells (32, 16, 1, 12)) S41 rfl rfl rfl (scells_one _) k1 rfl fun w2 h2 => ?_
    refine L_val _ _ (X_assign) rfl ?_
    refine L_nil ?_
    exact T_retCT (scells (32, 16, 1, 12)) Tryd.func8 rfl A41 S41 rfl rfl (gblk0 h2.new) ⟨rfl, h2.below b1 (Nat.le_refl _)⟩
  have n18 : e ≠ 18 := by simpa [cmpB] using hB
  repeat (first | refine T_seq ?_ | refine T_block ?_ | refine T_inBlock ?_ | refine T_skip ?_)
  refine T_region ?_
  refine L_val _ _ (X_cmp rfl rfl rfl) rfl ?_
  refine L_val _ _ (X_assign) rfl ?_
  refine L_nil ?_
  refine T_if rfl (fun hA => ?_) (fun hB => ?_)
  · have he : e = 19 := by simpa [cmpB] using hA
    subst he
    repeat (first | refine T_seq ?_ | refine T_block ?_ | refine T_inBlock ?_ | refine T_skip ?_)
    refine T_region ?_
    refine L_val _ _ (X_build (.agg (scells (16, 16, 1, 16)).toArray) (by kernel_rfl)) rfl ?_
    refine L_storeAll (scells (16, 16, 1, 16)) S41 rfl rfl rfl (scells_one _) k1 rfl fun w2 h2 => ?_
    refine L_val _ _ (X_assign) rfl ?_
    refine L_nil ?_
    exact T_retCT (scells (16, 16, 1, 16)) Tryd.func8 rfl A41 S41 rfl rfl (gblk0 h2.new) ⟨rfl, h2.below b1 (Nat.le_refl _)⟩
  have n19 : e ≠ 19 := by simpa [cmpB] using hB
  repeat (first | refine T_seq ?_ | refine T_block ?_ | refine T_inBlock ?_ | refine T_skip ?_)
  refine T_region ?_
  refine L_val _ _ (X_cmp rfl rfl rfl) rfl ?_
  refine L_val _ _ (X_assign) rfl ?_
  refine L_nil ?_
  refine T_if rfl (fun hA => ?_) (fun hB => ?_)
  · have he : e = 20 := by simpa [cmpB] using hA
    subst he
    repeat (first | refine T_seq ?_ | refine T_block ?_ | refine T_inBlock ?_ | refine T_skip ?_)
    refine T_region ?_
    refine L_val _ _ (X_build (.agg (scells (32, 16, 1, 24)).toArray) (by kernel_rfl)) rfl ?_
    refine L_storeAll (scells (32, 16, 1, 24)) S41 rfl rfl rfl (scells_one _) k1 rfl fun w2 h2 => ?_
    refine L_val _ _ (X_assign) rfl ?_
    refine L_nil ?_
    exact T_retCT (scells (32, 16, 1, 24)) Tryd.func8 rfl A41 S41 rfl rfl (gblk0 h2.new) ⟨rfl, h2.below b1 (Nat.le_refl _)⟩
  have n20 : e ≠ 20 := by simpa [cmpB] using hB
  repeat (first | refine T_seq ?_ | refine T_block ?_ | refine T_inBlock ?_ | refine T_skip ?_)
  refine T_region ?_
  refine L_val _ _ (X_cmp rfl rfl rfl) rfl ?_
  refine L_val _ _ (X_assign) rfl ?_
  refine L_nil ?_
  refine T_if rfl (fun hA => ?_) (fun hB => ?_)
  · have he : e = 23 := by simpa [cmpB] using hA
    subst he
    repeat (first | refine T_seq ?_ | refine T_block ?_ | refine T_inBlock ?_ | refine T_skip ?_)
    refine T_region ?_
    refine L_val _ _ (X_build (.agg (scells (16, 8, 1, 16)).toArray) (by kernel_rfl)) rfl ?_
    refine L_storeAll (scells (16, 8, 1, 16)) S41 rfl rfl rfl (scells_one _) k1 rfl fun w2 h2 => ?_
    refine L_val _ _ (X_assign) rfl ?_
    refine L_nil ?_
    exact T_retCT (scells (16, 8, 1, 16)) Tryd.func8 rfl A41 S41 rfl rfl (gblk0 h2.new) ⟨rfl, h2.below b1 (Nat.le_refl _)⟩
  have n23 : e ≠ 23 := by simpa [cmpB] using hB
  repeat (first | refine T_seq ?_ | refine T_block ?_ | refine T_inBlock ?_ | refine T_skip ?_)
  refine T_region ?_
  refine L_val _ _ (X_cmp rfl rfl rfl) rfl ?_
  refine L_val _ _ (X_assign) rfl ?_
  refine L_nil ?_
  refine T_if rfl (fun hA => ?_) (fun hB => ?_)
  · have he : e = 25 := by simpa [cmpB] using hA
    subst he
    repeat (first | refine T_seq ?_ | refine T_block ?_ | refine T_inBlock ?_ | refine T_skip ?_)
    refine T_region ?_
    refine L_val _ _ (X_build (.agg (scells (16, 16, 1, 16)).toArray) (by kernel_rfl)) rfl ?_
    refine L_storeAll (scells (16, 16, 1, 16)) S41 rfl rfl rfl (scells_one _) k1 rfl fun w2 h2 => ?_
    refine L_val _ _ (X_assign) rfl ?_
    refine L_nil ?_
    exact T_retCT (scells (16, 16, 1, 16)) Tryd.func8 rfl A41 S41 rfl rfl (gblk0 h2.new) ⟨rfl, h2.below b1 (Nat.le_refl _)⟩
  have n25 : e ≠ 25 := by simpa [cmpB] using hB
  repeat (first | refine T_seq ?_ | refine T_block ?_ | refine T_inBlock ?_ | refine T_skip ?_)
  refine T_region ?_
  refine L_val _ _ (X_cmp rfl rfl rfl) rfl ?_
  refine L_val _ _ (X_assign) rfl ?_
  refine L_nil ?_
  refine T_if rfl (fun hA => ?_) (fun hB => ?_)
  · have he : e = 26 := by simpa [cmpB] using hA
    subst he
    repeat (first | refine T_seq ?_ | refine T_block ?_ | refine T_inBlock ?_ | refine T_skip ?_)
    refine T_region ?_
    refine L_val _ _ (X_build (.agg (scells (32, 16, 1, 16)).toArray) (by kernel_rfl)) rfl ?_
    refine L_storeAll (scells (32, 16, 1, 16)) S41 rfl rfl rfl (scells_one _) k1 rfl fun w2 h2 => ?_
    refine L_val _ _ (X_assign) rfl ?_
    refine L_nil ?_
    exact T_retCT (scells (32, 16, 1, 16)) Tryd.func8 rfl A41 S41 rfl rfl (gblk0 h2.new) ⟨rfl, h2.below b1 (Nat.le_refl _)⟩
  have n26 : e ≠ 26 := by simpa [cmpB] using hB
  have hl : look e = none := by simp [look, n16, n17, n18, n19, n20, n23, n25, n26]
  repeat (first | refine T_seq ?_ | refine T_block ?_ | refine T_inBlock ?_ | refine T_skip ?_)
  refine T_region ?_
  refine L_val _ _ (X_build (.agg (scells (0, 0, 0, 0)).toArray) (by kernel_rfl)) rfl ?_
  refine L_storeAll (scells (0, 0, 0, 0)) S41 rfl rfl rfl (scells_one _) k1 rfl fun w2 h2 => ?_
  refine L_val _ _ (X_assign) rfl ?_
  refine L_nil ?_
  exact T_retCT (scells (0, 0, 0, 0)) Tryd.func8 rfl A41 S41 rfl rfl (gblk0 h2.new) ⟨by rw [szOf, hl]; rfl, h2.below b1 (Nat.le_refl _)⟩

/-- What package token's table holds. -/
def SupAt (w : World) : Prop := ∀ j v, svals[j]? = some v → w.cell? ⟨1, 0 + j, none⟩ = some v
set_option maxHeartbeats 4000000 in
/-- token.Supported -/
theorem sup_ret (e : Int) (w : World) (hG : SupAt w) : Ret Tryd.prog 10 #[.int .i64 e] w fun v w' => v = .bool (svd e) ∧ w = w' := by
  refine ret_of_T (vs := [.int .i64 e]) Tryd.func10 Tryd.ntmps10 rfl (Nat.le_of_ble_eq_true rfl) ?_
  repeat (first | refine T_seq ?_ | refine T_block ?_ | refine T_inBlock ?_ | refine T_skip ?_)
  refine T_region ?_
  refine L_val _ _ (X_assign) rfl ?_
  refine L_nil ?_
  repeat (first | refine T_seq ?_ | refine T_block ?_ | refine T_inBlock ?_ | refine T_skip ?_)
  refine T_region ?_
  refine L_val _ _ (X_loadAgg svals A53 S53 rfl rfl hG) rfl ?_
  refine L_val _ _ (X_move) rfl ?_
  refine L_nil ?_
  repeat (first | refine T_seq ?_ | refine T_block ?_ | refine T_inBlock ?_ | refine T_skip ?_)
  refine T_loopS [6, 5, 0] (fun m vs y => ∃ i : Nat, vs = [.int .i64 i, .agg svals.toArray, .int .i64 e] ∧ i ≤ 6 ∧ m = 6 - i ∧ w = y ∧ ∀ (j : Nat) x, j < i → svl[j]? = some x → x ≠ e) 6 ⟨0, rfl, by omega, rfl, rfl, fun j x h => by omega⟩ ?_
  rintro m vs ρ y ⟨i, rfl, hi, rfl, rfl, hno⟩ ih
  repeat (first | refine T_seq ?_ | refine T_block ?_ | refine T_inBlock ?_ | refine T_skip ?_)
  refine T_region ?_
  refine L_val _ _ (X_cmp rfl rfl rfl) rfl ?_
  refine L_nil ?_
  repeat (first | refine T_seq ?_ | refine T_block ?_ | refine T_inBlock ?_ | refine T_skip ?_)
  refine T_if rfl (fun ht => ?_) (fun hf => ?_)
  case refine_2 =>
    have hge : i = 6 := by simp [cmpB] at hf; omega
    refine T_exit rfl ?_
    repeat (first | refine T_seq ?_ | refine T_block ?_ | refine T_inBlock ?_ | refine T_skip ?_)
    refine T_region ?_
    refine L_val _ _ (X_assign) rfl ?_
    refine L_nil ?_
    refine T_ret1 Tryd.func10 rfl ⟨?_, rfl⟩
    have : svd e = false := by
      rw [svd, List.contains_eq_mem, decide_eq_false_iff_not]
      intro hm
      obtain ⟨j, hj⟩ := List.getElem?_of_mem hm
      have hjl := (List.getElem?_eq_some_iff.1 hj).1
      simp [svl] at hjl
      exact hno j e (by omega) hj rfl
    rw [this]
    rfl
  have hlt : i < 6 := by simp [cmpB] at ht; omega
  have hg : svl[i]? = some svl[i] := by simp [svl]
  have hv : svals.toArray[i]? = some (.int .i64 svl[i]) := by simp [svals, hg]
  generalize svl[i] = x at *
  repeat (first | refine T_seq ?_ | refine T_block ?_ | refine T_inBlock ?_ | refine T_skip ?_)
  refine T_region ?_
  refine L_val _ _ (X_idx U53 S3 A3 rfl rfl hlt hv) rfl ?_
  refine L_val _ _ (X_assign) rfl ?_
  refine L_nil ?_
  repeat (first | refine T_seq ?_ | refine T_block ?_ | refine T_inBlock ?_ | refine T_skip ?_)
  refine T_region ?_
  refine L_val _ _ (X_move) rfl ?_
  refine L_val _ _ (X_move) rfl ?_
  refine L_val _ _ (X_cmp rfl rfl rfl) rfl ?_
  refine L_nil ?_
  refine T_if rfl (fun ht2 => ?_) (fun hf2 => ?_)
  · have he : e = x := by simpa [cmpB] using ht2
    repeat (first | refine T_seq ?_ | refine T_block ?_ | refine T_inBlock ?_ | refine T_skip ?_)
    refine T_region ?_
    refine L_val _ _ (X_assign) rfl ?_
    refine L_nil ?_
    refine T_ret1 Tryd.func10 rfl ⟨?_, rfl⟩
    have : svd e = true := by
      rw [svd, List.contains_eq_mem, decide_eq_true_iff, he]
      exact List.mem_of_getElem? hg
    rw [this]
    rfl
  have he : e ≠ x := by simpa [cmpB] using hf2
  repeat (first | refine T_seq ?_ | refine T_block ?_ | refine T_inBlock ?_ | refine T_skip ?_)
  refine T_region ?_
  refine L_val _ _ (X_add rfl rfl (by omega) (by omega)) rfl ?_
  refine L_val _ _ (X_move) rfl ?_
  refine L_nil ?_
  refine ih _ _ _ (by omega) ⟨i + 1, rfl, by omega, rfl, rfl, ?_⟩
  intro j z hj hz
  rcases Nat.lt_succ_iff_lt_or_eq.1 hj with h | rfl
  · exact hno j z h hz
  · rw [hg] at hz
    cases hz
    exact Ne.symm he

/-- status of nil -/
theorem status_nil (w : World) : Ret Tryd.prog 6 #[.nilIface] w fun v w' => v = .int .i64 0 ∧ w = w' := by
  refine ret_of_T (vs := [.nilIface]) Tryd.func6 Tryd.ntmps6 rfl (Nat.le_of_ble_eq_true rfl) ?_
  repeat (first | refine T_seq ?_ | refine T_block ?_ | refine T_inBlock ?_ | refine T_skip ?_)
  refine T_region ?_
  refine L_val _ _ (X_assign) rfl ?_
  refine L_nil ?_
  repeat (first | refine T_seq ?_ | refine T_block ?_ | refine T_inBlock ?_ | refine T_skip ?_)
  refine T_region ?_
  refine L_val _ _ (X_move) rfl ?_
  refine L_nil ?_
  repeat (first | refine T_seq ?_ | refine T_block ?_ | refine T_inBlock ?_ | refine T_skip ?_)
  refine T_region ?_
  refine L_val _ _ (X_eq (b := true) (by kernel_rfl)) rfl ?_
  refine L_val _ _ (X_assign) rfl ?_
  refine L_nil ?_
  refine T_true rfl ?_
  repeat (first | refine T_seq ?_ | refine T_block ?_ | refine T_inBlock ?_ | refine T_skip ?_)
  refine T_region ?_
  refine L_val _ _ (X_assign) rfl ?_
  refine L_nil ?_
  exact T_ret1 Tryd.func6 rfl ⟨rfl, rfl⟩

/-- status of et -/
theorem status_et (w : World) : Ret Tryd.prog 6 #[.iface 46 (.int .i64 1)] w fun v w' => v = .int .i64 3 ∧ w = w' := by
  refine ret_of_T (vs := [.iface 46 (.int .i64 1)]) Tryd.func6 Tryd.ntmps6 rfl (Nat.le_of_ble_eq_true rfl) ?_
  repeat (first | refine T_seq ?_ | refine T_block ?_ | refine T_inBlock ?_ | refine T_skip ?_)
  refine T_region ?_
  refine L_val _ _ (X_assign) rfl ?_
  refine L_nil ?_
  repeat (first | refine T_seq ?_ | refine T_block ?_ | refine T_inBlock ?_ | refine T_skip ?_)
  refine T_region ?_
  refine L_val _ _ (X_move) rfl ?_
  refine L_nil ?_
  repeat (first | refine T_seq ?_ | refine T_block ?_ | refine T_inBlock ?_ | refine T_skip ?_)
  refine T_region ?_
  refine L_val _ _ (X_eq (b := false) (by kernel_rfl)) rfl ?_
  refine L_val _ _ (X_assign) rfl ?_
  refine L_nil ?_
  refine T_false rfl ?_
  repeat (first | refine T_seq ?_ | refine T_block ?_ | refine T_inBlock ?_ | refine T_skip ?_)
  refine T_region ?_
  refine L_val _ _ (X_mkIface U46 (by simp)) rfl ?_
  refine L_val _ _ (X_eq (b := true) (by kernel_rfl)) rfl ?_
  refine L_val _ _ (X_assign) rfl ?_
  refine L_nil ?_
  refine T_true rfl ?_
  repeat (first | refine T_seq ?_ | refine T_block ?_ | refine T_inBlock ?_ | refine T_skip ?_)
  refine T_region ?_
  refine L_val _ _ (X_assign) rfl ?_
  refine L_nil ?_
  exact T_ret1 Tryd.func6 rfl ⟨rfl, rfl⟩

/-- status of kl -/
theorem status_kl (w : World) : Ret Tryd.prog 6 #[.iface 46 (.int .i64 2)] w fun v w' => v = .int .i64 4 ∧ w = w' := by
  refine ret_of_T (vs := [.iface 46 (.int .i64 2)]) Tryd.func6 Tryd.ntmps6 rfl (Nat.le_of_ble_eq_true rfl) ?_
  repeat (first | refine T_seq ?_ | refine T_block ?_ | refine T_inBlock ?_ | refine T_skip ?_)
  refine T_region ?_
  refine L_val _ _ (X_assign) rfl ?_
  refine L_nil ?_
  repeat (first | refine T_seq ?_ | refine T_block ?_ | refine T_inBlock ?_ | refine T_skip ?_)
  refine T_region ?_
  refine L_val _ _ (X_move) rfl ?_
  refine L_nil ?_
  repeat (first | refine T_seq ?_ | refine T_block ?_ | refine T_inBlock ?_ | refine T_skip ?_)
  refine T_region ?_
  refine L_val _ _ (X_eq (b := false) (by kernel_rfl)) rfl ?_
  refine L_val _ _ (X_assign) rfl ?_
  refine L_nil ?_
  refine T_false rfl ?_
  repeat (first | refine T_seq ?_ | refine T_block ?_ | refine T_inBlock ?_ | refine T_skip ?_)
  refine T_region ?_
  refine L_val _ _ (X_mkIface U46 (by simp)) rfl ?_
  refine L_val _ _ (X_eq (b := false) (by kernel_rfl)) rfl ?_
  refine L_val _ _ (X_assign) rfl ?_
  refine L_nil ?_
  refine T_false rfl ?_
  repeat (first | refine T_seq ?_ | refine T_block ?_ | refine T_inBlock ?_ | refine T_skip ?_)
  refine T_region ?_
  refine L_val _ _ (X_mkIface U46 (by simp)) rfl ?_
  refine L_val _ _ (X_eq (b := true) (by kernel_rfl)) rfl ?_
  refine L_val _ _ (X_assign) rfl ?_
  refine L_nil ?_
  refine T_true rfl ?_
  repeat (first | refine T_seq ?_ | refine T_block ?_ | refine T_inBlock ?_ | refine T_skip ?_)
  refine T_region ?_
  refine L_val _ _ (X_assign) rfl ?_
  refine L_nil ?_
  exact T_ret1 Tryd.func6 rfl ⟨rfl, rfl⟩

/-- The status that an answer of token.New stands for. -/
def stOf : Nat → Int
  | 0 => 0
  | 1 => 3
  | _ => 4
/-- The error that an answer of token.New stands for. -/
def errOf : Nat → Value
  | 0 => .nilIface
  | 1 => .iface 46 (.int .i64 1)
  | _ => .iface 46 (.int .i64 2)
theorem newErr_le (e : Int) (l : Nat) : newErr e l ≤ 2 := by unfold newErr; split <;> (try split) <;> omega
theorem status_ret (r : Nat) (hr : r ≤ 2) (w : World) : Ret Tryd.prog 6 #[errOf r] w fun v w' => v = .int .i64 (stOf r) ∧ w = w' := by
  match r, hr with
  | 0, _ => exact status_nil w
  | 1, _ => exact status_et w
  | 2, _ => exact status_kl w

set_option maxHeartbeats 4000000 in
/-- tokenm.CheckKey -/
theorem check_ret (e : Int) (a : Option Addr) (l c : Nat) (w : World) : Ret Tryd.prog 7 #[.int .i64 e, .slice a l c] w fun v w' => v = .int .i64 (stOf (newErr e l)) ∧ Below w.heap.size w w' := by
  refine ret_of_T (vs := [.int .i64 e, .slice a l c]) Tryd.func7 Tryd.ntmps7 rfl (Nat.le_of_ble_eq_true rfl) ?_
  have hlk := lookup_ret e w
  repeat (first | refine T_seq ?_ | refine T_block ?_ | refine T_inBlock ?_ | refine T_skip ?_)
  refine T_region ?_
  refine L_val _ _ (X_assign) rfl ?_
  refine L_nil ?_
  repeat (first | refine T_seq ?_ | refine T_block ?_ | refine T_inBlock ?_ | refine T_skip ?_)
  refine T_region ?_
  refine L_val _ _ (X_move) rfl ?_
  refine L_callF [.int .i64 e] E8 rfl rfl hlk ?_
  rintro v w1 ⟨rfl, b1⟩
  refine L_val _ _ (X_move) rfl ?_
  refine L_val _ _ (X_extract rfl rfl) rfl ?_
  refine L_val _ _ (X_extract rfl rfl) rfl ?_
  refine L_alloc Z41 rfl fun w2 h2 => ?_
  refine L_storeAll (scells (szOf e)) S41 rfl rfl rfl (scells_one _) h2.new rfl fun w3 h3 => ?_
  refine L_val _ _ (X_assign) rfl ?_
  refine L_nil ?_
  have h23 := h2.trans h3
  have b3 : Below w.heap.size w w3 := h23.below b1 b1.size
  have k5 : Blk w3 w1.heap.size (scells (szOf e)).toArray 41 := h23.new
  repeat (first | refine T_seq ?_ | refine T_block ?_ | refine T_inBlock ?_ | refine T_skip ?_)
  cases hk : (look e).isSome with
  | false =>
    have hne : newErr e l = 1 := by simp [newErr, hk]
    rw [hne]
    refine T_region ?_
    refine L_val _ _ (X_move) rfl ?_
    refine L_val _ _ (X_not rfl) rfl ?_
    refine L_val _ _ (X_move) rfl ?_
    refine L_passB rfl rfl rfl ?_
    refine L_passB rfl rfl rfl ?_
    refine L_val _ _ (X_pick rfl) rfl ?_
    refine L_val _ _ (X_move) rfl ?_
    refine L_passB rfl rfl rfl ?_
    refine L_passB rfl rfl rfl ?_
    refine L_val _ _ (X_pick rfl) rfl ?_
    refine L_nil ?_
    refine T_true rfl ?_
    repeat (first | refine T_seq ?_ | refine T_block ?_ | refine T_inBlock ?_ | refine T_skip ?_)
    refine T_region ?_
    refine L_val _ _ (X_assign) rfl ?_
    refine L_nil ?_
    exact T_ret1 Tryd.func7 rfl ⟨rfl, b3⟩
  | true =>
  by_cases h16 : e = 16
  · subst h16
    have hne : newErr 16 l = 1 := by simp [newErr, svd, svl]
    rw [hne]
    refine T_region ?_
    refine L_val _ _ (X_move) rfl ?_
    refine L_val _ _ (X_not rfl) rfl ?_
    refine L_val _ _ (X_move) rfl ?_
    refine L_guard rfl rfl rfl ?_
    refine L_val _ _ (X_move) rfl ?_
    refine L_guard rfl rfl rfl ?_
    refine L_val _ _ (X_cmpR true rfl rfl rfl rfl) rfl ?_
    refine L_val _ _ (X_pick rfl) rfl ?_
    refine L_val _ _ (X_move) rfl ?_
    refine L_passB rfl rfl rfl ?_
    refine L_passB rfl rfl rfl ?_
    refine L_val _ _ (X_pick rfl) rfl ?_
    refine L_nil ?_
    refine T_true rfl ?_
    repeat (first | refine T_seq ?_ | refine T_block ?_ | refine T_inBlock ?_ | refine T_skip ?_)
    refine T_region ?_
    refine L_val _ _ (X_assign) rfl ?_
    refine L_nil ?_
    exact T_ret1 Tryd.func7 rfl ⟨rfl, b3⟩
  have e16 : cmpB .eql e 16 = false := by simp [cmpB, h16]
  by_cases h23' : e = 23
  · subst h23'
    have hne : newErr 23 l = 1 := by simp [newErr, svd, svl]
    rw [hne]
    refine T_region ?_
    refine L_val _ _ (X_move) rfl ?_
    refine L_val _ _ (X_not rfl) rfl ?_
    refine L_val _ _ (X_move) rfl ?_
    refine L_guard rfl rfl rfl ?_
    refine L_val _ _ (X_move) rfl ?_
    refine L_guard rfl rfl rfl ?_
    refine L_val _ _ (X_cmpR false rfl rfl rfl rfl) rfl ?_
    refine L_val _ _ (X_pick rfl) rfl ?_
    refine L_val _ _ (X_move) rfl ?_
    refine L_guard rfl rfl rfl ?_
    refine L_val _ _ (X_move) rfl ?_
    refine L_guard rfl rfl rfl ?_
    refine L_val _ _ (X_cmpR true rfl rfl rfl rfl) rfl ?_
    refine L_val _ _ (X_pick rfl) rfl ?_
    refine L_nil ?_
    refine T_true rfl ?_
    repeat (first | refine T_seq ?_ | refine T_block ?_ | refine T_inBlock ?_ | refine T_skip ?_)
    refine T_region ?_
    refine L_val _ _ (X_assign) rfl ?_
    refine L_nil ?_
    exact T_ret1 Tryd.func7 rfl ⟨rfl, b3⟩
  have e23 : cmpB .eql e 23 = false := by simp [cmpB, h23']
  have hsv := svd_known hk h16 h23'
  refine T_region ?_
  refine L_val _ _ (X_move) rfl ?_
  refine L_val _ _ (X_not rfl) rfl ?_
  refine L_val _ _ (X_move) rfl ?_
  refine L_guard rfl rfl rfl ?_
  refine L_val _ _ (X_move) rfl ?_
  refine L_guard rfl rfl rfl ?_
  refine L_val _ _ (X_cmpR false rfl rfl rfl e16) rfl ?_
  refine L_val _ _ (X_pick rfl) rfl ?_
  refine L_val _ _ (X_move) rfl ?_
  refine L_guard rfl rfl rfl ?_
  refine L_val _ _ (X_move) rfl ?_
  refine L_guard rfl rfl rfl ?_
  refine L_val _ _ (X_cmpR false rfl rfl rfl e23) rfl ?_
  refine L_val _ _ (X_pick rfl) rfl ?_
  refine L_nil ?_
  refine T_false rfl ?_
  repeat (first | refine T_seq ?_ | refine T_block ?_ | refine T_inBlock ?_ | refine T_skip ?_)
  refine T_region ?_
  refine L_val _ _ (X_move) rfl ?_
  refine L_val _ _ (X_lenS U25 rfl) rfl ?_
  refine L_val _ _ (X_field F41_0 rfl) rfl ?_
  refine L_val _ _ (X_load A3 rfl (gblk k5 0 rfl)) rfl ?_
  refine L_val _ _ (X_cmp rfl rfl rfl) rfl ?_
  refine L_nil ?_
  refine T_if rfl (fun ht => ?_) (fun hf => ?_)
  · have hl : l ≠ (szOf e).1 := by simp [cmpB] at ht; omega
    have hne : newErr e l = 2 := by simp [newErr, hk, hsv, hl]
    rw [hne]
    repeat (first | refine T_seq ?_ | refine T_block ?_ | refine T_inBlock ?_ | refine T_skip ?_)
    refine T_region ?_
    refine L_val _ _ (X_assign) rfl ?_
    refine L_nil ?_
    exact T_ret1 Tryd.func7 rfl ⟨rfl, b3⟩
  · have hl : l = (szOf e).1 := by simp [cmpB] at hf; omega
    have hne : newErr e l = 0 := by simp [newErr, hk, hsv, ← hl]
    rw [hne]
    repeat (first | refine T_seq ?_ | refine T_block ?_ | refine T_inBlock ?_ | refine T_skip ?_)
    refine T_region ?_
    refine L_val _ _ (X_assign) rfl ?_
    refine L_nil ?_
    exact T_ret1 Tryd.func7 rfl ⟨rfl, b3⟩
end Go.Proofs.Qxb6500864aDoor
