/-
  The graph of a bundle, in plain words.
-/
import Derived.Test.Qxb6500865aW25
import Derived.Test.Qxb6500865aW9
import Derived.Test.Qxb6500865aBits
namespace Go.Proofs.Qxb6500865a
set_option linter.unusedSimpArgs false
set_option linter.unusedVariables false
open Go.RowKit

def addNeed (ids : List Int) (m : Nat) (x : Int) : Nat := match findAt ids x with | some k => m ||| 2 ^ k | none => m
def maskOf (ids needs : List Int) : Nat := needs.foldl (addNeed ids) 0
def masksOf (gs : List Leg) : List Nat := gs.map fun g => maskOf (gs.map (·.id)) g.needs
def pad8 (l : List Nat) : List Nat := l ++ List.replicate (8 - l.length) 0
def gcells (n : Nat) (M : List Nat) : List Value := .int .i64 n :: M.map fun m => .int .u8 (m : Nat)

theorem findAt_lt {ids : List Int} {x : Int} {k : Nat} (h : findAt ids x = some k) : k < ids.length := by
  unfold findAt at h
  rw [List.findIdx?_eq_some_iff_getElem] at h
  exact h.1
theorem maskOf_snoc (ids needs : List Int) (x : Int) : maskOf ids (needs ++ [x]) = addNeed ids (maskOf ids needs) x := by simp [maskOf]
theorem addNeed_lt {ids : List Int} {m : Nat} {x : Int} (hi : ids.length ≤ 8) (hm : m < 256) : addNeed ids m x < 256 := by
  unfold addNeed
  split
  · rename_i k hk
    exact or_lt hm (pow_lt (by have := findAt_lt hk; omega))
  · exact hm
theorem foldl_lt {ids : List Int} (hi : ids.length ≤ 8) : ∀ (l : List Int) (m : Nat), m < 256 → l.foldl (addNeed ids) m < 256
  | [], m, h => h
  | x :: l, m, h => foldl_lt hi l _ (addNeed_lt hi h)
theorem maskOf_lt {ids needs : List Int} (hi : ids.length ≤ 8) : maskOf ids needs < 256 := foldl_lt hi needs 0 (by decide)
theorem foldl_test {ids : List Int} (k : Nat) : ∀ (l : List Int) (m : Nat), (l.foldl (addNeed ids) m).testBit k = (m.testBit k || l.any fun x => findAt ids x == some k)
  | [], m => by simp
  | x :: l, m => by
    rw [List.foldl_cons, foldl_test k l, List.any_cons]
    have : (addNeed ids m x).testBit k = (m.testBit k || (findAt ids x == some k)) := by
      unfold addNeed
      cases h : findAt ids x with
      | none => simp
      | some j =>
        simp only [Nat.testBit_or, Nat.testBit_two_pow]
        by_cases hjk : j = k
        · subst hjk; simp
        · simp [hjk]
    rw [this, Bool.or_assoc]
theorem maskOf_test (ids needs : List Int) (k : Nat) : (maskOf ids needs).testBit k = needs.any fun x => findAt ids x == some k := by
  unfold maskOf; rw [foldl_test]; simp
theorem maskOf_bits {ids needs : List Int} {k : Nat} (h : (maskOf ids needs).testBit k = true) : k < ids.length := by
  rw [maskOf_test, List.any_eq_true] at h
  obtain ⟨x, _, hx⟩ := h
  exact findAt_lt (by simpa using hx)
theorem pad8_length {l : List Nat} (h : l.length ≤ 8) : (pad8 l).length = 8 := by simp [pad8]; omega
theorem pad8_zero {l : List Nat} (h : l.length < 8) : pad8 (l ++ [0]) = pad8 l := by
  unfold pad8
  rw [List.length_append, List.append_assoc]
  congr 1
  have : 8 - l.length = (8 - (l.length + 1)) + 1 := by omega
  rw [this, List.replicate_succ]
  rfl
theorem pad8_set {l : List Nat} {a b : Nat} (h : l.length < 8) : (pad8 (l ++ [a])).set l.length b = pad8 (l ++ [b]) := by
  unfold pad8
  simp [List.set_append]
theorem pad8_get {l : List Nat} {a : Nat} (h : l.length < 8) : (pad8 (l ++ [a]))[l.length]? = some a := by
  unfold pad8
  simp
theorem pad8_at {l : List Nat} {i : Nat} (h : i < l.length) : (pad8 l)[i]? = some l[i] := by
  unfold pad8
  rw [List.getElem?_append_left h]
  simp [h]
theorem gcells_length {n : Nat} {M : List Nat} (h : M.length = 8) : (gcells n M).length = 9 := by simp [gcells, h]
theorem gcells_one (n : Nat) (M : List Nat) : ∀ v ∈ gcells n M, v.oneCell' = true := by
  intro v hv
  simp only [gcells, List.mem_cons, List.mem_map] at hv
  rcases hv with rfl | ⟨m, _, rfl⟩ <;> rfl
theorem gcells_get {n i m : Nat} {M : List Nat} (h : M[i]? = some m) : (gcells n M)[0 + 1 + i * 1]? = some (.int .u8 (m : Nat)) := by
  have : 0 + 1 + i * 1 = i + 1 := by omega
  rw [this]
  simp [gcells, h]
theorem gcells_set (n i m : Nat) (M : List Nat) : (gcells n M).toArray.setIfInBounds (0 + 1 + i * 1) (.int .u8 (m : Nat)) = (gcells n (M.set i m)).toArray := by
  have : 0 + 1 + i * 1 = i + 1 := by omega
  rw [this]
  simp [gcells, List.map_set]
theorem gblk {w : World} {b : Nat} {cs : List Value} {t : TypeId} (h : Blk w b cs.toArray t) (i : Nat) {v : Value} (hv : cs[i]? = some v) : w.cell? ⟨b, i, none⟩ = some v := by
  rw [h.cell]; simpa using hv
theorem gblk0 {w : World} {b : Nat} {cs : List Value} {t : TypeId} (h : Blk w b cs.toArray t) : ∀ j v, cs[j]? = some v → w.cell? ⟨b, 0 + j, none⟩ = some v := by
  intro j v hv
  rw [Nat.zero_add]
  exact gblk h j hv

set_option maxHeartbeats 4000000 in
set_option maxRecDepth 10000 in
/-- bundle.GraphOf -/
theorem graphOf_ret (a : Option Addr) (c : Nat) (gs : List Leg) (w : World) (hl : Legs w a gs) (hn : gs.length ≤ 8) (hsm : ∀ g ∈ gs, g.needs.length < 1000000) :
    Ret Try.prog 10 #[.agg #[.slice a gs.length c]] w fun v w' => v = .agg (gcells gs.length (pad8 (masksOf gs))).toArray ∧ Below w.heap.size w w' := by
  refine ret_of_T (vs := [.agg #[.slice a gs.length c]]) Try.func10 Try.ntmps10 rfl (Nat.le_of_ble_eq_true rfl) ?_
  generalize hids : gs.map (·.id) = ids
  have hidl : ids.length ≤ 8 := by rw [← hids]; simpa using hn
  repeat (first | refine T_seq ?_ | refine T_block ?_ | refine T_inBlock ?_ | refine T_skip ?_)
  refine T_region ?_
  refine L_box rfl fun w1 h1 => ?_
  refine L_alloc Z47 rfl fun w2 h2 => ?_
  refine L_nil ?_
  have z1 := h1.lt
  have z2 := h2.lt
  have s1 := h1.size
  have s2 := h2.size
  have k1 : Blk w2 w.heap.size #[.slice a gs.length c] 28 := h2.blk h1.new (by omega)
  have k2 : Blk w2 w1.heap.size (gcells 0 (pad8 [])).toArray 47 := h2.new
  have b2 : Below w.heap.size w w2 := h2.below (h1.below (Below.refl _ _) (Nat.le_refl _)) s1
  repeat (first | refine T_seq ?_ | refine T_block ?_ | refine T_inBlock ?_ | refine T_skip ?_)
  refine T_region ?_
  refine L_val _ _ (X_field F28_0 rfl) rfl ?_
  refine L_val _ _ (X_load A26 rfl (k1.cell 0)) rfl ?_
  refine L_val _ _ (X_lenS U26 rfl) rfl ?_
  refine L_val _ _ (X_build (.agg (gcells gs.length (pad8 [])).toArray) (by kernel_rfl)) rfl ?_
  refine L_alloc Z47 rfl fun w3 h3 => ?_
  refine L_storeAll (gcells gs.length (pad8 [])) S47 rfl rfl rfl (gcells_one _ _) h3.new rfl fun w4 h4 => ?_
  refine L_nil ?_
  have h34 := h3.trans h4
  have z4 := h34.lt
  have s4 := h34.size
  have b4 : Below w.heap.size w w4 := h34.below b2 (by omega)
  have j1 := h34.blk k1 (by omega)
  have j2 := h34.blk k2 (by omega)
  have j3 : Blk w4 w2.heap.size (gcells gs.length (pad8 [])).toArray 47 := h34.new
  clear h1 h2 h3 h4 h34 k1 k2 b2
  generalize w1.heap.size = B1 at *
  generalize w2.heap.size = B2 at *
  repeat (first | refine T_seq ?_ | refine T_block ?_ | refine T_inBlock ?_ | refine T_skip ?_)
  refine T_region ?_
  refine L_val _ _ (X_field F28_0 rfl) rfl ?_
  refine L_val _ _ (X_load A26 rfl (j1.cell 0)) rfl ?_
  refine L_val _ _ (X_lenS U26 rfl) rfl ?_
  refine L_val _ _ (X_move) rfl ?_
  refine L_nil ?_
  repeat (first | refine T_seq ?_ | refine T_block ?_ | refine T_inBlock ?_ | refine T_skip ?_)
  refine T_loopS [16, 15, 1, 2, 3] (fun m vs y => ∃ i : Nat, vs = [.int .i64 i, .int .i64 gs.length, .pointer (some ⟨w.heap.size, 0, none⟩), .pointer (some ⟨B1, 0, none⟩), .pointer (some ⟨B2, 0, none⟩)] ∧ i ≤ gs.length ∧ m = gs.length - i ∧ Below w.heap.size w y ∧
    Blk y w.heap.size #[.slice a gs.length c] 28 ∧ Blk y B1 (gcells 0 (pad8 [])).toArray 47 ∧ Blk y B2 (gcells gs.length (pad8 ((masksOf gs).take i))).toArray 47) gs.length
    ⟨0, rfl, by omega, rfl, b4, j1, j2, j3⟩ ?_
  clear j1 j2 j3 b4
  rintro m vs ρ y ⟨i, rfl, hi, rfl, by_, k1, k2, k3⟩ ih
  have y1 := k1.lt
  have y2 := k2.lt
  have y3 := k3.lt
  have sy := by_.size
  have hly := hl.keep (keeps_below by_)
  have hml : (masksOf gs).length = gs.length := by simp [masksOf]
  repeat (first | refine T_seq ?_ | refine T_block ?_ | refine T_inBlock ?_ | refine T_skip ?_)
  refine T_region ?_
  refine L_val _ _ (X_cmp rfl rfl rfl) rfl ?_
  refine L_nil ?_
  repeat (first | refine T_seq ?_ | refine T_block ?_ | refine T_inBlock ?_ | refine T_skip ?_)
  refine T_if rfl (fun ht => ?_) (fun hf => ?_)
  case refine_2 =>
    have hge : ¬ i < gs.length := by simpa [cmpB] using hf
    obtain rfl : i = gs.length := by omega
    rw [List.take_of_length_le (by omega)] at k3
    refine T_exit rfl ?_
    repeat (first | refine T_seq ?_ | refine T_block ?_ | refine T_inBlock ?_ | refine T_skip ?_)
    refine T_region ?_
    refine L_val _ _ (X_loadAgg (gcells gs.length (pad8 (masksOf gs))) A47 S47 (gcells_length (pad8_length (by omega))) rfl (gblk0 k3)) rfl ?_
    refine L_storeAll (gcells gs.length (pad8 (masksOf gs))) S47 rfl rfl (gcells_length (pad8_length (by omega))) (gcells_one _ _) k2 rfl fun w5 h5 => ?_
    refine L_nil ?_
    exact T_retC (gcells gs.length (pad8 (masksOf gs))) Try.func10 rfl A47 S47 (gcells_length (pad8_length (by omega))) rfl (gblk0 h5.new) ⟨rfl, h5.below by_ (by omega)⟩
  have hlt : i < gs.length := by simpa [cmpB] using ht
  obtain ⟨p, q, rfl, hp, hc⟩ := hly.at (i := i) (g := gs[i]) (by simp)
  have hna := hl.ok gs[i] (by simp)
  have hnl := hsm gs[i] (by simp)
  have hmask : (masksOf gs).take (i + 1) = (masksOf gs).take i ++ [maskOf ids gs[i].needs] := by
    rw [List.take_succ_eq_append_getElem (by omega)]
    simp [masksOf, hids]
  generalize gs[i] = g at *
  repeat (first | refine T_seq ?_ | refine T_block ?_ | refine T_inBlock ?_ | refine T_skip ?_)
  refine T_region ?_
  refine L_val _ _ (X_move) rfl ?_
  refine L_val _ _ (X_assign) rfl ?_
  refine L_nil ?_
  repeat (first | refine T_seq ?_ | refine T_block ?_ | refine T_inBlock ?_ | refine T_skip ?_)
  refine T_region ?_
  refine L_val _ _ (X_field F28_0 rfl) rfl ?_
  refine L_val _ _ (X_load A26 rfl (k1.cell 0)) rfl ?_
  refine L_val _ _ (X_move) rfl ?_
  refine L_val _ _ (X_index U26 S62 rfl rfl hlt) rfl ?_
  refine L_val _ _ (X_field F62_3 rfl) rfl ?_
  refine L_val _ _ (X_load A60 rfl (hc 21 _ rfl)) rfl ?_
  refine L_val _ _ (X_lenS U60 rfl) rfl ?_
  refine L_val _ _ (X_move) rfl ?_
  refine L_nil ?_
  repeat (first | refine T_seq ?_ | refine T_block ?_ | refine T_inBlock ?_ | refine T_skip ?_)
  generalize hMi : (masksOf gs).take i = Mi at *
  have hMil : Mi.length = i := by rw [← hMi, List.length_take]; omega
  refine T_loopS [26, 25, 24, 4, 16, 15, 1, 2, 3] (fun m vs z => ∃ j : Nat, vs = [.int .i64 j, .int .i64 g.needs.length, .slice g.na g.needs.length g.nc, .int .i64 i, .int .i64 i, .int .i64 gs.length, .pointer (some ⟨w.heap.size, 0, none⟩), .pointer (some ⟨B1, 0, none⟩), .pointer (some ⟨B2, 0, none⟩)] ∧ j ≤ g.needs.length ∧ m = g.needs.length - j ∧ Below w.heap.size w z ∧ Keeps w z ∧
    Blk z w.heap.size #[.slice (some ⟨p, q, none⟩) gs.length c] 28 ∧ Blk z B1 (gcells 0 (pad8 [])).toArray 47 ∧ Blk z B2 (gcells gs.length (pad8 (Mi ++ [maskOf ids (g.needs.take j)]))).toArray 47) g.needs.length
    ⟨0, rfl, by omega, rfl, by_, keeps_below by_, k1, k2, by rw [List.take_zero]; show Blk y B2 (gcells gs.length (pad8 (Mi ++ [0]))).toArray 47; rw [pad8_zero (by omega)]; exact k3⟩ ?_
  clear k1 k2 k3 hly by_ y1 y2 y3
  rintro m vs ρ2 z ⟨j, rfl, hj, rfl, bz, kz, k1, k2, k3⟩ ih2
  have y1 := k1.lt
  have y2 := k2.lt
  have y3 := k3.lt
  repeat (first | refine T_seq ?_ | refine T_block ?_ | refine T_inBlock ?_ | refine T_skip ?_)
  refine T_region ?_
  refine L_val _ _ (X_cmp rfl rfl rfl) rfl ?_
  refine L_nil ?_
  repeat (first | refine T_seq ?_ | refine T_block ?_ | refine T_inBlock ?_ | refine T_skip ?_)
  refine T_if rfl (fun ht2 => ?_) (fun hf2 => ?_)
  case refine_2 =>
    have hge : ¬ j < g.needs.length := by simpa [cmpB] using hf2
    obtain rfl : j = g.needs.length := by omega
    rw [List.take_of_length_le (Nat.le_refl _)] at k3
    refine T_exit rfl ?_
    repeat (first | refine T_seq ?_ | refine T_block ?_ | refine T_inBlock ?_ | refine T_skip ?_)
    refine T_region ?_
    refine L_val _ _ (X_add rfl rfl (by omega) (by omega)) rfl ?_
    refine L_val _ _ (X_move) rfl ?_
    refine L_nil ?_
    exact ih _ _ _ (by omega) ⟨i + 1, rfl, by omega, rfl, bz, k1, k2, by rw [hmask]; exact k3⟩
  have hlt2 : j < g.needs.length := by simpa [cmpB] using ht2
  obtain ⟨p3, q3, hna3, hp3, hc3⟩ := (hna.keep kz).cell j [.int .u8 g.needs[j]] (by simp [ints, hlt2])
  have e24 : (Value.slice g.na g.needs.length g.nc) = .slice (some ⟨p3, q3, none⟩) g.needs.length g.nc := by rw [hna3]
  have htk : maskOf ids (g.needs.take (j + 1)) = addNeed ids (maskOf ids (g.needs.take j)) g.needs[j] := by
    rw [List.take_succ_eq_append_getElem hlt2, maskOf_snoc]
  generalize g.needs[j] = xx at *
  have hcur := maskOf_lt (ids := ids) (needs := g.needs.take j) hidl
  generalize hcur' : maskOf ids (g.needs.take j) = cur at *
  repeat (first | refine T_seq ?_ | refine T_block ?_ | refine T_inBlock ?_ | refine T_skip ?_)
  refine T_region ?_
  refine L_val _ _ (X_index U60 S59 e24 rfl hlt2) rfl ?_
  refine L_val _ _ (X_load A59 rfl (hc3 0 _ rfl)) rfl ?_
  refine L_val _ _ (X_assign) rfl ?_
  refine L_nil ?_
  repeat (first | refine T_seq ?_ | refine T_block ?_ | refine T_inBlock ?_ | refine T_skip ?_)
  have hfind := find_ret (some ⟨p, q, none⟩) c gs xx z (hl.keep kz) (by omega)
  rw [hids] at hfind
  cases hfa : findAt ids xx with
  | none =>
    rw [hfa] at hfind
    refine T_region ?_
    refine L_val _ _ (X_loadAgg [.slice (some ⟨p, q, none⟩) gs.length c] A28 S28 rfl rfl (agg1 k1)) rfl ?_
    refine L_val _ _ (X_move) rfl ?_
    refine L_callF [.agg #[.slice (some ⟨p, q, none⟩) gs.length c], .int .u8 xx] E25 rfl rfl hfind ?_
    rintro v w5 ⟨rfl, b5⟩
    refine L_val _ _ (X_move) rfl ?_
    refine L_val _ _ (X_extract rfl rfl) rfl ?_
    refine L_val _ _ (X_extract rfl rfl) rfl ?_
    refine L_val _ _ (X_assign) rfl ?_
    refine L_val _ _ (X_assign) rfl ?_
    refine L_nil ?_
    have k15 := below_blk b5 k1 y1
    have k25 := below_blk b5 k2 y2
    have k35 := below_blk b5 k3 y3
    have bw5 : Below w.heap.size w w5 := bz.trans (b5.mono bz.size)
    have kw5 : Keeps w w5 := keeps_below bw5
    repeat (first | refine T_seq ?_ | refine T_block ?_ | refine T_inBlock ?_ | refine T_skip ?_)
    refine T_region ?_
    refine L_val _ _ (X_move) rfl ?_
    refine L_nil ?_
    have hadd : addNeed ids cur xx = cur := by simp [addNeed, hfa]
    refine T_false rfl ?_
    repeat (first | refine T_seq ?_ | refine T_block ?_ | refine T_inBlock ?_ | refine T_skip ?_)
    refine T_region ?_
    refine L_val _ _ (X_add rfl rfl (by omega) (by omega)) rfl ?_
    refine L_val _ _ (X_move) rfl ?_
    refine L_nil ?_
    exact ih2 _ _ _ (by omega) ⟨j + 1, rfl, by omega, rfl, bw5, kw5, k15, k25, by rw [htk, hadd]; exact k35⟩
  | some kk =>
    rw [hfa] at hfind
    refine T_region ?_
    refine L_val _ _ (X_loadAgg [.slice (some ⟨p, q, none⟩) gs.length c] A28 S28 rfl rfl (agg1 k1)) rfl ?_
    refine L_val _ _ (X_move) rfl ?_
    refine L_callF [.agg #[.slice (some ⟨p, q, none⟩) gs.length c], .int .u8 xx] E25 rfl rfl hfind ?_
    rintro v w5 ⟨rfl, b5⟩
    refine L_val _ _ (X_move) rfl ?_
    refine L_val _ _ (X_extract rfl rfl) rfl ?_
    refine L_val _ _ (X_extract rfl rfl) rfl ?_
    refine L_val _ _ (X_assign) rfl ?_
    refine L_val _ _ (X_assign) rfl ?_
    refine L_nil ?_
    have k15 := below_blk b5 k1 y1
    have k25 := below_blk b5 k2 y2
    have k35 := below_blk b5 k3 y3
    have bw5 : Below w.heap.size w w5 := bz.trans (b5.mono bz.size)
    have kw5 : Keeps w w5 := keeps_below bw5
    repeat (first | refine T_seq ?_ | refine T_block ?_ | refine T_inBlock ?_ | refine T_skip ?_)
    refine T_region ?_
    refine L_val _ _ (X_move) rfl ?_
    refine L_nil ?_
    have hkk : kk < 8 := by have := findAt_lt hfa; omega
    have hadd : addNeed ids cur xx = cur ||| 2 ^ kk := by simp [addNeed, hfa]
    refine T_true rfl ?_
    refine T_region ?_
    refine L_val _ _ (X_move) rfl ?_
    refine L_val _ _ (X_field F47_1 rfl) rfl ?_
    refine L_val _ _ (X_indexA U45 S5 rfl rfl (by omega)) rfl ?_
    refine L_val _ _ (X_load A5 rfl (gblk k35 (0 + 1 + i * 1) (gcells_get (by rw [← hMil]; exact pad8_get (by omega))))) rfl ?_
    refine L_val _ _ (X_move) rfl ?_
    refine L_val _ _ (X_convInt U3 U72 rfl) rfl ?_
    refine L_val _ _ (X_shl1 rfl rfl hkk) rfl ?_
    refine L_val _ _ (X_or8 rfl rfl hcur (pow_lt hkk)) rfl ?_
    refine L_val _ _ (X_field F47_1 rfl) rfl ?_
    refine L_val _ _ (X_indexA U45 S5 rfl rfl (by omega)) rfl ?_
    refine L_store (.int .u8 ((cur ||| 2 ^ kk : Nat) : Int)) S5 rfl rfl rfl k35 (by simp [gcells_length (pad8_length (l := Mi ++ [cur]) (by simp; omega))]; omega) fun w6 h6 => ?_
    refine L_nil ?_
    have k36 : Blk w6 B2 (gcells gs.length (pad8 (Mi ++ [cur ||| 2 ^ kk]))).toArray 47 := by
      have e := h6.new
      rw [gcells_set] at e
      have e2 : (pad8 (Mi ++ [cur])).set i (cur ||| 2 ^ kk) = pad8 (Mi ++ [cur ||| 2 ^ kk]) := by
        have := pad8_set (l := Mi) (a := cur) (b := cur ||| 2 ^ kk) (by omega)
        rw [hMil] at this
        exact this
      rw [e2] at e
      exact e
    have sz := bw5.size
    repeat (first | refine T_seq ?_ | refine T_block ?_ | refine T_inBlock ?_ | refine T_skip ?_)
    refine T_region ?_
    refine L_val _ _ (X_add rfl rfl (by omega) (by omega)) rfl ?_
    refine L_val _ _ (X_move) rfl ?_
    refine L_nil ?_
    exact ih2 _ _ _ (by omega) ⟨j + 1, rfl, by omega, rfl, h6.below bw5 (by omega), keeps_below (h6.below bw5 (by omega)), h6.blk k15 (by omega), h6.blk k25 (by omega), by rw [htk, hadd]; exact k36⟩
end Go.Proofs.Qxb6500865a
