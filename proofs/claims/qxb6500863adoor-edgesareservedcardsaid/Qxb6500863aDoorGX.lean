/-
  modesm.CounterKDF, modesm.FeedbackKDF over the law's own function.
-/
import Derived.Test.Qxb6500863aDoorGV
namespace Go.Proofs.Qxb6500863aDoor
set_option linter.unusedSimpArgs false
set_option linter.unusedVariables false
open Go.RowKit
/-- Join of lists just laid in a slice. -/
theorem joinL (ls : List Sl) (z z' : World) (hok : ∀ x ∈ ls, Sl.ok z x) (hls : ls.length ≤ 6) (htot : (cat ls).length ≤ 10000000) (hch : Chg z z' z.heap.size (.cells (ls.map Sl.val).toArray 25 (0, 0))) : Ret Tryd.prog 26 #[.slice (some ⟨z.heap.size, 0, none⟩) ls.length ls.length] z' (Made z' (cat ls)) := by
  have bz : Below z.heap.size z z' := hch.below (Below.refl _ _) (Nat.le_refl _)
  have hk : Blk z' z.heap.size (ls.map Sl.val).toArray 25 := hch.new
  exact join_ret z.heap.size 0 ls.length ls z' hch.lt (by
    intro i x hx
    rw [Nat.zero_add]
    exact gblk hk i (by rw [List.getElem?_map, hx]; rfl)) (fun x hx => (hok x hx).below bz) hls htot
/-- EdgesAreServed$1 -/
theorem prf_ret (sn cr : List Int) (pb : Nat) (K X : Sl) (w : World) (hG : Glob sn cr w) (hk : Blk w pb #[K.val] 25) (hK : Sl.ok w K) (hX : Sl.ok w X) (hKl : K.2.1.length ≤ 1000000) (hXl : X.2.1.length ≤ 1000000) :
    Ret Tryd.prog 15 #[X.val, .pointer (some ⟨pb, 0, none⟩)] w (Made w (hmN sn cr 4 K.2.1 X.2.1)) := by
  refine ret_of_T (vs := [X.val, .pointer (some ⟨pb, 0, none⟩)]) Tryd.func15 Tryd.ntmps15 rfl (Nat.le_of_ble_eq_true rfl) ?_
  repeat (first | refine T_seq ?_ | refine T_block ?_ | refine T_inBlock ?_ | refine T_skip ?_)
  refine T_region ?_
  refine L_val _ _ (X_assign) rfl ?_
  refine L_nil ?_
  repeat (first | refine T_seq ?_ | refine T_block ?_ | refine T_inBlock ?_ | refine T_skip ?_)
  refine T_region ?_
  refine L_val _ _ (X_load A25 rfl (hk.cell 0)) rfl ?_
  refine L_val _ _ (X_move) rfl ?_
  refine L_callF [.int .i64 ((4 : Nat) : Int), K.val, X.val] E16 rfl rfl (hmac_ret sn cr 4 (by decide) K X w hG hK hX hKl hXl) ?_
  rintro v w1 hm
  refine L_val _ _ (X_assign) rfl ?_
  refine L_nil ?_
  exact T_ret1 Tryd.func15 rfl hm
set_option maxHeartbeats 8000000 in
set_option maxRecDepth 10000 in
/-- modesm.CounterKDF -/
theorem ckm_ret (sn cr : List Int) (pb : Nat) (K A B : Sl) (n : Nat) (w : World) (hG : Glob sn cr w) (hk : Blk w pb #[K.val] 25) (hK : Sl.ok w K) (hA : Sl.ok w A) (hB : Sl.ok w B) (hKl : K.2.1.length ≤ 1000) (hAl : A.2.1.length ≤ 1000) (hBl : B.2.1.length ≤ 1000) (hn1 : 1 ≤ n) (hn2 : n ≤ 65536) :
    Ret Tryd.prog 18 #[.func (.func 15) #[] #[.pointer (some ⟨pb, 0, none⟩)], A.val, B.val, .int .i64 (n : Int)] w fun v w' => ∃ a c, v = .slice a n c ∧ Sl.ok w' (a, ckN (hmN sn cr 4 K.2.1) A.2.1 B.2.1 n, c) ∧ Below w.heap.size w w' := by
  refine ret_of_T (vs := [.func (.func 15) #[] #[.pointer (some ⟨pb, 0, none⟩)], A.val, B.val, .int .i64 (n : Int)]) Tryd.func18 Tryd.ntmps18 rfl (Nat.le_of_ble_eq_true rfl) ?_
  have hHl : ∀ x, (hmN sn cr 4 K.2.1 x).length = 48 := fun x => hmN_len sn cr (by decide) K.2.1 x
  have hhm : ∀ z X, Below w.heap.size w z → Sl.ok z X → X.2.1.length ≤ 1000000 → Ret Tryd.prog 15 #[X.val, .pointer (some ⟨pb, 0, none⟩)] z (Made z (hmN sn cr 4 K.2.1 X.2.1)) := fun z X bz hX hl => prf_ret sn cr pb K X z (hG.below bz) (below_blk bz hk hk.lt) (hK.below bz) hX (by omega) hl
  generalize hmN sn cr 4 K.2.1 = H at *
  have hdl := dkL_len (T := cT H A.2.1 B.2.1 n) (s := 48) (fun i => hHl _)
  have hfl : (fx A.2.1 B.2.1 n).length ≤ 3000 := by simp only [fx, List.length_append, be4_len, List.length_singleton]; omega
  obtain ⟨M, hM⟩ : ∃ M, M = (n + 47) / 48 := ⟨_, rfl⟩
  repeat (first | refine T_seq ?_ | refine T_block ?_ | refine T_inBlock ?_ | refine T_skip ?_)
  refine T_region ?_
  refine L_val _ _ (X_assign) rfl ?_
  refine L_nil ?_
  repeat (first | refine T_seq ?_ | refine T_block ?_ | refine T_inBlock ?_ | refine T_skip ?_)
  refine T_region ?_
  refine L_buildSlice #[] 5 (by kernel_rfl) rfl fun w1 h1 => ?_
  refine L_val _ _ (X_assign) rfl ?_
  refine L_nil ?_
  have b1 : Below w.heap.size w w1 := h1.below (Below.refl _ _) (Nat.le_refl _)
  repeat (first | refine T_seq ?_ | refine T_block ?_ | refine T_inBlock ?_ | refine T_skip ?_)
  refine T_region ?_
  refine L_val _ _ (X_assign) rfl ?_
  refine L_nil ?_
  repeat (first | refine T_seq ?_ | refine T_block ?_ | refine T_inBlock ?_ | refine T_skip ?_)
  refine T_loopS [9, 10, 0, 1, 2, 3] (fun r vs z => ∃ (m : Nat) (a : Option Addr) (c : Nat), vs = [Sl.val (a, dkL (cT H A.2.1 B.2.1 n) m, c), .int .u32 ((m + 1 : Nat) : Int), .func (.func 15) #[] #[.pointer (some ⟨pb, 0, none⟩)], A.val, B.val, .int .i64 (n : Int)] ∧ m ≤ M ∧ r = M - m ∧ Sl.ok z (a, dkL (cT H A.2.1 B.2.1 n) m, c) ∧ (dkL (cT H A.2.1 B.2.1 n) m).length ≤ c ∧ Below w.heap.size w z) M
    ⟨0, some ⟨w.heap.size, 0, none⟩, 0, rfl, by omega, rfl, ⟨⟨fun j x hx => by simp [dkL] at hx⟩, fun h => by cases h⟩, by simp [dkL], b1⟩ ?_
  clear h1 b1
  rintro r vs ρ z ⟨m, a, c, rfl, hm, rfl, ok, hc, bz⟩ ih
  have hl := hdl m
  repeat (first | refine T_seq ?_ | refine T_block ?_ | refine T_inBlock ?_ | refine T_skip ?_)
  refine T_region ?_
  refine L_val _ _ (X_move) rfl ?_
  refine L_val _ _ (X_lenS U25 rfl) rfl ?_
  refine L_val _ _ (X_move) rfl ?_
  refine L_val _ _ (X_cmp rfl rfl rfl) rfl ?_
  refine L_nil ?_
  repeat (first | refine T_seq ?_ | refine T_block ?_ | refine T_inBlock ?_ | refine T_skip ?_)
  refine T_if rfl (fun ht => ?_) (fun hf => ?_)
  case refine_2 =>
    have hge : ¬ m * 48 < n := by simp [cmpB, hl] at hf; omega
    obtain rfl : m = M := by omega
    refine T_exit rfl ?_
    repeat (first | refine T_seq ?_ | refine T_block ?_ | refine T_inBlock ?_ | refine T_skip ?_)
    refine T_region ?_
    refine L_val _ _ (X_move) rfl ?_
    refine L_val _ _ (X_move) rfl ?_
    refine L_val _ _ (X_sliceH U25 S5 rfl rfl (show n ≤ c by omega)) rfl ?_
    refine L_val _ _ (X_assign) rfl ?_
    refine L_nil ?_
    refine T_ret1 Tryd.func18 rfl ⟨a, c, rfl, ⟨?_, fun ha => ?_⟩, bz⟩
    · rw [ckN, ← hM]
      exact ints_take ok.1 n
    · have := ok.2 ha
      simp only at this
      omega
  have hlt : m * 48 < n := by simp [cmpB, hl] at ht; omega
  have sz := bz.size
  have ec : ∀ (a1 a2 a3 : Option Addr) (c1 c2 c3 : Nat), cat [(a1, be4 (m + 1), c1), A, (a2, [0], c2), B, (a3, be4 (8 * n), c3)] = be4 (m + 1) ++ fx A.2.1 B.2.1 n := fun _ _ _ _ _ _ => by simp [cat, fx]
  have hfl2 : (be4 (m + 1) ++ fx A.2.1 B.2.1 n).length ≤ 4000 := by rw [List.length_append, be4_len]; omega
  repeat (first | refine T_seq ?_ | refine T_block ?_ | refine T_inBlock ?_ | refine T_skip ?_)
  refine T_region ?_
  refine L_val _ _ (X_move) rfl ?_
  refine L_val _ _ (X_move) rfl ?_
  refine L_val _ _ (X_move) rfl ?_
  refine L_callF [.int .u32 ((m + 1 : Nat) : Int)] E36 rfl rfl (int32_ret (m + 1) z) ?_
  rintro v1 z1 hm1
  obtain ⟨a1, c1, rfl, ok1, -, b1⟩ := made_ok2 hm1
  have bz1 : Below w.heap.size w z1 := bz.trans (b1.mono sz)
  refine L_val _ _ (X_move) rfl ?_
  refine L_buildSlice #[.int .u8 0] 5 (by kernel_rfl) rfl fun z2 h2 => ?_
  have b2 : Below z1.heap.size z1 z2 := h2.below (Below.refl _ _) (Nat.le_refl _)
  have bz2 : Below w.heap.size w z2 := bz1.trans (b2.mono bz1.size)
  have ok2 : Sl.ok z2 (some ⟨z1.heap.size, 0, none⟩, [0], 1) := ⟨ints_blk (l := [0]) h2.new, fun h => by cases h⟩
  refine L_val _ _ (X_move) rfl ?_
  refine L_val _ _ (X_move) rfl ?_
  refine L_val _ _ (X_arN (8 * n) rfl rfl rfl (by simp only [arB]; omega) (by omega)) rfl ?_
  refine L_val _ _ (X_convU (8 * n) U3 U26 rfl (by rw [IntKind.wrap_u32]; omega)) rfl ?_
  refine L_callF [.int .u32 ((8 * n : Nat) : Int)] E36 rfl rfl (int32_ret (8 * n) z2) ?_
  rintro v3 z3 hm3
  obtain ⟨a3, c3, rfl, ok3, -, b3⟩ := made_ok2 hm3
  have bz3 : Below w.heap.size w z3 := bz2.trans (b3.mono bz2.size)
  refine L_buildSlice #[Sl.val (a1, be4 (m + 1), c1), A.val, .slice (some ⟨z1.heap.size, 0, none⟩) 1 1, B.val, Sl.val (a3, be4 (8 * n), c3)] 25 (by kernel_rfl) rfl fun z4 h4 => ?_
  have b4 : Below z3.heap.size z3 z4 := h4.below (Below.refl _ _) (Nat.le_refl _)
  have bz4 : Below w.heap.size w z4 := bz3.trans (b4.mono bz3.size)
  have hj := joinL [(a1, be4 (m + 1), c1), A, (some ⟨z1.heap.size, 0, none⟩, [0], 1), B, (a3, be4 (8 * n), c3)] z3 z4 (by simp only [List.mem_cons, List.not_mem_nil, or_false, forall_eq_or_imp, forall_eq]; exact ⟨(ok1.below b2).below b3, hA.below bz3, ok2.below b3, hB.below bz3, ok3⟩) (by simp) (by rw [ec]; omega) h4
  rw [ec] at hj
  refine L_callF [.slice (some ⟨z3.heap.size, 0, none⟩) 5 5] E26 rfl rfl hj ?_
  rintro v5 z5 hm5
  obtain ⟨a5, c5, rfl, ok5, -, b5⟩ := made_ok2 hm5
  have bz5 : Below w.heap.size w z5 := bz4.trans (b5.mono bz4.size)
  refine L_callV [Sl.val (a5, be4 (m + 1) ++ fx A.2.1 B.2.1 n, c5)] [.pointer (some ⟨pb, 0, none⟩)] E15 rfl rfl rfl (hhm z5 (a5, be4 (m + 1) ++ fx A.2.1 B.2.1 n, c5) bz5 ok5 (by show (be4 (m + 1) ++ fx A.2.1 B.2.1 n).length ≤ _; omega)) ?_
  rintro v6 z6 hm6
  obtain ⟨a6, c6, rfl, ok6, -, b6⟩ := made_ok2 hm6
  have bz6 : Below w.heap.size w z6 := bz5.trans (b6.mono bz5.size)
  have okd := (((((ok.below b1).below b2).below b3).below b4).below b5).below b6
  refine L_buildSlice #[Sl.val (a, dkL (cT H A.2.1 B.2.1 n) m, c), Sl.val (a6, H (be4 (m + 1) ++ fx A.2.1 B.2.1 n), c6)] 25 (by kernel_rfl) rfl fun z7 h7 => ?_
  have hj7 := join2 (a, dkL (cT H A.2.1 B.2.1 n) m, c) (a6, H (be4 (m + 1) ++ fx A.2.1 B.2.1 n), c6) z6 z7 okd ok6 (by show (dkL (cT H A.2.1 B.2.1 n) m).length + (H (be4 (m + 1) ++ fx A.2.1 B.2.1 n)).length ≤ _; rw [hHl, hl]; omega) h7
  have b7 : Below z6.heap.size z6 z7 := h7.below (Below.refl _ _) (Nat.le_refl _)
  have bz7 : Below w.heap.size w z7 := bz6.trans (b7.mono bz6.size)
  refine L_callF [.slice (some ⟨z6.heap.size, 0, none⟩) 2 2] E26 rfl rfl hj7 ?_
  rintro v8 z8 hm8
  obtain ⟨a8, c8, rfl, ok8, hc8, b8⟩ := made_ok2 hm8
  have bz8 : Below w.heap.size w z8 := bz7.trans (b8.mono bz7.size)
  refine L_val _ _ (X_assign) rfl ?_
  refine L_nil ?_
  repeat (first | refine T_seq ?_ | refine T_block ?_ | refine T_inBlock ?_ | refine T_skip ?_)
  refine T_region ?_
  refine L_val _ _ (X_move) rfl ?_
  refine L_val _ _ (X_addU (m + 1) 1 rfl rfl (by omega)) rfl ?_
  refine L_val _ _ (X_assign) rfl ?_
  refine L_nil ?_
  exact ih _ _ _ (by omega) ⟨m + 1, a8, c8, rfl, by omega, rfl, ok8, hc8, bz8⟩
set_option maxHeartbeats 8000000 in
set_option maxRecDepth 10000 in
/-- modesm.FeedbackKDF -/
theorem fkm_ret (sn cr : List Int) (pb : Nat) (K V A B : Sl) (n : Nat) (w : World) (hG : Glob sn cr w) (hk : Blk w pb #[K.val] 25) (hK : Sl.ok w K) (hV : Sl.ok w V) (hA : Sl.ok w A) (hB : Sl.ok w B) (hKl : K.2.1.length ≤ 1000) (hVl : V.2.1.length ≤ 1000) (hAl : A.2.1.length ≤ 1000) (hBl : B.2.1.length ≤ 1000) (hn1 : 1 ≤ n) (hn2 : n ≤ 65536) :
    Ret Tryd.prog 20 #[.func (.func 15) #[] #[.pointer (some ⟨pb, 0, none⟩)], V.val, A.val, B.val, .int .i64 (n : Int)] w fun v w' => ∃ a c, v = .slice a n c ∧ Sl.ok w' (a, fkN (hmN sn cr 4 K.2.1) V.2.1 A.2.1 B.2.1 n, c) ∧ Below w.heap.size w w' := by
  refine ret_of_T (vs := [.func (.func 15) #[] #[.pointer (some ⟨pb, 0, none⟩)], V.val, A.val, B.val, .int .i64 (n : Int)]) Tryd.func20 Tryd.ntmps20 rfl (Nat.le_of_ble_eq_true rfl) ?_
  have hHl : ∀ x, (hmN sn cr 4 K.2.1 x).length = 48 := fun x => hmN_len sn cr (by decide) K.2.1 x
  have hhm : ∀ z X, Below w.heap.size w z → Sl.ok z X → X.2.1.length ≤ 1000000 → Ret Tryd.prog 15 #[X.val, .pointer (some ⟨pb, 0, none⟩)] z (Made z (hmN sn cr 4 K.2.1 X.2.1)) := fun z X bz hX hl => prf_ret sn cr pb K X z (hG.below bz) (below_blk bz hk hk.lt) (hK.below bz) hX (by omega) hl
  generalize hmN sn cr 4 K.2.1 = H at *
  have hdl := kdL_len hHl V.2.1 A.2.1 B.2.1 n
  have hfl : (fx A.2.1 B.2.1 n).length ≤ 3000 := by simp only [fx, List.length_append, be4_len, List.length_singleton]; omega
  have hkl : ∀ m, (kT H V.2.1 A.2.1 B.2.1 n m).length ≤ 1000 := by
    intro m
    cases m with
    | zero => exact hVl
    | succ m => rw [kT, hHl]; decide
  obtain ⟨M, hM⟩ : ∃ M, M = (n + 47) / 48 := ⟨_, rfl⟩
  repeat (first | refine T_seq ?_ | refine T_block ?_ | refine T_inBlock ?_ | refine T_skip ?_)
  refine T_region ?_
  refine L_val _ _ (X_assign) rfl ?_
  refine L_nil ?_
  repeat (first | refine T_seq ?_ | refine T_block ?_ | refine T_inBlock ?_ | refine T_skip ?_)
  refine T_region ?_
  refine L_buildSlice #[] 5 (by kernel_rfl) rfl fun w1 h1 => ?_
  refine L_val _ _ (X_assign) rfl ?_
  refine L_nil ?_
  have b1 : Below w.heap.size w w1 := h1.below (Below.refl _ _) (Nat.le_refl _)
  repeat (first | refine T_seq ?_ | refine T_block ?_ | refine T_inBlock ?_ | refine T_skip ?_)
  refine T_region ?_
  refine L_val _ _ (X_move) rfl ?_
  refine L_val _ _ (X_assign) rfl ?_
  refine L_nil ?_
  repeat (first | refine T_seq ?_ | refine T_block ?_ | refine T_inBlock ?_ | refine T_skip ?_)
  refine T_region ?_
  refine L_val _ _ (X_assign) rfl ?_
  refine L_nil ?_
  repeat (first | refine T_seq ?_ | refine T_block ?_ | refine T_inBlock ?_ | refine T_skip ?_)
  refine T_loopS [11, 12, 13, 0, 2, 3, 4] (fun r vs z => ∃ (m : Nat) (a ka : Option Addr) (c kc : Nat), vs = [Sl.val (a, dkL (kT H V.2.1 A.2.1 B.2.1 n) m, c), Sl.val (ka, kT H V.2.1 A.2.1 B.2.1 n m, kc), .int .u32 ((m + 1 : Nat) : Int), .func (.func 15) #[] #[.pointer (some ⟨pb, 0, none⟩)], A.val, B.val, .int .i64 (n : Int)] ∧ m ≤ M ∧ r = M - m ∧ Sl.ok z (a, dkL (kT H V.2.1 A.2.1 B.2.1 n) m, c) ∧ (dkL (kT H V.2.1 A.2.1 B.2.1 n) m).length ≤ c ∧ Sl.ok z (ka, kT H V.2.1 A.2.1 B.2.1 n m, kc) ∧ Below w.heap.size w z) M
    ⟨0, some ⟨w.heap.size, 0, none⟩, V.1, 0, V.2.2, rfl, by omega, rfl, ⟨⟨fun j x hx => by simp [dkL] at hx⟩, fun h => by cases h⟩, by simp [dkL], hV.below b1, b1⟩ ?_
  clear h1 b1
  rintro r vs ρ z ⟨m, a, ka, c, kc, rfl, hm, rfl, ok, hc, okk, bz⟩ ih
  have hl := hdl m
  have hkm := hkl m
  repeat (first | refine T_seq ?_ | refine T_block ?_ | refine T_inBlock ?_ | refine T_skip ?_)
  refine T_region ?_
  refine L_val _ _ (X_move) rfl ?_
  refine L_val _ _ (X_lenS U25 rfl) rfl ?_
  refine L_val _ _ (X_move) rfl ?_
  refine L_val _ _ (X_cmp rfl rfl rfl) rfl ?_
  refine L_nil ?_
  repeat (first | refine T_seq ?_ | refine T_block ?_ | refine T_inBlock ?_ | refine T_skip ?_)
  refine T_if rfl (fun ht => ?_) (fun hf => ?_)
  case refine_2 =>
    have hge : ¬ m * 48 < n := by simp [cmpB, hl] at hf; omega
    obtain rfl : m = M := by omega
    refine T_exit rfl ?_
    repeat (first | refine T_seq ?_ | refine T_block ?_ | refine T_inBlock ?_ | refine T_skip ?_)
    refine T_region ?_
    refine L_val _ _ (X_move) rfl ?_
    refine L_val _ _ (X_move) rfl ?_
    refine L_val _ _ (X_sliceH U25 S5 rfl rfl (show n ≤ c by omega)) rfl ?_
    refine L_val _ _ (X_assign) rfl ?_
    refine L_nil ?_
    refine T_ret1 Tryd.func20 rfl ⟨a, c, rfl, ⟨?_, fun ha => ?_⟩, bz⟩
    · rw [fkN, ← hM]
      exact ints_take ok.1 n
    · have := ok.2 ha
      simp only at this
      omega
  have hlt : m * 48 < n := by simp [cmpB, hl] at ht; omega
  have sz := bz.size
  have ec : ∀ (a1 a2 a3 : Option Addr) (c1 c2 c3 : Nat), cat [(ka, kT H V.2.1 A.2.1 B.2.1 n m, kc), (a1, be4 (m + 1), c1), A, (a2, [0], c2), B, (a3, be4 (8 * n), c3)] = kT H V.2.1 A.2.1 B.2.1 n m ++ (be4 (m + 1) ++ fx A.2.1 B.2.1 n) := fun _ _ _ _ _ _ => by simp [cat, fx]
  have hfl2 : (kT H V.2.1 A.2.1 B.2.1 n m ++ (be4 (m + 1) ++ fx A.2.1 B.2.1 n)).length ≤ 5000 := by rw [List.length_append, List.length_append, be4_len]; omega
  repeat (first | refine T_seq ?_ | refine T_block ?_ | refine T_inBlock ?_ | refine T_skip ?_)
  refine T_region ?_
  refine L_val _ _ (X_move) rfl ?_
  refine L_val _ _ (X_move) rfl ?_
  refine L_val _ _ (X_move) rfl ?_
  refine L_callF [.int .u32 ((m + 1 : Nat) : Int)] E36 rfl rfl (int32_ret (m + 1) z) ?_
  rintro v1 z1 hm1
  obtain ⟨a1, c1, rfl, ok1, -, b1⟩ := made_ok2 hm1
  have bz1 : Below w.heap.size w z1 := bz.trans (b1.mono sz)
  refine L_val _ _ (X_move) rfl ?_
  refine L_buildSlice #[.int .u8 0] 5 (by kernel_rfl) rfl fun z2 h2 => ?_
  have b2 : Below z1.heap.size z1 z2 := h2.below (Below.refl _ _) (Nat.le_refl _)
  have bz2 : Below w.heap.size w z2 := bz1.trans (b2.mono bz1.size)
  have ok2 : Sl.ok z2 (some ⟨z1.heap.size, 0, none⟩, [0], 1) := ⟨ints_blk (l := [0]) h2.new, fun h => by cases h⟩
  refine L_val _ _ (X_move) rfl ?_
  refine L_val _ _ (X_move) rfl ?_
  refine L_val _ _ (X_arN (8 * n) rfl rfl rfl (by simp only [arB]; omega) (by omega)) rfl ?_
  refine L_val _ _ (X_convU (8 * n) U3 U26 rfl (by rw [IntKind.wrap_u32]; omega)) rfl ?_
  refine L_callF [.int .u32 ((8 * n : Nat) : Int)] E36 rfl rfl (int32_ret (8 * n) z2) ?_
  rintro v3 z3 hm3
  obtain ⟨a3, c3, rfl, ok3, -, b3⟩ := made_ok2 hm3
  have bz3 : Below w.heap.size w z3 := bz2.trans (b3.mono bz2.size)
  refine L_buildSlice #[Sl.val (ka, kT H V.2.1 A.2.1 B.2.1 n m, kc), Sl.val (a1, be4 (m + 1), c1), A.val, .slice (some ⟨z1.heap.size, 0, none⟩) 1 1, B.val, Sl.val (a3, be4 (8 * n), c3)] 25 (by kernel_rfl) rfl fun z4 h4 => ?_
  have b4 : Below z3.heap.size z3 z4 := h4.below (Below.refl _ _) (Nat.le_refl _)
  have bz4 : Below w.heap.size w z4 := bz3.trans (b4.mono bz3.size)
  have hj := joinL [(ka, kT H V.2.1 A.2.1 B.2.1 n m, kc), (a1, be4 (m + 1), c1), A, (some ⟨z1.heap.size, 0, none⟩, [0], 1), B, (a3, be4 (8 * n), c3)] z3 z4 (by simp only [List.mem_cons, List.not_mem_nil, or_false, forall_eq_or_imp, forall_eq]; exact ⟨((okk.below b1).below b2).below b3, (ok1.below b2).below b3, hA.below bz3, ok2.below b3, hB.below bz3, ok3⟩) (by simp) (by rw [ec]; omega) h4
  rw [ec] at hj
  refine L_callF [.slice (some ⟨z3.heap.size, 0, none⟩) 6 6] E26 rfl rfl hj ?_
  rintro v5 z5 hm5
  obtain ⟨a5, c5, rfl, ok5, -, b5⟩ := made_ok2 hm5
  have bz5 : Below w.heap.size w z5 := bz4.trans (b5.mono bz4.size)
  refine L_callV [Sl.val (a5, kT H V.2.1 A.2.1 B.2.1 n m ++ (be4 (m + 1) ++ fx A.2.1 B.2.1 n), c5)] [.pointer (some ⟨pb, 0, none⟩)] E15 rfl rfl rfl (hhm z5 (a5, kT H V.2.1 A.2.1 B.2.1 n m ++ (be4 (m + 1) ++ fx A.2.1 B.2.1 n), c5) bz5 ok5 (by show (kT H V.2.1 A.2.1 B.2.1 n m ++ (be4 (m + 1) ++ fx A.2.1 B.2.1 n)).length ≤ _; omega)) ?_
  rintro v6 z6 hm6
  obtain ⟨a6, c6, rfl, ok6, -, b6⟩ := made_ok2 hm6
  have bz6 : Below w.heap.size w z6 := bz5.trans (b6.mono bz5.size)
  have okd := (((((ok.below b1).below b2).below b3).below b4).below b5).below b6
  refine L_val _ _ (X_assign) rfl ?_
  refine L_nil ?_
  have ok6' : Sl.ok z6 (a6, kT H V.2.1 A.2.1 B.2.1 n (m + 1), c6) := ok6
  have hk1 : (kT H V.2.1 A.2.1 B.2.1 n (m + 1)).length = 48 := hHl _
  repeat (first | refine T_seq ?_ | refine T_block ?_ | refine T_inBlock ?_ | refine T_skip ?_)
  refine T_region ?_
  refine L_val _ _ (X_move) rfl ?_
  refine L_val _ _ (X_move) rfl ?_
  refine L_buildSlice #[Sl.val (a, dkL (kT H V.2.1 A.2.1 B.2.1 n) m, c), Sl.val (a6, kT H V.2.1 A.2.1 B.2.1 n (m + 1), c6)] 25 (by kernel_rfl) rfl fun z7 h7 => ?_
  have hj7 := join2 (a, dkL (kT H V.2.1 A.2.1 B.2.1 n) m, c) (a6, kT H V.2.1 A.2.1 B.2.1 n (m + 1), c6) z6 z7 okd ok6' (by show (dkL (kT H V.2.1 A.2.1 B.2.1 n) m).length + (kT H V.2.1 A.2.1 B.2.1 n (m + 1)).length ≤ _; rw [hk1, hl]; omega) h7
  have b7 : Below z6.heap.size z6 z7 := h7.below (Below.refl _ _) (Nat.le_refl _)
  have bz7 : Below w.heap.size w z7 := bz6.trans (b7.mono bz6.size)
  refine L_callF [.slice (some ⟨z6.heap.size, 0, none⟩) 2 2] E26 rfl rfl hj7 ?_
  rintro v8 z8 hm8
  obtain ⟨a8, c8, rfl, ok8, hc8, b8⟩ := made_ok2 hm8
  have bz8 : Below w.heap.size w z8 := bz7.trans (b8.mono bz7.size)
  refine L_val _ _ (X_assign) rfl ?_
  refine L_nil ?_
  repeat (first | refine T_seq ?_ | refine T_block ?_ | refine T_inBlock ?_ | refine T_skip ?_)
  refine T_region ?_
  refine L_val _ _ (X_move) rfl ?_
  refine L_val _ _ (X_addU (m + 1) 1 rfl rfl (by omega)) rfl ?_
  refine L_val _ _ (X_assign) rfl ?_
  refine L_nil ?_
  exact ih _ _ _ (by omega) ⟨m + 1, a8, a6, c8, c6, rfl, by omega, rfl, ok8, hc8, (ok6'.below b7).below b8, bz8⟩
end Go.Proofs.Qxb6500863aDoor
