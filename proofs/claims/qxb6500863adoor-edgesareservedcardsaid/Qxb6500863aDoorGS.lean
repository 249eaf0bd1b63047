/-
  modes.PBKDF2, walked.
-/
import Derived.Test.Qxb6500863aDoorGR
namespace Go.Proofs.Qxb6500863aDoor
set_option linter.unusedSimpArgs false
set_option linter.unusedVariables false
open Go.RowKit
set_option maxHeartbeats 8000000 in
set_option maxRecDepth 10000 in
/-- modes.PBKDF2 over a hash whose digests have 16 octets -/
theorem pb_ret (sn cr : List Int) (id cb : Nat) (hid : id < 5) (hsz : szD id = 16) (K S : Sl) (count n : Nat) (w : World) (hG : Glob sn cr w) (hk : Blk w cb #[.int .i64 (id : Int)] 29) (hK : Sl.ok w K) (hS : Sl.ok w S) (hKl : K.2.1.length ≤ 1000) (hSl : S.2.1.length ≤ 1000)
    (hc1 : 1 ≤ count) (hc2 : count ≤ 65536) (hn1 : 1 ≤ n) (hn2 : n ≤ 65536) :
    Ret Tryd.prog 11 #[.func (.func 29) #[] #[.pointer (some ⟨cb, 0, none⟩)], K.val, S.val, .int .u32 (count : Int), .int .i64 (n : Int)] w fun v w' => ∃ a c, v = .tuple #[.slice a n c, .nilIface] ∧ Sl.ok w' (a, pbN (hmN sn cr id K.2.1) S.2.1 count n, c) ∧ Below w.heap.size w w' := by
  refine ret_of_T (vs := [.func (.func 29) #[] #[.pointer (some ⟨cb, 0, none⟩)], K.val, S.val, .int .u32 (count : Int), .int .i64 (n : Int)]) Tryd.func11 Tryd.ntmps11 rfl (Nat.le_of_ble_eq_true rfl) ?_
  have hnm := newmac_ret sn cr id cb hid K w hG hk hK (by omega)
  have hipl := ipN_len sn cr hid K.2.1
  have hbc := blkD_cases hid
  have hgs := hG.size
  have hHe : ∀ x, dg sn cr id (opN sn cr id K.2.1 ++ dg sn cr id (ipN sn cr id K.2.1 ++ x)) = hmN sn cr id K.2.1 x := fun _ => rfl
  have hHl : ∀ x, (hmN sn cr id K.2.1 x).length = 16 := fun x => (hmN_len sn cr hid K.2.1 x).trans hsz
  generalize hmN sn cr id K.2.1 = H at *
  generalize ipN sn cr id K.2.1 = ip at *
  generalize opN sn cr id K.2.1 = op at *
  obtain ⟨T, hT⟩ : ∃ T, T = pT H S.2.1 count := ⟨_, rfl⟩
  have hTl : ∀ i, (T i).length = 16 := fun i => by rw [hT]; exact pT_len hHl _ _ _
  have hdl := dkL_len hTl
  obtain ⟨M, hM⟩ : ∃ M, M = (n + 15) / 16 := ⟨_, rfl⟩
  have e1 : cmpB .lss (count : Int) 1 = false := by simp [cmpB]; omega
  have e2 : cmpB .gtr (count : Int) 65536 = false := by simp [cmpB]; omega
  have e3 : cmpB .lss (n : Int) 1 = false := by simp [cmpB]; omega
  have e4 : cmpB .gtr (n : Int) 65536 = false := by simp [cmpB]; omega
  repeat (first | refine T_seq ?_ | refine T_block ?_ | refine T_inBlock ?_ | refine T_skip ?_)
  refine T_region ?_
  refine L_val _ _ (X_assign) rfl ?_
  refine L_val _ _ (X_assign) rfl ?_
  refine L_nil ?_
  refine T_seq ?_
  refine T_seq ?_
  refine T_region ?_
  refine L_val _ _ (X_move) rfl ?_
  refine L_val _ _ (X_cmpR false rfl rfl rfl e1) rfl ?_
  refine L_val _ _ (X_move) rfl ?_
  refine L_guard rfl rfl rfl ?_
  refine L_val _ _ (X_move) rfl ?_
  refine L_guard rfl rfl rfl ?_
  refine L_val _ _ (X_cmpR false rfl rfl rfl e2) rfl ?_
  refine L_val _ _ (X_pick rfl) rfl ?_
  refine L_nil ?_
  refine T_false rfl ?_
  refine T_skip ?_
  refine T_seq ?_
  refine T_seq ?_
  refine T_region ?_
  refine L_val _ _ (X_move) rfl ?_
  refine L_val _ _ (X_cmpR false rfl rfl rfl e3) rfl ?_
  refine L_val _ _ (X_move) rfl ?_
  refine L_guard rfl rfl rfl ?_
  refine L_val _ _ (X_move) rfl ?_
  refine L_guard rfl rfl rfl ?_
  refine L_val _ _ (X_cmpR false rfl rfl rfl e4) rfl ?_
  refine L_val _ _ (X_pick rfl) rfl ?_
  refine L_nil ?_
  refine T_false rfl ?_
  refine T_skip ?_
  repeat (first | refine T_seq ?_ | refine T_block ?_ | refine T_inBlock ?_ | refine T_skip ?_)
  refine T_region ?_
  refine L_val _ _ (X_move) rfl ?_
  refine L_val _ _ (X_move) rfl ?_
  refine L_callF [.func (.func 29) #[] #[.pointer (some ⟨cb, 0, none⟩)], K.val] E14 rfl rfl hnm ?_
  rintro v1 w1 ⟨mb, F, rfl, hM1, b1⟩
  refine L_val _ _ (X_assign) rfl ?_
  refine L_nil ?_
  repeat (first | refine T_seq ?_ | refine T_block ?_ | refine T_inBlock ?_ | refine T_skip ?_)
  refine T_region ?_
  refine L_val _ _ (X_move) rfl ?_
  refine L_deferF [.pointer (some ⟨mb, 0, none⟩)] rfl ?_
  refine L_nil ?_
  repeat (first | refine T_seq ?_ | refine T_block ?_ | refine T_inBlock ?_ | refine T_skip ?_)
  refine T_region ?_
  refine L_val _ _ (X_move) rfl ?_
  refine L_callF [.pointer (some ⟨mb, 0, none⟩)] E24 rfl rfl (msize_ret w.heap.size mb id F ip op ip w1 hM1) ?_
  rintro v2 w2 ⟨rfl, b2⟩
  rw [hsz]
  refine L_val _ _ (X_assign) rfl ?_
  refine L_nil ?_
  repeat (first | refine T_seq ?_ | refine T_block ?_ | refine T_inBlock ?_ | refine T_skip ?_)
  refine T_region ?_
  refine L_val _ _ (X_move) rfl ?_
  refine L_val _ _ (X_move) rfl ?_
  refine L_val _ _ (X_arN (n + 16) rfl rfl rfl (by simp only [arB]; omega) (by omega)) rfl ?_
  refine L_val _ _ (X_arN (n + 15) rfl rfl rfl (by simp only [arB]; omega) (by omega)) rfl ?_
  refine L_val _ _ (X_move) rfl ?_
  refine L_val _ _ (X_quoI (n + 15) 16 rfl rfl (by decide) (by omega)) rfl ?_
  refine L_val _ _ (X_move) rfl ?_
  refine L_val _ _ (X_arN ((n + 15) / 16 * 16) rfl rfl rfl (by simp only [arB]; omega) (by omega)) rfl ?_
  refine L_make (l := 0) (c := (n + 15) / 16 * 16) Tryd.underlying25 I5 rfl rfl (by omega) (by omega) (by simp only [maxLen]; omega) rfl fun w3 h3 => ?_
  refine L_val _ _ (X_assign) rfl ?_
  refine L_nil ?_
  repeat (first | refine T_seq ?_ | refine T_block ?_ | refine T_inBlock ?_ | refine T_skip ?_)
  refine T_region ?_
  refine L_val _ _ (X_move) rfl ?_
  refine L_make (l := 0) (c := 16) Tryd.underlying25 I5 rfl rfl (by omega) (by omega) (by simp only [maxLen]; omega) rfl fun w4 h4 => ?_
  refine L_val _ _ (X_assign) rfl ?_
  refine L_nil ?_
  repeat (first | refine T_seq ?_ | refine T_block ?_ | refine T_inBlock ?_ | refine T_skip ?_)
  refine T_region ?_
  refine L_alloc Z63 rfl fun w5 h5 => ?_
  refine L_nil ?_
  have bw2 : Below w.heap.size w w2 := b1.trans (b2.mono b1.size)
  have s2 := bw2.size
  have o3 : w3.ownsRow w.heap.size 5 1 (.slice (some ⟨w2.heap.size, 0, none⟩) 0 ((n + 15) / 16 * 16)) 0 (iv .u8 []) := owns_made h3 s2 (by simp only [maxLen]; omega)
  have s3 := h3.size
  have l3 := h3.lt
  have o4 : w4.ownsRow w.heap.size 5 1 (.slice (some ⟨w3.heap.size, 0, none⟩) 0 16) 0 (iv .u8 []) := owns_made h4 (by omega) (by simp only [maxLen]; omega)
  have s4 := h4.size
  have l4 := h4.lt
  have M2 := hM1.below b2
  have M3 := M2.below (h3.below (Below.refl _ _) (Nat.le_refl _))
  have M4 := M3.below (h4.below (Below.refl _ _) (Nat.le_refl _))
  have M5 := M4.below (h5.below (Below.refl _ _) (Nat.le_refl _))
  have hP : PS w.heap.size mb id ip op w w5 w2.heap.size ((n + 15) / 16 * 16) 0 (dkL T 0) w3.heap.size 16 0 [] w4.heap.size F ip :=
    { mac := M5
      out := ⟨owns_new' h5 (owns_new' h4 o3), fun b hb hf => by have hb' : w2.heap.size = b := Option.some.inj hb; have := (M2.lt b hf).2; omega⟩
      u := ⟨owns_new' h5 o4, fun b hb hf => by have hb' : w3.heap.size = b := Option.some.inj hb; have := (M2.lt b hf).2; omega⟩
      ne := by omega
      ix := ⟨_, h5.new, rfl⟩
      ixF := fun hf => by have := (M2.lt _ hf).2; omega
      ixb := by omega
      bel := h5.below (h4.below (h3.below bw2 s2) (by omega)) (by omega) }
  clear hnm b1 b2 h3 h4 h5 bw2 o3 o4 M2 M3 M4 M5 hM1 e1 e2 e3 e4
  repeat (first | refine T_seq ?_ | refine T_block ?_ | refine T_inBlock ?_ | refine T_skip ?_)
  refine T_region ?_
  refine L_val _ _ (X_assign) rfl ?_
  refine L_nil ?_
  repeat (first | refine T_seq ?_ | refine T_block ?_ | refine T_inBlock ?_ | refine T_skip ?_)
  refine T_loopS [14, 15, 17, 16, 12, 13, 2, 3, 4] (fun r vs z => ∃ (ib m on og oc un ug uc : Nat) (ul : List Int) (F : Nat → Prop) (l : List Int), vs = [.slice (some ⟨og, 0, none⟩) on oc, .slice (some ⟨ug, 0, none⟩) un uc, .int .u32 ((m + 1 : Nat) : Int), .pointer (some ⟨ib, 0, none⟩), .pointer (some ⟨mb, 0, none⟩), .int .i64 ((16 : Nat) : Int), S.val, .int .u32 (count : Int), .int .i64 (n : Int)] ∧ on = 16 * m ∧ un ≤ 16 ∧ m ≤ M ∧ r = M - m ∧ PS w.heap.size mb id ip op w z og oc on (dkL T m) ug uc un ul ib F l) M
    ⟨w4.heap.size, 0, 0, w2.heap.size, _, 0, w3.heap.size, 16, [], F, ip, rfl, rfl, by omega, by omega, rfl, hP⟩ ?_
  clear hP
  rintro r vs ρ z ⟨ib, m, on, og, oc, un, ug, uc, ul, F, l, rfl, hon, hun, hm, rfl, h⟩ ih
  repeat (first | refine T_seq ?_ | refine T_block ?_ | refine T_inBlock ?_ | refine T_skip ?_)
  refine T_region ?_
  refine L_val _ _ (X_move) rfl ?_
  refine L_val _ _ (X_lenS U25 rfl) rfl ?_
  refine L_val _ _ (X_move) rfl ?_
  refine L_val _ _ (X_cmp rfl rfl rfl) rfl ?_
  refine L_nil ?_
  repeat (first | refine T_seq ?_ | refine T_block ?_ | refine T_inBlock ?_ | refine T_skip ?_)
  refine T_if rfl (fun ht => ?_) (fun hf => ?_)
  case refine_2 =>
    have hge : ¬ on < n := by simpa [cmpB] using hf
    obtain rfl : m = M := by omega
    refine T_exit rfl ?_
    repeat (first | refine T_seq ?_ | refine T_block ?_ | refine T_inBlock ?_ | refine T_skip ?_)
    refine T_region ?_
    refine L_val _ _ (X_move) rfl ?_
    refine L_callF [.slice (some ⟨ug, 0, none⟩) un uc] E35 rfl rfl (h.wipeU_ret (by omega)) ?_
    rintro v7 z7 ⟨M7, r7, b7⟩
    refine L_nil ?_
    have hoc : on ≤ oc := r7.blk.choose_spec.2.2.1
    have hb7 := r7.lt
    repeat (first | refine T_seq ?_ | refine T_block ?_ | refine T_inBlock ?_ | refine T_skip ?_)
    refine T_region ?_
    refine L_val _ _ (X_move) rfl ?_
    refine L_val _ _ (X_move) rfl ?_
    refine L_val _ _ (X_sliceLg U25 S5 rfl rfl (show n ≤ on by omega) hoc) rfl ?_
    refine L_callF [.slice (some ⟨og, if oc = n then 0 else 0 + n * 1, none⟩) (on - n) (oc - n)] E35 rfl rfl (wipeR_ret r7 (by omega) (by omega)) ?_
    rintro v8 z8 ⟨r8, c8⟩
    refine L_nil ?_
    have b8 : Below w.heap.size w z8 := c8.below b7 (by omega) (fun k e => by omega)
    have M8 := M7.keep c8 (fun k hf e => r7.nF (e ▸ hf))
    repeat (first | refine T_seq ?_ | refine T_block ?_ | refine T_inBlock ?_ | refine T_skip ?_)
    refine T_region ?_
    refine L_val _ _ (X_move) rfl ?_
    refine L_val _ _ (X_move) rfl ?_
    refine L_val _ _ (X_sliceH U25 S5 rfl rfl (show n ≤ oc by omega)) rfl ?_
    refine L_val _ _ (X_assign) rfl ?_
    refine L_val _ _ (X_assign) rfl ?_
    refine L_nil ?_
    refine T_ret2D Tryd.func11 rfl rfl rfl (inv_func E31) (mwipe_both w.heap.size mb id F ip op l z8 M8).2 ?_
    intro v9 z9 c9
    have r9 := r8.chs c9 r8.sep
    refine ⟨some ⟨og, 0, none⟩, oc, rfl, ?_, c9.below b8 b8.size (fun k hk => (M8.lt k hk).1)⟩
    rw [pbN, ← hT, ← hM]
    exact r9.sl
  have hlt : on < n := by simpa [cmpB] using ht
  repeat (first | refine T_seq ?_ | refine T_block ?_ | refine T_inBlock ?_ | refine T_skip ?_)
  refine T_region ?_
  refine L_val _ _ (X_move) rfl ?_
  refine L_callF [.pointer (some ⟨mb, 0, none⟩)] E27 rfl rfl h.reset_ret ?_
  rintro v1 z1 ⟨F1, h1⟩
  refine L_nil ?_
  repeat (first | refine T_seq ?_ | refine T_block ?_ | refine T_inBlock ?_ | refine T_skip ?_)
  refine T_region ?_
  refine L_val _ _ (X_move) rfl ?_
  refine L_val _ _ (X_move) rfl ?_
  refine L_callF [.pointer (some ⟨mb, 0, none⟩), S.val] E32 rfl rfl (h1.write_ret S (hS.below h1.bel) (by omega)) ?_
  rintro v2 z2 ⟨F2, h2⟩
  refine L_nil ?_
  repeat (first | refine T_seq ?_ | refine T_block ?_ | refine T_inBlock ?_ | refine T_skip ?_)
  refine T_region ?_
  refine L_val _ _ (X_move) rfl ?_
  refine L_val _ _ (X_sliceAH (h := 0) U63 S5 rfl rfl (by decide) (by decide)) rfl ?_
  refine L_val _ _ (X_move) rfl ?_
  refine L_callF [.slice (some ⟨ib, 0, none⟩) 0 4, .int .u32 ((m + 1 : Nat) : Int)] E33 rfl rfl (h2.be_ret (m + 1) (by omega)) ?_
  rintro v3 z3 ⟨rfl, h3, k3⟩
  refine L_callF [.pointer (some ⟨mb, 0, none⟩), .slice (some ⟨ib, 0, none⟩) 4 4] E32 rfl rfl (h3.write_ret (some ⟨ib, 0, none⟩, be4 (m + 1), 4) k3 (by show (ip ++ S.2.1).length + 4 ≤ _; rw [List.length_append]; omega)) ?_
  rintro v4 z4 ⟨F4, h4⟩
  refine L_nil ?_
  have ea : ip ++ S.2.1 ++ be4 (m + 1) = ip ++ (S.2.1 ++ be4 (m + 1)) := List.append_assoc _ _ _
  have hl4 : (ip ++ (S.2.1 ++ be4 (m + 1))).length ≤ 1000000 := by rw [List.length_append, List.length_append, be4_len]; omega
  simp only [ea] at h4
  repeat (first | refine T_seq ?_ | refine T_block ?_ | refine T_inBlock ?_ | refine T_skip ?_)
  refine T_region ?_
  refine L_val _ _ (X_move) rfl ?_
  refine L_val _ _ (X_move) rfl ?_
  refine L_val _ _ (X_sliceH (h := 0) U25 S5 rfl rfl (Nat.zero_le _)) rfl ?_
  refine L_callF [.pointer (some ⟨mb, 0, none⟩), .slice (some ⟨ug, 0, none⟩) 0 uc] E25 rfl rfl (h4.sum_ret (s := 16) (hG.below h4.bel) (by omega) hl4 (by rw [hHe]; exact hHl _) (by decide)) ?_
  rintro v5 z5 ⟨ug5, uc5, F5, rfl, h5⟩
  refine L_val _ _ (X_assign) rfl ?_
  refine L_nil ?_
  rw [hHe] at h5
  clear h h1 h2 h3 h4 k3
  repeat (first | refine T_seq ?_ | refine T_block ?_ | refine T_inBlock ?_ | refine T_skip ?_)
  refine T_region ?_
  refine L_val _ _ (X_move) rfl ?_
  refine L_val _ _ (X_move) rfl ?_
  refine L_appendA w.heap.size (.slice (some ⟨og, 0, none⟩) on oc) on (iv .u8 (dkL T m)) (some ⟨ug5, 0, none⟩) 16 uc5 (iv .u8 (H (S.2.1 ++ be4 (m + 1)))) Tryd.underlying25 I5 rfl (by decide) rfl h5.out.own rfl (by rw [iv_len, Nat.mul_one, hHl]) (fun h => by cases h) (ints_src h5.u.sl.1) (iv_one _ _) (by simp only [maxLen]; omega) (by omega) h5.hbs rfl fun v6 z6 o6 g6 p6 => ?_
  obtain ⟨og6, oc6, rfl, hoc6, h6⟩ := h5.app (n := on + 16) rfl (by omega) o6 g6 p6
  refine L_val _ _ (X_assign) rfl ?_
  refine L_nil ?_
  clear o6 g6 p6 h5
  repeat (first | refine T_seq ?_ | refine T_block ?_ | refine T_inBlock ?_ | refine T_skip ?_)
  refine T_region ?_
  refine L_val _ _ (X_move) rfl ?_
  refine L_val _ _ (X_move) rfl ?_
  refine L_val _ _ (X_lenS U25 rfl) rfl ?_
  refine L_val _ _ (X_move) rfl ?_
  refine L_val _ _ (X_arN on rfl rfl rfl (by simp only [arB]; omega) (by omega)) rfl ?_
  refine L_val _ _ (X_sliceLr on 16 (oc6 - on) U25 S5 rfl rfl (by omega) (by omega) (by omega) (by omega) rfl) rfl ?_
  refine L_val _ _ (X_assign) rfl ?_
  refine L_nil ?_
  repeat (first | refine T_seq ?_ | refine T_block ?_ | refine T_inBlock ?_ | refine T_skip ?_)
  refine T_region ?_
  refine L_val _ _ (X_assign) rfl ?_
  refine L_nil ?_
  repeat (first | refine T_seq ?_ | refine T_block ?_ | refine T_inBlock ?_ | refine T_skip ?_)
  obtain ⟨X, hX⟩ : ∃ X, X = S.2.1 ++ be4 (m + 1) := ⟨_, rfl⟩
  rw [← hX] at h6
  refine T_loopS [19, 15, 18, 14, 17, 16, 12, 13, 2, 3, 4] (fun r vs y => ∃ (j ug uc : Nat) (F : Nat → Prop) (l : List Int), vs = [.int .u32 ((j + 1 : Nat) : Int), .slice (some ⟨ug, 0, none⟩) 16 uc, .slice (some ⟨og6, on, none⟩) 16 (oc6 - on), .slice (some ⟨og6, 0, none⟩) (on + 16) oc6, .int .u32 ((m + 1 : Nat) : Int), .pointer (some ⟨ib, 0, none⟩), .pointer (some ⟨mb, 0, none⟩), .int .i64 ((16 : Nat) : Int), S.val, .int .u32 (count : Int), .int .i64 (n : Int)] ∧ j + 1 ≤ count ∧ r = count - (j + 1) ∧ PS w.heap.size mb id ip op w y og6 oc6 (on + 16) (dkL T m ++ (ut H X j).2) ug uc 16 (ut H X j).1 ib F l) (count - 1)
    ⟨0, ug5, uc5, F5, _, rfl, by omega, by omega, h6⟩ ?_
  clear h6
  rintro r vs ρ2 y ⟨j, ug, uc, F, l, rfl, hj, rfl, h⟩ ih2
  repeat (first | refine T_seq ?_ | refine T_block ?_ | refine T_inBlock ?_ | refine T_skip ?_)
  refine T_region ?_
  refine L_val _ _ (X_move) rfl ?_
  refine L_val _ _ (X_move) rfl ?_
  refine L_val _ _ (X_cmp rfl rfl rfl) rfl ?_
  refine L_nil ?_
  repeat (first | refine T_seq ?_ | refine T_block ?_ | refine T_inBlock ?_ | refine T_skip ?_)
  refine T_if rfl (fun ht2 => ?_) (fun hf2 => ?_)
  case refine_2 =>
    have hge : ¬ j + 1 < count := by simp [cmpB] at hf2; omega
    obtain rfl : j = count - 1 := by omega
    refine T_exit rfl ?_
    repeat (first | refine T_seq ?_ | refine T_block ?_ | refine T_inBlock ?_ | refine T_skip ?_)
    refine T_region ?_
    refine L_val _ _ (X_move) rfl ?_
    refine L_val _ _ (X_addU (m + 1) 1 rfl rfl (by omega)) rfl ?_
    refine L_val _ _ (X_assign) rfl ?_
    refine L_nil ?_
    refine ih _ _ _ (by omega) ⟨ib, m + 1, on + 16, og6, oc6, 16, ug, uc, (ut H X (count - 1)).1, F, l, rfl, by omega, by omega, by omega, rfl, ?_⟩
    have e : dkL T (m + 1) = dkL T m ++ (ut H X (count - 1)).2 := by rw [dkL, hT, hX]; rfl
    rw [e]
    exact h
  have hlt2 : j + 1 < count := by simp [cmpB] at ht2; omega
  have hu := ut_len hHl X j
  repeat (first | refine T_seq ?_ | refine T_block ?_ | refine T_inBlock ?_ | refine T_skip ?_)
  refine T_region ?_
  refine L_val _ _ (X_move) rfl ?_
  refine L_callF [.pointer (some ⟨mb, 0, none⟩)] E27 rfl rfl h.reset_ret ?_
  rintro v1 y1 ⟨F1, h1⟩
  refine L_nil ?_
  repeat (first | refine T_seq ?_ | refine T_block ?_ | refine T_inBlock ?_ | refine T_skip ?_)
  refine T_region ?_
  refine L_val _ _ (X_move) rfl ?_
  refine L_val _ _ (X_move) rfl ?_
  refine L_callF [.pointer (some ⟨mb, 0, none⟩), .slice (some ⟨ug, 0, none⟩) 16 uc] E32 rfl rfl (h1.writeU_ret (by omega)) ?_
  rintro v2 y2 ⟨F2, h2⟩
  refine L_nil ?_
  repeat (first | refine T_seq ?_ | refine T_block ?_ | refine T_inBlock ?_ | refine T_skip ?_)
  refine T_region ?_
  refine L_val _ _ (X_move) rfl ?_
  refine L_val _ _ (X_move) rfl ?_
  refine L_val _ _ (X_sliceH (h := 0) U25 S5 rfl rfl (Nat.zero_le _)) rfl ?_
  refine L_callF [.pointer (some ⟨mb, 0, none⟩), .slice (some ⟨ug, 0, none⟩) 0 uc] E25 rfl rfl (h2.sum_ret (s := 16) (hG.below h2.bel) (by omega) (by rw [List.length_append]; omega) (by rw [hHe]; exact hHl _) (by decide)) ?_
  rintro v3 y3 ⟨ug3, uc3, F3, rfl, h3⟩
  refine L_val _ _ (X_assign) rfl ?_
  refine L_nil ?_
  rw [hHe] at h3
  repeat (first | refine T_seq ?_ | refine T_block ?_ | refine T_inBlock ?_ | refine T_skip ?_)
  refine T_region ?_
  refine L_val _ _ (X_move) rfl ?_
  refine L_val _ _ (X_move) rfl ?_
  refine L_val _ _ (X_move) rfl ?_
  refine L_callF [.slice (some ⟨og6, on, none⟩) 16 (oc6 - on), .slice (some ⟨og6, on, none⟩) 16 (oc6 - on), .slice (some ⟨ug3, 0, none⟩) 16 uc3] E34 rfl rfl (h3.xor_ret (pl := on) (tl := 16) (by rw [hdl]; omega) hu.2 rfl (by omega)) ?_
  rintro v4 y4 h4
  refine L_nil ?_
  repeat (first | refine T_seq ?_ | refine T_block ?_ | refine T_inBlock ?_ | refine T_skip ?_)
  refine T_region ?_
  refine L_val _ _ (X_move) rfl ?_
  refine L_val _ _ (X_addU (j + 1) 1 rfl rfl (by omega)) rfl ?_
  refine L_val _ _ (X_assign) rfl ?_
  refine L_nil ?_
  exact ih2 _ _ _ (by omega) ⟨j + 1, ug3, uc3, F3, _, rfl, by omega, rfl, h4⟩
end Go.Proofs.Qxb6500863aDoor
