/-
  modesm.PBKDF2; what modes.PBKDF2 refuses.
-/
import Derived.Test.Qxb6500863aDoorGS
namespace Go.Proofs.Qxb6500863aDoor
set_option linter.unusedSimpArgs false
set_option linter.unusedVariables false
open Go.RowKit
theorem made_ok2 {w w' : World} {l : List Int} {v : Value} (h : Made w l v w') : ∃ a c, v = Sl.val (a, l, c) ∧ Sl.ok w' (a, l, c) ∧ l.length ≤ c ∧ Below w.heap.size w w' := by
  have h0 := h
  obtain ⟨a, c, rfl, o, b⟩ := h
  obtain ⟨a', c', e, ok⟩ := made_ok h0
  simp only [Sl.val, Value.slice.injEq, true_and] at e
  obtain ⟨rfl, rfl⟩ := e
  refine ⟨a, c, rfl, ok, ?_, b⟩
  rcases o.2 with ⟨_, e⟩ | ⟨g, cap, cur, e, _, _, hnc, _⟩
  · omega
  · simp only [Value.slice.injEq, true_and] at e
    omega
set_option maxHeartbeats 8000000 in
set_option maxRecDepth 10000 in
/-- modesm.PBKDF2 over a hash whose digests have 16 octets -/
theorem pbm_ret (sn cr : List Int) (id : Nat) (hid : id < 5) (hsz : szD id = 16) (K S : Sl) (count n : Nat) (w : World) (hG : Glob sn cr w) (hK : Sl.ok w K) (hS : Sl.ok w S) (hKl : K.2.1.length ≤ 1000) (hSl : S.2.1.length ≤ 1000)
    (hc1 : 1 ≤ count) (hc2 : count ≤ 65536) (hn1 : 1 ≤ n) (hn2 : n ≤ 65536) :
    Ret Tryd.prog 13 #[.int .i64 (id : Int), K.val, S.val, .int .i64 (count : Int), .int .i64 (n : Int)] w fun v w' => ∃ a c, v = .slice a n c ∧ Sl.ok w' (a, pbN (hmN sn cr id K.2.1) S.2.1 count n, c) ∧ Below w.heap.size w w' := by
  refine ret_of_T (vs := [.int .i64 (id : Int), K.val, S.val, .int .i64 (count : Int), .int .i64 (n : Int)]) Tryd.func13 Tryd.ntmps13 rfl (Nat.le_of_ble_eq_true rfl) ?_
  have hHl : ∀ x, (hmN sn cr id K.2.1 x).length = 16 := fun x => (hmN_len sn cr hid K.2.1 x).trans hsz
  have hhm : ∀ z X, Below w.heap.size w z → Sl.ok z X → X.2.1.length ≤ 1000000 → Ret Tryd.prog 16 #[.int .i64 (id : Int), K.val, X.val] z (Made z (hmN sn cr id K.2.1 X.2.1)) := fun z X bz hX hl => hmac_ret sn cr id hid K X z (hG.below bz) (hK.below bz) hX (by omega) hl
  generalize hmN sn cr id K.2.1 = H at *
  have hdl := dkL_len (pT_len hHl S.2.1 count)
  obtain ⟨M, hM⟩ : ∃ M, M = (n + 15) / 16 := ⟨_, rfl⟩
  repeat (first | refine T_seq ?_ | refine T_block ?_ | refine T_inBlock ?_ | refine T_skip ?_)
  refine T_region ?_
  refine L_val _ _ (X_assign) rfl ?_
  refine L_nil ?_
  repeat (first | refine T_seq ?_ | refine T_block ?_ | refine T_inBlock ?_ | refine T_skip ?_)
  refine T_region ?_
  refine L_buildSlice #[] 5 (by kernel_rfl) rfl fun w1 h1 => ?_
  refine L_val _ _ (X_assign) rfl ?_
  refine L_nil ?_
  have b1 : Below w.heap.size w w1 := h1.below (Below.refl _ _) (Nat.le_refl _)
  repeat (first | refine T_seq ?_ | refine T_block ?_ | refine T_inBlock ?_ | refine T_skip ?_)
  refine T_region ?_
  refine L_val _ _ (X_assign) rfl ?_
  refine L_nil ?_
  repeat (first | refine T_seq ?_ | refine T_block ?_ | refine T_inBlock ?_ | refine T_skip ?_)
  refine T_loopS [11, 12, 0, 1, 2, 3, 4] (fun r vs z => ∃ (m : Nat) (a : Option Addr) (c : Nat), vs = [Sl.val (a, dkL (pT H S.2.1 count) m, c), .int .u32 ((m + 1 : Nat) : Int), .int .i64 (id : Int), K.val, S.val, .int .i64 (count : Int), .int .i64 (n : Int)] ∧ m ≤ M ∧ r = M - m ∧ Sl.ok z (a, dkL (pT H S.2.1 count) m, c) ∧ (dkL (pT H S.2.1 count) m).length ≤ c ∧ Below w.heap.size w z) M
    ⟨0, some ⟨w.heap.size, 0, none⟩, 0, rfl, by omega, rfl, ⟨⟨fun j x hx => by simp [dkL] at hx⟩, fun h => by cases h⟩, by simp [dkL], b1⟩ ?_
  clear h1 b1
  rintro r vs ρ z ⟨m, a, c, rfl, hm, rfl, ok, hc, bz⟩ ih
  have hl := hdl m
  repeat (first | refine T_seq ?_ | refine T_block ?_ | refine T_inBlock ?_ | refine T_skip ?_)
  refine T_region ?_
  refine L_val _ _ (X_move) rfl ?_
  refine L_val _ _ (X_lenS U25 rfl) rfl ?_
  refine L_val _ _ (X_move) rfl ?_
  refine L_val _ _ (X_cmp rfl rfl rfl) rfl ?_
  refine L_nil ?_
  repeat (first | refine T_seq ?_ | refine T_block ?_ | refine T_inBlock ?_ | refine T_skip ?_)
  refine T_if rfl (fun ht => ?_) (fun hf => ?_)
  case refine_2 =>
    have hge : ¬ m * 16 < n := by simp [cmpB, hl] at hf; omega
    obtain rfl : m = M := by omega
    refine T_exit rfl ?_
    repeat (first | refine T_seq ?_ | refine T_block ?_ | refine T_inBlock ?_ | refine T_skip ?_)
    refine T_region ?_
    refine L_val _ _ (X_move) rfl ?_
    refine L_val _ _ (X_move) rfl ?_
    refine L_val _ _ (X_sliceH U25 S5 rfl rfl (show n ≤ c by omega)) rfl ?_
    refine L_val _ _ (X_assign) rfl ?_
    refine L_nil ?_
    refine T_ret1 Tryd.func13 rfl ⟨a, c, rfl, ⟨?_, fun ha => ?_⟩, bz⟩
    · rw [pbN, ← hM]
      exact ints_take ok.1 n
    · have := ok.2 ha
      simp only at this
      omega
  have hlt : m * 16 < n := by simp [cmpB, hl] at ht; omega
  have sz := bz.size
  repeat (first | refine T_seq ?_ | refine T_block ?_ | refine T_inBlock ?_ | refine T_skip ?_)
  refine T_region ?_
  refine L_val _ _ (X_move) rfl ?_
  refine L_val _ _ (X_move) rfl ?_
  refine L_val _ _ (X_move) rfl ?_
  refine L_val _ _ (X_move) rfl ?_
  refine L_callF [.int .u32 ((m + 1 : Nat) : Int)] E36 rfl rfl (int32_ret (m + 1) z) ?_
  rintro v1 z1 hm1
  obtain ⟨a1, c1, rfl, ok1, -, b1⟩ := made_ok2 hm1
  have bz1 : Below w.heap.size w z1 := bz.trans (b1.mono sz)
  refine L_buildSlice #[S.val, Sl.val (a1, be4 (m + 1), c1)] 25 (by kernel_rfl) rfl fun z2 h2 => ?_
  have hj := join2 S (a1, be4 (m + 1), c1) z1 z2 (hS.below bz1) ok1 (by show S.2.1.length + 4 ≤ _; omega) h2
  have b2 : Below z1.heap.size z1 z2 := h2.below (Below.refl _ _) (Nat.le_refl _)
  have bz2 : Below w.heap.size w z2 := bz1.trans (b2.mono bz1.size)
  refine L_callF [.slice (some ⟨z1.heap.size, 0, none⟩) 2 2] E26 rfl rfl hj ?_
  rintro v3 z3 hm3
  obtain ⟨a3, c3, rfl, ok3, -, b3⟩ := made_ok2 hm3
  have bz3 : Below w.heap.size w z3 := bz2.trans (b3.mono bz2.size)
  refine L_callF [.int .i64 (id : Int), K.val, Sl.val (a3, S.2.1 ++ be4 (m + 1), c3)] E16 rfl rfl (hhm z3 (a3, S.2.1 ++ be4 (m + 1), c3) bz3 ok3 (by show (S.2.1 ++ be4 (m + 1)).length ≤ _; rw [List.length_append, be4_len]; omega)) ?_
  rintro v4 z4 hm4
  obtain ⟨a4, c4, rfl, ok4, -, b4⟩ := made_ok2 hm4
  have bz4 : Below w.heap.size w z4 := bz3.trans (b4.mono bz3.size)
  refine L_val _ _ (X_assign) rfl ?_
  refine L_nil ?_
  have okd := ((((ok.below b1).below b2).below b3).below b4)
  clear hm1 ok1 hj h2 hm3 ok3 hm4 b1 b2 b3 b4 bz1 bz2 bz3 ok
  repeat (first | refine T_seq ?_ | refine T_block ?_ | refine T_inBlock ?_ | refine T_skip ?_)
  refine T_region ?_
  refine L_val _ _ (X_move) rfl ?_
  refine L_val _ _ (X_assign) rfl ?_
  refine L_nil ?_
  repeat (first | refine T_seq ?_ | refine T_block ?_ | refine T_inBlock ?_ | refine T_skip ?_)
  refine T_region ?_
  refine L_val _ _ (X_assign) rfl ?_
  refine L_nil ?_
  repeat (first | refine T_seq ?_ | refine T_block ?_ | refine T_inBlock ?_ | refine T_skip ?_)
  refine T_loopS [15, 13, 14, 11, 12, 0, 1, 2, 3, 4] (fun r vs y => ∃ (q : Nat) (au at_ : Option Addr) (cu ct : Nat), vs = [.int .i64 ((q + 2 : Nat) : Int), Sl.val (au, (ut H (S.2.1 ++ be4 (m + 1)) q).1, cu), Sl.val (at_, (ut H (S.2.1 ++ be4 (m + 1)) q).2, ct), Sl.val (a, dkL (pT H S.2.1 count) m, c), .int .u32 ((m + 1 : Nat) : Int), .int .i64 (id : Int), K.val, S.val, .int .i64 (count : Int), .int .i64 (n : Int)] ∧ q + 1 ≤ count ∧ r = count - (q + 1) ∧ Sl.ok y (au, (ut H (S.2.1 ++ be4 (m + 1)) q).1, cu) ∧ Sl.ok y (at_, (ut H (S.2.1 ++ be4 (m + 1)) q).2, ct) ∧ Sl.ok y (a, dkL (pT H S.2.1 count) m, c) ∧ Below w.heap.size w y) (count - 1)
    ⟨0, a4, a4, c4, c4, rfl, by omega, by omega, ok4, ok4, okd, bz4⟩ ?_
  clear ok4 okd bz4 bz sz
  rintro r vs ρ2 y ⟨q, au, at_, cu, ct, rfl, hq, rfl, oku, okt, okd, bz⟩ ih2
  have sz := bz.size
  have hul := ut_len hHl (S.2.1 ++ be4 (m + 1)) q
  repeat (first | refine T_seq ?_ | refine T_block ?_ | refine T_inBlock ?_ | refine T_skip ?_)
  refine T_region ?_
  refine L_val _ _ (X_move) rfl ?_
  refine L_val _ _ (X_move) rfl ?_
  refine L_val _ _ (X_cmp rfl rfl rfl) rfl ?_
  refine L_nil ?_
  repeat (first | refine T_seq ?_ | refine T_block ?_ | refine T_inBlock ?_ | refine T_skip ?_)
  refine T_if rfl (fun ht2 => ?_) (fun hf2 => ?_)
  case refine_2 =>
    have hge : ¬ q + 2 ≤ count := by simp [cmpB] at hf2; omega
    obtain rfl : q = count - 1 := by omega
    refine T_exit rfl ?_
    repeat (first | refine T_seq ?_ | refine T_block ?_ | refine T_inBlock ?_ | refine T_skip ?_)
    refine T_region ?_
    refine L_val _ _ (X_move) rfl ?_
    refine L_val _ _ (X_move) rfl ?_
    refine L_buildSlice #[Sl.val (a, dkL (pT H S.2.1 count) m, c), Sl.val (at_, (ut H (S.2.1 ++ be4 (m + 1)) (count - 1)).2, ct)] 25 (by kernel_rfl) rfl fun y1 h1 => ?_
    have hj := join2 (a, dkL (pT H S.2.1 count) m, c) (at_, (ut H (S.2.1 ++ be4 (m + 1)) (count - 1)).2, ct) y y1 okd okt (by show (dkL (pT H S.2.1 count) m).length + (ut H (S.2.1 ++ be4 (m + 1)) (count - 1)).2.length ≤ _; omega) h1
    have b1 : Below y.heap.size y y1 := h1.below (Below.refl _ _) (Nat.le_refl _)
    have bz1 : Below w.heap.size w y1 := bz.trans (b1.mono sz)
    refine L_callF [.slice (some ⟨y.heap.size, 0, none⟩) 2 2] E26 rfl rfl hj ?_
    rintro v2 y2 hm2
    obtain ⟨a2, c2, rfl, ok2, hc2', b2⟩ := made_ok2 hm2
    have bz2 : Below w.heap.size w y2 := bz1.trans (b2.mono bz1.size)
    refine L_val _ _ (X_assign) rfl ?_
    refine L_nil ?_
    repeat (first | refine T_seq ?_ | refine T_block ?_ | refine T_inBlock ?_ | refine T_skip ?_)
    refine T_region ?_
    refine L_val _ _ (X_move) rfl ?_
    refine L_val _ _ (X_addU (m + 1) 1 rfl rfl (by omega)) rfl ?_
    refine L_val _ _ (X_assign) rfl ?_
    refine L_nil ?_
    exact ih _ _ _ (by omega) ⟨m + 1, a2, c2, rfl, by omega, rfl, ok2, hc2', bz2⟩
  have hlt2 : q + 2 ≤ count := by simp [cmpB] at ht2; omega
  repeat (first | refine T_seq ?_ | refine T_block ?_ | refine T_inBlock ?_ | refine T_skip ?_)
  refine T_region ?_
  refine L_val _ _ (X_move) rfl ?_
  refine L_val _ _ (X_move) rfl ?_
  refine L_val _ _ (X_move) rfl ?_
  refine L_callF [.int .i64 (id : Int), K.val, Sl.val (au, (ut H (S.2.1 ++ be4 (m + 1)) q).1, cu)] E16 rfl rfl (hhm y _ bz oku (by show (ut H (S.2.1 ++ be4 (m + 1)) q).1.length ≤ _; omega)) ?_
  rintro v1 y1 hm1
  obtain ⟨a1, c1, rfl, ok1, -, b1⟩ := made_ok2 hm1
  have bz1 : Below w.heap.size w y1 := bz.trans (b1.mono sz)
  refine L_val _ _ (X_assign) rfl ?_
  refine L_nil ?_
  repeat (first | refine T_seq ?_ | refine T_block ?_ | refine T_inBlock ?_ | refine T_skip ?_)
  refine T_region ?_
  refine L_val _ _ (X_move) rfl ?_
  refine L_val _ _ (X_move) rfl ?_
  refine L_callF [Sl.val (at_, (ut H (S.2.1 ++ be4 (m + 1)) q).2, ct), Sl.val (a1, H (ut H (S.2.1 ++ be4 (m + 1)) q).1, c1)] E37 rfl rfl (xor_ret at_ a1 _ _ ct c1 y1 (okt.below b1).1 ok1.1 (by show (ut H (S.2.1 ++ be4 (m + 1)) q).2.length = (H (ut H (S.2.1 ++ be4 (m + 1)) q).1).length; rw [hHl, hul.2]) (by show (ut H (S.2.1 ++ be4 (m + 1)) q).2.length ≤ _; omega)) ?_
  rintro v2 y2 hm2
  obtain ⟨a2, c2, rfl, ok2, -, b2⟩ := made_ok2 hm2
  have bz2 : Below w.heap.size w y2 := bz1.trans (b2.mono bz1.size)
  refine L_val _ _ (X_assign) rfl ?_
  refine L_nil ?_
  repeat (first | refine T_seq ?_ | refine T_block ?_ | refine T_inBlock ?_ | refine T_skip ?_)
  refine T_region ?_
  refine L_val _ _ (X_move) rfl ?_
  refine L_val _ _ (X_add rfl rfl (by omega) (by omega)) rfl ?_
  refine L_val _ _ (X_assign) rfl ?_
  refine L_nil ?_
  exact ih2 _ _ _ (by omega) ⟨q + 1, a1, a2, c1, c2, rfl, by omega, rfl, ok1.below b2, ok2, (okd.below b1).below b2, bz2⟩
end Go.Proofs.Qxb6500863aDoor
