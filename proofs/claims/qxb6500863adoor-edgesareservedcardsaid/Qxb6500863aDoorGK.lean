/-
  hmacHolds.
-/
import Derived.Test.Qxb6500863aDoorGJ
namespace Go.Proofs.Qxb6500863aDoor
set_option linter.unusedSimpArgs false
set_option linter.unusedVariables false
open Go.RowKit
theorem U44 : UN Tryd.prog 44 (.pointer 70) := fun _ => by kernel_rfl
/-- A running HMAC that was made at world w5. -/
def MacB (w5 z : World) (mb id : Nat) (ip op l : List Int) : Prop := ∃ F, Mac z w5.heap.size F mb id ip op l ∧ Below w5.heap.size w5 z
theorem MacB.keep {w5 z z' : World} {mb id : Nat} {ip op l : List Int} (h : MacB w5 z mb id ip op l) (hb : Below z.heap.size z z') : MacB w5 z' mb id ip op l := by
  obtain ⟨F, hM, hB⟩ := h
  exact ⟨F, hM.below hb, hB.trans (hb.mono hB.size)⟩
theorem MacB.bel {w5 z : World} {mb id : Nat} {ip op l : List Int} (h : MacB w5 z mb id ip op l) : Below w5.heap.size w5 z := h.choose_spec.2
theorem MacB.size_ret {w5 z : World} {mb id : Nat} {ip op l : List Int} (h : MacB w5 z mb id ip op l) : Ret Tryd.prog 24 #[.pointer (some ⟨mb, 0, none⟩)] z fun v z' => v = .int .i64 (szD id : Int) ∧ Below z.heap.size z z' := by
  obtain ⟨F, hM, hB⟩ := h
  exact msize_ret _ _ _ _ _ _ _ _ hM
theorem MacB.reset_ret {w5 z : World} {mb id : Nat} {ip op l : List Int} (h : MacB w5 z mb id ip op l) : Ret Tryd.prog 27 #[.pointer (some ⟨mb, 0, none⟩)] z fun v z' => MacB w5 z' mb id ip op ip := by
  obtain ⟨F, hM, hB⟩ := h
  refine (mreset_ret _ _ _ _ _ _ _ _ hM).mono fun v z' hm => ?_
  have b := hm.below hM hB hB.size
  obtain ⟨F', hM', -, -⟩ := hm
  exact ⟨F', hM', b⟩
theorem MacB.feed_ret {w5 z : World} {mb id : Nat} {ip op l : List Int} (h : MacB w5 z mb id ip op l) (X U : Sl) (hX : Sl.ok w5 X) (hXc : X.2.1.length ≤ X.2.2) (hU : Sl.ok w5 U) (hUb : ∀ x ∈ U.2.1, 0 ≤ x ∧ x < 256) (hl : l.length + X.2.1.length ≤ 10000000) (hUl : U.2.1.length ≤ 1000000) :
    Ret Tryd.prog 23 #[.iface 44 (.pointer (some ⟨mb, 0, none⟩)), X.val, U.val] z fun v z' => MacB w5 z' mb id ip op (l ++ X.2.1) := by
  obtain ⟨F, hM, hB⟩ := h
  have hz : ∀ z', Chs F z z' → Below w5.heap.size w5 z' := fun z' c => c.below hB hB.size (fun k hk => (hM.lt k hk).1)
  refine (Qxb6500863aDoor.feed_ret _ _ _ _ _ _ _ X U z hM (fun z' c => hX.below (hz z' c)) hXc (fun z' c => hU.below (hz z' c)) hUb hl hUl).mono fun v z' hm => ?_
  have b := hm.below hM hB hB.size
  obtain ⟨F', hM', -, -⟩ := hm
  exact ⟨F', hM', b⟩
theorem owns_sl {w : World} {base : Nat} {l : List Int} {v : Value} (o : w.ownsRow base 5 1 v l.length (iv .u8 l)) : ∃ a c, v = Sl.val (a, l, c) ∧ Sl.ok w (a, l, c) := by
  obtain ⟨a, c, rfl, hz, _⟩ := owns_val o
  exact ⟨a, c, rfl, ints_owns o rfl, hz⟩
theorem MacB.sum_ret {sn cr : List Int} {w5 z : World} {mb id : Nat} {ip op l : List Int} (h : MacB w5 z mb id ip op l) (hG : Glob sn cr w5) (hl : l.length ≤ 1000000) :
    Ret Tryd.prog 25 #[.pointer (some ⟨mb, 0, none⟩), .slice none 0 0] z fun v z' => (∃ a c, v = Sl.val (a, dg sn cr id (op ++ dg sn cr id l), c) ∧ Sl.ok z' (a, dg sn cr id (op ++ dg sn cr id l), c)) ∧ MacB w5 z' mb id ip op l := by
  obtain ⟨F, hM, hB⟩ := h
  have hgs := hG.size
  refine (msum_ret sn cr _ _ _ _ _ _ _ [] (.slice none 0 0) z (hG.below hB) (by omega) hM (World.ownsRow_nil _ _ _ _) (fun b h => by cases h) hl (by simp)).mono ?_
  rintro v z' ⟨o, -, ⟨F', hM', -, -⟩, c, -⟩
  rw [List.nil_append] at o
  exact ⟨owns_sl o, F', hM', c.below hB hB.size (fun k hk => hk.elim (fun h => (hM.lt k h).1) (fun h => by cases h))⟩
/-- Sum onto a list that was just laid. -/
theorem MacB.sum_head {sn cr : List Int} {w5 z z1 : World} {mb id : Nat} {ip op l hd : List Int} (h : MacB w5 z mb id ip op l) (hG : Glob sn cr w5) (hl : l.length ≤ 1000000) (hc : Chg z z1 z.heap.size (.cells (iv .u8 hd).toArray 5 (0, 0))) (hh : hd.length ≤ 1000) :
    Ret Tryd.prog 25 #[.pointer (some ⟨mb, 0, none⟩), .slice (some ⟨z.heap.size, 0, none⟩) hd.length hd.length] z1 fun v z' => (∃ a c, v = Sl.val (a, hd ++ dg sn cr id (op ++ dg sn cr id l), c) ∧ Sl.ok z' (a, hd ++ dg sn cr id (op ++ dg sn cr id l), c)) ∧ Sl.ok z' (some ⟨z.heap.size, 0, none⟩, hd, hd.length) ∧ MacB w5 z' mb id ip op l := by
  obtain ⟨F, hM, hB⟩ := h
  have hgs := hG.size
  have hb1 : Below z.heap.size z z1 := hc.below (Below.refl _ _) (Nat.le_refl _)
  have hB1 : Below w5.heap.size w5 z1 := hB.trans (hb1.mono hB.size)
  have hM1 := hM.below hb1
  have o1 : z1.ownsRow w5.heap.size 5 1 (.slice (some ⟨z.heap.size, 0, none⟩) hd.length hd.length) hd.length (iv .u8 hd) :=
    ⟨by rw [iv_len, Nat.mul_one], .inr ⟨z.heap.size, hd.length, _, rfl, hB.size, hc.here, Nat.le_refl _, by simp only [maxLen]; omega, by simp [iv_len], by rw [List.take_of_length_le (by simp [iv_len])]⟩⟩
  refine (msum_ret sn cr _ _ _ _ _ _ _ hd _ z1 (hG.below hB1) (by omega) hM1 o1 (fun b h hf => by
    have h1 : z.heap.size = b := Option.some.inj h
    have := (hM.lt b hf).2
    omega) hl (by omega)).mono ?_
  rintro v z' ⟨o, q, ⟨F', hM', -, -⟩, c, -⟩
  refine ⟨owns_sl o, ?_, F', hM', c.below hB1 hB1.size (fun k hk => hk.elim (fun h => (hM.lt k h).1) (fun h => ?_))⟩
  · exact ⟨ints_owns q rfl, fun h => by cases h⟩
  · have h1 : z.heap.size = k := Option.some.inj h
    have := hB.size
    omega
theorem eq_true {w : World} {X Y : Sl} (hX : Sl.ok w X) (hY : Sl.ok w Y) (h : X.2.1 = Y.2.1) (hn : X.2.1.length ≤ 1000000) : Ret Tryd.prog 12 #[X.val, Y.val] w fun v w' => v = .bool true ∧ Below w.heap.size w w' := by
  refine (equal_ret X.1 Y.1 X.2.1 Y.2.1 X.2.2 Y.2.2 w hX.1 hY.1 hn).mono ?_
  rintro v w' ⟨rfl, b⟩
  exact ⟨by simp [h], b⟩
theorem hmN_len (sn cr : List Int) {id : Nat} (hid : id < 5) (k t : List Int) : (hmN sn cr id k t).length = szD id := dg_len sn cr hid _
set_option maxHeartbeats 8000000 in
set_option maxRecDepth 10000 in
/-- modeslaw.hmacHolds: true -/
theorem holds_ret (sn cr : List Int) (id : Nat) (hid : id < 5) (K X Y U : Sl) (w : World) (hG : Glob sn cr w) (hK : Sl.ok w K) (hX : Sl.ok w X) (hY : Sl.ok w Y) (hU : Sl.ok w U) (hKl : K.2.1.length ≤ 100000) (hXl : X.2.1.length ≤ 100000) (hYl : Y.2.1.length ≤ 100000) (hUl : U.2.1.length ≤ 100000) (hXc : X.2.1.length ≤ X.2.2) (hYc : Y.2.1.length ≤ Y.2.2) (hUb : ∀ x ∈ U.2.1, 0 ≤ x ∧ x < 256) :
    Ret Tryd.prog 9 #[.int .i64 (id : Int), K.val, X.val, Y.val, U.val] w fun v w' => v = .bool true ∧ Below w.heap.size w w' := by
  refine ret_of_T (vs := [.int .i64 (id : Int), K.val, X.val, Y.val, U.val]) Tryd.func9 Tryd.ntmps9 rfl (Nat.le_of_ble_eq_true rfl) ?_
  have hwl := hmN_len sn cr hid K.2.1 X.2.1
  have hsz := szD_le hid
  have hipl := ipN_len sn cr hid K.2.1
  have hbc := blkD_cases hid
  repeat (first | refine T_seq ?_ | refine T_block ?_ | refine T_inBlock ?_ | refine T_skip ?_)
  refine T_region ?_
  refine L_val _ _ (X_assign) rfl ?_
  refine L_nil ?_
  repeat (first | refine T_seq ?_ | refine T_block ?_ | refine T_inBlock ?_ | refine T_skip ?_)
  refine T_region ?_
  refine L_val _ _ (X_move) rfl ?_
  refine L_val _ _ (X_move) rfl ?_
  refine L_val _ _ (X_move) rfl ?_
  refine L_callF [.int .i64 (id : Int), K.val, X.val] E21 rfl rfl (formula_ret sn cr id hid K X w hG hK hX (by omega) (by omega)) ?_
  rintro v1 w1 hm1
  have b1 := hm1.choose_spec.choose_spec.2.2
  obtain ⟨a0, c0, rfl, ok0⟩ := made_ok hm1
  refine L_val _ _ (X_assign) rfl ?_
  refine L_nil ?_
  have e2 : cmpB .neq ((hmN sn cr id K.2.1 X.2.1).length : Int) (szD id : Int) = false := by simp [cmpB, hwl]
  refine T_seq ?_
  refine T_seq ?_
  refine T_region ?_
  refine L_val _ _ (X_move) rfl ?_
  refine L_val _ _ (X_lenS U25 rfl) rfl ?_
  refine L_val _ _ (X_move) rfl ?_
  refine L_callF [.int .i64 (id : Int)] E22 rfl rfl (size_ret id hid w1) ?_
  rintro v2 w2 ⟨rfl, b2⟩
  have bw2 : Below w.heap.size w w2 := b1.trans (b2.mono b1.size)
  refine L_val _ _ (X_cmpR false rfl rfl rfl e2) rfl ?_
  refine L_val _ _ (X_move) rfl ?_
  refine L_guard rfl rfl rfl ?_
  refine L_val _ _ (X_move) rfl ?_
  refine L_guard rfl rfl rfl ?_
  refine L_val _ _ (X_move) rfl ?_
  refine L_guard rfl rfl rfl ?_
  refine L_val _ _ (X_move) rfl ?_
  refine L_guard rfl rfl rfl ?_
  refine L_val _ _ (X_move) rfl ?_
  refine L_guard rfl rfl rfl ?_
  refine L_callF [.int .i64 (id : Int), K.val, X.val] E16 rfl rfl (hmac_ret sn cr id hid K X w2 (hG.below bw2) (hK.below bw2) (hX.below bw2) (by omega) (by omega)) ?_
  rintro v3 w3 hm3
  have b3 := hm3.choose_spec.choose_spec.2.2
  obtain ⟨a3, c3, rfl, ok3⟩ := made_ok hm3
  refine L_guard rfl rfl rfl ?_
  refine L_callF [Sl.val (a0, hmN sn cr id K.2.1 X.2.1, c0), Sl.val (a3, hmN sn cr id K.2.1 X.2.1, c3)] E12 rfl rfl (eq_true ((ok0.below b2).below b3) ok3 rfl (by show (hmN sn cr id K.2.1 X.2.1).length ≤ _; omega)) ?_
  rintro v4 w4 ⟨rfl, b4⟩
  refine L_guard rfl rfl rfl ?_
  refine L_val _ _ (X_not rfl) rfl ?_
  refine L_val _ _ (X_pick rfl) rfl ?_
  refine L_nil ?_
  have bw3 : Below w.heap.size w w3 := bw2.trans (b3.mono bw2.size)
  have bw4 : Below w.heap.size w w4 := bw3.trans (b4.mono bw3.size)
  have ok04 : Sl.ok w4 (a0, hmN sn cr id K.2.1 X.2.1, c0) := ((ok0.below b2).below b3).below b4
  clear hm1 hm3 ok0 ok3 b1 b2 b3 b4
  refine T_false rfl ?_
  refine T_skip ?_
  refine T_cut [0, 1, 2, 3, 4, 11] (fun vs u => vs = [.int .i64 (id : Int), K.val, X.val, Y.val, U.val, Sl.val (a0, hmN sn cr id K.2.1 X.2.1, c0)] ∧ u = w4) ⟨rfl, rfl⟩ ?_
  rintro vs ρ0 u ⟨rfl, rfl⟩
  clear bw2 bw3
  repeat (first | refine T_seq ?_ | refine T_block ?_ | refine T_inBlock ?_ | refine T_skip ?_)
  refine T_region ?_
  refine L_val _ _ (X_move) rfl ?_
  refine L_callF [.int .i64 (id : Int)] E10 rfl rfl (hashOf_ret id u) ?_
  rintro v5 w5 ⟨rfl, k5, b5⟩
  have bw5 : Below w.heap.size w w5 := bw4.trans (b5.mono bw4.size)
  refine L_val _ _ (X_move) rfl ?_
  refine L_callF [.func (.func 29) #[] #[.pointer (some ⟨u.heap.size, 0, none⟩)], K.val] E14 rfl rfl (newmac_ret sn cr id u.heap.size hid K w5 (hG.below bw5) k5 (hK.below bw5) (by omega)) ?_
  rintro v6 w6 ⟨mb, F, rfl, hM6, b6⟩
  refine L_val _ _ (X_assign) rfl ?_
  refine L_nil ?_
  have hG5 := hG.below bw5
  have hK5 := hK.below bw5
  have hX5 := hX.below bw5
  have hY5 := hY.below bw5
  have hU5 := hU.below bw5
  have ok05 := ok04.below b5
  have M6 : MacB w5 w6 mb id (ipN sn cr id K.2.1) (opN sn cr id K.2.1) (ipN sn cr id K.2.1) := ⟨F, hM6, b6⟩
  have hmx : dg sn cr id (opN sn cr id K.2.1 ++ dg sn cr id (ipN sn cr id K.2.1 ++ X.2.1)) = hmN sn cr id K.2.1 X.2.1 := rfl
  have hmy : dg sn cr id (opN sn cr id K.2.1 ++ dg sn cr id (ipN sn cr id K.2.1 ++ Y.2.1)) = hmN sn cr id K.2.1 Y.2.1 := rfl
  have hmxy : dg sn cr id (opN sn cr id K.2.1 ++ dg sn cr id (ipN sn cr id K.2.1 ++ X.2.1 ++ Y.2.1)) = hmN sn cr id K.2.1 (X.2.1 ++ Y.2.1) := by rw [List.append_assoc]; rfl
  have lxy := hmN_len sn cr hid K.2.1 (X.2.1 ++ Y.2.1)
  have ly := hmN_len sn cr hid K.2.1 Y.2.1
  clear hM6 ok04
  generalize ipN sn cr id K.2.1 = ip at *
  generalize opN sn cr id K.2.1 = op at *
  repeat (first | refine T_seq ?_ | refine T_block ?_ | refine T_inBlock ?_ | refine T_skip ?_)
  refine T_region ?_
  refine L_val _ _ (X_move) rfl ?_
  refine L_val _ _ (X_mkIface U44 (by simp)) rfl ?_
  refine L_val _ _ (X_move) rfl ?_
  refine L_val _ _ (X_move) rfl ?_
  refine L_callF [.iface 44 (.pointer (some ⟨mb, 0, none⟩)), X.val, U.val] E23 rfl rfl (M6.feed_ret X U hX5 hXc hU5 hUb (by omega) (by omega)) ?_
  rintro v7 w7 M7
  refine L_nil ?_
  have e6 : cmpB .neq (szD id : Int) ((hmN sn cr id K.2.1 X.2.1).length : Int) = false := by simp [cmpB, hwl]
  have hlx : (ip ++ X.2.1).length ≤ 1000000 := by rw [List.length_append]; omega
  refine T_seq ?_
  refine T_seq ?_
  refine T_region ?_
  refine L_val _ _ (X_move) rfl ?_
  refine L_callF [.pointer (some ⟨mb, 0, none⟩)] E24 rfl rfl M7.size_ret ?_
  rintro v8 w8 ⟨rfl, b8⟩
  have M8 := M7.keep b8
  refine L_val _ _ (X_move) rfl ?_
  refine L_val _ _ (X_lenS U25 rfl) rfl ?_
  refine L_val _ _ (X_cmpR false rfl rfl rfl e6) rfl ?_
  refine L_val _ _ (X_move) rfl ?_
  refine L_guard rfl rfl rfl ?_
  refine L_val _ _ (X_move) rfl ?_
  refine L_guard rfl rfl rfl ?_
  refine L_callF [.pointer (some ⟨mb, 0, none⟩), .slice none 0 0] E25 rfl rfl (M8.sum_ret hG5 hlx) ?_
  rintro v9 w9 ⟨⟨a9, c9, rfl, ok9⟩, M9⟩
  rw [hmx] at ok9
  rw [hmx]
  refine L_guard rfl rfl rfl ?_
  refine L_val _ _ (X_move) rfl ?_
  refine L_guard rfl rfl rfl ?_
  refine L_callF [Sl.val (a9, hmN sn cr id K.2.1 X.2.1, c9), Sl.val (a0, hmN sn cr id K.2.1 X.2.1, c0)] E12 rfl rfl (eq_true ok9 (ok05.below M9.bel) rfl (by show (hmN sn cr id K.2.1 X.2.1).length ≤ _; omega)) ?_
  rintro v10 w10 ⟨rfl, b10⟩
  have M10 := M9.keep b10
  refine L_guard rfl rfl rfl ?_
  refine L_val _ _ (X_not rfl) rfl ?_
  refine L_val _ _ (X_pick rfl) rfl ?_
  refine L_val _ _ (X_move) rfl ?_
  refine L_guard rfl rfl rfl ?_
  refine L_val _ _ (X_move) rfl ?_
  refine L_guard rfl rfl rfl ?_
  refine L_callF [.pointer (some ⟨mb, 0, none⟩), .slice none 0 0] E25 rfl rfl (M10.sum_ret hG5 hlx) ?_
  rintro v11 w11 ⟨⟨a11, c11, rfl, ok11⟩, M11⟩
  rw [hmx] at ok11
  rw [hmx]
  refine L_guard rfl rfl rfl ?_
  refine L_val _ _ (X_move) rfl ?_
  refine L_guard rfl rfl rfl ?_
  refine L_callF [Sl.val (a11, hmN sn cr id K.2.1 X.2.1, c11), Sl.val (a0, hmN sn cr id K.2.1 X.2.1, c0)] E12 rfl rfl (eq_true ok11 (ok05.below M11.bel) rfl (by show (hmN sn cr id K.2.1 X.2.1).length ≤ _; omega)) ?_
  rintro v12 w12 ⟨rfl, b12⟩
  have M12 := M11.keep b12
  refine L_guard rfl rfl rfl ?_
  refine L_val _ _ (X_not rfl) rfl ?_
  refine L_val _ _ (X_pick rfl) rfl ?_
  refine L_nil ?_
  clear ok9 ok11 M6 M7 M8 M9 M10 M11 b8 b10 b12
  refine T_false rfl ?_
  refine T_skip ?_
  refine T_cut [0, 1, 2, 3, 4, 11, 12] (fun vs u => vs = [.int .i64 (id : Int), K.val, X.val, Y.val, U.val, Sl.val (a0, hmN sn cr id K.2.1 X.2.1, c0), .pointer (some ⟨mb, 0, none⟩)] ∧ u = w12) ⟨rfl, rfl⟩ ?_
  rintro vs ρ1 u1 ⟨rfl, rfl⟩
  repeat (first | refine T_seq ?_ | refine T_block ?_ | refine T_inBlock ?_ | refine T_skip ?_)
  refine T_region ?_
  refine L_buildSlice #[.int .u8 1, .int .u8 2, .int .u8 3] 5 (by kernel_rfl) rfl fun w13 h13 => ?_
  refine L_val _ _ (X_assign) rfl ?_
  refine L_nil ?_
  refine T_seq ?_
  refine T_seq ?_
  refine T_region ?_
  refine L_val _ _ (X_move) rfl ?_
  refine L_val _ _ (X_move) rfl ?_
  refine L_callF [.pointer (some ⟨mb, 0, none⟩), .slice (some ⟨u1.heap.size, 0, none⟩) 3 3] E25 rfl rfl (M12.sum_head (hd := [1, 2, 3]) hG5 hlx h13 (by decide)) ?_
  rintro v14 w14 ⟨⟨a14, c14, rfl, ok14⟩, okh, M14⟩
  rw [hmx] at ok14
  rw [hmx]
  refine L_val _ _ (X_move) rfl ?_
  refine L_val _ _ (X_move) rfl ?_
  refine L_buildSlice #[.slice (some ⟨u1.heap.size, 0, none⟩) 3 3, Sl.val (a0, hmN sn cr id K.2.1 X.2.1, c0)] 25 (by kernel_rfl) rfl fun w15 h15 => ?_
  have hj := join2 (some ⟨u1.heap.size, 0, none⟩, [1, 2, 3], 3) (a0, hmN sn cr id K.2.1 X.2.1, c0) w14 w15 okh (ok05.below M14.bel) (by show 3 + (hmN sn cr id K.2.1 X.2.1).length ≤ _; omega) h15
  have b15 : Below w14.heap.size w14 w15 := h15.below (Below.refl _ _) (Nat.le_refl _)
  refine L_callF [.slice (some ⟨w14.heap.size, 0, none⟩) 2 2] E26 rfl rfl hj ?_
  rintro v16 w16 hm16
  have b16 := hm16.choose_spec.choose_spec.2.2
  obtain ⟨a16, c16, rfl, ok16⟩ := made_ok hm16
  refine L_callF [Sl.val (a14, [1, 2, 3] ++ hmN sn cr id K.2.1 X.2.1, c14), Sl.val (a16, [1, 2, 3] ++ hmN sn cr id K.2.1 X.2.1, c16)] E12 rfl rfl (eq_true ((ok14.below b15).below b16) ok16 rfl (by show ([1, 2, 3] ++ hmN sn cr id K.2.1 X.2.1).length ≤ _; rw [List.length_append]; simp; omega)) ?_
  rintro v17 w17 ⟨rfl, b17⟩
  refine L_val _ _ (X_not rfl) rfl ?_
  refine L_nil ?_
  have M17 := ((M14.keep b15).keep b16).keep b17
  clear M12 h13 ok14 okh M14 h15 hj b15 hm16 b16 ok16 b17
  refine T_false rfl ?_
  refine T_skip ?_
  refine T_cut [0, 1, 2, 3, 4, 11, 12] (fun vs u => vs = [.int .i64 (id : Int), K.val, X.val, Y.val, U.val, Sl.val (a0, hmN sn cr id K.2.1 X.2.1, c0), .pointer (some ⟨mb, 0, none⟩)] ∧ u = w17) ⟨rfl, rfl⟩ ?_
  rintro vs ρ2 u2 ⟨rfl, rfl⟩
  repeat (first | refine T_seq ?_ | refine T_block ?_ | refine T_inBlock ?_ | refine T_skip ?_)
  refine T_region ?_
  refine L_val _ _ (X_move) rfl ?_
  refine L_val _ _ (X_mkIface U44 (by simp)) rfl ?_
  refine L_val _ _ (X_move) rfl ?_
  refine L_val _ _ (X_move) rfl ?_
  refine L_callF [.iface 44 (.pointer (some ⟨mb, 0, none⟩)), Y.val, U.val] E23 rfl rfl (M17.feed_ret Y U hY5 hYc hU5 hUb (by omega) (by omega)) ?_
  rintro v18 w18 M18
  refine L_nil ?_
  have hlxy : (ip ++ X.2.1 ++ Y.2.1).length ≤ 1000000 := by rw [List.length_append, List.length_append]; omega
  refine T_seq ?_
  refine T_seq ?_
  refine T_region ?_
  refine L_val _ _ (X_move) rfl ?_
  refine L_callF [.pointer (some ⟨mb, 0, none⟩), .slice none 0 0] E25 rfl rfl (M18.sum_ret hG5 hlxy) ?_
  rintro v19 w19 ⟨⟨a19, c19, rfl, ok19⟩, M19⟩
  rw [hmxy] at ok19
  rw [hmxy]
  refine L_val _ _ (X_move) rfl ?_
  refine L_val _ _ (X_move) rfl ?_
  refine L_val _ _ (X_move) rfl ?_
  refine L_val _ _ (X_move) rfl ?_
  refine L_buildSlice #[X.val, Y.val] 25 (by kernel_rfl) rfl fun w20 h20 => ?_
  have hj := join2 X Y w19 w20 (hX5.below M19.bel) (hY5.below M19.bel) (by omega) h20
  have b20 : Below w19.heap.size w19 w20 := h20.below (Below.refl _ _) (Nat.le_refl _)
  have M20 := M19.keep b20
  refine L_callF [.slice (some ⟨w19.heap.size, 0, none⟩) 2 2] E26 rfl rfl hj ?_
  rintro v21 w21 hm21
  have b21 := hm21.choose_spec.choose_spec.2.2
  have M21 := M20.keep b21
  obtain ⟨a21, c21, rfl, ok21⟩ := made_ok hm21
  refine L_callF [.int .i64 (id : Int), K.val, Sl.val (a21, X.2.1 ++ Y.2.1, c21)] E21 rfl rfl (formula_ret sn cr id hid K (a21, X.2.1 ++ Y.2.1, c21) w21 (hG5.below M21.bel) (hK5.below M21.bel) ok21 (by omega) (by show (X.2.1 ++ Y.2.1).length ≤ _; rw [List.length_append]; omega)) ?_
  rintro v22 w22 hm22
  have b22 := hm22.choose_spec.choose_spec.2.2
  have M22 := M21.keep b22
  obtain ⟨a22, c22, rfl, ok22⟩ := made_ok hm22
  refine L_callF [Sl.val (a19, hmN sn cr id K.2.1 (X.2.1 ++ Y.2.1), c19), Sl.val (a22, hmN sn cr id K.2.1 (X.2.1 ++ Y.2.1), c22)] E12 rfl rfl (eq_true (((ok19.below b20).below b21).below b22) ok22 rfl (by show (hmN sn cr id K.2.1 (X.2.1 ++ Y.2.1)).length ≤ _; omega)) ?_
  rintro v23 w23 ⟨rfl, b23⟩
  refine L_val _ _ (X_not rfl) rfl ?_
  refine L_nil ?_
  have M23 := M22.keep b23
  clear M17 M18 M19 M20 M21 M22 ok19 h20 hj b20 hm21 b21 ok21 hm22 b22 ok22 b23
  refine T_false rfl ?_
  refine T_skip ?_
  refine T_cut [0, 1, 2, 3, 4, 11, 12] (fun vs u => vs = [.int .i64 (id : Int), K.val, X.val, Y.val, U.val, Sl.val (a0, hmN sn cr id K.2.1 X.2.1, c0), .pointer (some ⟨mb, 0, none⟩)] ∧ u = w23) ⟨rfl, rfl⟩ ?_
  rintro vs ρ3 u3 ⟨rfl, rfl⟩
  repeat (first | refine T_seq ?_ | refine T_block ?_ | refine T_inBlock ?_ | refine T_skip ?_)
  refine T_region ?_
  refine L_val _ _ (X_move) rfl ?_
  refine L_callF [.pointer (some ⟨mb, 0, none⟩)] E27 rfl rfl M23.reset_ret ?_
  rintro v24 w24 M24
  refine L_nil ?_
  repeat (first | refine T_seq ?_ | refine T_block ?_ | refine T_inBlock ?_ | refine T_skip ?_)
  refine T_region ?_
  refine L_val _ _ (X_move) rfl ?_
  refine L_val _ _ (X_mkIface U44 (by simp)) rfl ?_
  refine L_val _ _ (X_move) rfl ?_
  refine L_val _ _ (X_move) rfl ?_
  refine L_callF [.iface 44 (.pointer (some ⟨mb, 0, none⟩)), Y.val, U.val] E23 rfl rfl (M24.feed_ret Y U hY5 hYc hU5 hUb (by omega) (by omega)) ?_
  rintro v25 w25 M25
  refine L_nil ?_
  have hly : (ip ++ Y.2.1).length ≤ 1000000 := by rw [List.length_append]; omega
  refine T_seq ?_
  refine T_seq ?_
  refine T_region ?_
  refine L_val _ _ (X_move) rfl ?_
  refine L_callF [.pointer (some ⟨mb, 0, none⟩), .slice none 0 0] E25 rfl rfl (M25.sum_ret hG5 hly) ?_
  rintro v26 w26 ⟨⟨a26, c26, rfl, ok26⟩, M26⟩
  rw [hmy] at ok26
  rw [hmy]
  refine L_val _ _ (X_move) rfl ?_
  refine L_val _ _ (X_move) rfl ?_
  refine L_val _ _ (X_move) rfl ?_
  refine L_callF [.int .i64 (id : Int), K.val, Y.val] E21 rfl rfl (formula_ret sn cr id hid K Y w26 (hG5.below M26.bel) (hK5.below M26.bel) (hY5.below M26.bel) (by omega) (by omega)) ?_
  rintro v27 w27 hm27
  have b27 := hm27.choose_spec.choose_spec.2.2
  have M27 := M26.keep b27
  obtain ⟨a27, c27, rfl, ok27⟩ := made_ok hm27
  refine L_callF [Sl.val (a26, hmN sn cr id K.2.1 Y.2.1, c26), Sl.val (a27, hmN sn cr id K.2.1 Y.2.1, c27)] E12 rfl rfl (eq_true (ok26.below b27) ok27 rfl (by show (hmN sn cr id K.2.1 Y.2.1).length ≤ _; omega)) ?_
  rintro v28 w28 ⟨rfl, b28⟩
  refine L_val _ _ (X_not rfl) rfl ?_
  refine L_nil ?_
  have M28 := M27.keep b28
  have b528 := M28.bel
  clear M23 M24 M25 M26 M27 M28 ok26 ok27 hm27 b27 b28
  refine T_false rfl ?_
  refine T_skip ?_
  refine T_cut [0, 1, 2, 3] (fun vs u => vs = [.int .i64 (id : Int), K.val, X.val, Y.val] ∧ u = w28) ⟨rfl, rfl⟩ ?_
  rintro vs ρ4 u4 ⟨rfl, rfl⟩
  have bw28 : Below w.heap.size w u4 := bw5.trans (b528.mono bw5.size)
  have hcat : cat [X, Y] = X.2.1 ++ Y.2.1 := by simp [cat]
  have hsm := fun z z1 (h1 : Below w.heap.size w z) (k1 : Blk z u4.heap.size #[.int .i64 (id : Int)] 29) (h2 : Chg z z1 z.heap.size (.cells #[X.val, Y.val] 25 (0, 0))) => by
    have b1 : Below z.heap.size z z1 := h2.below (Below.refl _ _) (Nat.le_refl _)
    have bw1 : Below w.heap.size w z1 := h1.trans (b1.mono h1.size)
    have hk : Blk z1 z.heap.size ([X, Y].map Sl.val).toArray 25 := h2.new
    have := sumhmac_ret sn cr id u4.heap.size hid K z.heap.size 0 2 [X, Y] z1 (hG.below bw1) (below_blk b1 k1 k1.lt) (hK.below bw1) (by omega) h2.lt (by
      intro i x hx
      rw [Nat.zero_add]
      exact gblk hk i (by rw [List.getElem?_map, hx]; rfl)) (by
      intro x hx
      simp only [List.mem_cons, List.not_mem_nil, or_false] at hx
      rcases hx with rfl | rfl
      · exact hX.below bw1
      · exact hY.below bw1) (by simp) (by rw [hcat, List.length_append]; omega)
    rw [hcat] at this
    exact this
  repeat (first | refine T_seq ?_ | refine T_block ?_ | refine T_inBlock ?_ | refine T_skip ?_)
  refine T_region ?_
  refine L_val _ _ (X_move) rfl ?_
  refine L_callF [.int .i64 (id : Int)] E10 rfl rfl (hashOf_ret id u4) ?_
  rintro v29 w29 ⟨rfl, k29, b29⟩
  have bw29 : Below w.heap.size w w29 := bw28.trans (b29.mono bw28.size)
  refine L_val _ _ (X_move) rfl ?_
  refine L_val _ _ (X_move) rfl ?_
  refine L_val _ _ (X_move) rfl ?_
  refine L_buildSlice #[X.val, Y.val] 25 (by kernel_rfl) rfl fun w30 h30 => ?_
  have b30 : Below w29.heap.size w29 w30 := h30.below (Below.refl _ _) (Nat.le_refl _)
  have bw30 : Below w.heap.size w w30 := bw29.trans (b30.mono bw29.size)
  refine L_callF [.func (.func 29) #[] #[.pointer (some ⟨u4.heap.size, 0, none⟩)], K.val, .slice (some ⟨w29.heap.size, 0, none⟩) 2 2] E28 rfl rfl (hsm w29 w30 bw29 k29 h30) ?_
  rintro v31 w31 hm31
  have b31 := hm31.choose_spec.choose_spec.2.2
  have bw31 : Below w.heap.size w w31 := bw30.trans (b31.mono bw30.size)
  obtain ⟨a31, c31, rfl, ok31⟩ := made_ok hm31
  refine L_val _ _ (X_move) rfl ?_
  refine L_val _ _ (X_move) rfl ?_
  refine L_val _ _ (X_move) rfl ?_
  refine L_val _ _ (X_move) rfl ?_
  refine L_buildSlice #[X.val, Y.val] 25 (by kernel_rfl) rfl fun w32 h32 => ?_
  have hj := join2 X Y w31 w32 (hX.below bw31) (hY.below bw31) (by omega) h32
  have b32 : Below w31.heap.size w31 w32 := h32.below (Below.refl _ _) (Nat.le_refl _)
  have bw32 : Below w.heap.size w w32 := bw31.trans (b32.mono bw31.size)
  refine L_callF [.slice (some ⟨w31.heap.size, 0, none⟩) 2 2] E26 rfl rfl hj ?_
  rintro v33 w33 hm33
  have b33 := hm33.choose_spec.choose_spec.2.2
  have bw33 : Below w.heap.size w w33 := bw32.trans (b33.mono bw32.size)
  obtain ⟨a33, c33, rfl, ok33⟩ := made_ok hm33
  refine L_callF [.int .i64 (id : Int), K.val, Sl.val (a33, X.2.1 ++ Y.2.1, c33)] E21 rfl rfl (formula_ret sn cr id hid K (a33, X.2.1 ++ Y.2.1, c33) w33 (hG.below bw33) (hK.below bw33) ok33 (by omega) (by show (X.2.1 ++ Y.2.1).length ≤ _; rw [List.length_append]; omega)) ?_
  rintro v34 w34 hm34
  have b34 := hm34.choose_spec.choose_spec.2.2
  have bw34 : Below w.heap.size w w34 := bw33.trans (b34.mono bw33.size)
  obtain ⟨a34, c34, rfl, ok34⟩ := made_ok hm34
  refine L_callF [Sl.val (a31, hmN sn cr id K.2.1 (X.2.1 ++ Y.2.1), c31), Sl.val (a34, hmN sn cr id K.2.1 (X.2.1 ++ Y.2.1), c34)] E12 rfl rfl (eq_true (((ok31.below b32).below b33).below b34) ok34 rfl (by show (hmN sn cr id K.2.1 (X.2.1 ++ Y.2.1)).length ≤ _; omega)) ?_
  rintro v35 w35 ⟨rfl, b35⟩
  refine L_val _ _ (X_assign) rfl ?_
  refine L_nil ?_
  exact T_ret1 Tryd.func9 rfl ⟨rfl, bw34.trans (b35.mono bw34.size)⟩
end Go.Proofs.Qxb6500863aDoor
