/-
  SumHMAC; fit; digestOf.
-/
import Derived.Test.Qxb6500863aDoorGI
namespace Go.Proofs.Qxb6500863aDoor
set_option linter.unusedSimpArgs false
set_option linter.unusedVariables false
open Go.RowKit
theorem MEff.below {w0 w w' : World} {base : Nat} {F : Nat → Prop} {mb id : Nat} {ip op l l' : List Int} (hM : Mac w base F mb id ip op l) (h : MEff w base F mb id ip op l' w') (hb : Below base w0 w) (hbs : base ≤ w.heap.size) : Below base w0 w' := by
  obtain ⟨F', _, c, _⟩ := h
  exact c.below hb hbs (fun k hk => (hM.lt k hk).1)
set_option maxHeartbeats 4000000 in
/-- modes.SumHMAC over hashOf(id) -/
theorem sumhmac_ret (sn cr : List Int) (id cb : Nat) (hid : id < 5) (K : Sl) (b o cap : Nat) (ls : List Sl) (w : World) (hG : Glob sn cr w) (hk : Blk w cb #[.int .i64 (id : Int)] 29) (hK : Sl.ok w K) (hKl : K.2.1.length ≤ 1000000)
    (hb : b < w.heap.size) (hcell : ∀ (i : Nat) (x : Sl), ls[i]? = some x → w.cell? ⟨b, o + i, none⟩ = some x.val) (hok : ∀ x ∈ ls, Sl.ok w x) (hls : ls.length ≤ 6) (htot : (cat ls).length ≤ 900000) :
    Ret Tryd.prog 28 #[.func (.func 29) #[] #[.pointer (some ⟨cb, 0, none⟩)], K.val, .slice (some ⟨b, o, none⟩) ls.length cap] w (Made w (hmN sn cr id K.2.1 (cat ls))) := by
  refine ret_of_T (vs := [.func (.func 29) #[] #[.pointer (some ⟨cb, 0, none⟩)], K.val, .slice (some ⟨b, o, none⟩) ls.length cap]) Tryd.func28 Tryd.ntmps28 rfl (Nat.le_of_ble_eq_true rfl) ?_
  have hipl := ipN_len sn cr hid K.2.1
  have hopl := opN_len sn cr hid K.2.1
  have hbc := blkD_cases hid
  have hgs := hG.size
  repeat (first | refine T_seq ?_ | refine T_block ?_ | refine T_inBlock ?_ | refine T_skip ?_)
  refine T_region ?_
  refine L_val _ _ (X_assign) rfl ?_
  refine L_nil ?_
  repeat (first | refine T_seq ?_ | refine T_block ?_ | refine T_inBlock ?_ | refine T_skip ?_)
  refine T_region ?_
  refine L_val _ _ (X_move) rfl ?_
  refine L_val _ _ (X_move) rfl ?_
  refine L_callF [.func (.func 29) #[] #[.pointer (some ⟨cb, 0, none⟩)], K.val] E14 rfl rfl (newmac_ret sn cr id cb hid K w hG hk hK hKl) ?_
  rintro v1 w1 ⟨mb, F, rfl, hM, b1⟩
  refine L_val _ _ (X_assign) rfl ?_
  refine L_nil ?_
  unfold hmN
  generalize ipN sn cr id K.2.1 = ip at *
  generalize opN sn cr id K.2.1 = op at *
  repeat (first | refine T_seq ?_ | refine T_block ?_ | refine T_inBlock ?_ | refine T_skip ?_)
  refine T_region ?_
  refine L_val _ _ (X_move) rfl ?_
  refine L_deferF [.pointer (some ⟨mb, 0, none⟩)] rfl ?_
  refine L_nil ?_
  repeat (first | refine T_seq ?_ | refine T_block ?_ | refine T_inBlock ?_ | refine T_skip ?_)
  refine T_region ?_
  refine L_val _ _ (X_move) rfl ?_
  refine L_val _ _ (X_lenS U33 rfl) rfl ?_
  refine L_val _ _ (X_move) rfl ?_
  refine L_nil ?_
  repeat (first | refine T_seq ?_ | refine T_block ?_ | refine T_inBlock ?_ | refine T_skip ?_)
  refine T_loopS [16, 15, 14, 7] (fun m vs z => ∃ (i : Nat) (F' : Nat → Prop), vs = [.int .i64 i, .int .i64 ls.length, .slice (some ⟨b, o, none⟩) ls.length cap, .pointer (some ⟨mb, 0, none⟩)] ∧ i ≤ ls.length ∧ m = ls.length - i ∧ Mac z w.heap.size F' mb id ip op (ip ++ cat (ls.take i)) ∧ Below w.heap.size w z) ls.length
    ⟨0, F, rfl, by omega, rfl, by simpa [cat] using hM, b1⟩ ?_
  clear hM b1
  rintro m vs ρ z ⟨i, F', rfl, hi, rfl, hM, bz⟩ ih
  have sz := bz.size
  repeat (first | refine T_seq ?_ | refine T_block ?_ | refine T_inBlock ?_ | refine T_skip ?_)
  refine T_region ?_
  refine L_val _ _ (X_cmp rfl rfl rfl) rfl ?_
  refine L_nil ?_
  repeat (first | refine T_seq ?_ | refine T_block ?_ | refine T_inBlock ?_ | refine T_skip ?_)
  refine T_if rfl (fun ht => ?_) (fun hf => ?_)
  · have hlt : i < ls.length := by simpa [cmpB] using ht
    obtain ⟨x, hx⟩ : ∃ x, ls[i]? = some x := ⟨ls[i], List.getElem?_eq_getElem hlt⟩
    have hct := cat_take hx
    have hle := cat_take_le ls (i + 1)
    rw [hct, List.length_append] at hle
    have hxz := (hok x (List.mem_of_getElem? hx)).below bz
    repeat (first | refine T_seq ?_ | refine T_block ?_ | refine T_inBlock ?_ | refine T_skip ?_)
    refine T_region ?_
    refine L_val _ _ (X_index U33 S25 rfl rfl hlt) rfl ?_
    refine L_val _ _ (X_load A25 rfl ((by rw [Nat.mul_one]; exact (below_cell bz _ hb).trans (hcell i x hx)))) rfl ?_
    refine L_val _ _ (X_assign) rfl ?_
    refine L_nil ?_
    repeat (first | refine T_seq ?_ | refine T_block ?_ | refine T_inBlock ?_ | refine T_skip ?_)
    refine T_region ?_
    refine L_val _ _ (X_move) rfl ?_
    refine L_val _ _ (X_move) rfl ?_
    refine L_callF [.pointer (some ⟨mb, 0, none⟩), x.val] E32 rfl rfl (mwrite_ret w.heap.size mb id F' ip op (ip ++ cat (ls.take i)) x z hM hxz (by rw [List.length_append]; omega)) ?_
    rintro v2 z2 hm2
    refine L_nil ?_
    have bz2 := hm2.below hM bz sz
    obtain ⟨F2, hM2, -, -⟩ := hm2
    repeat (first | refine T_seq ?_ | refine T_block ?_ | refine T_inBlock ?_ | refine T_skip ?_)
    refine T_region ?_
    refine L_val _ _ (X_add rfl rfl (by omega) (by omega)) rfl ?_
    refine L_val _ _ (X_move) rfl ?_
    refine L_nil ?_
    exact ih _ _ _ (by omega) ⟨i + 1, F2, rfl, by omega, rfl, by rw [hct, ← List.append_assoc]; exact hM2, bz2⟩
  have hge : ¬ i < ls.length := by simpa [cmpB] using hf
  obtain rfl : i = ls.length := by omega
  rw [List.take_length] at hM
  refine T_exit rfl ?_
  repeat (first | refine T_seq ?_ | refine T_block ?_ | refine T_inBlock ?_ | refine T_skip ?_)
  refine T_region ?_
  refine L_val _ _ (X_move) rfl ?_
  refine L_callF [.pointer (some ⟨mb, 0, none⟩), .slice none 0 0] E25 rfl rfl (msum_ret sn cr w.heap.size mb id F' ip op (ip ++ cat ls) [] (.slice none 0 0) z (hG.below bz) (by omega) hM (World.ownsRow_nil _ _ _ _) (fun b h => by cases h) (by rw [List.length_append]; omega) (by simp)) ?_
  rintro v3 z3 ⟨o3, -, ⟨F3, hM3, -, hv3⟩, c3, -⟩
  refine L_val _ _ (X_assign) rfl ?_
  refine L_nil ?_
  rw [List.nil_append] at o3
  have bz3 : Below w.heap.size w z3 := c3.below bz sz (fun k hk => hk.elim (fun h => (hM.lt k h).1) (fun h => by cases h))
  refine T_ret1D Tryd.func28 rfl rfl rfl (inv_func E31) (mwipe_both w.heap.size mb id F3 ip op _ z3 hM3).2 ?_
  intro v4 z4 c4
  have o4 := c4.owns o3 hv3
  obtain ⟨a, c, rfl, -, -⟩ := owns_val o3
  exact ⟨a, c, rfl, o4, c4.below bz3 bz3.size (fun k hk => (hM3.lt k hk).1)⟩
end Go.Proofs.Qxb6500863aDoor
