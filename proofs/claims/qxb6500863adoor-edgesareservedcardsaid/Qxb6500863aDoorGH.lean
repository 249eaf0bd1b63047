/-
  NewHMAC.
-/
import Derived.Test.Qxb6500863aDoorGF
namespace Go.Proofs.Qxb6500863aDoor
set_option linter.unusedSimpArgs false
set_option linter.unusedVariables false
open Go.RowKit
section
variable {w w' : World} {base mb id : Nat} {ip op l : List Int} {s : MS}
theorem MacI.setP {ip' : List Int} (h : MacI w base mb id ip op l s) (hc : Chg w w' s.pb (.cells (iv .u8 ip').toArray 5 (0, 0))) (hl : ip'.length = blkD id) : MacI w' base mb id ip' op l s := by
  have c : Chs (· = s.pb) w w' := Chs.of_chg hc (.inr rfl)
  exact { h with
    blk := c.blk h.blk (blk_ne h.blk h.kp (by decide))
    hi := h.hi.keep c (blk_ne h.hi.blk h.kp (by decide)) (fun k hk e => h.n1 (e ▸ hk))
    ho := h.ho.keep c (blk_ne h.ho.blk h.kp (by decide)) (fun k hk e => h.n3 (e ▸ hk))
    kp := hc.new
    kq := c.blk h.kq (Ne.symm h.ne2)
    ipl := hl }
theorem MacI.setQ {op' : List Int} (h : MacI w base mb id ip op l s) (hc : Chg w w' s.qb (.cells (iv .u8 op').toArray 5 (0, 0))) (hl : op'.length = blkD id) : MacI w' base mb id ip op' l s := by
  have c : Chs (· = s.qb) w w' := Chs.of_chg hc (.inr rfl)
  exact { h with
    blk := c.blk h.blk (blk_ne h.blk h.kq (by decide))
    hi := h.hi.keep c (blk_ne h.hi.blk h.kq (by decide)) (fun k hk e => h.n2 (e ▸ hk))
    ho := h.ho.keep c (blk_ne h.ho.blk h.kq (by decide)) (fun k hk e => h.n4 (e ▸ hk))
    kp := c.blk h.kp h.ne2
    kq := hc.new
    opl := hl }
end
theorem ivA_set (q : IntKind) (l : List Int) (i : Nat) (y : Int) : (iv q l).toArray.setIfInBounds i (.int q y) = (iv q (l.set i y)).toArray := by
  simp [iv, List.map_set]
theorem set_mid (pre suf : List Int) (x y : Int) (i : Nat) (h : pre.length = i) : (pre ++ x :: suf).set i y = pre ++ [y] ++ suf := by
  subst h
  simp
theorem drop_gI {l : List Int} {i : Nat} (h : i < l.length) : l.drop i = gI l i :: l.drop (i + 1) := by
  have h1 := gI_at h
  obtain ⟨hi, he⟩ := List.getElem?_eq_some_iff.1 h1
  rw [List.drop_eq_getElem_cons hi, he]
def xP (kk : List Int) (i : Nat) : List Int := (kk.take i).map (xI · 54) ++ kk.drop i
def xQ (kk : List Int) (B i : Nat) : List Int := (kk.take i).map (xI · 92) ++ List.replicate (B - i) 0
theorem xP_step {kk : List Int} {i : Nat} (h : i < kk.length) : (xP kk i).set i (xI (gI kk i) 54) = xP kk (i + 1) := by
  unfold xP
  rw [drop_gI h, set_mid _ _ _ _ _ (by simp; omega), map_take_succ h]
theorem xQ_step {kk : List Int} {B i : Nat} (h : i < kk.length) (hB : kk.length = B) : (xQ kk B i).set i (xI (gI kk i) 92) = xQ kk B (i + 1) := by
  unfold xQ
  rw [show B - i = (B - (i + 1)) + 1 by omega, List.replicate_succ, set_mid _ _ _ _ _ (by simp; omega), map_take_succ h]
theorem xP_len (kk : List Int) (i : Nat) : (xP kk i).length = kk.length := by simp [xP]; omega
theorem xQ_len {kk : List Int} {B i : Nat} (hB : kk.length = B) (h : i ≤ B) : (xQ kk B i).length = B := by simp [xQ]; omega
set_option maxHeartbeats 8000000 in
set_option maxRecDepth 10000 in
/-- modes.NewHMAC over hashOf(id) -/
theorem newmac_ret (sn cr : List Int) (id cb : Nat) (hid : id < 5) (K : Sl) (w : World) (hG : Glob sn cr w) (hk : Blk w cb #[.int .i64 (id : Int)] 29) (hK : Sl.ok w K) (hKl : K.2.1.length ≤ 1000000) :
    Ret Tryd.prog 14 #[.func (.func 29) #[] #[.pointer (some ⟨cb, 0, none⟩)], K.val] w fun v w' => ∃ mb F, v = .pointer (some ⟨mb, 0, none⟩) ∧ Mac w' w.heap.size F mb id (ipN sn cr id K.2.1) (opN sn cr id K.2.1) (ipN sn cr id K.2.1) ∧ Below w.heap.size w w' := by
  refine ret_of_T (vs := [.func (.func 29) #[] #[.pointer (some ⟨cb, 0, none⟩)], K.val]) Tryd.func14 Tryd.ntmps14 rfl (Nat.le_of_ble_eq_true rfl) ?_
  have hbc := blkD_cases hid
  have hb128 : 64 ≤ blkD id ∧ blkD id ≤ 128 := by omega
  repeat (first | refine T_seq ?_ | refine T_block ?_ | refine T_inBlock ?_ | refine T_skip ?_)
  refine T_region ?_
  refine L_val _ _ (X_assign) rfl ?_
  refine L_nil ?_
  repeat (first | refine T_seq ?_ | refine T_block ?_ | refine T_inBlock ?_ | refine T_skip ?_)
  refine T_region ?_
  refine L_val _ _ (X_move) rfl ?_
  refine L_callV [] [.pointer (some ⟨cb, 0, none⟩)] E29 rfl rfl rfl (mk_ret id cb w hk) ?_
  rintro v1 w1 ⟨rfl, k1, b1⟩
  have hk1 := below_blk b1 hk hk.lt
  refine L_val _ _ (X_move) rfl ?_
  refine L_callV [] [.pointer (some ⟨cb, 0, none⟩)] E29 rfl rfl rfl (mk_ret id cb w1 hk1) ?_
  rintro v2 w2 ⟨rfl, k2, b2⟩
  refine L_val _ _ (X_build (.agg #[.iface 61 (.pointer (some ⟨w.heap.size, 0, none⟩)), .iface 61 (.pointer (some ⟨w1.heap.size, 0, none⟩)), .slice none 0 0, .slice none 0 0]) (by kernel_rfl)) rfl ?_
  refine L_box rfl fun w3 h3 => ?_
  refine L_val _ _ (X_assign) rfl ?_
  refine L_nil ?_
  have l1 := k1.lt
  have k12 := below_blk b2 k1 l1
  have l2 := k2.lt
  have m3 : Blk w3 w2.heap.size #[.iface 61 (.pointer (some ⟨w.heap.size, 0, none⟩)), .iface 61 (.pointer (some ⟨w1.heap.size, 0, none⟩)), .slice none 0 0, .slice none 0 0] 70 := h3.new
  have s1 := b1.size
  have s2 := b2.size
  have k13 := h3.blk k12 (by omega)
  have k23 := h3.blk k2 (by omega)
  have bw3 : Below w.heap.size w w3 := h3.below (b1.trans (b2.mono s1)) (by omega)
  have l3 := h3.lt
  have g1 : w.heap.size < w1.heap.size := l1
  have g2 : w1.heap.size < w2.heap.size := l2
  clear hk1 k1 k2 k12 b1 b2 h3
  generalize w1.heap.size = ob at *
  generalize w2.heap.size = mb at *
  repeat (first | refine T_seq ?_ | refine T_block ?_ | refine T_inBlock ?_ | refine T_skip ?_)
  refine T_region ?_
  refine L_val _ _ (X_move) rfl ?_
  refine L_val _ _ (X_nilCheck rfl) rfl ?_
  refine L_val _ _ (X_field F70_0 rfl) rfl ?_
  refine L_val _ _ (X_load A60 rfl (m3.cell 0)) rfl ?_
  refine L_callI [] MT61b E69 rfl rfl rfl (hbs_ret id w.heap.size hid _ w3 k13) ?_
  rintro v4 w4 ⟨rfl, b4⟩
  refine L_val _ _ (X_assign) rfl ?_
  refine L_nil ?_
  have m4 := below_blk b4 m3 m3.lt
  have k14 := below_blk b4 k13 k13.lt
  have k24 := below_blk b4 k23 k23.lt
  have l4 := m4.lt
  have bw4 : Below w.heap.size w w4 := bw3.trans (b4.mono bw3.size)
  clear m3 k13 k23 b4 bw3
  have eZ : (iv .u8 (List.replicate (blkD id) 0)).toArray = madeCells (Value.cells (.int .u8 0)) (blkD id * 1) := by
    rcases hbc with e | e <;> rw [e] <;> kernel_rfl
  repeat (first | refine T_seq ?_ | refine T_block ?_ | refine T_inBlock ?_ | refine T_skip ?_)
  refine T_region ?_
  refine L_val _ _ (X_move) rfl ?_
  refine L_val _ _ (X_move) rfl ?_
  refine L_make (l := blkD id) (c := blkD id) Tryd.underlying25 I5 rfl rfl (Nat.le_refl _) (by omega) (by simp only [maxLen]; omega) rfl fun w5 h5 => ?_
  have m5 := h5.blk m4 (by omega)
  refine L_val _ _ (X_nilCheck rfl) rfl ?_
  refine L_val _ _ (X_field F70_2 rfl) rfl ?_
  refine L_store (.slice (some ⟨w4.heap.size, 0, none⟩) (blkD id) (blkD id)) S25 rfl rfl rfl m5 (by simp) fun w6 h6 => ?_
  refine L_nil ?_
  rw [← eZ] at h5
  have p5 : Blk w5 w4.heap.size (iv .u8 (List.replicate (blkD id) 0)).toArray 5 := h5.new
  have k15 := h5.blk k14 (by omega)
  have k25 := h5.blk k24 (by omega)
  have bw5 : Below w.heap.size w w5 := h5.below bw4 bw4.size
  have k16 := h6.blk k15 (by omega)
  have k26 := h6.blk k25 (by omega)
  have p6 := h6.blk p5 (by omega)
  have m6 : Blk w6 mb #[.iface 61 (.pointer (some ⟨w.heap.size, 0, none⟩)), .iface 61 (.pointer (some ⟨ob, 0, none⟩)), .slice (some ⟨w4.heap.size, 0, none⟩) (blkD id) (blkD id), .slice none 0 0] 70 := h6.new
  have bw6 : Below w.heap.size w w6 := h6.below bw5 (by omega)
  have l6 := p6.lt
  have s4 := bw4.size
  clear h5 h6 m4 m5 k14 k24 k15 k25 p5 bw5
  generalize w4.heap.size = pb at *
  repeat (first | refine T_seq ?_ | refine T_block ?_ | refine T_inBlock ?_ | refine T_skip ?_)
  refine T_region ?_
  refine L_val _ _ (X_move) rfl ?_
  refine L_val _ _ (X_move) rfl ?_
  refine L_make (l := blkD id) (c := blkD id) Tryd.underlying25 I5 rfl rfl (Nat.le_refl _) (by omega) (by simp only [maxLen]; omega) rfl fun w7 h7 => ?_
  have m7 := h7.blk m6 (by omega)
  refine L_val _ _ (X_nilCheck rfl) rfl ?_
  refine L_val _ _ (X_field F70_3 rfl) rfl ?_
  refine L_store (.slice (some ⟨w6.heap.size, 0, none⟩) (blkD id) (blkD id)) S25 rfl rfl rfl m7 (by simp) fun w8 h8 => ?_
  refine L_nil ?_
  rw [← eZ] at h7
  have q7 : Blk w7 w6.heap.size (iv .u8 (List.replicate (blkD id) 0)).toArray 5 := h7.new
  have bw7 : Below w.heap.size w w7 := h7.below bw6 bw6.size
  have bw8 : Below w.heap.size w w8 := h8.below bw7 (by omega)
  have k17 := h7.blk k16 (by omega)
  have k27 := h7.blk k26 (by omega)
  have p7 := h7.blk p6 (by omega)
  have hM8 : MacI w8 w.heap.size mb id (List.replicate (blkD id) 0) (List.replicate (blkD id) 0) [] ⟨w.heap.size, ob, pb, w6.heap.size, none, 0, none, 0, []⟩ :=
    { blk := h8.new
      hi := ⟨h8.blk k17 (by show w.heap.size ≠ mb; omega), Nat.le_refl _, World.ownsRow_nil _ _ _ _⟩
      ho := ⟨h8.blk k27 (by show ob ≠ mb; omega), by show w.heap.size ≤ ob; omega, World.ownsRow_nil _ _ _ _⟩
      kp := h8.blk p7 (by show pb ≠ mb; omega)
      kq := h8.blk q7 (by show w6.heap.size ≠ mb; omega)
      ipl := by simp
      opl := by simp
      hid := hid
      ne1 := by show w.heap.size ≠ ob; omega
      ne2 := by show pb ≠ w6.heap.size; omega
      n1 := fun h => by cases h
      n2 := fun h => by cases h
      n3 := fun h => by cases h
      n4 := fun h => by cases h
      ap := fun b h => by cases h
      gm := by omega
      gp := by show w.heap.size ≤ pb; omega
      gq := bw6.size }
  clear h7 h8 m6 m7 k16 k26 p6 q7 k17 k27 p7 bw7 bw6 bw4 eZ
  have s8 := bw8.size
  generalize w6.heap.size = qb at *
  have hipl := ipN_len sn cr hid K.2.1
  have hkl := hkN_len sn cr hid K.2.1
  refine T_seq ?_
  refine T_part [5] (fun vs u => ∃ (ao : Option Addr) (co : Nat) (lo : List Int), vs = [.pointer (some ⟨mb, 0, none⟩)] ∧ Below w.heap.size w u ∧ MacI u w.heap.size mb id (hkN sn cr id K.2.1) (List.replicate (blkD id) 0) [] ⟨w.heap.size, ob, pb, qb, none, 0, ao, co, lo⟩) ?_ (fun join => ?_)
  rotate_left
  · repeat (first | refine T_seq ?_ | refine T_block ?_ | refine T_inBlock ?_ | refine T_skip ?_)
    rcases Nat.lt_or_ge (blkD id) K.2.1.length with hgt | hle
    · have e1 : cmpB .gtr (K.2.1.length : Int) (blkD id : Int) = true := by simp [cmpB]; omega
      have hk0 : k0N sn cr id K.2.1 = dg sn cr id K.2.1 := by rw [k0N, if_pos hgt]
      have hlk := k0N_len sn cr hid K.2.1
      rw [hk0] at hlk
      have hdl := dg_len sn cr hid K.2.1
      have hsz := szD_le hid
      refine T_region ?_
      refine L_val _ _ (X_move) rfl ?_
      refine L_val _ _ (X_lenS U25 rfl) rfl ?_
      refine L_val _ _ (X_move) rfl ?_
      refine L_val _ _ (X_cmpR true rfl rfl rfl e1) rfl ?_
      refine L_nil ?_
      refine T_true rfl ?_
      refine T_seq ?_
      refine T_region ?_
      refine L_val _ _ (X_move) rfl ?_
      refine L_val _ _ (X_nilCheck rfl) rfl ?_
      refine L_val _ _ (X_field F70_1 rfl) rfl ?_
      refine L_val _ _ (X_load A60 rfl (hM8.blk.cell 1)) rfl ?_
      refine L_val _ _ (X_move) rfl ?_
      refine L_callI [K.val] MT61w E73 rfl rfl rfl (hwr_ret w.heap.size id ob none 0 [] K w8 hM8.ho (hK.below bw8) (by show 0 + K.2.1.length ≤ _; omega) hM8.hb) ?_
      rintro v9 w9 ⟨a9, d9, H9, p9, c9⟩
      refine L_nil ?_
      rw [oB_eq, oB_eq] at p9
      have hfp9 : ∀ k, HashAt.fp ob (.slice none 0 0) k → k = ob := by
        rintro k (e | e)
        · exact e
        · cases e
      have h9 := hM8.outer (l' := K.2.1) c9 (fun k e => .inl (hfp9 k e)) H9 (p9.elim .inl (fun e => .inr (.inr ⟨_, e, Nat.le_refl _⟩)))
      have bw9 : Below w.heap.size w w9 := c9.below bw8 s8 (fun k e => by have := hfp9 k e; omega)
      have hG9 := hG.below bw9
      clear c9 H9
      refine T_seq ?_
      refine T_region ?_
      refine L_val _ _ (X_move) rfl ?_
      refine L_val _ _ (X_nilCheck rfl) rfl ?_
      refine L_val _ _ (X_field F70_1 rfl) rfl ?_
      refine L_val _ _ (X_load A60 rfl (h9.blk.cell 1)) rfl ?_
      refine L_callI [.slice none 0 0] MT61s E72 rfl rfl rfl (hsum_ret sn cr w.heap.size id ob hid a9 d9 K.2.1 [] (.slice none 0 0) w9 hG9 h9.ho (World.ownsRow_nil _ _ _ _) (fun b h => by cases h) (by omega) (by simp) h9.hb) ?_
      rintro v10 w10 ⟨o10, q10, H10, c10, p10⟩
      refine L_val _ _ (X_assign) rfl ?_
      refine L_nil ?_
      rw [List.nil_append] at o10
      have bw10 : Below w.heap.size w w10 := c10.below bw9 bw9.size (fun k e => by cases e)
      have h10 := h9.keep c10 (fun k _ e => by cases e)
      obtain ⟨g, cg, cur, rfl, hgb, kg, hgc, hgm, hgs, htk⟩ := owns_some o10 (by omega)
      have hgl : w9.heap.size ≤ g := by
        rcases p10 with e | ⟨k, e, hk⟩
        · cases e
        · have : g = k := Option.some.inj e
          omega
      have s9 := bw9.size
      have s10 := bw10.size
      clear H10 q10 c10 p10
      refine T_seq ?_
      refine T_region ?_
      refine L_val _ _ (X_move) rfl ?_
      refine L_val _ _ (X_nilCheck rfl) rfl ?_
      refine L_val _ _ (X_field F70_2 rfl) rfl ?_
      refine L_val _ _ (X_load A25 rfl (h10.blk.cell 2)) rfl ?_
      refine L_val _ _ (X_move) rfl ?_
      refine L_copyG (iv .u8 (dg sn cr id K.2.1)) U25 S5 rfl rfl h10.kp (by rw [iv_len]; omega) (by simp [iv_len]; omega) (ints_src (ints_owns o10 rfl)) (fun ha => by cases ha) (iv_one _ _) rfl fun w11 h11 => ?_
      refine L_nil ?_
      have bw11 : Below w.heap.size w w11 := h11.below bw10 h10.gp
      have hpg : g ≠ pb := by
        have := (h9.kp).lt
        simp only at this
        omega
      have kg11 := h11.blk kg hpg
      have e := copy_fill (q := .u8) hlk
      rw [e] at h11
      have h11' := h10.setP h11 (by show (dg sn cr id K.2.1 ++ _).length = _; simp; omega)
      refine T_region ?_
      refine L_val _ _ (X_move) rfl ?_
      refine L_callF [.slice (some ⟨g, 0, none⟩) (dg sn cr id K.2.1).length cg] E35 rfl rfl (wipe_ret g 0 (dg sn cr id K.2.1).length cg cur 5 w11 kg11 (by omega) (by omega)) ?_
      rintro v12 w12 c12
      refine L_nil ?_
      have bw12 : Below w.heap.size w w12 := c12.below bw11 bw11.size (fun k e => by subst e; exact hgb)
      have h12 := h11'.keep c12 (fun k hk e => by subst e; have := (h9.fb k hk).2; omega)
      exact join _ _ ⟨_, _, _, rfl, bw12, by rw [hkN, hk0]; exact h12⟩
    · have e1 : cmpB .gtr (K.2.1.length : Int) (blkD id : Int) = false := by simp [cmpB]; omega
      have hk0 : k0N sn cr id K.2.1 = K.2.1 := by rw [k0N, if_neg (by omega)]
      refine T_region ?_
      refine L_val _ _ (X_move) rfl ?_
      refine L_val _ _ (X_lenS U25 rfl) rfl ?_
      refine L_val _ _ (X_move) rfl ?_
      refine L_val _ _ (X_cmpR false rfl rfl rfl e1) rfl ?_
      refine L_nil ?_
      refine T_false rfl ?_
      refine T_region ?_
      refine L_val _ _ (X_move) rfl ?_
      refine L_val _ _ (X_nilCheck rfl) rfl ?_
      refine L_val _ _ (X_field F70_2 rfl) rfl ?_
      refine L_val _ _ (X_load A25 rfl (hM8.blk.cell 2)) rfl ?_
      refine L_val _ _ (X_move) rfl ?_
      refine L_copyG (iv .u8 K.2.1) U25 S5 rfl rfl hM8.kp (by rw [iv_len]; omega) (by simp [iv_len]; omega) (ints_src (hK.below bw8).1) (fun ha => by have := (hK.2 ha).1; exact List.eq_nil_of_length_eq_zero (by rw [iv_len]; omega)) (iv_one _ _) rfl fun w9 h9 => ?_
      refine L_nil ?_
      have bw9 : Below w.heap.size w w9 := h9.below bw8 hM8.gp
      have e := copy_fill (q := .u8) (l := K.2.1) hle
      rw [e] at h9
      have h9' := hM8.setP h9 (by show (K.2.1 ++ _).length = _; simp; omega)
      exact join _ _ ⟨_, _, _, rfl, bw9, by rw [hkN, hk0]; exact h9'⟩
  clear hM8 bw8 s8
  rintro vs ρ1 u ⟨ao, co, lo, rfl, bu, hM⟩
  have hipe : ipN sn cr id K.2.1 = (hkN sn cr id K.2.1).map (xI · 54) := rfl
  have hope : opN sn cr id K.2.1 = (hkN sn cr id K.2.1).map (xI · 92) := rfl
  generalize ipN sn cr id K.2.1 = ip at *
  generalize opN sn cr id K.2.1 = op at *
  generalize hkN sn cr id K.2.1 = kk at *
  repeat (first | refine T_seq ?_ | refine T_block ?_ | refine T_inBlock ?_ | refine T_skip ?_)
  refine T_region ?_
  refine L_val _ _ (X_move) rfl ?_
  refine L_val _ _ (X_nilCheck rfl) rfl ?_
  refine L_val _ _ (X_field F70_2 rfl) rfl ?_
  refine L_val _ _ (X_load A25 rfl (hM.blk.cell 2)) rfl ?_
  refine L_val _ _ (X_lenS U25 rfl) rfl ?_
  refine L_val _ _ (X_move) rfl ?_
  refine L_nil ?_
  repeat (first | refine T_seq ?_ | refine T_block ?_ | refine T_inBlock ?_ | refine T_skip ?_)
  have e0 : xP kk 0 = kk := by simp [xP]
  have e0' : xQ kk (blkD id) 0 = List.replicate (blkD id) 0 := by simp [xQ]
  refine T_loopS [65, 64, 63, 5] (fun m vs z => ∃ (i : Nat), vs = [.int .i64 i, .int .i64 (blkD id : Int), .slice (some ⟨pb, 0, none⟩) (blkD id) (blkD id), .pointer (some ⟨mb, 0, none⟩)] ∧ i ≤ blkD id ∧ m = blkD id - i ∧ MacI z w.heap.size mb id (xP kk i) (xQ kk (blkD id) i) [] ⟨w.heap.size, ob, pb, qb, none, 0, ao, co, lo⟩ ∧ Below w.heap.size w z) (blkD id)
    ⟨0, rfl, by omega, rfl, by rw [e0, e0']; exact hM, bu⟩ ?_
  clear hM bu e0 e0'
  rintro m vs ρ2 z ⟨i, rfl, hi, rfl, hz, bz⟩ ih
  repeat (first | refine T_seq ?_ | refine T_block ?_ | refine T_inBlock ?_ | refine T_skip ?_)
  refine T_region ?_
  refine L_val _ _ (X_cmp rfl rfl rfl) rfl ?_
  refine L_nil ?_
  repeat (first | refine T_seq ?_ | refine T_block ?_ | refine T_inBlock ?_ | refine T_skip ?_)
  refine T_if rfl (fun ht => ?_) (fun hf => ?_)
  · have hlt : i < blkD id := by simpa [cmpB] using ht
    have hci : z.cell? ⟨pb, 0 + i * 1, none⟩ = some (.int .u8 (gI kk i)) := by
      rw [Nat.mul_one, Nat.zero_add]
      refine gblk hz.kp i (iv_get ?_)
      rw [xP, drop_gI (by omega), List.getElem?_append_right (by simp; omega), List.length_map, List.length_take, Nat.min_eq_left (by omega), Nat.sub_self]
      rfl
    have st1 := xP_step (kk := kk) (i := i) (by omega)
    have st2 := xQ_step (kk := kk) (B := blkD id) (i := i) (by omega) hkl
    generalize gI kk i = x at *
    have lp := hz.ipl
    have lq := hz.opl
    repeat (first | refine T_seq ?_ | refine T_block ?_ | refine T_inBlock ?_ | refine T_skip ?_)
    refine T_region ?_
    refine L_val _ _ (X_move) rfl ?_
    refine L_val _ _ (X_index U25 S5 rfl rfl hlt) rfl ?_
    refine L_val _ _ (X_load A5 rfl (hci)) rfl ?_
    refine L_val _ _ (X_assign) rfl ?_
    refine L_val _ _ (X_assign) rfl ?_
    refine L_nil ?_
    repeat (first | refine T_seq ?_ | refine T_block ?_ | refine T_inBlock ?_ | refine T_skip ?_)
    refine T_region ?_
    refine L_val _ _ (X_move) rfl ?_
    refine L_val _ _ (X_nilCheck rfl) rfl ?_
    refine L_val _ _ (X_field F70_2 rfl) rfl ?_
    refine L_val _ _ (X_load A25 rfl (hz.blk.cell 2)) rfl ?_
    refine L_val _ _ (X_move) rfl ?_
    refine L_val _ _ (X_move) rfl ?_
    refine L_val _ _ (X_bit rfl rfl rfl) rfl ?_
    refine L_val _ _ (X_index U25 S5 rfl rfl hlt) rfl ?_
    refine L_store (.int .u8 (xI x 54)) S5 rfl rfl rfl hz.kp (by simp [iv_len]; omega) fun z1 h1 => ?_
    refine L_nil ?_
    rw [Nat.mul_one, Nat.zero_add, ivA_set, st1] at h1
    have hz1 := hz.setP h1 (by rw [xP_len]; exact hkl)
    have bz1 : Below w.heap.size w z1 := h1.below bz hz.gp
    repeat (first | refine T_seq ?_ | refine T_block ?_ | refine T_inBlock ?_ | refine T_skip ?_)
    refine T_region ?_
    refine L_val _ _ (X_move) rfl ?_
    refine L_val _ _ (X_nilCheck rfl) rfl ?_
    refine L_val _ _ (X_field F70_3 rfl) rfl ?_
    refine L_val _ _ (X_load A25 rfl (hz1.blk.cell 3)) rfl ?_
    refine L_val _ _ (X_move) rfl ?_
    refine L_val _ _ (X_move) rfl ?_
    refine L_val _ _ (X_bit rfl rfl rfl) rfl ?_
    refine L_val _ _ (X_index U25 S5 rfl rfl hlt) rfl ?_
    refine L_store (.int .u8 (xI x 92)) S5 rfl rfl rfl hz1.kq (by simp [iv_len]; omega) fun z2 h2 => ?_
    refine L_nil ?_
    rw [Nat.mul_one, Nat.zero_add, ivA_set, st2] at h2
    have hz2 := hz1.setQ h2 (xQ_len hkl (by omega))
    have bz2 : Below w.heap.size w z2 := h2.below bz1 hz.gq
    repeat (first | refine T_seq ?_ | refine T_block ?_ | refine T_inBlock ?_ | refine T_skip ?_)
    refine T_region ?_
    refine L_val _ _ (X_add rfl rfl (by omega) (by omega)) rfl ?_
    refine L_val _ _ (X_move) rfl ?_
    refine L_nil ?_
    exact ih _ _ _ (by omega) ⟨i + 1, rfl, by omega, rfl, hz2, bz2⟩
  have hge : ¬ i < blkD id := by simpa [cmpB] using hf
  obtain rfl : i = blkD id := by omega
  have e1 : xP kk (blkD id) = ip := by rw [xP, List.take_of_length_le (by omega), List.drop_of_length_le (by omega), List.append_nil, ← hipe]
  have e2 : xQ kk (blkD id) (blkD id) = op := by rw [xQ, List.take_of_length_le (by omega), Nat.sub_self, ← hope]; simp
  rw [e1, e2] at hz
  refine T_exit rfl ?_
  repeat (first | refine T_seq ?_ | refine T_block ?_ | refine T_inBlock ?_ | refine T_skip ?_)
  refine T_region ?_
  refine L_val _ _ (X_move) rfl ?_
  refine L_callF [.pointer (some ⟨mb, 0, none⟩)] E27 rfl rfl (mreset_ret w.heap.size mb id _ ip op [] z ⟨_, hz, rfl⟩) ?_
  rintro v1 z1 ⟨F', hM', hc', hF'⟩
  refine L_nil ?_
  have bz1 : Below w.heap.size w z1 := hc'.below bz bz.size (fun k hk => (hz.fb k hk).1)
  repeat (first | refine T_seq ?_ | refine T_block ?_ | refine T_inBlock ?_ | refine T_skip ?_)
  refine T_region ?_
  refine L_val _ _ (X_move) rfl ?_
  refine L_val _ _ (X_assign) rfl ?_
  refine L_nil ?_
  exact T_ret1 Tryd.func14 rfl ⟨mb, F', rfl, hM', bz1⟩
end Go.Proofs.Qxb6500863aDoor
