/-
  HMAC.Sum, HMAC.Wipe.
-/
import Derived.Test.Qxb6500863aDoorGE
namespace Go.Proofs.Qxb6500863aDoor
set_option linter.unusedSimpArgs false
set_option linter.unusedVariables false
open Go.RowKit
theorem Glob.chs {S : Nat → Prop} {sn cr : List Int} {w w' : World} (h : Glob sn cr w) (hc : Chs S w w') (hS : ∀ k, S k → 2 ≤ k) : Glob sn cr w' := by
  have e : ∀ b o, b < 2 → w'.cell? ⟨b, o, none⟩ = w.cell? ⟨b, o, none⟩ := fun b o hb => World.cell?_of_block (hc.oth b (by have := h.size; omega) (fun h2 => by have := hS b h2; omega))
  exact ⟨Nat.lt_of_lt_of_le h.size hc.size, ⟨h.sin.1, fun i hi => (e 0 _ (by decide)).trans (h.sin.2 i hi)⟩, ⟨h.cub.1, fun i hi => (e 1 _ (by decide)).trans (h.cub.2 i hi)⟩⟩
theorem owns_some {w : World} {base n : Nat} {v : Value} {xs : List Value} (h : w.ownsRow base 5 1 v n xs) (hn : 0 < n) : ∃ g c cur, v = .slice (some ⟨g, 0, none⟩) n c ∧ base ≤ g ∧ Blk w g cur 5 ∧ n ≤ c ∧ c ≤ maxLen ∧ cur.size = c ∧ cur.toList.take n = xs := by
  rcases h.2 with ⟨_, h2⟩ | ⟨g, cap, cur, rfl, hb, hgg, hnc, hcm, hcs, htk⟩
  · omega
  · exact ⟨g, cap, cur, rfl, hb, hgg, hnc, hcm, by rw [hcs, Nat.mul_one], by rw [Nat.mul_one] at htk; exact htk⟩
/-- The head of a row of the call's own. -/
theorem owns_head {w : World} {base n m c g : Nat} {xs ys : List Value} (h : w.ownsRow base 5 1 (.slice (some ⟨g, 0, none⟩) n c) n (xs ++ ys)) (hm : xs.length = m) (hn : m ≤ n) : w.ownsRow base 5 1 (.slice (some ⟨g, 0, none⟩) m c) m xs := by
  refine ⟨by omega, ?_⟩
  rcases h.2 with ⟨h1, _⟩ | ⟨g', cap, cur, e, hb, hgg, hnc, hcm, hcs, htk⟩
  · cases h1
  · simp only [Value.slice.injEq, Option.some.injEq, Addr.mk.injEq, and_true] at e
    obtain ⟨rfl, -, rfl⟩ := e
    refine .inr ⟨g, c, cur, rfl, hb, hgg, by omega, hcm, hcs, ?_⟩
    have : (cur.toList.take (n * 1)).take (m * 1) = xs := by rw [htk, Nat.mul_one, ← hm]; exact List.take_left
    rwa [List.take_take, Nat.min_eq_left (by omega)] at this
set_option maxHeartbeats 4000000 in
/-- HMAC.Sum -/
theorem msum_ret (sn cr : List Int) (base mb id : Nat) (F : Nat → Prop) (ip op l dl : List Int) (v : Value) (w : World) (hG : Glob sn cr w) (hb2 : 2 ≤ base) (hM : Mac w base F mb id ip op l) (hv : w.ownsRow base 5 1 v dl.length (iv .u8 dl)) (hvF : ∀ b, v.ownBlock = some b → ¬ F b) (hl : l.length ≤ 1000000) (hdl : dl.length ≤ 1000000) :
    Ret Tryd.prog 25 #[.pointer (some ⟨mb, 0, none⟩), v] w fun v' w' => w'.ownsRow base 5 1 v' (dl ++ dg sn cr id (op ++ dg sn cr id l)).length (iv .u8 (dl ++ dg sn cr id (op ++ dg sn cr id l))) ∧ w'.ownsRow base 5 1 v dl.length (iv .u8 dl) ∧ (∃ F', Mac w' base F' mb id ip op l ∧ (∀ k, F' k → F k ∨ w.heap.size ≤ k) ∧ (∀ b, v'.ownBlock = some b → ¬ F' b)) ∧ Chs (fun k => F k ∨ v.ownBlock = some k) w w' ∧ (v'.ownBlock = v.ownBlock ∨ ∃ k, v'.ownBlock = some k ∧ w.heap.size ≤ k) := by
  obtain ⟨s, h, rfl⟩ := hM
  obtain ⟨a, c, rfl, -, -⟩ := owns_val hv
  refine ret_of_T (vs := [.pointer (some ⟨mb, 0, none⟩), .slice a dl.length c]) Tryd.func25 Tryd.ntmps25 rfl (Nat.le_of_ble_eq_true rfl) ?_
  have hb128 := blkD_cases h.hid
  have hopl := h.opl
  have hdgl := dg_len sn cr h.hid l
  have hsz := szD_le h.hid
  rw [oB_eq] at hvF
  rw [oB_eq]
  have hvlt : ∀ k, oB a = some k → base ≤ k ∧ k < w.heap.size := fun k hk => hv.lt k (by rw [oB_eq]; exact hk)
  repeat (first | refine T_seq ?_ | refine T_block ?_ | refine T_inBlock ?_ | refine T_skip ?_)
  refine T_region ?_
  refine L_val _ _ (X_assign) rfl ?_
  refine L_nil ?_
  repeat (first | refine T_seq ?_ | refine T_block ?_ | refine T_inBlock ?_ | refine T_skip ?_)
  refine T_region ?_
  refine L_val _ _ (X_move) rfl ?_
  refine L_val _ _ (X_lenS U25 rfl) rfl ?_
  refine L_val _ _ (X_assign) rfl ?_
  refine L_nil ?_
  repeat (first | refine T_seq ?_ | refine T_block ?_ | refine T_inBlock ?_ | refine T_skip ?_)
  refine T_region ?_
  refine L_val _ _ (X_move) rfl ?_
  refine L_val _ _ (X_nilCheck rfl) rfl ?_
  refine L_val _ _ (X_field F70_0 rfl) rfl ?_
  refine L_val _ _ (X_load A60 rfl (h.blk.cell 0)) rfl ?_
  refine L_val _ _ (X_move) rfl ?_
  refine L_callI [.slice a dl.length c] MT61s E72 rfl rfl rfl (hsum_ret sn cr base id s.ib h.hid s.ai s.ci l dl (.slice a dl.length c) w hG h.hi hv (fun b hb1 hb2 => hvF b (by rw [← oB_eq a dl.length c]; exact hb1) (by rw [oB_eq] at hb2; simp [MS.fp, hb2])) (by omega) (by omega) h.hb) ?_
  rintro v1 w1 ⟨o1, q1, H1, c1, p1⟩
  refine L_val _ _ (X_assign) rfl ?_
  refine L_nil ?_
  simp only [oB_eq] at c1 p1
  have h1 := h.keep c1 (fun k hk e => hvF k e hk)
  have hG1 := hG.chs c1 (fun k hk => Nat.le_trans hb2 (hvlt k hk).1)
  have hdl1 : (dl ++ dg sn cr id l).length = dl.length + szD id := by rw [List.length_append, hdgl]
  obtain ⟨g, cg, cur1, rfl, hgb, kg1, hgc, hgm, hgs, htk⟩ := owns_some o1 (by rw [hdl1]; omega)
  have hgF : ¬ MS.fp mb s g := by
    rcases p1 with e | ⟨k, e, hk⟩
    · exact hvF g (by rw [← e]; rfl)
    · have : g = k := Option.some.inj e
      intro hf
      have := (h.fb g hf).2
      omega
  have hgl := kg1.lt
  have oh1 : w1.ownsRow base 5 1 (.slice (some ⟨g, 0, none⟩) dl.length cg) dl.length (iv .u8 dl) := by
    rw [iv_app] at o1
    exact owns_head o1 (iv_len _ _) (by omega)
  have iD1 : Ints .u8 w1 (some ⟨g, dl.length * 1, none⟩) (dg sn cr id l) := by
    have := ints_drop (n := dl.length) (ints_owns o1 rfl)
    rwa [List.drop_left, Nat.zero_add, ← Nat.mul_one dl.length] at this
  have s1 := c1.size
  -- in case v lies in the same block
  have hvg : oB a = some g → Value.slice a dl.length c = .slice (some ⟨g, 0, none⟩) dl.length cg := by
    intro e
    rcases q1.2 with ⟨h1', _⟩ | ⟨g', cap, cur, e', hb, hgg, hnc, hcm, hcs, htk'⟩
    · rw [← oB_eq a dl.length c, h1'] at e; cases e
    · rw [← oB_eq a dl.length c, e'] at e
      have e2 : g' = g := Option.some.inj e
      subst e2
      have e3 := hgg.symm.trans kg1
      simp only [Option.some.injEq, Obj.cells.injEq, and_true] at e3
      rw [Nat.mul_one] at hcs
      rw [e', ← hcs, e3, hgs]
  clear kg1 htk
  repeat (first | refine T_seq ?_ | refine T_block ?_ | refine T_inBlock ?_ | refine T_skip ?_)
  refine T_region ?_
  refine L_val _ _ (X_move) rfl ?_
  refine L_val _ _ (X_nilCheck rfl) rfl ?_
  refine L_val _ _ (X_field F70_1 rfl) rfl ?_
  refine L_val _ _ (X_load A60 rfl (h1.blk.cell 1)) rfl ?_
  refine L_callI [] MT61r E70 rfl rfl rfl (hrs_ret id s.ob _ w1 h1.ho.blk) ?_
  rintro v2 w2 ⟨k2, c2⟩
  refine L_nil ?_
  have h2 := h1.outer c2 (fun k e => .inl e) (a' := none) (c' := 0) (l' := []) ⟨k2, h1.ho.ge, World.ownsRow_nil _ _ _ _⟩ (.inr (.inl rfl))
  have s2 := c2.size
  have hgob : ¬ g = s.ob := fun e => hgF (by simp [MS.fp, e])
  have oh2 := c2.owns oh1 (fun b hb1 e => hgob (by have : g = b := Option.some.inj hb1; omega))
  have iD2 := c2.ints iD1 (fun ad hb1 e => hgob (by cases hb1; exact e))
  have hG2 := hG1.chs c2 (fun k hk => by have := h1.ho.ge; omega)
  repeat (first | refine T_seq ?_ | refine T_block ?_ | refine T_inBlock ?_ | refine T_skip ?_)
  refine T_draw (fun u => Below w2.heap.size w2 u) 10 rfl rfl fun w3 hsm => ?_
  have hS : Below w2.heap.size w2 w3 := hsm.below (Below.refl _ _)
  refine D_takeT 0 _ rfl (by kernel_rfl) hS (fun w hw => X_move) rfl ?_
  refine D_takeT 1 _ rfl (by kernel_rfl) hS (fun w hw => X_nilCheck rfl) rfl ?_
  refine D_takeT 2 _ rfl (by kernel_rfl) hS (fun w hw => X_field F70_1 rfl) rfl ?_
  refine D_takeT 3 _ rfl (by kernel_rfl) hS (fun w hw => X_load A60 rfl (((below_cell hw _ h2.blk.lt).trans (h2.blk.cell 1)))) rfl ?_
  refine D_takeT 4 _ rfl (by kernel_rfl) hS (fun w hw => X_move) rfl ?_
  refine D_takeT 5 _ rfl (by kernel_rfl) hS (fun w hw => X_nilCheck rfl) rfl ?_
  refine D_takeT 6 _ rfl (by kernel_rfl) hS (fun w hw => X_field F70_3 rfl) rfl ?_
  refine D_takeT 7 _ rfl (by kernel_rfl) hS (fun w hw => X_load A25 rfl (((below_cell hw _ h2.blk.lt).trans (h2.blk.cell 3)))) rfl ?_
  refine D_takeT 8 _ rfl (by kernel_rfl) hS (fun w hw => X_nilCheckI rfl) rfl ?_
  refine D_takeT 9 _ rfl (by kernel_rfl) hS (fun w hw => X_move) rfl ?_
  skip
  have c3 := Chs.of_below (S := fun _ => False) hS
  have h3 := h2.keep c3 (fun _ _ h => h)
  have oh3 := c3.owns oh2 (fun _ _ h => h)
  have iD3 := c3.ints iD2 (fun _ _ h => h)
  have hG3 := hG2.below hS
  have s3 := hS.size
  have hw4 := hwr_ret base id s.ob none 0 [] (some ⟨s.qb, 0, none⟩, op, blkD id) w3 h3.ho ⟨ints_blk h3.kq, fun h => by cases h⟩ (by show 0 + op.length ≤ _; omega) h3.hb
  refine D_callR 10 rfl (by kernel_rfl) (X_callI [.slice (some ⟨s.qb, 0, none⟩) (blkD id) (blkD id)] MT61w E73 rfl rfl) rfl (ret_args (by rw [Sl.val, hopl]) hw4) ?_
  rintro v4 w4 ⟨a4, d4, H4, p4, c4⟩
  refine ⟨fun h => absurd h (by decide), ?_⟩
  refine D_done (by kernel_rfl) ?_
  rw [oB_eq, oB_eq] at p4
  have hfp4 : ∀ k, HashAt.fp s.ob (.slice none 0 0) k → k = s.ob := by
    rintro k (e | e)
    · exact e
    · cases e
  have h4 := h3.outer (l' := op) c4 (fun k e => .inl (hfp4 k e)) H4 (p4.elim .inl (fun e => .inr (.inr ⟨_, e, Nat.le_refl _⟩)))
  have oh4 := c4.owns oh3 (fun b hb1 e => hgob (by have : g = b := Option.some.inj hb1; have := hfp4 _ e; omega))
  have iD4 := c4.ints iD3 (fun ad hb1 e => hgob (by cases hb1; exact hfp4 _ e))
  have hG4 := hG3.chs c4 (fun k hk => by have := hfp4 _ hk; have := h1.ho.ge; omega)
  have s4 := c4.size
  have hga4 : oB a4 ≠ some g := by
    rcases p4 with e | e
    · rw [e]; intro h; cases h
    · rw [e]; intro h; have := Option.some.inj h; omega
  clear hw4 H4 iD1 iD2 iD3 oh1 oh2 oh3
  repeat (first | refine T_seq ?_ | refine T_block ?_ | refine T_inBlock ?_ | refine T_skip ?_)
  refine T_draw (fun u => Below w4.heap.size w4 u) 9 rfl rfl fun w5 hsm => ?_
  have hS5 : Below w4.heap.size w4 w5 := hsm.below (Below.refl _ _)
  refine D_takeT 0 _ rfl (by kernel_rfl) hS5 (fun w hw => X_move) rfl ?_
  refine D_takeT 1 _ rfl (by kernel_rfl) hS5 (fun w hw => X_nilCheck rfl) rfl ?_
  refine D_takeT 2 _ rfl (by kernel_rfl) hS5 (fun w hw => X_field F70_1 rfl) rfl ?_
  refine D_takeT 3 _ rfl (by kernel_rfl) hS5 (fun w hw => X_load A60 rfl (((below_cell hw _ h4.blk.lt).trans (h4.blk.cell 1)))) rfl ?_
  refine D_takeT 4 _ rfl (by kernel_rfl) hS5 (fun w hw => X_move) rfl ?_
  refine D_takeT 5 _ rfl (by kernel_rfl) hS5 (fun w hw => X_move) rfl ?_
  refine D_takeT 6 _ rfl (by kernel_rfl) hS5 (fun w hw => X_sliceL U25 S5 rfl rfl (show dl.length ≤ (dl ++ dg sn cr id l).length by omega) (by omega)) rfl ?_
  refine D_takeT 7 _ rfl (by kernel_rfl) hS5 (fun w hw => X_nilCheckI rfl) rfl ?_
  refine D_takeT 8 _ rfl (by kernel_rfl) hS5 (fun w hw => X_move) rfl ?_
  skip
  have c5 := Chs.of_below (S := fun _ => False) hS5
  have h5 := h4.keep c5 (fun _ _ h => h)
  have oh5 := c5.owns oh4 (fun _ _ h => h)
  have iD5 := c5.ints iD4 (fun _ _ h => h)
  have hG5 := hG4.below hS5
  have s5 := hS5.size
  have hw6 := hwr_ret base id s.ob a4 d4 op (some ⟨g, dl.length * 1, none⟩, dg sn cr id l, cg - dl.length) w5 h5.ho ⟨iD5, fun h => by cases h⟩ (by show op.length + (dg sn cr id l).length ≤ _; omega) h5.hb
  have e6 : (dl ++ dg sn cr id l).length - dl.length = (dg sn cr id l).length := by omega
  refine D_callR 9 rfl (by kernel_rfl) (X_callI [.slice (some ⟨g, 0 + dl.length * 1, none⟩) ((dl ++ dg sn cr id l).length - dl.length) (cg - dl.length)] MT61w E73 rfl rfl) rfl (ret_args (by rw [Sl.val, e6, Nat.zero_add]) hw6) ?_
  rintro v6 w6 ⟨a6, d6, H6, p6, c6⟩
  refine ⟨fun h => absurd h (by decide), ?_⟩
  refine D_done (by kernel_rfl) ?_
  rw [oB_eq, oB_eq] at p6
  have hfp6 : ∀ k, HashAt.fp s.ob (.slice a4 op.length d4) k → k = s.ob ∨ oB a4 = some k := fun k hk => by rw [HashAt.fp, oB_eq] at hk; exact hk
  have h6 := h5.outer c6 hfp6 H6 (p6.elim .inl (fun e => .inr (.inr ⟨_, e, Nat.le_refl _⟩)))
  have ng6 : ¬ HashAt.fp s.ob (.slice a4 op.length d4) g := fun e => (hfp6 g e).elim hgob hga4
  have oh6 := c6.owns oh5 (fun b hb1 e => ng6 (by have : g = b := Option.some.inj hb1; subst this; exact e))
  have hG6 := hG5.chs c6 (fun k hk => by rcases hfp6 _ hk with e | e; · have := h1.ho.ge; omega
                                         · have := (h5.ho.olt k e).1; omega)
  have s6 := c6.size
  have hga6 : oB a6 ≠ some g := by
    rcases p6 with e | e
    · rw [e]; exact hga4
    · rw [e]; intro h; have := Option.some.inj h; omega
  clear hw6 H6 iD4 iD5 oh4 oh5
  repeat (first | refine T_seq ?_ | refine T_block ?_ | refine T_inBlock ?_ | refine T_skip ?_)
  refine T_draw (fun u => Below w6.heap.size w6 u) 9 rfl rfl fun w7 hsm => ?_
  have hS7 : Below w6.heap.size w6 w7 := hsm.below (Below.refl _ _)
  refine D_takeT 0 _ rfl (by kernel_rfl) hS7 (fun w hw => X_move) rfl ?_
  refine D_takeT 1 _ rfl (by kernel_rfl) hS7 (fun w hw => X_nilCheck rfl) rfl ?_
  refine D_takeT 2 _ rfl (by kernel_rfl) hS7 (fun w hw => X_field F70_1 rfl) rfl ?_
  refine D_takeT 3 _ rfl (by kernel_rfl) hS7 (fun w hw => X_load A60 rfl (((below_cell hw _ h6.blk.lt).trans (h6.blk.cell 1)))) rfl ?_
  refine D_takeT 4 _ rfl (by kernel_rfl) hS7 (fun w hw => X_move) rfl ?_
  refine D_takeT 5 _ rfl (by kernel_rfl) hS7 (fun w hw => X_move) rfl ?_
  refine D_takeT 6 _ rfl (by kernel_rfl) hS7 (fun w hw => X_sliceH U25 S5 rfl rfl (by omega)) rfl ?_
  refine D_takeT 7 _ rfl (by kernel_rfl) hS7 (fun w hw => X_nilCheckI rfl) rfl ?_
  refine D_takeT 8 _ rfl (by kernel_rfl) hS7 (fun w hw => X_move) rfl ?_
  skip
  have c7 := Chs.of_below (S := fun _ => False) hS7
  have h7 := h6.keep c7 (fun _ _ h => h)
  have oh7 := c7.owns oh6 (fun _ _ h => h)
  have hG7 := hG6.below hS7
  have s7 := hS7.size
  have hs8 := hsum_ret sn cr base id s.ob h.hid a6 d6 (op ++ dg sn cr id l) dl (.slice (some ⟨g, 0, none⟩) dl.length cg) w7 hG7 h7.ho oh7 (fun b hb1 hb2 => hga6 (by rw [oB_eq] at hb2; rw [hb2]; exact hb1.symm ▸ rfl)) (by rw [List.length_append]; omega) (by omega) h7.hb
  refine D_callR 9 rfl (by kernel_rfl) (X_callI [.slice (some ⟨g, 0, none⟩) dl.length cg] MT61s E72 rfl rfl) rfl hs8 ?_
  rintro v8 w8 ⟨o8, q8, H8, c8, p8⟩
  refine ⟨fun h => absurd h (by decide), ?_⟩
  refine D_val 10 _ _ rfl (by kernel_rfl) X_assign rfl (fun hb => by cases hb) ?_
  refine D_done (by kernel_rfl) ?_
  have c8' : Chs (fun k => k = g) w7 w8 := c8.mono (fun k e => (Option.some.inj e).symm)
  have hgF6 : ¬ MS.fp mb { s with ao := a6, co := d6, lo := op ++ dg sn cr id l } g := by
    rintro (e | e | e | e | e | e | e)
    · exact hgF (by simp [MS.fp, e])
    · exact hgF (by simp only at e; simp [MS.fp, e])
    · exact hgF (by simp only at e; simp [MS.fp, e])
    · exact hgF (by simp only at e; simp [MS.fp, e])
    · exact hgF (by simp only at e; simp [MS.fp, e])
    · exact hgF (by simp only at e; simp [MS.fp, e])
    · exact hga6 e
  have h8 := h7.keep c8' (fun k hk e => hgF6 (by subst e; exact hk))
  have hob : MS.fp mb s s.ob := by simp [MS.fp]
  -- all that has turned
  have ct : Chs (fun k => MS.fp mb s k ∨ oB a = some k) w w8 := by
    refine Chs.trans (Chs.trans (Chs.trans (Chs.trans (Chs.trans (Chs.trans (Chs.trans (c1.mono (fun k e => .inr e)) c2 ?_) c3 ?_) c4 ?_) c5 ?_) c6 ?_) c7 ?_) c8' ?_
    · rintro k _ rfl; exact .inl hob
    · exact fun _ _ h => h.elim
    · intro k _ e; rw [hfp4 k e]; exact .inl hob
    · exact fun _ _ h => h.elim
    · intro k hk e
      rcases hfp6 k e with e | e
      · rw [e]; exact .inl hob
      · rcases p4 with e' | e'
        · rw [e'] at e; cases e
        · rw [e'] at e; have := Option.some.inj e; omega
    · exact fun _ _ h => h.elim
    · rintro k hk rfl
      rcases p1 with e | ⟨k', e, hk'⟩
      · exact .inr (by rw [← e]; rfl)
      · have : k = k' := Option.some.inj e
        omega
  have ht8 := ct.size
  refine T_ret1 Tryd.func25 rfl ⟨o8, ?_, ⟨_, ⟨_, h8, rfl⟩, ?_, ?_⟩, ct, ?_⟩
  · by_cases e : oB a = some g
    · rw [hvg e]; exact q8
    · have hv2 := c2.owns q1 (fun b hb1 e => hvF b (by rw [← oB_eq a dl.length c]; exact hb1) (by rw [e]; exact hob))
      have hv3 := c3.owns hv2 (fun _ _ h => h)
      have hv4 := c4.owns hv3 (fun b hb1 e => hvF b (by rw [← oB_eq a dl.length c]; exact hb1) (by rw [hfp4 _ e]; exact hob))
      have hv5 := c5.owns hv4 (fun _ _ h => h)
      have hv6 := c6.owns hv5 (fun b hb1 e => by
        rw [oB_eq] at hb1
        rcases hfp6 b e with e | e
        · exact hvF b hb1 (by rw [e]; exact hob)
        · rcases p4 with e' | e'
          · rw [e'] at e; cases e
          · rw [e'] at e; have := Option.some.inj e; have := (hvlt b hb1).2; omega)
      have hv7 := c7.owns hv6 (fun _ _ h => h)
      exact c8'.owns hv7 (fun b hb1 e' => e (by rw [← oB_eq a dl.length c, hb1, e']))
  · rintro k (e | e | e | e | e | e | e)
    · exact .inl (by simp [MS.fp, e])
    · exact .inl (by simp only at e; simp [MS.fp, e])
    · exact .inl (by simp only at e; simp [MS.fp, e])
    · exact .inl (by simp only at e; simp [MS.fp, e])
    · exact .inl (by simp only at e; simp [MS.fp, e])
    · exact .inl (by simp only at e; simp [MS.fp, e])
    · rcases p6 with e' | e'
      · rcases p4 with e'' | e''
        · simp only at e; rw [e', e''] at e; cases e
        · simp only at e; rw [e', e''] at e; have := Option.some.inj e; exact .inr (by omega)
      · simp only at e; rw [e'] at e; have := Option.some.inj e; exact .inr (by omega)
  · intro b hb1 hf
    rcases p8 with e | ⟨k, e, hk⟩
    · have e1 : g = b := Option.some.inj (e.symm.trans hb1)
      subst e1
      exact hgF6 hf
    · have e1 : k = b := Option.some.inj (e.symm.trans hb1)
      have := (h7.fb b hf).2
      omega
  · rcases p8 with e | ⟨k, e, hk⟩
    · rcases p1 with e' | ⟨k', e', hk'⟩
      · exact .inl (e.trans e')
      · exact .inr ⟨k', e.trans e', hk'⟩
    · exact .inr ⟨k, e, by omega⟩
set_option maxHeartbeats 2000000 in
/-- HMAC.Wipe -/
theorem mwipe_both (base mb id : Nat) (F : Nat → Prop) (ip op l : List Int) (w : World) (hM : Mac w base F mb id ip op l) : Ret Tryd.prog 31 #[.pointer (some ⟨mb, 0, none⟩)] w (fun v w' => Chs F w w') ∧ RetD Tryd.prog 31 #[.pointer (some ⟨mb, 0, none⟩)] w (fun v w' => Chs F w w') := by
  obtain ⟨s, h, rfl⟩ := hM
  refine both_of_T (vs := [.pointer (some ⟨mb, 0, none⟩)]) Tryd.func31 Tryd.ntmps31 rfl (Nat.le_of_ble_eq_true rfl) (fun kd => ?_)
  have hb128 := blkD_cases h.hid
  have hipl := h.ipl
  have hopl := h.opl
  repeat (first | refine T_seq ?_ | refine T_block ?_ | refine T_inBlock ?_ | refine T_skip ?_)
  refine T_region ?_
  refine L_val _ _ (X_move) rfl ?_
  refine L_val _ _ (X_nilCheck rfl) rfl ?_
  refine L_val _ _ (X_field F70_2 rfl) rfl ?_
  refine L_val _ _ (X_load A25 rfl (h.blk.cell 2)) rfl ?_
  refine L_callF [.slice (some ⟨s.pb, 0, none⟩) (blkD id) (blkD id)] E35 rfl rfl (wipe_ret s.pb 0 (blkD id) (blkD id) _ 5 w h.kp (by simp [iv]; omega) (by omega)) ?_
  rintro v w1 c1
  refine L_nil ?_
  have m1 := c1.blk h.blk (blk_ne h.blk h.kp (by decide))
  have i1 := c1.blk h.hi.blk (blk_ne h.hi.blk h.kp (by decide))
  have j1 := c1.blk h.ho.blk (blk_ne h.ho.blk h.kp (by decide))
  have q1 := c1.blk h.kq (Ne.symm h.ne2)
  repeat (first | refine T_seq ?_ | refine T_block ?_ | refine T_inBlock ?_ | refine T_skip ?_)
  refine T_region ?_
  refine L_val _ _ (X_move) rfl ?_
  refine L_val _ _ (X_nilCheck rfl) rfl ?_
  refine L_val _ _ (X_field F70_3 rfl) rfl ?_
  refine L_val _ _ (X_load A25 rfl (m1.cell 3)) rfl ?_
  refine L_callF [.slice (some ⟨s.qb, 0, none⟩) (blkD id) (blkD id)] E35 rfl rfl (wipe_ret s.qb 0 (blkD id) (blkD id) _ 5 w1 q1 (by simp [iv]; omega) (by omega)) ?_
  rintro v w2 c2
  refine L_nil ?_
  have m2 := c2.blk m1 (blk_ne m1 q1 (by decide))
  have i2 := c2.blk i1 (blk_ne i1 q1 (by decide))
  have j2 := c2.blk j1 (blk_ne j1 q1 (by decide))
  repeat (first | refine T_seq ?_ | refine T_block ?_ | refine T_inBlock ?_ | refine T_skip ?_)
  refine T_region ?_
  refine L_val _ _ (X_move) rfl ?_
  refine L_val _ _ (X_nilCheck rfl) rfl ?_
  refine L_val _ _ (X_field F70_0 rfl) rfl ?_
  refine L_val _ _ (X_load A60 rfl (m2.cell 0)) rfl ?_
  refine L_callI [] MT61r E70 rfl rfl rfl (hrs_ret id s.ib _ w2 i2) ?_
  rintro v w3 ⟨k3, c3⟩
  refine L_nil ?_
  have m3 := c3.blk m2 (blk_ne m2 i2 (by decide))
  have j3 := c3.blk j2 (Ne.symm h.ne1)
  repeat (first | refine T_seq ?_ | refine T_block ?_ | refine T_inBlock ?_ | refine T_skip ?_)
  refine T_region ?_
  refine L_val _ _ (X_move) rfl ?_
  refine L_val _ _ (X_nilCheck rfl) rfl ?_
  refine L_val _ _ (X_field F70_1 rfl) rfl ?_
  refine L_val _ _ (X_load A60 rfl (m3.cell 1)) rfl ?_
  refine L_callI [] MT61r E70 rfl rfl rfl (hrs_ret id s.ob _ w3 j3) ?_
  rintro v w4 ⟨k4, c4⟩
  refine L_nil ?_
  refine T_end0 Tryd.func31 rfl ?_
  refine Chs.trans (Chs.trans (Chs.trans (c1.mono ?_) c2 ?_) c3 ?_) c4 ?_
  · rintro k rfl; simp [MS.fp]
  · rintro k _ rfl; simp [MS.fp]
  · rintro k _ rfl; simp [MS.fp]
  · rintro k _ rfl; simp [MS.fp]
end Go.Proofs.Qxb6500863aDoor
