/-
  The running HMAC.
-/
import Derived.Test.Qxb6500863aDoorGD
namespace Go.Proofs.Qxb6500863aDoor
set_option linter.unusedSimpArgs false
set_option linter.unusedVariables false
open Go.RowKit
def oB (a : Option Addr) : Option Nat := (Value.slice a 0 0).ownBlock
theorem oB_eq (a : Option Addr) (n c : Nat) : (Value.slice a n c).ownBlock = oB a := by cases a <;> rfl
/-- Where the parts of a running HMAC lie. -/
structure MS where
  ib : Nat
  ob : Nat
  pb : Nat
  qb : Nat
  ai : Option Addr
  ci : Nat
  ao : Option Addr
  co : Nat
  lo : List Int
def MS.cells (id : Nat) (s : MS) : Array Value := #[.iface 61 (.pointer (some ⟨s.ib, 0, none⟩)), .iface 61 (.pointer (some ⟨s.ob, 0, none⟩)), .slice (some ⟨s.pb, 0, none⟩) (blkD id) (blkD id), .slice (some ⟨s.qb, 0, none⟩) (blkD id) (blkD id)]
structure MacI (w : World) (base mb id : Nat) (ip op l : List Int) (s : MS) : Prop where
  blk : Blk w mb (s.cells id) 70
  hi : HashAt w base s.ib id s.ai s.ci l
  ho : HashAt w base s.ob id s.ao s.co s.lo
  kp : Blk w s.pb (iv .u8 ip).toArray 5
  kq : Blk w s.qb (iv .u8 op).toArray 5
  ipl : ip.length = blkD id
  opl : op.length = blkD id
  hid : id < 5
  ne1 : s.ib ≠ s.ob
  ne2 : s.pb ≠ s.qb
  n1 : oB s.ai ≠ some s.pb
  n2 : oB s.ai ≠ some s.qb
  n3 : oB s.ao ≠ some s.pb
  n4 : oB s.ao ≠ some s.qb
  ap : ∀ b, oB s.ai = some b → oB s.ao ≠ some b
  gm : base ≤ mb
  gp : base ≤ s.pb
  gq : base ≤ s.qb
def MS.fp (mb : Nat) (s : MS) (k : Nat) : Prop := k = mb ∨ k = s.ib ∨ k = s.ob ∨ k = s.pb ∨ k = s.qb ∨ oB s.ai = some k ∨ oB s.ao = some k
section
variable {w w' : World} {base mb id : Nat} {ip op l : List Int} {s : MS}
theorem HashAt.olt {hb : Nat} {a : Option Addr} {c : Nat} (h : HashAt w base hb id a c l) : ∀ k, oB a = some k → base ≤ k ∧ k < w.heap.size := fun k hk => h.own.lt k (by rw [oB_eq]; exact hk)
theorem HashAt.one {hb : Nat} {a : Option Addr} {c : Nat} (h : HashAt w base hb id a c l) {k : Nat} {cs : Array Value} {t : TypeId} (hb' : Blk w k cs t) (ht : t ≠ 5) : oB a ≠ some k := by
  rw [← oB_eq a l.length c]; exact own_ne h.own hb' ht
theorem MacI.fb (h : MacI w base mb id ip op l s) : ∀ k, MS.fp mb s k → base ≤ k ∧ k < w.heap.size := by
  rintro k (rfl | rfl | rfl | rfl | rfl | e | e)
  · exact ⟨h.gm, h.blk.lt⟩
  · exact ⟨h.hi.ge, h.hi.blk.lt⟩
  · exact ⟨h.ho.ge, h.ho.blk.lt⟩
  · exact ⟨h.gp, h.kp.lt⟩
  · exact ⟨h.gq, h.kq.lt⟩
  · exact h.hi.olt k e
  · exact h.ho.olt k e
theorem MacI.hb (h : MacI w base mb id ip op l s) : base ≤ w.heap.size := Nat.le_trans h.gm (Nat.le_of_lt h.blk.lt)
theorem HashAt.keep {S : Nat → Prop} {hb : Nat} {a : Option Addr} {c : Nat} (h : HashAt w base hb id a c l) (hc : Chs S w w') (h1 : ¬ S hb) (h2 : ∀ k, oB a = some k → ¬ S k) : HashAt w' base hb id a c l :=
  ⟨hc.blk h.blk h1, h.ge, hc.owns h.own (fun b hb' => h2 b (by rw [← oB_eq a l.length c]; exact hb'))⟩
theorem MacI.keep {S : Nat → Prop} (h : MacI w base mb id ip op l s) (hc : Chs S w w') (hS : ∀ k, MS.fp mb s k → ¬ S k) : MacI w' base mb id ip op l s :=
  { h with
    blk := hc.blk h.blk (hS _ (.inl rfl))
    hi := h.hi.keep hc (hS _ (.inr (.inl rfl))) (fun k hk => hS k (by simp [MS.fp, hk]))
    ho := h.ho.keep hc (hS _ (by simp [MS.fp])) (fun k hk => hS k (by simp [MS.fp, hk]))
    kp := hc.blk h.kp (hS _ (by simp [MS.fp]))
    kq := hc.blk h.kq (hS _ (by simp [MS.fp])) }
theorem MacI.inner {S : Nat → Prop} {a' : Option Addr} {c' : Nat} {l' : List Int} (h : MacI w base mb id ip op l s) (hc : Chs S w w') (hS : ∀ k, S k → k = s.ib ∨ oB s.ai = some k) (hH : HashAt w' base s.ib id a' c' l') (ha : oB a' = oB s.ai ∨ oB a' = none ∨ ∃ k, oB a' = some k ∧ w.heap.size ≤ k) : MacI w' base mb id ip op l' { s with ai := a', ci := c' } := by
  have q1 : mb ≠ s.ib := blk_ne h.blk h.hi.blk (by decide)
  have q2 := h.hi.one h.blk (by decide)
  have q3 := h.hi.one h.ho.blk (by decide)
  have q4 : s.pb ≠ s.ib := blk_ne h.kp h.hi.blk (by decide)
  have q5 : s.qb ≠ s.ib := blk_ne h.kq h.hi.blk (by decide)
  have q6 := h.ho.one h.hi.blk (by decide)
  have hn : ∀ k, k < w.heap.size → oB s.ai ≠ some k → oB a' ≠ some k := by
    intro k hk h1 h2
    rcases ha with e | e | ⟨k', e, hk'⟩
    · exact h1 (e ▸ h2)
    · rw [e] at h2; cases h2
    · rw [e] at h2; have := Option.some.inj h2; omega
  refine { h with blk := ?_, hi := hH, ho := ?_, kp := ?_, kq := ?_, n1 := ?_, n2 := ?_, ap := ?_ }
  · exact hc.blk h.blk (fun e => (hS _ e).elim q1 q2)
  · exact h.ho.keep hc (fun e => (hS _ e).elim (Ne.symm h.ne1) q3) (fun k hk e => (hS _ e).elim (fun e => q6 (e ▸ hk)) (fun e => h.ap k e hk))
  · exact hc.blk h.kp (fun e => (hS _ e).elim q4 h.n1)
  · exact hc.blk h.kq (fun e => (hS _ e).elim q5 h.n2)
  · exact hn _ h.kp.lt h.n1
  · exact hn _ h.kq.lt h.n2
  · intro b h1 h2
    exact hn b (h.ho.olt b h2).2 (fun e => h.ap b e h2) h1
theorem MacI.outer {S : Nat → Prop} {a' : Option Addr} {c' : Nat} {l' : List Int} (h : MacI w base mb id ip op l s) (hc : Chs S w w') (hS : ∀ k, S k → k = s.ob ∨ oB s.ao = some k) (hH : HashAt w' base s.ob id a' c' l') (ha : oB a' = oB s.ao ∨ oB a' = none ∨ ∃ k, oB a' = some k ∧ w.heap.size ≤ k) : MacI w' base mb id ip op l { s with ao := a', co := c', lo := l' } := by
  have q1 : mb ≠ s.ob := blk_ne h.blk h.ho.blk (by decide)
  have q2 := h.ho.one h.blk (by decide)
  have q3 := h.ho.one h.hi.blk (by decide)
  have q4 : s.pb ≠ s.ob := blk_ne h.kp h.ho.blk (by decide)
  have q5 : s.qb ≠ s.ob := blk_ne h.kq h.ho.blk (by decide)
  have q6 := h.hi.one h.ho.blk (by decide)
  have hn : ∀ k, k < w.heap.size → oB s.ao ≠ some k → oB a' ≠ some k := by
    intro k hk h1 h2
    rcases ha with e | e | ⟨k', e, hk'⟩
    · exact h1 (e ▸ h2)
    · rw [e] at h2; cases h2
    · rw [e] at h2; have := Option.some.inj h2; omega
  refine { h with blk := ?_, hi := ?_, ho := hH, kp := ?_, kq := ?_, n3 := ?_, n4 := ?_, ap := ?_ }
  · exact hc.blk h.blk (fun e => (hS _ e).elim q1 q2)
  · exact h.hi.keep hc (fun e => (hS _ e).elim h.ne1 q3) (fun k hk e => (hS _ e).elim (fun e => q6 (e ▸ hk)) (fun e => h.ap k hk e))
  · exact hc.blk h.kp (fun e => (hS _ e).elim q4 h.n3)
  · exact hc.blk h.kq (fun e => (hS _ e).elim q5 h.n4)
  · exact hn _ h.kp.lt h.n3
  · exact hn _ h.kq.lt h.n4
  · intro b h1 h2
    exact hn b (h.hi.olt b h1).2 (h.ap b h1) h2
theorem Chs.mono {S S' : Nat → Prop} (h : Chs S w w') (hs : ∀ k, S k → S' k) : Chs S' w w' := ⟨h.os, h.tape, h.output, h.size, fun k hk hn => h.oth k hk (fun e => hn (hs k e))⟩
end
/-- A running HMAC at mb, whose blocks are F, whose inner hash has been fed l. -/
def Mac (w : World) (base : Nat) (F : Nat → Prop) (mb id : Nat) (ip op l : List Int) : Prop := ∃ s, MacI w base mb id ip op l s ∧ F = MS.fp mb s
/-- What a call that turns a running HMAC leaves. -/
def MEff (w : World) (base : Nat) (F : Nat → Prop) (mb id : Nat) (ip op l : List Int) (w' : World) : Prop := ∃ F', Mac w' base F' mb id ip op l ∧ Chs F w w' ∧ ∀ k, F' k → F k ∨ w.heap.size ≤ k
theorem Mac.lt {w : World} {base : Nat} {F : Nat → Prop} {mb id : Nat} {ip op l : List Int} (h : Mac w base F mb id ip op l) : ∀ k, F k → base ≤ k ∧ k < w.heap.size := by
  obtain ⟨s, h, rfl⟩ := h
  exact h.fb
theorem Mac.keep {w w' : World} {base : Nat} {F S : Nat → Prop} {mb id : Nat} {ip op l : List Int} (h : Mac w base F mb id ip op l) (hc : Chs S w w') (hS : ∀ k, F k → ¬ S k) : Mac w' base F mb id ip op l := by
  obtain ⟨s, h, rfl⟩ := h
  exact ⟨s, h.keep hc hS, rfl⟩
theorem Mac.below {w w' : World} {base : Nat} {F : Nat → Prop} {mb id : Nat} {ip op l : List Int} (h : Mac w base F mb id ip op l) (hb : Below w.heap.size w w') : Mac w' base F mb id ip op l :=
  h.keep (Chs.of_below (S := fun _ => False) hb) (fun _ _ h => h)
/-- HMAC.Write -/
theorem mwrite_ret (base mb id : Nat) (F : Nat → Prop) (ip op l : List Int) (p : Sl) (w : World) (hM : Mac w base F mb id ip op l) (hp : Sl.ok w p) (hl : l.length + p.2.1.length ≤ 10000000) :
    Ret Tryd.prog 32 #[.pointer (some ⟨mb, 0, none⟩), p.val] w fun v w' => MEff w base F mb id ip op (l ++ p.2.1) w' := by
  obtain ⟨s, h, rfl⟩ := hM
  refine ret_of_T (vs := [.pointer (some ⟨mb, 0, none⟩), p.val]) Tryd.func32 Tryd.ntmps32 rfl (Nat.le_of_ble_eq_true rfl) ?_
  repeat (first | refine T_seq ?_ | refine T_block ?_ | refine T_inBlock ?_ | refine T_skip ?_)
  refine T_region ?_
  refine L_val _ _ (X_move) rfl ?_
  refine L_val _ _ (X_nilCheck rfl) rfl ?_
  refine L_val _ _ (X_field F70_0 rfl) rfl ?_
  refine L_val _ _ (X_load A60 rfl (h.blk.cell 0)) rfl ?_
  refine L_val _ _ (X_move) rfl ?_
  refine L_callI [p.val] MT61w E73 rfl rfl rfl (hwr_ret base id s.ib s.ai s.ci l p w h.hi hp hl h.hb) ?_
  rintro v w1 ⟨a', c', hH, ha, hc⟩
  refine L_nil ?_
  rw [oB_eq, oB_eq] at ha
  have hfp : ∀ k, HashAt.fp s.ib (.slice s.ai l.length s.ci) k → k = s.ib ∨ oB s.ai = some k := fun k hk => by rw [HashAt.fp, oB_eq] at hk; exact hk
  have h1 := h.inner hc hfp hH (ha.elim .inl (fun e => .inr (.inr ⟨_, e, Nat.le_refl _⟩)))
  refine T_end0 Tryd.func32 rfl ⟨_, ⟨_, h1, rfl⟩, hc.mono (fun k hk => (hfp k hk).elim (fun e => .inr (.inl e)) (fun e => by simp [MS.fp, e])), ?_⟩
  rintro k (e | e | e | e | e | e | e)
  · exact .inl (by simp [MS.fp, e])
  · exact .inl (by simp [MS.fp, e])
  · exact .inl (by simp [MS.fp, e])
  · exact .inl (by simp [MS.fp, e])
  · exact .inl (by simp [MS.fp, e])
  · rcases ha with e' | e'
    · exact .inl (by simp only at e; rw [e'] at e; simp [MS.fp, e])
    · exact .inr (by simp only at e; rw [e'] at e; exact Nat.le_of_eq (Option.some.inj e))
  · exact .inl (by simp only at e; simp [MS.fp, e])
/-- HMAC.Size -/
theorem msize_ret (base mb id : Nat) (F : Nat → Prop) (ip op l : List Int) (w : World) (hM : Mac w base F mb id ip op l) : Ret Tryd.prog 24 #[.pointer (some ⟨mb, 0, none⟩)] w fun v w' => v = .int .i64 (szD id : Int) ∧ Below w.heap.size w w' := by
  obtain ⟨s, h, rfl⟩ := hM
  refine ret_of_T (vs := [.pointer (some ⟨mb, 0, none⟩)]) Tryd.func24 Tryd.ntmps24 rfl (Nat.le_of_ble_eq_true rfl) ?_
  repeat (first | refine T_seq ?_ | refine T_block ?_ | refine T_inBlock ?_ | refine T_skip ?_)
  refine T_region ?_
  refine L_val _ _ (X_assign) rfl ?_
  refine L_nil ?_
  repeat (first | refine T_seq ?_ | refine T_block ?_ | refine T_inBlock ?_ | refine T_skip ?_)
  refine T_region ?_
  refine L_val _ _ (X_move) rfl ?_
  refine L_val _ _ (X_nilCheck rfl) rfl ?_
  refine L_val _ _ (X_field F70_0 rfl) rfl ?_
  refine L_val _ _ (X_load A60 rfl (h.blk.cell 0)) rfl ?_
  refine L_callI [] MT61z E71 rfl rfl rfl (hsz_ret id s.ib h.hid _ w h.hi.blk) ?_
  rintro v w1 ⟨rfl, b1⟩
  refine L_val _ _ (X_assign) rfl ?_
  refine L_nil ?_
  exact T_ret1 Tryd.func24 rfl ⟨rfl, b1⟩
/-- HMAC.Reset -/
theorem mreset_both (base mb id : Nat) (F : Nat → Prop) (ip op l : List Int) (w : World) (hM : Mac w base F mb id ip op l) : Ret Tryd.prog 27 #[.pointer (some ⟨mb, 0, none⟩)] w (fun v w' => MEff w base F mb id ip op ip w') ∧ RetD Tryd.prog 27 #[.pointer (some ⟨mb, 0, none⟩)] w (fun v w' => MEff w base F mb id ip op ip w') := by
  obtain ⟨s, h, rfl⟩ := hM
  refine both_of_T (vs := [.pointer (some ⟨mb, 0, none⟩)]) Tryd.func27 Tryd.ntmps27 rfl (Nat.le_of_ble_eq_true rfl) (fun kd => ?_)
  have hb128 := blkD_cases h.hid
  have hipl := h.ipl
  repeat (first | refine T_seq ?_ | refine T_block ?_ | refine T_inBlock ?_ | refine T_skip ?_)
  refine T_region ?_
  refine L_val _ _ (X_move) rfl ?_
  refine L_val _ _ (X_nilCheck rfl) rfl ?_
  refine L_val _ _ (X_field F70_0 rfl) rfl ?_
  refine L_val _ _ (X_load A60 rfl (h.blk.cell 0)) rfl ?_
  refine L_callI [] MT61r E70 rfl rfl rfl (hrs_ret id s.ib _ w h.hi.blk) ?_
  rintro v w1 ⟨k1, c1⟩
  refine L_nil ?_
  have h1 := h.inner c1 (fun k e => .inl e) (a' := none) (c' := 0) (l' := []) ⟨k1, h.hi.ge, World.ownsRow_nil _ _ _ _⟩ (.inr (.inl rfl))
  refine T_draw (fun u => Below w1.heap.size w1 u) 10 rfl rfl fun w2 hsm => ?_
  have hS : Below w1.heap.size w1 w2 := hsm.below (Below.refl _ _)
  refine D_takeT 0 _ rfl (by kernel_rfl) hS (fun w hw => X_move) rfl ?_
  refine D_takeT 1 _ rfl (by kernel_rfl) hS (fun w hw => X_nilCheck rfl) rfl ?_
  refine D_takeT 2 _ rfl (by kernel_rfl) hS (fun w hw => X_field F70_0 rfl) rfl ?_
  refine D_takeT 3 _ rfl (by kernel_rfl) hS (fun w hw => X_load A60 rfl (((below_cell hw _ h1.blk.lt).trans (h1.blk.cell 0)))) rfl ?_
  refine D_takeT 4 _ rfl (by kernel_rfl) hS (fun w hw => X_move) rfl ?_
  refine D_takeT 5 _ rfl (by kernel_rfl) hS (fun w hw => X_nilCheck rfl) rfl ?_
  refine D_takeT 6 _ rfl (by kernel_rfl) hS (fun w hw => X_field F70_2 rfl) rfl ?_
  refine D_takeT 7 _ rfl (by kernel_rfl) hS (fun w hw => X_load A25 rfl (((below_cell hw _ h1.blk.lt).trans (h1.blk.cell 2)))) rfl ?_
  refine D_takeT 8 _ rfl (by kernel_rfl) hS (fun w hw => X_nilCheckI rfl) rfl ?_
  refine D_takeT 9 _ rfl (by kernel_rfl) hS (fun w hw => X_move) rfl ?_
  skip
  have h2 : MacI w2 base mb id ip op [] { s with ai := none, ci := 0 } := h1.keep (Chs.of_below (S := fun _ => False) hS) (fun _ _ h => h)
  have hw := hwr_ret base id s.ib none 0 [] (some ⟨s.pb, 0, none⟩, ip, blkD id) w2 h2.hi ⟨ints_blk h2.kp, fun h => by cases h⟩ (by show 0 + ip.length ≤ _; omega) h2.hb
  refine D_callR 10 rfl (by kernel_rfl) (X_callI [.slice (some ⟨s.pb, 0, none⟩) (blkD id) (blkD id)] MT61w E73 rfl rfl) rfl (ret_args (by rw [Sl.val, hipl]) hw) ?_
  rintro v w3 ⟨a', c', hH, ha, hc⟩
  refine ⟨fun h => absurd h (by decide), ?_⟩
  refine D_done (by kernel_rfl) ?_
  rw [oB_eq, oB_eq] at ha
  have hfp : ∀ k, HashAt.fp s.ib (.slice none 0 0) k → k = s.ib := by
    rintro k (e | e)
    · exact e
    · cases e
  have h3 := h2.inner (l' := ip) hc (fun k e => .inl (hfp k e)) hH (ha.elim .inl (fun e => .inr (.inr ⟨_, e, Nat.le_refl _⟩)))
  have hS' := hS.size
  have c1s := c1.size
  refine T_end0 Tryd.func27 rfl ⟨_, ⟨_, h3, rfl⟩, ?_, ?_⟩
  · exact ((c1.mono (fun k e => .inr (.inl e))).trans (Chs.of_below (S := fun _ => False) hS) (fun _ _ h => h.elim)).trans hc (fun k _ e => .inr (.inl (hfp k e)))
  · rintro k (e | e | e | e | e | e | e)
    · exact .inl (by simp [MS.fp, e])
    · exact .inl (by simp [MS.fp, e])
    · exact .inl (by simp [MS.fp, e])
    · exact .inl (by simp [MS.fp, e])
    · exact .inl (by simp [MS.fp, e])
    · rcases ha with e' | e'
      · simp only at e; rw [e'] at e; cases e
      · exact .inr (by simp only at e; rw [e'] at e; have := Option.some.inj e; omega)
    · exact .inl (by simp only at e; simp [MS.fp, e])
theorem mreset_ret (base mb id : Nat) (F : Nat → Prop) (ip op l : List Int) (w : World) (hM : Mac w base F mb id ip op l) : Ret Tryd.prog 27 #[.pointer (some ⟨mb, 0, none⟩)] w fun v w' => MEff w base F mb id ip op ip w' := (mreset_both base mb id F ip op l w hM).1
end Go.Proofs.Qxb6500863aDoor
