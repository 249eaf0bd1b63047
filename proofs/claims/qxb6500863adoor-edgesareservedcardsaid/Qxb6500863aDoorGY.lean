/-
  The law EdgesAreServed.
-/
import Derived.Test.Qxb6500863aDoorGX
import Derived.Lib.SlBytesConst
namespace Go.Proofs.Qxb6500863aDoor
set_option linter.unusedSimpArgs false
set_option linter.unusedVariables false
open Go.RowKit
section
variable {P : Program} {f : Cx} {n : Nat} {R : Value → World → Prop} {ρ : Env} {w : World} {k : List Item} {ops : Array Oper} {rest : List Oper}
variable {d d' : Nat} {ty ty' : TypeId} {pos pos' : String} {after after' : Array Edge}
/-- '[]byte("..")' of a constant. -/
theorem L_bytesConst {t e : TypeId} {m : Nat} {ps : Array (Nat × Operand)} (c : Array Value) (ht : P.underlying t = some (.slice e)) (he : P.underlying e = some (.int .u8))
    (hv : (Instr.buildSlice t m (ps.map fun (i, x) => (i, ev ρ x))).run P w = .ok (.slice (some ⟨w.heap.size, 0, none⟩) m m) (w.alloc (.cells c e))) (hd : Nat.blt d n = true) (hd' : Nat.blt d' n = true)
    (h : ∀ w1, Chg w w1 w.heap.size (.cells c e (c.size, c.size + 1)) → L P f n ops rest k R (upd (upd ρ d (.slice (some ⟨w.heap.size, 0, none⟩) m m)) d' (.slice (some ⟨w.heap.size, 0, none⟩) m m)) w1) :
    L P f n ops (⟨some d, .buildSlice t m ps, ty, pos, after, none⟩ :: ⟨some d', .convert t t (.tmp d), ty', pos', after', none⟩ :: rest) k R ρ w := by
  refine L_val (.slice (some ⟨w.heap.size, 0, none⟩) m m) (w.alloc (.cells c e)) ?_ hd ?_
  · simp only [execOp, Sem.run_bind]
    rw [hv]; rfl
  refine L_val _ _ ?_ hd' (h _ (chg_alloc _ _))
  have h1 := Lib.run_convert_bytes_const (P := P) w t e c m m ht he
  have e1 : ev (upd ρ d (.slice (some ⟨w.heap.size, 0, none⟩) m m)) (.tmp d) = .slice (some ⟨w.heap.size, 0, none⟩) m m := by simp [ev, upd]
  simp only [execOp, e1, Sem.run_bind, h1]
  rfl
end
theorem ints_mark {w : World} {b : Nat} {l : List Int} {t : TypeId} {fz : Nat × Nat} (h : w.heap[b]? = some (.cells (iv .u8 l).toArray t fz)) : Ints .u8 w (some ⟨b, 0, none⟩) l :=
  ⟨fun j x hx => ⟨b, 0, rfl, (Array.getElem?_eq_some_iff.1 h).1, by
    have := cell_of_row w b j _ t fz h
    rw [Nat.zero_add, this]
    simpa using iv_get (q := .u8) hx⟩⟩
theorem pbN_len {H : List Int → List Int} (hH : ∀ x, (H x).length = 16) (s : List Int) (count n : Nat) : (pbN H s count n).length = n := by
  rw [pbN, List.length_take, dkL_len (pT_len hH s count)]
  omega
theorem ckN_len {H : List Int → List Int} (hH : ∀ x, (H x).length = 48) (A B : List Int) (n : Nat) : (ckN H A B n).length = n := by
  rw [ckN, List.length_take, dkL_len (T := cT H A B n) (s := 48) (fun i => hH _)]
  omega
theorem fkN_len {H : List Int → List Int} (hH : ∀ x, (H x).length = 48) (V A B : List Int) (n : Nat) : (fkN H V A B n).length = n := by
  rw [fkN, List.length_take, kdL_len hH V A B n]
  omega
theorem eqN_true {w : World} {a a' : Option Addr} {c c' n : Nat} {l : List Int} (hl : l.length = n) (hn : n ≤ 1000000) (h1 : Sl.ok w (a, l, c)) (h2 : Sl.ok w (a', l, c')) : Ret Tryd.prog 12 #[.slice a n c, .slice a' n c'] w fun v w' => v = .bool true ∧ Below w.heap.size w w' := by
  have h := eq_true (X := (a, l, c)) (Y := (a', l, c')) h1 h2 rfl (by rw [hl]; exact hn)
  rw [Sl.val, Sl.val, hl] at h
  exact h
theorem nil_ne (x : Tmp) (w : World) : (do eqGuard .neq 38 (.tmp x) (.const .nilIface) .nilIface .nilIface; binOp .neq 38 .nilIface .nilIface).run Tryd.prog w = .ok (.bool false) w := by kernel_rfl
theorem eI_ne (x y : Tmp) (w : World) : (do eqGuard .neq 38 (.tmp x) (.tmp y) errI errI; binOp .neq 38 errI errI).run Tryd.prog w = .ok (.bool false) w := by kernel_rfl
theorem eO_ne (x y : Tmp) (w : World) : (do eqGuard .neq 38 (.tmp x) (.tmp y) errO errO; binOp .neq 38 errO errO).run Tryd.prog w = .ok (.bool false) w := by kernel_rfl
theorem eO_eq (x y : Tmp) (w : World) : (do eqGuard .eql 38 (.tmp x) (.tmp y) errO errO; binOp .eql 38 errO errO).run Tryd.prog w = .ok (.bool true) w := by kernel_rfl
set_option maxHeartbeats 8000000 in
set_option maxRecDepth 10000 in
/-- modeslaw.EdgesAreServed: true -/
theorem edges_ret (sn cr : List Int) (w : World) (hG : Glob sn cr w) : Ret Tryd.prog 4 #[] w fun v w' => v = .bool true ∧ Below w.heap.size w w' := by
  refine ret_of_T (vs := []) Tryd.func4 Tryd.ntmps4 rfl (Nat.le_of_ble_eq_true rfl) ?_
  repeat (first | refine T_seq ?_ | refine T_block ?_ | refine T_inBlock ?_ | refine T_skip ?_)
  refine T_region ?_
  refine L_val _ _ (X_assign) rfl ?_
  refine L_nil ?_
  repeat (first | refine T_seq ?_ | refine T_block ?_ | refine T_inBlock ?_ | refine T_skip ?_)
  refine T_region ?_
  refine L_bytesConst (iv .u8 [112, 97, 115, 115, 119, 111, 114, 100]).toArray Tryd.underlying25 Tryd.underlying5 (by kernel_rfl) rfl rfl fun w1 h1 => ?_
  refine ?_
  refine L_bytesConst (iv .u8 [115, 97, 108, 116]).toArray Tryd.underlying25 Tryd.underlying5 (by kernel_rfl) rfl rfl fun w2 h2 => ?_
  refine ?_
  refine L_alloc Z25 rfl fun w3 h3 => ?_
  refine L_store (.slice (some ⟨w.heap.size, 0, none⟩) 8 8) S25 rfl rfl rfl h3.new (by simp [Value.cells]) fun w4 h4 => ?_
  refine L_val _ _ (X_assign) rfl ?_
  refine L_nil ?_
  have b1 : Below w.heap.size w w1 := h1.below (Below.refl _ _) (Nat.le_refl _)
  have b2 : Below w1.heap.size w1 w2 := h2.below (Below.refl _ _) (Nat.le_refl _)
  have b3 : Below w2.heap.size w2 w3 := h3.below (Below.refl _ _) (Nat.le_refl _)
  have b4 : Below w2.heap.size w2 w4 := h4.below b3 (Nat.le_refl _)
  have P1 : Sl.ok w1 (some ⟨w.heap.size, 0, none⟩, [112, 97, 115, 115, 119, 111, 114, 100], 8) := ⟨ints_mark h1.here, fun h => by cases h⟩
  have S2 : Sl.ok w2 (some ⟨w1.heap.size, 0, none⟩, [115, 97, 108, 116], 4) := ⟨ints_mark h2.here, fun h => by cases h⟩
  have P4 := (P1.below b2).below b4
  have S4 := S2.below b4
  have k4 : Blk w4 w2.heap.size #[Sl.val (some ⟨w.heap.size, 0, none⟩, [112, 97, 115, 115, 119, 111, 114, 100], 8)] 25 := h4.new
  have bw4 : Below w.heap.size w w4 := (b1.trans (b2.mono b1.size)).trans (b4.mono (Nat.le_trans b1.size b2.size))
  repeat (first | refine T_seq ?_ | refine T_block ?_ | refine T_inBlock ?_ | refine T_skip ?_)
  refine T_region ?_
  refine L_callF [.int .i64 ((1 : Nat) : Int)] E10 rfl rfl (hashOf_ret 1 w4) ?_
  rintro v5 w5 ⟨rfl, k5, b5⟩
  refine L_val _ _ (X_assign) rfl ?_
  refine L_nil ?_
  refine T_cut [1, 2, 3] (fun vs u => ∃ (pb cb : Nat) (P S : Sl), vs = [.pointer (some ⟨pb, 0, none⟩), S.val, .func (.func 29) #[] #[.pointer (some ⟨cb, 0, none⟩)]] ∧ P.2.1.length ≤ 8 ∧ S.2.1.length ≤ 8 ∧ Sl.ok u P ∧ Sl.ok u S ∧ Blk u pb #[P.val] 25 ∧ Blk u cb #[.int .i64 ((1 : Nat) : Int)] 29 ∧ Below w.heap.size w u)
    ⟨w2.heap.size, w4.heap.size, _, (some ⟨w1.heap.size, 0, none⟩, [115, 97, 108, 116], 4), rfl, by simp, by simp, P4.below b5, S4.below b5, below_blk b5 k4 k4.lt, k5, bw4.trans (b5.mono bw4.size)⟩ ?_
  clear h1 h2 h3 h4 b1 b2 b3 b4 P1 S2 P4 S4 k4 bw4 k5 b5
  rintro vs ρ0 u ⟨pb, cb, P, S, rfl, hPl, hSl, hP, hS, kp, kc, bu⟩
  have hGu := hG.below bu
  have hl1 : ∀ x, (hmN sn cr 1 P.2.1 x).length = 16 := fun x => hmN_len sn cr (by decide) P.2.1 x
  have hl4 : ∀ x, (hmN sn cr 4 P.2.1 x).length = 48 := fun x => hmN_len sn cr (by decide) P.2.1 x
  repeat (first | refine T_seq ?_ | refine T_block ?_ | refine T_inBlock ?_ | refine T_skip ?_)
  refine T_region ?_
  refine L_val _ _ (X_move) rfl ?_
  refine L_val _ _ (X_load A25 rfl (kp.cell 0)) rfl ?_
  refine L_val _ _ (X_move) rfl ?_
  refine L_callF [.func (.func 29) #[] #[.pointer (some ⟨cb, 0, none⟩)], P.val, S.val, .int .u32 ((65536 : Nat) : Int), .int .i64 ((1 : Nat) : Int)] E11 rfl rfl (pb_ret sn cr 1 cb (by decide) (by decide) P S 65536 1 u hGu kc hP hS (by omega) (by omega) (by decide) (by decide) (by decide) (by decide)) ?_
  rintro v1 u1 ⟨a1, c1, rfl, ok1, b1⟩
  refine L_val _ _ (X_move) rfl ?_
  refine L_val _ _ (X_extract rfl rfl) rfl ?_
  refine L_val _ _ (X_extract rfl rfl) rfl ?_
  refine L_val _ _ (X_assign) rfl ?_
  refine L_val _ _ (X_assign) rfl ?_
  refine L_nil ?_
  have kp1 := below_blk b1 kp kp.lt
  refine T_seq ?_
  refine T_seq ?_
  refine T_region ?_
  refine L_val _ _ (X_move) rfl ?_
  refine L_val _ _ (X_neq (nil_ne _ _)) rfl ?_
  refine L_val _ _ (X_move) rfl ?_
  refine L_guard rfl rfl rfl ?_
  refine L_val _ _ (X_move) rfl ?_
  refine L_guard rfl rfl rfl ?_
  refine L_val _ _ (X_load A25 rfl (kp1.cell 0)) rfl ?_
  refine L_guard rfl rfl rfl ?_
  refine L_val _ _ (X_move) rfl ?_
  refine L_guard rfl rfl rfl ?_
  refine L_callF [.int .i64 ((1 : Nat) : Int), P.val, S.val, .int .i64 ((65536 : Nat) : Int), .int .i64 ((1 : Nat) : Int)] E13 rfl rfl (pbm_ret sn cr 1 (by decide) (by decide) P S 65536 1 u1 (hGu.below b1) (hP.below b1) (hS.below b1) (by omega) (by omega) (by decide) (by decide) (by decide) (by decide)) ?_
  rintro v2 u2 ⟨a2, c2, rfl, ok2, b2⟩
  refine L_guard rfl rfl rfl ?_
  refine L_callF [.slice a1 1 c1, .slice a2 1 c2] E12 rfl rfl (eqN_true (pbN_len hl1 _ _ _) (by decide) (ok1.below b2) ok2) ?_
  rintro v3 u3 ⟨rfl, b3⟩
  refine L_guard rfl rfl rfl ?_
  refine L_val _ _ (X_not rfl) rfl ?_
  refine L_val _ _ (X_pick rfl) rfl ?_
  refine L_nil ?_
  have bb3 : Below u.heap.size u u3 := (b1.trans (b2.mono b1.size)).trans (b3.mono (Nat.le_trans b1.size b2.size))
  refine T_false rfl ?_
  refine T_skip ?_
  refine T_cut [1, 2, 3] (fun vs z => vs = [.pointer (some ⟨pb, 0, none⟩), S.val, .func (.func 29) #[] #[.pointer (some ⟨cb, 0, none⟩)]] ∧ Below u.heap.size u z) ⟨rfl, bb3⟩ ?_
  clear b1 b2 b3 bb3 ok1 ok2 kp1
  rintro vs ρ1 z ⟨rfl, bz⟩
  have kpz := below_blk bz kp kp.lt
  have kcz := below_blk bz kc kc.lt
  repeat (first | refine T_seq ?_ | refine T_block ?_ | refine T_inBlock ?_ | refine T_skip ?_)
  refine T_region ?_
  refine L_val _ _ (X_move) rfl ?_
  refine L_val _ _ (X_load A25 rfl (kpz.cell 0)) rfl ?_
  refine L_val _ _ (X_move) rfl ?_
  refine L_callF [.func (.func 29) #[] #[.pointer (some ⟨cb, 0, none⟩)], P.val, S.val, .int .u32 ((1 : Nat) : Int), .int .i64 ((65536 : Nat) : Int)] E11 rfl rfl (pb_ret sn cr 1 cb (by decide) (by decide) P S 1 65536 z (hGu.below bz) kcz (hP.below bz) (hS.below bz) (by omega) (by omega) (by decide) (by decide) (by decide) (by decide)) ?_
  rintro v1 u1 ⟨a1, c1, rfl, ok1, b1⟩
  refine L_val _ _ (X_move) rfl ?_
  refine L_val _ _ (X_extract rfl rfl) rfl ?_
  refine L_val _ _ (X_extract rfl rfl) rfl ?_
  refine L_val _ _ (X_assign) rfl ?_
  refine L_val _ _ (X_assign) rfl ?_
  refine L_nil ?_
  have bz1 : Below u.heap.size u u1 := bz.trans (b1.mono bz.size)
  have kp1 := below_blk bz1 kp kp.lt
  refine T_seq ?_
  refine T_seq ?_
  refine T_region ?_
  refine L_val _ _ (X_move) rfl ?_
  refine L_val _ _ (X_neq (nil_ne _ _)) rfl ?_
  refine L_val _ _ (X_move) rfl ?_
  refine L_guard rfl rfl rfl ?_
  refine L_val _ _ (X_move) rfl ?_
  refine L_guard rfl rfl rfl ?_
  refine L_val _ _ (X_load A25 rfl (kp1.cell 0)) rfl ?_
  refine L_guard rfl rfl rfl ?_
  refine L_val _ _ (X_move) rfl ?_
  refine L_guard rfl rfl rfl ?_
  refine L_callF [.int .i64 ((1 : Nat) : Int), P.val, S.val, .int .i64 ((1 : Nat) : Int), .int .i64 ((65536 : Nat) : Int)] E13 rfl rfl (pbm_ret sn cr 1 (by decide) (by decide) P S 1 65536 u1 (hGu.below bz1) (hP.below bz1) (hS.below bz1) (by omega) (by omega) (by decide) (by decide) (by decide) (by decide)) ?_
  rintro v2 u2 ⟨a2, c2, rfl, ok2, b2⟩
  refine L_guard rfl rfl rfl ?_
  refine L_callF [.slice a1 65536 c1, .slice a2 65536 c2] E12 rfl rfl (eqN_true (pbN_len hl1 _ _ _) (by decide) (ok1.below b2) ok2) ?_
  rintro v3 u3 ⟨rfl, b3⟩
  refine L_guard rfl rfl rfl ?_
  refine L_val _ _ (X_not rfl) rfl ?_
  refine L_val _ _ (X_pick rfl) rfl ?_
  refine L_nil ?_
  have bb3 : Below u.heap.size u u3 := (bz1.trans (b2.mono bz1.size)).trans (b3.mono (Nat.le_trans bz1.size b2.size))
  refine T_false rfl ?_
  refine T_skip ?_
  refine T_cut [1, 2, 3] (fun vs z => vs = [.pointer (some ⟨pb, 0, none⟩), S.val, .func (.func 29) #[] #[.pointer (some ⟨cb, 0, none⟩)]] ∧ Below u.heap.size u z) ⟨rfl, bb3⟩ ?_
  clear b1 b2 b3 bb3 ok1 ok2 kp1 bz1 kpz kcz bz
  rintro vs ρ2 z ⟨rfl, bz⟩
  have kpz := below_blk bz kp kp.lt
  repeat (first | refine T_seq ?_ | refine T_block ?_ | refine T_inBlock ?_ | refine T_skip ?_)
  refine T_region ?_
  refine L_val _ _ (X_move) rfl ?_
  refine L_val _ _ (X_load A25 rfl (kpz.cell 0)) rfl ?_
  refine L_val _ _ (X_move) rfl ?_
  refine L_callF [.func (.func 29) #[] #[.pointer (some ⟨cb, 0, none⟩)], P.val, S.val, .int .u32 65537, .int .i64 1] E11 rfl rfl (pbI_ret _ _ _ z) ?_
  rintro v1 u1 ⟨rfl, rfl⟩
  refine L_val _ _ (X_move) rfl ?_
  refine L_val _ _ (X_extract rfl rfl) rfl ?_
  refine L_val _ _ (X_extract rfl rfl) rfl ?_
  refine L_val _ _ (X_assign) rfl ?_
  refine L_nil ?_
  repeat (first | refine T_seq ?_ | refine T_block ?_ | refine T_inBlock ?_ | refine T_skip ?_)
  refine T_region ?_
  refine L_val _ _ (X_move) rfl ?_
  refine L_val _ _ (X_mkIface U43 (by simp)) rfl ?_
  refine L_val _ _ (X_neq (eI_ne _ _ _)) rfl ?_
  refine L_nil ?_
  refine T_false rfl ?_
  refine T_skip ?_
  refine T_seq ?_
  refine T_seq ?_
  refine T_region ?_
  refine L_val _ _ (X_move) rfl ?_
  refine L_val _ _ (X_load A25 rfl (kpz.cell 0)) rfl ?_
  refine L_val _ _ (X_move) rfl ?_
  refine L_callF [.func (.func 29) #[] #[.pointer (some ⟨cb, 0, none⟩)], P.val, S.val, .int .u32 1, .int .i64 65537] E11 rfl rfl (pbO_ret _ _ _ u1) ?_
  rintro v1 u2 ⟨rfl, rfl⟩
  refine L_val _ _ (X_move) rfl ?_
  refine L_val _ _ (X_extract rfl rfl) rfl ?_
  refine L_val _ _ (X_extract rfl rfl) rfl ?_
  refine L_val _ _ (X_assign) rfl ?_
  refine L_nil ?_
  repeat (first | refine T_seq ?_ | refine T_block ?_ | refine T_inBlock ?_ | refine T_skip ?_)
  refine T_region ?_
  refine L_val _ _ (X_move) rfl ?_
  refine L_val _ _ (X_mkIface U43 (by simp)) rfl ?_
  refine L_val _ _ (X_neq (eO_ne _ _ _)) rfl ?_
  refine L_nil ?_
  refine T_false rfl ?_
  refine T_skip ?_
  refine T_cut [1, 2] (fun vs z => vs = [.pointer (some ⟨pb, 0, none⟩), S.val] ∧ Below u.heap.size u z) ⟨rfl, bz⟩ ?_
  clear kpz bz
  rintro vs ρ3 z ⟨rfl, bz⟩
  have kpz := below_blk bz kp kp.lt
  repeat (first | refine T_seq ?_ | refine T_block ?_ | refine T_inBlock ?_ | refine T_skip ?_)
  refine T_draw (fun q => Below z.heap.size z q) 2 rfl rfl fun z1 hsm => ?_
  have hS1 : Below z.heap.size z z1 := hsm.below (Below.refl _ _)
  refine D_takeT 1 _ rfl (by kernel_rfl) hS1 (fun w hw => X_load A25 rfl (((below_cell hw _ kpz.lt).trans (kpz.cell 0)))) rfl ?_
  skip
  refine D_callF 0 [.int .i64 ((4 : Nat) : Int)] rfl (by kernel_rfl) E10 rfl rfl (hashOf_ret 4 z1) ?_
  rintro v2 z2 ⟨rfl, k2, b2⟩
  have bz1 : Below u.heap.size u z1 := bz.trans (hS1.mono bz.size)
  have bz2 : Below u.heap.size u z2 := bz1.trans (b2.mono bz1.size)
  refine ⟨fun _ => hS1.trans (b2.mono hS1.size), ?_⟩
  have hG2 := hGu.below bz2
  have hP2 := hP.below bz2
  have hS2 := hS.below bz2
  have kp2 := below_blk bz2 kp kp.lt
  refine D_callF 2 [.func (.func 29) #[] #[.pointer (some ⟨z1.heap.size, 0, none⟩)], P.val] rfl (by kernel_rfl) E14 rfl rfl (newmac_ret sn cr 4 z1.heap.size (by decide) P z2 hG2 k2 hP2 (by omega)) ?_
  rintro v3 z3 ⟨mb, F, rfl, hM3, b3⟩
  refine ⟨fun h => absurd h (by decide), ?_⟩
  refine D_val 3 _ _ rfl (by kernel_rfl) X_assign rfl (fun hb => by cases hb) ?_
  refine D_done (by kernel_rfl) ?_
  have M3 : MacB z2 z3 mb 4 (ipN sn cr 4 P.2.1) (opN sn cr 4 P.2.1) (ipN sn cr 4 P.2.1) := ⟨F, hM3, b3⟩
  have hHe : ∀ x, dg sn cr 4 (opN sn cr 4 P.2.1 ++ dg sn cr 4 (ipN sn cr 4 P.2.1 ++ x)) = hmN sn cr 4 P.2.1 x := fun _ => rfl
  have hipl : (ipN sn cr 4 P.2.1).length ≤ 1000 := by rw [ipN_len sn cr (by decide)]; decide
  generalize ipN sn cr 4 P.2.1 = ip at *
  generalize opN sn cr 4 P.2.1 = op at *
  clear hM3 b3
  repeat (first | refine T_seq ?_ | refine T_block ?_ | refine T_inBlock ?_ | refine T_skip ?_)
  refine T_region ?_
  refine L_val _ _ (X_makeFunc) rfl ?_
  refine L_val _ _ (X_assign) rfl ?_
  refine L_nil ?_
  refine T_cut [1, 2, 6, 7] (fun vs q => vs = [.pointer (some ⟨pb, 0, none⟩), S.val, .pointer (some ⟨mb, 0, none⟩), .func (.func 15) #[] #[.pointer (some ⟨pb, 0, none⟩)]] ∧ q = z3) ⟨rfl, rfl⟩ ?_
  rintro vs ρ4 q ⟨rfl, rfl⟩
  have kpq := below_blk M3.bel kp2 kp2.lt
  repeat (first | refine T_seq ?_ | refine T_block ?_ | refine T_inBlock ?_ | refine T_skip ?_)
  refine T_region ?_
  refine L_val _ _ (X_move) rfl ?_
  refine L_val _ _ (X_mkIface U44 (by simp)) rfl ?_
  refine L_val _ _ (X_move) rfl ?_
  refine L_val _ _ (X_load A25 rfl (kpq.cell 0)) rfl ?_
  refine L_callF [.iface 44 (.pointer (some ⟨mb, 0, none⟩)), S.val, P.val, .int .i64 ((65536 : Nat) : Int)] E17 rfl rfl (ck_ret sn cr 4 (by decide) _ ip op ip mb S P 65536 z2 q hHe hl4 hipl M3 hG2 hS2 hP2 (by omega) (by omega) (by decide) (by decide)) ?_
  rintro v4 q4 ⟨a4, c4, rfl, ok4, M4⟩
  refine L_val _ _ (X_move) rfl ?_
  refine L_val _ _ (X_extract rfl rfl) rfl ?_
  refine L_val _ _ (X_extract rfl rfl) rfl ?_
  refine L_val _ _ (X_assign) rfl ?_
  refine L_val _ _ (X_assign) rfl ?_
  refine L_nil ?_
  have kp4 := below_blk M4.bel kp2 kp2.lt
  refine T_seq ?_
  refine T_seq ?_
  refine T_region ?_
  refine L_val _ _ (X_move) rfl ?_
  refine L_val _ _ (X_neq (nil_ne _ _)) rfl ?_
  refine L_val _ _ (X_move) rfl ?_
  refine L_guard rfl rfl rfl ?_
  refine L_val _ _ (X_move) rfl ?_
  refine L_guard rfl rfl rfl ?_
  refine L_val _ _ (X_move) rfl ?_
  refine L_guard rfl rfl rfl ?_
  refine L_val _ _ (X_move) rfl ?_
  refine L_guard rfl rfl rfl ?_
  refine L_val _ _ (X_load A25 rfl (kp4.cell 0)) rfl ?_
  refine L_guard rfl rfl rfl ?_
  refine L_callF [.func (.func 15) #[] #[.pointer (some ⟨pb, 0, none⟩)], S.val, P.val, .int .i64 ((65536 : Nat) : Int)] E18 rfl rfl (ckm_ret sn cr pb P S P 65536 q4 (hG2.below M4.bel) kp4 (hP2.below M4.bel) (hS2.below M4.bel) (hP2.below M4.bel) (by omega) (by omega) (by omega) (by decide) (by decide)) ?_
  rintro v5 q5 ⟨a5, c5, rfl, ok5, b5⟩
  refine L_guard rfl rfl rfl ?_
  refine L_callF [.slice a4 65536 c4, .slice a5 65536 c5] E12 rfl rfl (eqN_true (ckN_len hl4 _ _ _) (by decide) (ok4.below b5) ok5) ?_
  rintro v6 q6 ⟨rfl, b6⟩
  refine L_guard rfl rfl rfl ?_
  refine L_val _ _ (X_not rfl) rfl ?_
  refine L_val _ _ (X_pick rfl) rfl ?_
  refine L_nil ?_
  have M6 := (M4.keep b5).keep b6
  refine T_false rfl ?_
  refine T_skip ?_
  refine T_cut [1, 2, 6, 7] (fun vs q => vs = [.pointer (some ⟨pb, 0, none⟩), S.val, .pointer (some ⟨mb, 0, none⟩), .func (.func 15) #[] #[.pointer (some ⟨pb, 0, none⟩)]] ∧ q = q6) ⟨rfl, rfl⟩ ?_
  rintro vs ρ5 t ⟨rfl, rfl⟩
  clear kpq ok4 M4 kp4 ok5 b5 b6 M3
  have kpt := below_blk M6.bel kp2 kp2.lt
  repeat (first | refine T_seq ?_ | refine T_block ?_ | refine T_inBlock ?_ | refine T_skip ?_)
  refine T_region ?_
  refine L_val _ _ (X_move) rfl ?_
  refine L_val _ _ (X_mkIface U44 (by simp)) rfl ?_
  refine L_val _ _ (X_move) rfl ?_
  refine L_val _ _ (X_load A25 rfl (kpt.cell 0)) rfl ?_
  refine L_callF [.iface 44 (.pointer (some ⟨mb, 0, none⟩)), .slice none 0 0, S.val, P.val, .int .i64 ((65536 : Nat) : Int)] E19 rfl rfl (fk_ret sn cr 4 (by decide) _ ip op ip mb (none, [], 0) S P 65536 z2 t hHe hl4 hipl M6 hG2 ⟨⟨fun j x hx => by simp at hx⟩, fun _ => ⟨rfl, rfl⟩⟩ hS2 hP2 (by decide) (by omega) (by omega) (by decide) (by decide)) ?_
  rintro v7 q7 ⟨a7, c7, rfl, ok7, M7⟩
  refine L_val _ _ (X_move) rfl ?_
  refine L_val _ _ (X_extract rfl rfl) rfl ?_
  refine L_val _ _ (X_extract rfl rfl) rfl ?_
  refine L_val _ _ (X_assign) rfl ?_
  refine L_val _ _ (X_assign) rfl ?_
  refine L_nil ?_
  have kp7 := below_blk M7.bel kp2 kp2.lt
  refine T_seq ?_
  refine T_seq ?_
  refine T_region ?_
  refine L_val _ _ (X_move) rfl ?_
  refine L_val _ _ (X_neq (nil_ne _ _)) rfl ?_
  refine L_val _ _ (X_move) rfl ?_
  refine L_guard rfl rfl rfl ?_
  refine L_val _ _ (X_move) rfl ?_
  refine L_guard rfl rfl rfl ?_
  refine L_val _ _ (X_move) rfl ?_
  refine L_guard rfl rfl rfl ?_
  refine L_val _ _ (X_move) rfl ?_
  refine L_guard rfl rfl rfl ?_
  refine L_val _ _ (X_load A25 rfl (kp7.cell 0)) rfl ?_
  refine L_guard rfl rfl rfl ?_
  refine L_callF [.func (.func 15) #[] #[.pointer (some ⟨pb, 0, none⟩)], .slice none 0 0, S.val, P.val, .int .i64 ((65536 : Nat) : Int)] E20 rfl rfl (fkm_ret sn cr pb P (none, [], 0) S P 65536 q7 (hG2.below M7.bel) kp7 (hP2.below M7.bel) ⟨⟨fun j x hx => by simp at hx⟩, fun _ => ⟨rfl, rfl⟩⟩ (hS2.below M7.bel) (hP2.below M7.bel) (by omega) (by decide) (by omega) (by omega) (by decide) (by decide)) ?_
  rintro v8 q8 ⟨a8, c8, rfl, ok8, b8⟩
  refine L_guard rfl rfl rfl ?_
  refine L_callF [.slice a7 65536 c7, .slice a8 65536 c8] E12 rfl rfl (eqN_true (fkN_len hl4 _ _ _ _) (by decide) (ok7.below b8) ok8) ?_
  rintro v9 q9 ⟨rfl, b9⟩
  refine L_guard rfl rfl rfl ?_
  refine L_val _ _ (X_not rfl) rfl ?_
  refine L_val _ _ (X_pick rfl) rfl ?_
  refine L_nil ?_
  have M9 := (M7.keep b8).keep b9
  have kp9 := below_blk M9.bel kp2 kp2.lt
  refine T_false rfl ?_
  refine T_skip ?_
  refine T_cut [1, 2, 6] (fun vs q => vs = [.pointer (some ⟨pb, 0, none⟩), S.val, .pointer (some ⟨mb, 0, none⟩)] ∧ q = q9) ⟨rfl, rfl⟩ ?_
  rintro vs ρ6 q ⟨rfl, rfl⟩
  repeat (first | refine T_seq ?_ | refine T_block ?_ | refine T_inBlock ?_ | refine T_skip ?_)
  refine T_region ?_
  refine L_val _ _ (X_move) rfl ?_
  refine L_val _ _ (X_mkIface U44 (by simp)) rfl ?_
  refine L_val _ _ (X_move) rfl ?_
  refine L_val _ _ (X_load A25 rfl (kp9.cell 0)) rfl ?_
  refine L_callF [.iface 44 (.pointer (some ⟨mb, 0, none⟩)), S.val, P.val, .int .i64 65537] E17 rfl rfl (ckO_ret _ _ _ q) ?_
  rintro v1 u1 ⟨rfl, rfl⟩
  refine L_val _ _ (X_move) rfl ?_
  refine L_val _ _ (X_extract rfl rfl) rfl ?_
  refine L_val _ _ (X_extract rfl rfl) rfl ?_
  refine L_val _ _ (X_assign) rfl ?_
  refine L_val _ _ (X_assign) rfl ?_
  refine L_nil ?_
  repeat (first | refine T_seq ?_ | refine T_block ?_ | refine T_inBlock ?_ | refine T_skip ?_)
  refine T_region ?_
  refine L_val _ _ (X_move) rfl ?_
  refine L_val _ _ (X_mkIface U44 (by simp)) rfl ?_
  refine L_val _ _ (X_move) rfl ?_
  refine L_val _ _ (X_load A25 rfl (kp9.cell 0)) rfl ?_
  refine L_callF [.iface 44 (.pointer (some ⟨mb, 0, none⟩)), .slice none 0 0, S.val, P.val, .int .i64 65537] E19 rfl rfl (fkO_ret _ _ _ _ u1) ?_
  rintro v1 u2 ⟨rfl, rfl⟩
  refine L_val _ _ (X_move) rfl ?_
  refine L_val _ _ (X_extract rfl rfl) rfl ?_
  refine L_val _ _ (X_extract rfl rfl) rfl ?_
  refine L_val _ _ (X_assign) rfl ?_
  refine L_val _ _ (X_assign) rfl ?_
  refine L_nil ?_
  repeat (first | refine T_seq ?_ | refine T_block ?_ | refine T_inBlock ?_ | refine T_skip ?_)
  refine T_region ?_
  refine L_val _ _ (X_move) rfl ?_
  refine L_val _ _ (X_mkIface U43 (by simp)) rfl ?_
  refine L_val _ _ (X_eq (eO_eq _ _ _)) rfl ?_
  refine L_val _ _ (X_move) rfl ?_
  refine L_guard rfl rfl rfl ?_
  refine L_val _ _ (X_move) rfl ?_
  refine L_guard rfl rfl rfl ?_
  refine L_val _ _ (X_mkIface U43 (by simp)) rfl ?_
  refine L_guard rfl rfl rfl ?_
  refine L_val _ _ (X_eq (eO_eq _ _ _)) rfl ?_
  refine L_val _ _ (X_pick rfl) rfl ?_
  refine L_val _ _ (X_assign) rfl ?_
  refine L_nil ?_
  exact T_ret1 Tryd.func4 rfl ⟨rfl, bu.trans ((bz2.trans (M9.bel.mono bz2.size)).mono bu.size)⟩
end Go.Proofs.Qxb6500863aDoor
