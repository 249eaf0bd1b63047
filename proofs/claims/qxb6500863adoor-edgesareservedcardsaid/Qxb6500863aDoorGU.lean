/-
  fixedInput; the state of the two derivation functions; refusals.
-/
import Derived.Test.Qxb6500863aDoorGT
namespace Go.Proofs.Qxb6500863aDoor
set_option linter.unusedSimpArgs false
set_option linter.unusedVariables false
open Go.RowKit
def errI : Value := .iface 43 (.string ⟨#[109, 111, 100, 101, 115, 58, 32, 105, 116, 101, 114, 97, 116, 105, 111, 110, 32, 99, 111, 117, 110, 116, 32, 111, 117, 116, 32, 111, 102, 32, 114, 97, 110, 103, 101]⟩)
def errO : Value := .iface 43 (.string ⟨#[109, 111, 100, 101, 115, 58, 32, 100, 101, 114, 105, 118, 101, 100, 32, 108, 101, 110, 103, 116, 104, 32, 111, 117, 116, 32, 111, 102, 32, 114, 97, 110, 103, 101]⟩)
section
variable {P : Program} {f : Cx} {n : Nat} {R : Value → World → Prop} {ρ : Env} {w : World} {k : List Item} {ops : Array Oper} {rest : List Oper} {S : World → Prop} {N fuel : Nat} {listed : Array Bool}
variable {d : Nat} {dst : Option Tmp} {gd : Option (Nat × Bool)} {ty : TypeId} {pos : String} {after : Array Edge}
theorem X_arU {op : BinOp} {t t' : TypeId} {x y : Operand} {a b : Int} (r : Nat) (hop : isAr op = true) (hx : ev ρ x = .int .u32 a) (hy : ev ρ y = .int .u32 b) (hr : IntKind.u32.wrap (arB op a b) = (r : Int)) :
    (execOp (ev ρ) ⟨dst, .binOp op t x y t', ty, pos, after, gd⟩).run P w = .ok (.value (.int .u32 (r : Int))) w := by
  rw [X_ar hop hx hy, hr]
theorem X_convU {s t : TypeId} {x : Operand} {q : IntKind} {a : Int} {D : TypeDesc} (r : Nat) (hs : UN P s D) (ht : UN P t (.int .u32)) (hx : ev ρ x = .int q a) (hr : IntKind.u32.wrap a = (r : Int)) :
    (execOp (ev ρ) ⟨dst, .convert s t x, ty, pos, after, gd⟩).run P w = .ok (.value (.int .u32 (r : Int))) w := by
  rw [X_convInt hs ht hx, hr]
end
set_option maxRecDepth 10000 in
theorem pbI_ret (fv kv sv : Value) (w : World) : Ret Tryd.prog 11 #[fv, kv, sv, .int .u32 65537, .int .i64 1] w fun v w' => v = .tuple #[.slice none 0 0, errI] ∧ w' = w := by
  refine ret_of_T (vs := [fv, kv, sv, .int .u32 65537, .int .i64 1]) Tryd.func11 Tryd.ntmps11 rfl (Nat.le_of_ble_eq_true rfl) ?_
  repeat (first | refine T_seq ?_ | refine T_block ?_ | refine T_inBlock ?_ | refine T_skip ?_)
  refine T_region ?_
  refine L_val _ _ (X_assign) rfl ?_
  refine L_val _ _ (X_assign) rfl ?_
  refine L_nil ?_
  refine T_seq ?_
  refine T_seq ?_
  refine T_region ?_
  refine L_val _ _ (X_move) rfl ?_
  refine L_val _ _ (X_cmpR false rfl rfl rfl (by decide)) rfl ?_
  refine L_val _ _ (X_move) rfl ?_
  refine L_guard rfl rfl rfl ?_
  refine L_val _ _ (X_move) rfl ?_
  refine L_guard rfl rfl rfl ?_
  refine L_val _ _ (X_cmpR true rfl rfl rfl (by decide)) rfl ?_
  refine L_val _ _ (X_pick rfl) rfl ?_
  refine L_nil ?_
  refine T_true rfl ?_
  repeat (first | refine T_seq ?_ | refine T_block ?_ | refine T_inBlock ?_ | refine T_skip ?_)
  refine T_region ?_
  refine L_val _ _ (X_mkIface U43 (by simp)) rfl ?_
  refine L_val _ _ (X_assign) rfl ?_
  refine L_val _ _ (X_assign) rfl ?_
  refine L_nil ?_
  exact T_ret2 Tryd.func11 rfl ⟨rfl, rfl⟩
set_option maxRecDepth 10000 in
theorem pbO_ret (fv kv sv : Value) (w : World) : Ret Tryd.prog 11 #[fv, kv, sv, .int .u32 1, .int .i64 65537] w fun v w' => v = .tuple #[.slice none 0 0, errO] ∧ w' = w := by
  refine ret_of_T (vs := [fv, kv, sv, .int .u32 1, .int .i64 65537]) Tryd.func11 Tryd.ntmps11 rfl (Nat.le_of_ble_eq_true rfl) ?_
  repeat (first | refine T_seq ?_ | refine T_block ?_ | refine T_inBlock ?_ | refine T_skip ?_)
  refine T_region ?_
  refine L_val _ _ (X_assign) rfl ?_
  refine L_val _ _ (X_assign) rfl ?_
  refine L_nil ?_
  refine T_seq ?_
  refine T_seq ?_
  refine T_region ?_
  refine L_val _ _ (X_move) rfl ?_
  refine L_val _ _ (X_cmpR false rfl rfl rfl (by decide)) rfl ?_
  refine L_val _ _ (X_move) rfl ?_
  refine L_guard rfl rfl rfl ?_
  refine L_val _ _ (X_move) rfl ?_
  refine L_guard rfl rfl rfl ?_
  refine L_val _ _ (X_cmpR false rfl rfl rfl (by decide)) rfl ?_
  refine L_val _ _ (X_pick rfl) rfl ?_
  refine L_nil ?_
  refine T_false rfl ?_
  refine T_skip ?_
  refine T_seq ?_
  refine T_seq ?_
  refine T_region ?_
  refine L_val _ _ (X_move) rfl ?_
  refine L_val _ _ (X_cmpR false rfl rfl rfl (by decide)) rfl ?_
  refine L_val _ _ (X_move) rfl ?_
  refine L_guard rfl rfl rfl ?_
  refine L_val _ _ (X_move) rfl ?_
  refine L_guard rfl rfl rfl ?_
  refine L_val _ _ (X_cmpR true rfl rfl rfl (by decide)) rfl ?_
  refine L_val _ _ (X_pick rfl) rfl ?_
  refine L_nil ?_
  refine T_true rfl ?_
  repeat (first | refine T_seq ?_ | refine T_block ?_ | refine T_inBlock ?_ | refine T_skip ?_)
  refine T_region ?_
  refine L_val _ _ (X_mkIface U43 (by simp)) rfl ?_
  refine L_val _ _ (X_assign) rfl ?_
  refine L_val _ _ (X_assign) rfl ?_
  refine L_nil ?_
  exact T_ret2 Tryd.func11 rfl ⟨rfl, rfl⟩
set_option maxRecDepth 10000 in
theorem ckO_ret (mv av bv : Value) (w : World) : Ret Tryd.prog 17 #[mv, av, bv, .int .i64 65537] w fun v w' => v = .tuple #[.slice none 0 0, errO] ∧ w' = w := by
  refine ret_of_T (vs := [mv, av, bv, .int .i64 65537]) Tryd.func17 Tryd.ntmps17 rfl (Nat.le_of_ble_eq_true rfl) ?_
  repeat (first | refine T_seq ?_ | refine T_block ?_ | refine T_inBlock ?_ | refine T_skip ?_)
  refine T_region ?_
  refine L_val _ _ (X_assign) rfl ?_
  refine L_val _ _ (X_assign) rfl ?_
  refine L_nil ?_
  refine T_seq ?_
  refine T_seq ?_
  refine T_region ?_
  refine L_val _ _ (X_move) rfl ?_
  refine L_val _ _ (X_cmpR false rfl rfl rfl (by decide)) rfl ?_
  refine L_val _ _ (X_move) rfl ?_
  refine L_guard rfl rfl rfl ?_
  refine L_val _ _ (X_move) rfl ?_
  refine L_guard rfl rfl rfl ?_
  refine L_val _ _ (X_cmpR true rfl rfl rfl (by decide)) rfl ?_
  refine L_val _ _ (X_pick rfl) rfl ?_
  refine L_nil ?_
  refine T_true rfl ?_
  repeat (first | refine T_seq ?_ | refine T_block ?_ | refine T_inBlock ?_ | refine T_skip ?_)
  refine T_region ?_
  refine L_val _ _ (X_mkIface U43 (by simp)) rfl ?_
  refine L_val _ _ (X_assign) rfl ?_
  refine L_val _ _ (X_assign) rfl ?_
  refine L_nil ?_
  exact T_ret2 Tryd.func17 rfl ⟨rfl, rfl⟩
set_option maxRecDepth 10000 in
theorem fkO_ret (mv iv av bv : Value) (w : World) : Ret Tryd.prog 19 #[mv, iv, av, bv, .int .i64 65537] w fun v w' => v = .tuple #[.slice none 0 0, errO] ∧ w' = w := by
  refine ret_of_T (vs := [mv, iv, av, bv, .int .i64 65537]) Tryd.func19 Tryd.ntmps19 rfl (Nat.le_of_ble_eq_true rfl) ?_
  repeat (first | refine T_seq ?_ | refine T_block ?_ | refine T_inBlock ?_ | refine T_skip ?_)
  refine T_region ?_
  refine L_val _ _ (X_assign) rfl ?_
  refine L_val _ _ (X_assign) rfl ?_
  refine L_nil ?_
  refine T_seq ?_
  refine T_seq ?_
  refine T_region ?_
  refine L_val _ _ (X_move) rfl ?_
  refine L_val _ _ (X_cmpR false rfl rfl rfl (by decide)) rfl ?_
  refine L_val _ _ (X_move) rfl ?_
  refine L_guard rfl rfl rfl ?_
  refine L_val _ _ (X_move) rfl ?_
  refine L_guard rfl rfl rfl ?_
  refine L_val _ _ (X_cmpR true rfl rfl rfl (by decide)) rfl ?_
  refine L_val _ _ (X_pick rfl) rfl ?_
  refine L_nil ?_
  refine T_true rfl ?_
  repeat (first | refine T_seq ?_ | refine T_block ?_ | refine T_inBlock ?_ | refine T_skip ?_)
  refine T_region ?_
  refine L_val _ _ (X_mkIface U43 (by simp)) rfl ?_
  refine L_val _ _ (X_assign) rfl ?_
  refine L_val _ _ (X_assign) rfl ?_
  refine L_nil ?_
  exact T_ret2 Tryd.func19 rfl ⟨rfl, rfl⟩
/-- Label, a zero octet, Context, the length in bits. -/
def fx (A B : List Int) (n : Nat) : List Int := A ++ ([0] ++ (B ++ be4 (8 * n)))
set_option maxHeartbeats 4000000 in
set_option maxRecDepth 10000 in
/-- modes.fixedInput -/
theorem fi_ret (base mb id : Nat) (F : Nat → Prop) (ip op l : List Int) (A B : Sl) (n : Nat) (w : World) (hM : Mac w base F mb id ip op l) (hA : ∀ z, Chs F w z → Sl.ok z A) (hB : ∀ z, Chs F w z → Sl.ok z B) (hAl : A.2.1.length ≤ 1000) (hBl : B.2.1.length ≤ 1000) (hl : l.length ≤ 1000000) (hn : n ≤ 65536) :
    Ret Tryd.prog 40 #[.iface 44 (.pointer (some ⟨mb, 0, none⟩)), A.val, B.val, .int .i64 (n : Int)] w fun v w' => MEff w base F mb id ip op (l ++ fx A.2.1 B.2.1 n) w' := by
  refine ret_of_T (vs := [.iface 44 (.pointer (some ⟨mb, 0, none⟩)), A.val, B.val, .int .i64 (n : Int)]) Tryd.func40 Tryd.ntmps40 rfl (Nat.le_of_ble_eq_true rfl) ?_
  repeat (first | refine T_seq ?_ | refine T_block ?_ | refine T_inBlock ?_ | refine T_skip ?_)
  refine T_region ?_
  refine L_alloc Z63 rfl fun w1 h1 => ?_
  refine L_nil ?_
  have b1 : Below w.heap.size w w1 := h1.below (Below.refl _ _) (Nat.le_refl _)
  have c1 : Chs F w w1 := Chs.of_below b1
  have M1 := hM.below b1
  have k1 := h1.new
  have hibF : ¬ F w.heap.size := fun hf => by have := (hM.lt _ hf).2; omega
  have l1 := h1.lt
  obtain ⟨ib, hib⟩ : ∃ ib, ib = w.heap.size := ⟨_, rfl⟩
  have k1' : ∃ cur, Blk w1 ib cur 63 ∧ cur.size = 4 := ⟨_, hib ▸ k1, rfl⟩
  obtain ⟨cur, kb1, sb⟩ := k1'
  rw [← hib] at hibF l1 ⊢
  repeat (first | refine T_seq ?_ | refine T_block ?_ | refine T_inBlock ?_ | refine T_skip ?_)
  refine T_region ?_
  refine L_val _ _ (X_move) rfl ?_
  refine L_val _ _ (X_move) rfl ?_
  refine L_callI [A.val] MT44w E32 rfl rfl rfl (mwrite_ret base mb id F ip op l A w1 M1 (hA w1 c1) (by omega)) ?_
  rintro v2 w2 ⟨F2, M2, c2, hF2⟩
  refine L_nil ?_
  have cw2 : Chs F w w2 := c1.trans c2 (fun _ _ h => h)
  have kb2 := c2.blk kb1 hibF
  have hibF2 : ¬ F2 ib := fun hf => (hF2 ib hf).elim hibF (fun h => by omega)
  have hF2' : ∀ k, F2 k → F k ∨ w.heap.size ≤ k := fun k hk => (hF2 k hk).imp (fun h => h) (fun h => by have := b1.size; omega)
  have s2 := cw2.size
  have l2 := kb2.lt
  repeat (first | refine T_seq ?_ | refine T_block ?_ | refine T_inBlock ?_ | refine T_skip ?_)
  refine T_region ?_
  refine L_val _ _ (X_move) rfl ?_
  refine L_buildSlice #[.int .u8 0] 5 (by kernel_rfl) rfl fun w3 h3 => ?_
  have b3 : Below w2.heap.size w2 w3 := h3.below (Below.refl _ _) (Nat.le_refl _)
  have M3 := M2.below b3
  refine L_callI [.slice (some ⟨w2.heap.size, 0, none⟩) 1 1] MT44w E32 rfl rfl rfl (mwrite_ret base mb id F2 ip op (l ++ A.2.1) (some ⟨w2.heap.size, 0, none⟩, [0], 1) w3 M3 ⟨ints_blk (l := [0]) h3.new, fun h => by cases h⟩ (by show (l ++ A.2.1).length + 1 ≤ _; rw [List.length_append]; omega)) ?_
  rintro v4 w4 ⟨F4, M4, c4, hF4⟩
  refine L_nil ?_
  have cw3 : Chs F w w3 := cw2.trans (Chs.of_below (S := fun _ => False) b3) (fun _ _ h => h.elim)
  have s3 := b3.size
  have cw4 : Chs F w w4 := cw3.trans c4 (fun k hk h => (hF2' k h).resolve_right (by omega))
  have kb3 := below_blk b3 kb2 l2
  have kb4 := c4.blk kb3 hibF2
  have hibF4 : ¬ F4 ib := fun hf => (hF4 ib hf).elim hibF2 (fun h => by omega)
  have hF4' : ∀ k, F4 k → F k ∨ w.heap.size ≤ k := fun k hk => (hF4 k hk).elim (hF2' k) (fun h => .inr (by omega))
  have s4 := cw4.size
  have l4 := kb4.lt
  repeat (first | refine T_seq ?_ | refine T_block ?_ | refine T_inBlock ?_ | refine T_skip ?_)
  refine T_region ?_
  refine L_val _ _ (X_move) rfl ?_
  refine L_val _ _ (X_move) rfl ?_
  refine L_callI [B.val] MT44w E32 rfl rfl rfl (mwrite_ret base mb id F4 ip op (l ++ A.2.1 ++ [0]) B w4 M4 (hB w4 cw4) (by rw [List.length_append, List.length_append]; simp; omega)) ?_
  rintro v6 w6 ⟨F6, M6, c6, hF6⟩
  refine L_nil ?_
  have cw6 : Chs F w w6 := cw4.trans c6 (fun k hk h => (hF4' k h).resolve_right (by omega))
  have kb6 := c6.blk kb4 hibF4
  have s46 := c6.size
  have hibF6 : ¬ F6 ib := fun hf => (hF6 ib hf).elim hibF4 (fun h => by omega)
  have hF6' : ∀ k, F6 k → F k ∨ w.heap.size ≤ k := fun k hk => (hF6 k hk).elim (hF4' k) (fun h => .inr (by omega))
  have s6 := cw6.size
  have l6 := kb6.lt
  clear M1 M2 M3 M4 kb1 kb2 kb3 kb4 c2 c4 c6 h1 h3 b3 hF2 hF4 hF6 k1
  refine T_draw (fun u => Chs (fun k => k = ib) w6 u) 9 rfl rfl fun w7 hsm => ?_
  have hS : Chs (fun k => k = ib) w6 w7 := Chs.of_below (hsm.below (Below.refl _ _))
  refine D_takeT 0 _ rfl (by kernel_rfl) hS (fun w hw => X_move) rfl ?_
  refine D_takeT 1 _ rfl (by kernel_rfl) hS (fun w hw => X_sliceAH (h := 0) U63 S5 rfl rfl (by decide) (by decide)) rfl ?_
  refine D_takeT 2 _ rfl (by kernel_rfl) hS (fun w hw => X_move) rfl ?_
  refine D_takeT 3 _ rfl (by kernel_rfl) hS (fun w hw => X_convU n U3 U26 rfl (by rw [IntKind.wrap_u32]; omega)) rfl ?_
  refine D_takeT 4 _ rfl (by kernel_rfl) hS (fun w hw => X_arU (8 * n) rfl rfl rfl (by simp only [arB, IntKind.wrap_u32]; omega)) rfl ?_
  refine D_takeT 6 _ rfl (by kernel_rfl) hS (fun w hw => X_makeFunc) rfl ?_
  refine D_takeT 7 _ rfl (by kernel_rfl) hS (fun w hw => X_nilCheckM NA44w rfl) rfl ?_
  refine D_takeT 8 _ rfl (by kernel_rfl) hS (fun w hw => X_move) rfl ?_
  skip
  have b7 : Below w6.heap.size w6 w7 := hsm.below (Below.refl _ _)
  have kb7 := below_blk b7 kb6 l6
  have M7 := M6.below b7
  refine D_callF 5 [.slice (some ⟨ib, 0, none⟩) 0 4, .int .u32 ((8 * n : Nat) : Int)] rfl (by kernel_rfl) E33 rfl rfl (be_ret ib (8 * n) cur 63 w7 kb7 sb (by omega)) ?_
  rintro v8 w8 ⟨rfl, k8, c8⟩
  refine ⟨fun _ => hS.trans c8 (fun _ _ h => h), ?_⟩
  have M8 := M7.keep c8 (fun k hf e => hibF6 (e ▸ hf))
  have hw9 := mwrite_ret base mb id F6 ip op (l ++ A.2.1 ++ [0] ++ B.2.1) (some ⟨ib, 0, none⟩, be4 (8 * n), 4) w8 M8 ⟨ints_blk k8, fun h => by cases h⟩ (by show (l ++ A.2.1 ++ [0] ++ B.2.1).length + 4 ≤ _; rw [List.length_append, List.length_append, List.length_append]; simp; omega)
  refine D_callR 9 rfl (by kernel_rfl) (X_callI [.slice (some ⟨ib, 0, none⟩) 4 4] MT44w E32 rfl rfl) rfl hw9 ?_
  rintro v9 w9 ⟨F9, M9, c9, hF9⟩
  refine ⟨fun h => absurd h (by decide), ?_⟩
  refine D_done (by kernel_rfl) ?_
  have s7 := b7.size
  have s8 := c8.size
  have cw7 : Chs F w w7 := cw6.trans (Chs.of_below (S := fun _ => False) b7) (fun _ _ h => h.elim)
  have cw8 : Chs F w w8 := cw7.trans c8 (fun k hk e => by omega)
  have cw9 : Chs F w w9 := cw8.trans c9 (fun k hk h => (hF6' k h).resolve_right (by omega))
  have e : l ++ A.2.1 ++ [0] ++ B.2.1 ++ be4 (8 * n) = l ++ fx A.2.1 B.2.1 n := by simp only [fx, List.append_assoc]
  refine T_end0 Tryd.func40 rfl ⟨F9, e ▸ M9, cw9, fun k hk => (hF9 k hk).elim (hF6' k) (fun h => .inr (by omega))⟩
end Go.Proofs.Qxb6500863aDoor
