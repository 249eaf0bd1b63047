/-
  feed; deferred calls; SumHMAC.
-/
import Derived.Test.Qxb6500863aDoorGH
namespace Go.Proofs.Qxb6500863aDoor
set_option linter.unusedSimpArgs false
set_option linter.unusedVariables false
open Go.RowKit
def NA (P : Program) (t : TypeId) (name : String) : Prop := ∀ (b : Nat) (w : World), (nilAhead (P.types.size + Made.depth) t (.pointer (some ⟨b, 0, none⟩)) name).run P w = .ok (some false) w
theorem NA44w : NA Tryd.prog 44 "Write" := fun _ _ => by kernel_rfl
section
variable {P : Program} {f : Cx} {n : Nat} {R : Value → World → Prop} {ρ : Env} {w : World} {k : List Item} {ops : Array Oper} {rest : List Oper} {S : World → Prop} {N fuel : Nat} {listed : Array Bool}
variable {d : Nat} {dst : Option Tmp} {gd : Option (Nat × Bool)} {ty : TypeId} {pos : String} {after : Array Edge}
theorem X_min {x y : Operand} {ts : Array TypeId} {q : IntKind} {a b : Int} (r : Int) (hx : ev ρ x = .int q a) (hy : ev ρ y = .int q b) (hr : (if b < a then b else a) = r) :
    (execOp (ev ρ) ⟨dst, .call { callee := .builtin .min, args := #[x, y], argTypes := ts }, ty, pos, after, gd⟩).run P w = .ok (.value (.int q r)) w := by
  subst hr
  simp [execOp, resolve, invoke, builtin, Builtin.min_, Builtin.min2, hx, hy]
theorem X_nilCheckM {x : Operand} {name : String} {t : TypeId} {b : Nat} {cap : Array Value} (hn : NA P t name) (hx : ev ρ x = .func (.method name) #[.iface t (.pointer (some ⟨b, 0, none⟩))] cap) :
    (execOp (ev ρ) ⟨dst, .nilCheck x, ty, pos, after, gd⟩).run P w = .ok (.value (.func (.method name) #[.iface t (.pointer (some ⟨b, 0, none⟩))] cap)) w := by
  have h := hn b w
  simp [execOp, hx, h]
theorem X_sliceLg {t e : TypeId} {x y : Operand} {sz b o len cap l : Nat} {q : IntKind} (ht : UN P t (.slice e)) (hs : SZ P e sz) (hx : ev ρ x = .slice (some ⟨b, o, none⟩) len cap) (hy : ev ρ y = .int q l) (hl : l ≤ len) (hlc : len ≤ cap) :
    (execOp (ev ρ) ⟨dst, .slice t x (some y) none none, ty, pos, after, gd⟩).run P w = .ok (.value (.slice (some ⟨b, if cap = l then o else o + l * sz, none⟩) (len - l) (cap - l))) w := by
  by_cases h : cap = l
  · have h1 := ht w
    have h2 := hs w
    have hb := run_bound (P := P) (w := w) (k := q) (code := .sliceB) hl
    simp [execOp, Instr.sliceAt, Instr.slice, Instr.sliceBounds, hx, hy, h1, h2, hb, h, Addr.add_lit]
  · rw [X_sliceL ht hs hx hy hl (by omega), if_neg h]
end
theorem MEff.trans {w w1 w2 : World} {base : Nat} {F : Nat → Prop} {mb id : Nat} {ip op l' : List Int} {F1 : Nat → Prop} (c : Chs F w w1) (hF : ∀ k, F1 k → F k ∨ w.heap.size ≤ k) (h2 : MEff w1 base F1 mb id ip op l' w2) : MEff w base F mb id ip op l' w2 := by
  obtain ⟨F2, m2, c2, h2⟩ := h2
  have s := c.size
  refine ⟨F2, m2, c.trans c2 (fun k hk h => (hF k h).resolve_right (by omega)), fun k hk => ?_⟩
  rcases h2 k hk with h | h
  · exact hF k h
  · exact .inr (by omega)
theorem cmp_gtr0 {n : Nat} (h : 0 < n) : cmpB .gtr (n : Int) 0 = true := by simp [cmpB]; omega
theorem cmp_gtr0' {n : Nat} (h : n = 0) : cmpB .gtr (n : Int) 0 = false := by simp [cmpB]; omega
theorem u8_wrap {x : Int} (h : 0 ≤ x ∧ x < 256) : IntKind.wrap .i64 x = x := wrap_i64 (by omega) (by omega)
set_option maxHeartbeats 4000000 in
/-- modeslaw.feed -/
theorem feed_ret' (base mb id : Nat) (F : Nat → Prop) (ip op l : List Int) (X : Sl) (ua : Option Addr) (ul : List Int) (uc : Nat) (w : World) (hM : Mac w base F mb id ip op l) (hX : ∀ z, Chs F w z → Sl.ok z X) (hXc : X.2.1.length ≤ X.2.2) (hU : ∀ z, Chs F w z → Sl.ok z (ua, ul, uc)) (hUb : ∀ x ∈ ul, 0 ≤ x ∧ x < 256) (hl : l.length + X.2.1.length ≤ 10000000) (hUl : ul.length ≤ 1000000) :
    Ret Tryd.prog 23 #[.iface 44 (.pointer (some ⟨mb, 0, none⟩)), X.val, Sl.val (ua, ul, uc)] w fun v w' => MEff w base F mb id ip op (l ++ X.2.1) w' := by
  refine ret_of_T (vs := [.iface 44 (.pointer (some ⟨mb, 0, none⟩)), X.val, Sl.val (ua, ul, uc)]) Tryd.func23 Tryd.ntmps23 rfl (Nat.le_of_ble_eq_true rfl) ?_
  repeat (first | refine T_seq ?_ | refine T_block ?_ | refine T_inBlock ?_ | refine T_skip ?_)
  refine T_region ?_
  refine L_val _ _ (X_assign) rfl ?_
  refine L_nil ?_
  repeat (first | refine T_seq ?_ | refine T_block ?_ | refine T_inBlock ?_ | refine T_skip ?_)
  refine T_loopS [6, 1, 0, 2] (fun m vs z => ∃ (i k r : Nat) (a : Option Addr) (c : Nat) (F' : Nat → Prop), vs = [.int .i64 i, .slice a r c, .iface 44 (.pointer (some ⟨mb, 0, none⟩)), Sl.val (ua, ul, uc)] ∧ i ≤ 4 * ul.length ∧ m = 4 * ul.length - i ∧ k ≤ X.2.1.length ∧ r = (X.2.1.drop k).length ∧ (∀ z, Chs F w z → Sl.ok z (a, X.2.1.drop k, c)) ∧ (X.2.1.drop k).length ≤ c ∧ Mac z base F' mb id ip op (l ++ X.2.1.take k) ∧ Chs F w z ∧ ∀ k, F' k → F k ∨ w.heap.size ≤ k) (4 * ul.length)
    ⟨0, 0, X.2.1.length, X.1, X.2.2, F, rfl, by omega, rfl, by omega, rfl, hX, hXc, by simpa using hM, Chs.refl _ _, fun k h => .inl h⟩ ?_
  rintro m vs ρ z ⟨i, k, r, a, c, F', rfl, hi, rfl, hk, rfl, ok, hc, hMz, cz, hF'⟩ ih
  have okz : Sl.ok z (a, X.2.1.drop k, c) := ok z cz
  have hdl : (X.2.1.drop k).length = X.2.1.length - k := List.length_drop
  have htl : (l ++ X.2.1.take k).length = l.length + k := by rw [List.length_append, List.length_take]; omega
  have hfin : Ret Tryd.prog 32 #[.pointer (some ⟨mb, 0, none⟩), Sl.val (a, X.2.1.drop k, c)] z fun v w' => MEff w base F mb id ip op (l ++ X.2.1) w' := by
    refine (mwrite_ret base mb id F' ip op (l ++ X.2.1.take k) (a, X.2.1.drop k, c) z hMz okz (by show (l ++ X.2.1.take k).length + (X.2.1.drop k).length ≤ _; omega)).mono fun v w' h => ?_
    have e : l ++ X.2.1.take k ++ X.2.1.drop k = l ++ X.2.1 := by rw [List.append_assoc, List.take_append_drop]
    rw [← e]
    exact MEff.trans cz hF' h
  rcases Nat.eq_zero_or_pos (X.2.1.drop k).length with h0 | h0
  · have e1 := cmp_gtr0' h0
    repeat (first | refine T_seq ?_ | refine T_block ?_ | refine T_inBlock ?_ | refine T_skip ?_)
    refine T_region ?_
    refine L_val _ _ (X_move) rfl ?_
    refine L_val _ _ (X_lenS U25 rfl) rfl ?_
    refine L_val _ _ (X_cmpR false rfl rfl rfl e1) rfl ?_
    refine L_val _ _ (X_move) rfl ?_
    refine L_passB rfl rfl rfl ?_
    refine L_passB rfl rfl rfl ?_
    refine L_passB rfl rfl rfl ?_
    refine L_val _ _ (X_pick rfl) rfl ?_
    refine L_val _ _ (X_move) rfl ?_
    refine L_passB rfl rfl rfl ?_
    refine L_passB rfl rfl rfl ?_
    refine L_passB rfl rfl rfl ?_
    refine L_passB rfl rfl rfl ?_
    refine L_passB rfl rfl rfl ?_
    refine L_val _ _ (X_pick rfl) rfl ?_
    refine L_nil ?_
    refine T_false rfl ?_
    refine T_exit rfl ?_
    refine T_region ?_
    refine L_val _ _ (X_move) rfl ?_
    refine L_val _ _ (X_move) rfl ?_
    refine L_callI [Sl.val (a, X.2.1.drop k, c)] MT44w E32 rfl rfl rfl hfin ?_
    rintro v w' hw'
    refine L_nil ?_
    exact T_end0 Tryd.func23 rfl hw'
  have e1 := cmp_gtr0 h0
  rcases Nat.eq_zero_or_pos ul.length with u0 | u0
  · have e2 := cmp_gtr0' u0
    repeat (first | refine T_seq ?_ | refine T_block ?_ | refine T_inBlock ?_ | refine T_skip ?_)
    refine T_region ?_
    refine L_val _ _ (X_move) rfl ?_
    refine L_val _ _ (X_lenS U25 rfl) rfl ?_
    refine L_val _ _ (X_cmpR true rfl rfl rfl e1) rfl ?_
    refine L_val _ _ (X_move) rfl ?_
    refine L_guard rfl rfl rfl ?_
    refine L_val _ _ (X_move) rfl ?_
    refine L_guard rfl rfl rfl ?_
    refine L_val _ _ (X_lenS U25 rfl) rfl ?_
    refine L_guard rfl rfl rfl ?_
    refine L_val _ _ (X_cmpR false rfl rfl rfl e2) rfl ?_
    refine L_val _ _ (X_pick rfl) rfl ?_
    refine L_val _ _ (X_move) rfl ?_
    refine L_passB rfl rfl rfl ?_
    refine L_passB rfl rfl rfl ?_
    refine L_passB rfl rfl rfl ?_
    refine L_passB rfl rfl rfl ?_
    refine L_passB rfl rfl rfl ?_
    refine L_val _ _ (X_pick rfl) rfl ?_
    refine L_nil ?_
    refine T_false rfl ?_
    refine T_exit rfl ?_
    refine T_region ?_
    refine L_val _ _ (X_move) rfl ?_
    refine L_val _ _ (X_move) rfl ?_
    refine L_callI [Sl.val (a, X.2.1.drop k, c)] MT44w E32 rfl rfl rfl hfin ?_
    rintro v w' hw'
    refine L_nil ?_
    exact T_end0 Tryd.func23 rfl hw'
  have e2 := cmp_gtr0 u0
  repeat (first | refine T_seq ?_ | refine T_block ?_ | refine T_inBlock ?_ | refine T_skip ?_)
  refine T_region ?_
  refine L_val _ _ (X_move) rfl ?_
  refine L_val _ _ (X_lenS U25 rfl) rfl ?_
  refine L_val _ _ (X_cmpR true rfl rfl rfl e1) rfl ?_
  refine L_val _ _ (X_move) rfl ?_
  refine L_guard rfl rfl rfl ?_
  refine L_val _ _ (X_move) rfl ?_
  refine L_guard rfl rfl rfl ?_
  refine L_val _ _ (X_lenS U25 rfl) rfl ?_
  refine L_guard rfl rfl rfl ?_
  refine L_val _ _ (X_cmpR true rfl rfl rfl e2) rfl ?_
  refine L_val _ _ (X_pick rfl) rfl ?_
  refine L_val _ _ (X_move) rfl ?_
  refine L_guard rfl rfl rfl ?_
  refine L_val _ _ (X_move) rfl ?_
  refine L_guard rfl rfl rfl ?_
  refine L_val _ _ (X_move) rfl ?_
  refine L_guard rfl rfl rfl ?_
  refine L_val _ _ (X_lenS U25 rfl) rfl ?_
  refine L_guard rfl rfl rfl ?_
  refine L_val _ _ (X_mul rfl rfl (show (-9223372036854775808 : Int) ≤ 4 * (ul.length : Int) by omega) (show 4 * (ul.length : Int) < (9223372036854775808 : Int) by omega)) rfl ?_
  refine L_guard rfl rfl rfl ?_
  refine L_val _ _ (X_cmp rfl rfl rfl) rfl ?_
  refine L_val _ _ (X_pick rfl) rfl ?_
  refine L_nil ?_
  refine T_if rfl (fun ht => ?_) (fun hf => ?_)
  case refine_2 =>
    refine T_exit rfl ?_
    refine T_region ?_
    refine L_val _ _ (X_move) rfl ?_
    refine L_val _ _ (X_move) rfl ?_
    refine L_callI [Sl.val (a, X.2.1.drop k, c)] MT44w E32 rfl rfl rfl hfin ?_
    rintro v w' hw'
    refine L_nil ?_
    exact T_end0 Tryd.func23 rfl hw'
  clear hfin
  have hlt : i < 4 * ul.length := by simp [cmpB] at ht; omega
  have hmod := Nat.mod_lt i u0
  obtain ⟨p1, r1, hp1, hpl, hpc⟩ := (hU z cz).1.cell (i % ul.length) _ (gI_at hmod)
  have hxb := hUb (gI ul (i % ul.length)) (List.mem_of_getElem? (gI_at hmod))
  obtain ⟨b, o, rfl, hbl⟩ := okz.1.some h0
  obtain ⟨x, hx⟩ : ∃ x, gI ul (i % ul.length) = x := ⟨_, rfl⟩
  rw [hx] at hpc hxb
  clear hx
  have hw := u8_wrap hxb
  obtain ⟨nn, hnn⟩ : ∃ nn, nn = min x.toNat (X.2.1.drop k).length := ⟨_, rfl⟩
  have hmin : (if ((X.2.1.drop k).length : Int) < IntKind.wrap .i64 x then ((X.2.1.drop k).length : Int) else IntKind.wrap .i64 x) = (nn : Int) := by
    rw [hw]
    split <;> omega
  subst hp1
  refine T_skip ?_
  repeat (first | refine T_seq ?_ | refine T_block ?_ | refine T_inBlock ?_ | refine T_skip ?_)
  refine T_region ?_
  refine L_val _ _ (X_move) rfl ?_
  refine L_val _ _ (X_move) rfl ?_
  refine L_val _ _ (X_move) rfl ?_
  refine L_val _ _ (X_lenS U25 rfl) rfl ?_
  refine L_val _ _ (X_remN i ul.length rfl rfl (by omega)) rfl ?_
  refine L_val _ _ (X_index (j := i % ul.length) U25 S5 rfl rfl hmod) rfl ?_
  refine L_val _ _ (X_load A5 rfl ((by rw [Nat.mul_one]; exact hpc))) rfl ?_
  refine L_val _ _ (X_convInt U5 U3 rfl) rfl ?_
  refine L_val _ _ (X_move) rfl ?_
  refine L_val _ _ (X_lenS U25 rfl) rfl ?_
  refine L_val _ _ (X_min (nn : Int) rfl rfl hmin) rfl ?_
  refine L_val _ _ (X_assign) rfl ?_
  refine L_nil ?_
  repeat (first | refine T_seq ?_ | refine T_block ?_ | refine T_inBlock ?_ | refine T_skip ?_)
  refine T_draw (fun u => Below z.heap.size z u) 7 rfl rfl fun z1 hsm => ?_
  have hS : Below z.heap.size z z1 := hsm.below (Below.refl _ _)
  refine D_takeT 0 _ rfl (by kernel_rfl) hS (fun w hw => X_move) rfl ?_
  refine D_takeT 1 _ rfl (by kernel_rfl) hS (fun w hw => X_move) rfl ?_
  refine D_takeT 2 _ rfl (by kernel_rfl) hS (fun w hw => X_move) rfl ?_
  refine D_takeT 3 _ rfl (by kernel_rfl) hS (fun w hw => X_sliceH U25 S5 rfl rfl (show nn ≤ c by omega)) rfl ?_
  refine D_takeT 4 _ rfl (by kernel_rfl) hS (fun w hw => X_makeFunc) rfl ?_
  refine D_takeT 5 _ rfl (by kernel_rfl) hS (fun w hw => X_nilCheckM NA44w rfl) rfl ?_
  refine D_takeT 6 _ rfl (by kernel_rfl) hS (fun w hw => X_move) rfl ?_
  skip
  have ok1 : Sl.ok z1 (some ⟨b, o, none⟩, (X.2.1.drop k).take nn, c) := ⟨ints_take (okz.1.below hS) nn, fun h => by cases h⟩
  have htk : ((X.2.1.drop k).take nn).length = nn := by rw [List.length_take]; omega
  have hwr := mwrite_ret base mb id F' ip op (l ++ X.2.1.take k) (some ⟨b, o, none⟩, (X.2.1.drop k).take nn, c) z1 (hMz.below hS) ok1 (by show (l ++ X.2.1.take k).length + ((X.2.1.drop k).take nn).length ≤ _; omega)
  refine D_callR 7 rfl (by kernel_rfl) (X_callI [.slice (some ⟨b, o, none⟩) nn c] MT44w E32 rfl rfl) rfl (ret_args (by rw [Sl.val, htk]) hwr) ?_
  intro v z2 hm2
  refine ⟨fun h => absurd h (by decide), ?_⟩
  refine D_done (by kernel_rfl) ?_
  have cz1 : Chs F w z1 := cz.trans (Chs.of_below (S := fun _ => False) hS) (fun _ _ h => h.elim)
  obtain ⟨F2, m2, c2, hF2⟩ := MEff.trans cz1 hF' hm2
  repeat (first | refine T_seq ?_ | refine T_block ?_ | refine T_inBlock ?_ | refine T_skip ?_)
  refine T_region ?_
  refine L_val _ _ (X_move) rfl ?_
  refine L_val _ _ (X_move) rfl ?_
  refine L_val _ _ (X_sliceLg U25 S5 rfl rfl (show nn ≤ (X.2.1.drop k).length by omega) (show (X.2.1.drop k).length ≤ c by omega)) rfl ?_
  refine L_val _ _ (X_assign) rfl ?_
  refine L_nil ?_
  repeat (first | refine T_seq ?_ | refine T_block ?_ | refine T_inBlock ?_ | refine T_skip ?_)
  refine T_region ?_
  refine L_val _ _ (X_move) rfl ?_
  refine L_val _ _ (X_add rfl rfl (by omega) (by omega)) rfl ?_
  refine L_val _ _ (X_assign) rfl ?_
  refine L_nil ?_
  have ed : (X.2.1.drop k).drop nn = X.2.1.drop (k + nn) := List.drop_drop
  have et : l ++ X.2.1.take k ++ (X.2.1.drop k).take nn = l ++ X.2.1.take (k + nn) := by rw [List.append_assoc, List.take_add]
  rw [et] at m2
  have el : (X.2.1.drop (k + nn)).length = (X.2.1.drop k).length - nn := by rw [← ed, List.length_drop]
  refine ih _ _ _ (by omega) ⟨i + 1, k + nn, (X.2.1.drop k).length - nn, some ⟨b, if c = nn then o else o + nn * 1, none⟩, c - nn, F2, rfl, by omega, rfl, by omega, el.symm, fun z' hz' => ⟨?_, fun h => by cases h⟩, by omega, m2, c2, hF2⟩
  show Ints .u8 z' (some ⟨b, if c = nn then o else o + nn * 1, none⟩) (X.2.1.drop (k + nn))
  split
  · have e0 : X.2.1.drop (k + nn) = [] := List.eq_nil_of_length_eq_zero (by omega)
    rw [e0]
    exact ⟨fun j x hx => by simp at hx⟩
  · rw [← ed, Nat.mul_one]
    exact ints_drop (ok z' hz').1
theorem feed_ret (base mb id : Nat) (F : Nat → Prop) (ip op l : List Int) (X U : Sl) (w : World) (hM : Mac w base F mb id ip op l) (hX : ∀ z, Chs F w z → Sl.ok z X) (hXc : X.2.1.length ≤ X.2.2) (hU : ∀ z, Chs F w z → Sl.ok z U) (hUb : ∀ x ∈ U.2.1, 0 ≤ x ∧ x < 256) (hl : l.length + X.2.1.length ≤ 10000000) (hUl : U.2.1.length ≤ 1000000) :
    Ret Tryd.prog 23 #[.iface 44 (.pointer (some ⟨mb, 0, none⟩)), X.val, U.val] w fun v w' => MEff w base F mb id ip op (l ++ X.2.1) w' := feed_ret' base mb id F ip op l X U.1 U.2.1 U.2.2 w hM hX hXc hU hUb hl hUl
end Go.Proofs.Qxb6500863aDoor
