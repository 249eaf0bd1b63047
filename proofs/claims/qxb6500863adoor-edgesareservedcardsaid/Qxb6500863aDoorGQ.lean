/-
  A running HMAC beside rows of the call's own.
-/
import Derived.Test.Qxb6500863aDoorGP
namespace Go.Proofs.Qxb6500863aDoor
set_option linter.unusedSimpArgs false
set_option linter.unusedVariables false
open Go.RowKit
theorem MT44s : MT Tryd.prog 44 "Sum" 25 := fun _ _ => by kernel_rfl
theorem MT44r : MT Tryd.prog 44 "Reset" 27 := fun _ _ => by kernel_rfl
theorem MT44z : MT Tryd.prog 44 "Size" 24 := fun _ _ => by kernel_rfl
section
variable {P : Program} {f : Cx} {n : Nat} {R : Value → World → Prop} {ρ : Env} {w : World} {k : List Item} {ops : Array Oper} {rest : List Oper} {S : World → Prop} {N fuel : Nat} {listed : Array Bool}
variable {d : Nat} {dst : Option Tmp} {gd : Option (Nat × Bool)} {ty : TypeId} {pos : String} {after : Array Edge}
theorem X_arN {op : BinOp} {t t' : TypeId} {x y : Operand} {a b : Int} (r : Nat) (hop : isAr op = true) (hx : ev ρ x = .int .i64 a) (hy : ev ρ y = .int .i64 b) (hr : arB op a b = (r : Int)) (h : r < 9223372036854775808) :
    (execOp (ev ρ) ⟨dst, .binOp op t x y t', ty, pos, after, gd⟩).run P w = .ok (.value (.int .i64 (r : Int))) w := by
  rw [X_ar hop hx hy, hr, wrap_i64 (by omega) (by omega)]
theorem X_sliceLr {t e : TypeId} {x y : Operand} {sz b o len cap l : Nat} {q : IntKind} (o' len' cap' : Nat) (ht : UN P t (.slice e)) (hs : SZ P e sz) (hx : ev ρ x = .slice (some ⟨b, o, none⟩) len cap) (hy : ev ρ y = .int q l) (hl : l ≤ len) (hlc : l < cap) (e1 : o + l * sz = o') (e2 : len - l = len') (e3 : cap - l = cap') :
    (execOp (ev ρ) ⟨dst, .slice t x (some y) none none, ty, pos, after, gd⟩).run P w = .ok (.value (.slice (some ⟨b, o', none⟩) len' cap')) w := by
  subst e1 e2 e3
  exact X_sliceL ht hs hx hy hl hlc
/-- a deferred call of a method, by way of an interface -/
theorem L_deferI {x : Operand} {name : String} {ts : Array TypeId} {t : TypeId} {b : Nat} (hx : ev ρ x = .iface t (.pointer (some ⟨b, 0, none⟩)))
    (h : L P { f with ds := ⟨.fn (.method name) #[], #[.iface t (.pointer (some ⟨b, 0, none⟩))]⟩ :: f.ds } n ops rest k R ρ w) : L P f n ops (⟨none, .defer { callee := .invoke x name, args := #[], argTypes := ts }, ty, pos, after, none⟩ :: rest) k R ρ w := by
  refine L_defer _ ?_ h
  simp [execOp, resolve, hx]
theorem inv_method {name : String} {t : TypeId} {b : Nat} {g : FuncId} (hm : MT P t name g) (hg : EN P g) : (invoke (.fn (.method name) #[]) #[.iface t (.pointer (some ⟨b, 0, none⟩))]).run P w = .ok (.enter g #[.pointer (some ⟨b, 0, none⟩)]) w := by
  have h1 := hg #[.pointer (some ⟨b, 0, none⟩)] w
  have h2 := hm b w
  simp [invoke, callMethod]
  rw [h2]
  simpa using h1
end
section
variable {w w' : World} {base mb id : Nat} {F F' : Nat → Prop} {ip op l : List Int} {v : Value} {n : Nat} {xs : List Value}
/-- A row of the call's own, apart from F. -/
structure Rw (w : World) (base : Nat) (F : Nat → Prop) (v : Value) (n : Nat) (l : List Int) : Prop where
  own : w.ownsRow base 5 1 v n (iv .u8 l)
  sep : ∀ b, v.ownBlock = some b → ¬ F b
theorem Rw.len (h : Rw w base F v n l) : l.length = n := by
  have := h.own.1
  rw [iv_len, Nat.mul_one] at this
  exact this
theorem Rw.step (h : Rw w base F v n l) (c : Chs F w w') (hF : ∀ k, F' k → F k ∨ w.heap.size ≤ k) : Rw w' base F' v n l :=
  ⟨c.owns h.own h.sep, fun b hb hf => (hF b hf).elim (h.sep b hb) (fun hge => by have := (h.own.lt b hb).2; omega)⟩
theorem Rw.chs {S : Nat → Prop} (h : Rw w base F v n l) (c : Chs S w w') (hS : ∀ b, v.ownBlock = some b → ¬ S b) : Rw w' base F v n l := ⟨c.owns h.own hS, h.sep⟩
theorem Rw.below (h : Rw w base F v n l) (hb : Below w.heap.size w w') : Rw w' base F v n l := h.chs (Chs.of_below (S := fun _ => False) hb) (fun _ _ h => h)
theorem Rw.sl {g c : Nat} (h : Rw w base F (.slice (some ⟨g, 0, none⟩) n c) n l) : Sl.ok w (some ⟨g, 0, none⟩, l, c) := ⟨ints_owns h.own h.len, fun h => by cases h⟩
theorem Rw.lt {g c : Nat} (h : Rw w base F (.slice (some ⟨g, 0, none⟩) n c) n l) : base ≤ g ∧ g < w.heap.size := h.own.lt g rfl
theorem Rw.nF {g c : Nat} (h : Rw w base F (.slice (some ⟨g, 0, none⟩) n c) n l) : ¬ F g := h.sep g rfl
theorem Rw.blk {g c : Nat} (h : Rw w base F (.slice (some ⟨g, 0, none⟩) n c) n l) : ∃ cur, Blk w g cur 5 ∧ cur.size = c ∧ n ≤ c ∧ cur.toList.take n = iv .u8 l := by
  rcases h.own.2 with ⟨h1, _⟩ | ⟨g', cap, cur, e, hb, hgg, hnc, hcm, hcs, htk⟩
  · cases h1
  · simp only [Value.slice.injEq, Option.some.injEq, Addr.mk.injEq, and_true] at e
    obtain ⟨rfl, -, rfl⟩ := e
    exact ⟨cur, hgg, by omega, hnc, by rw [Nat.mul_one] at htk; exact htk⟩
theorem Rw.ne {g c : Nat} (h : Rw w base F (.slice (some ⟨g, 0, none⟩) n c) n l) {k : Nat} {cs : Array Value} {t : TypeId} (hb : Blk w k cs t) (ht : t ≠ 5) : k ≠ g := fun e => own_ne h.own hb ht (by rw [e]; rfl)
end
set_option maxHeartbeats 2000000 in
/-- octetsm.Wipe, what lies before the slice is kept -/
theorem wipeT_ret (p o n c : Nat) (cur : Array Value) (t : TypeId) (w : World) (hk : Blk w p cur t) (hn : o + n ≤ cur.size) (hsm : n ≤ 1000000000) : Ret Tryd.prog 35 #[.slice (some ⟨p, o, none⟩) n c] w fun v w' => (∃ cz, Blk w' p cz t ∧ cz.size = cur.size ∧ cz.toList.take o = cur.toList.take o) ∧ Chs (· = p) w w' := by
  refine ret_of_T (vs := [.slice (some ⟨p, o, none⟩) n c]) Tryd.func35 Tryd.ntmps35 rfl (Nat.le_of_ble_eq_true rfl) ?_
  repeat (first | refine T_seq ?_ | refine T_block ?_ | refine T_inBlock ?_ | refine T_skip ?_)
  refine T_region ?_
  refine L_val _ _ (X_move) rfl ?_
  refine L_val _ _ (X_lenS U25 rfl) rfl ?_
  refine L_val _ _ (X_move) rfl ?_
  refine L_nil ?_
  repeat (first | refine T_seq ?_ | refine T_block ?_ | refine T_inBlock ?_ | refine T_skip ?_)
  refine T_loopS [5, 4, 0] (fun m vs z => ∃ (i : Nat) (cz : Array Value), vs = [.int .i64 i, .int .i64 n, .slice (some ⟨p, o, none⟩) n c] ∧ i ≤ n ∧ m = n - i ∧ Blk z p cz t ∧ cz.size = cur.size ∧ cz.toList.take o = cur.toList.take o ∧ Chs (· = p) w z) n
    ⟨0, cur, rfl, by omega, rfl, hk, rfl, rfl, Chs.refl _ _⟩ ?_
  rintro m vs ρ z ⟨i, cz, rfl, hi, rfl, kz, sz, tz, cw⟩ ih
  repeat (first | refine T_seq ?_ | refine T_block ?_ | refine T_inBlock ?_ | refine T_skip ?_)
  refine T_region ?_
  refine L_val _ _ (X_cmp rfl rfl rfl) rfl ?_
  refine L_nil ?_
  repeat (first | refine T_seq ?_ | refine T_block ?_ | refine T_inBlock ?_ | refine T_skip ?_)
  refine T_if rfl (fun ht => ?_) (fun hf => ?_)
  case refine_2 =>
    refine T_exit rfl ?_
    exact T_end0 Tryd.func35 rfl ⟨⟨cz, kz, sz, tz⟩, cw⟩
  have hlt : i < n := by simpa [cmpB] using ht
  repeat (first | refine T_seq ?_ | refine T_block ?_ | refine T_inBlock ?_ | refine T_skip ?_)
  refine T_region ?_
  refine L_val _ _ (X_move) rfl ?_
  refine L_val _ _ (X_assign) rfl ?_
  refine L_nil ?_
  repeat (first | refine T_seq ?_ | refine T_block ?_ | refine T_inBlock ?_ | refine T_skip ?_)
  refine T_region ?_
  refine L_val _ _ (X_move) rfl ?_
  refine L_val _ _ (X_move) rfl ?_
  refine L_val _ _ (X_index U25 S5 rfl rfl hlt) rfl ?_
  refine L_store (.int .u8 0) S5 rfl rfl rfl kz (by rw [Nat.mul_one]; omega) fun z1 h1 => ?_
  refine L_nil ?_
  repeat (first | refine T_seq ?_ | refine T_block ?_ | refine T_inBlock ?_ | refine T_skip ?_)
  refine T_region ?_
  refine L_val _ _ (X_add rfl rfl (by omega) (by omega)) rfl ?_
  refine L_val _ _ (X_move) rfl ?_
  refine L_nil ?_
  refine ih _ _ _ (by omega) ⟨i + 1, _, rfl, by omega, rfl, h1.new, by simp [sz], ?_, cw.trans (Chs.of_chg (S := (· = p)) h1 (.inr rfl)) (fun k _ h => h)⟩
  rw [Array.toList_setIfInBounds, List.take_set_of_le (by omega), tz]
/-- octetsm.Wipe of the end of a row of the call's own -/
theorem wipeR_ret {base g N c n : Nat} {F : Nat → Prop} {l : List Int} {w : World} (h : Rw w base F (.slice (some ⟨g, 0, none⟩) N c) N l) (hn : n ≤ N) (hN : N ≤ 1000000) :
    Ret Tryd.prog 35 #[.slice (some ⟨g, if c = n then 0 else 0 + n * 1, none⟩) (N - n) (c - n)] w fun v w' => Rw w' base F (.slice (some ⟨g, 0, none⟩) n c) n (l.take n) ∧ Chs (· = g) w w' := by
  have hl := h.len
  have hh : Rw w base F (.slice (some ⟨g, 0, none⟩) n c) n (l.take n) := by
    refine ⟨?_, h.sep⟩
    have h1 := h.own
    rw [← List.take_append_drop n l, iv_app] at h1
    exact owns_head h1 (by rw [iv_len, List.length_take]; omega) hn
  obtain ⟨cur, kg, hcs, hNc, htk⟩ := h.blk
  rcases Nat.eq_or_lt_of_le hn with e | hlt
  · rw [show N - n = 0 by omega]
    refine (wipe_nil _ _ w).mono ?_
    rintro v w' rfl
    exact ⟨hh, Chs.refl _ _⟩
  · rw [if_neg (by omega)]
    refine (wipeT_ret g (0 + n * 1) (N - n) (c - n) cur 5 w kg (by omega) (by omega)).mono ?_
    rintro v w' ⟨⟨cz, kz, sz, tz⟩, cw⟩
    refine ⟨⟨⟨hh.own.1, ?_⟩, h.sep⟩, cw⟩
    rcases hh.own.2 with ⟨e, _⟩ | ⟨g', cap, cur', e, hb, hgg, hnc, hcm, hcs', htk'⟩
    · cases e
    · simp only [Value.slice.injEq, Option.some.injEq, Addr.mk.injEq, and_true] at e
      obtain ⟨rfl, -, rfl⟩ := e
      have e3 := hgg.symm.trans kg
      simp only [Option.some.injEq, Obj.cells.injEq, and_true] at e3
      subst e3
      refine .inr ⟨g, c, cz, rfl, hb, kz, hnc, hcm, by omega, ?_⟩
      rw [← htk']
      rw [show 0 + n * 1 = n * 1 by omega] at tz
      exact tz
end Go.Proofs.Qxb6500863aDoor
