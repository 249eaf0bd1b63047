/-
  AppendBE32, Int32, XOR in place.
-/
import Derived.Test.Qxb6500863aDoorGK
namespace Go.Proofs.Qxb6500863aDoor
set_option linter.unusedSimpArgs false
set_option linter.unusedVariables false
open Go.RowKit
theorem E11 : EN Tryd.prog 11 := fun _ _ => by kernel_rfl
theorem E13 : EN Tryd.prog 13 := fun _ _ => by kernel_rfl
theorem E15 : EN Tryd.prog 15 := fun _ _ => by kernel_rfl
theorem E17 : EN Tryd.prog 17 := fun _ _ => by kernel_rfl
theorem E18 : EN Tryd.prog 18 := fun _ _ => by kernel_rfl
theorem E19 : EN Tryd.prog 19 := fun _ _ => by kernel_rfl
theorem E20 : EN Tryd.prog 20 := fun _ _ => by kernel_rfl
theorem E33 : EN Tryd.prog 33 := fun _ _ => by kernel_rfl
theorem E34 : EN Tryd.prog 34 := fun _ _ => by kernel_rfl
theorem E36 : EN Tryd.prog 36 := fun _ _ => by kernel_rfl
theorem E40 : EN Tryd.prog 40 := fun _ _ => by kernel_rfl
theorem U63 : UN Tryd.prog 63 (.array 4 5) := fun _ => by kernel_rfl
theorem Z63 : ZV Tryd.prog 63 (.agg #[.int .u8 0, .int .u8 0, .int .u8 0, .int .u8 0]) := fun _ => by kernel_rfl
theorem U43 : UN Tryd.prog 43 .string := fun _ => by kernel_rfl
section
variable {P : Program} {f : Cx} {n : Nat} {R : Value → World → Prop} {ρ : Env} {w : World} {k : List Item} {ops : Array Oper} {rest : List Oper} {S : World → Prop} {N fuel : Nat} {listed : Array Bool}
variable {d : Nat} {dst : Option Tmp} {gd : Option (Nat × Bool)} {ty : TypeId} {pos : String} {after : Array Edge}
/-- append where the block has room, whatever the block was made as. -/
theorem L_appendR {t e : TypeId} {s x : Operand} {by_ : Nat} {z : Value} {b sl sc : Nat} {cur : Array Value} {tt : TypeId} (a : Addr) (m c : Nat) (news : List Value)
    (ht : P.underlying t = some (.slice e)) (hi : (P.info? e).map (fun i => (i.zero, i.size, i.bytes)) = some (some z, 1, by_)) (hs : ev ρ s = .slice (some ⟨b, 0, none⟩) sl sc) (hx : ev ρ x = .slice (some a) m c) (hb : Blk w b cur tt)
    (hl : news.length = m) (hroom : sl + m ≤ sc) (ho : sl + m ≤ cur.size) (hc : ∀ j u, news[j]? = some u → w.cell? (a.add j) = some u) (h1 : ∀ u ∈ news, u.oneCell' = true) (hd : Nat.blt d n = true)
    (h : ∀ w1, Chg w w1 b (.cells (cur.toList.take sl ++ news ++ cur.toList.drop (sl + news.length)).toArray tt (0, 0)) → L P f n ops rest k R (upd ρ d (.slice (some ⟨b, 0, none⟩) (sl + m) sc)) w1) :
    L P f n ops (⟨some d, .call { callee := .builtin .append, args := #[s, x], argTypes := #[t, t] }, ty, pos, after, none⟩ :: rest) k R ρ w := by
  obtain ⟨i, hi1, hi2, hi3, hi4⟩ := info_parts hi
  refine L_val _ _ ?_ hd (h _ (chg_setRow hb _))
  have hfc := run_firstCells_some (P := P) w i.size m a m c news (by rw [hi3, hl, Nat.mul_one]) hc
  have hst := run_storeCells_at P b sl tt news 0 cur w hb (by omega) h1
  simp only [Nat.add_zero] at hst
  rw [hi3] at hfc
  simp [execOp, resolve, invoke, builtin, hs, hx, Builtin.append_, run_underlying ht, sizeOf, typeInfo, hi1, hi3, Builtin.lenOf, hroom, hfc, Addr.add_lit, hst]
/-- u32's arithmetic where nothing wraps. -/
theorem X_addU {t t' : TypeId} {x y : Operand} (a b : Nat) (hx : ev ρ x = .int .u32 (a : Int)) (hy : ev ρ y = .int .u32 (b : Int)) (h1 : a + b < 4294967296) :
    (execOp (ev ρ) ⟨dst, .binOp .add t x y t', ty, pos, after, gd⟩).run P w = .ok (.value (.int .u32 ((a + b : Nat) : Int))) w := by
  rw [X_ar rfl hx hy]
  simp only [arB, IntKind.wrap_u32]
  congr 3
  omega
end
/-- Four octets, the most significant first. -/
def be4 (i : Nat) : List Int := [((i / 16777216 % 256 : Nat) : Int), ((i / 65536 % 256 : Nat) : Int), ((i / 256 % 256 : Nat) : Int), ((i % 256 : Nat) : Int)]
theorem be4_len (i : Nat) : (be4 i).length = 4 := rfl
def beX (i : Int) : List Int := [IntKind.u8.wrap (IntKind.u32.wrap (i.tdiv 16777216)), IntKind.u8.wrap ((IntKind.u32.wrap (i.tdiv 65536)).tmod 256), IntKind.u8.wrap ((IntKind.u32.wrap (i.tdiv 256)).tmod 256), IntKind.u8.wrap (i.tmod 256)]
def beY (i : Int) : List Int := [IntKind.u8.wrap (i.fdiv (2 ^ (min (24 : Int).toNat IntKind.u32.bits))), IntKind.u8.wrap (i.fdiv (2 ^ (min (16 : Int).toNat IntKind.u32.bits))), IntKind.u8.wrap (i.fdiv (2 ^ (min (8 : Int).toNat IntKind.u32.bits))), IntKind.u8.wrap i]
theorem beX_eq {i : Nat} (hi : i < 4294967296) : beX (i : Int) = be4 i := by
  have e1 : (i : Int).tdiv 16777216 = ((i / 16777216 : Nat) : Int) := rfl
  have e2 : (i : Int).tdiv 65536 = ((i / 65536 : Nat) : Int) := rfl
  have e3 : (i : Int).tdiv 256 = ((i / 256 : Nat) : Int) := rfl
  have e4 : (i : Int).tmod 256 = ((i % 256 : Nat) : Int) := rfl
  have w1 : ∀ m : Nat, m < 4294967296 → IntKind.u32.wrap (m : Int) = (m : Int) := fun m hm => by rw [IntKind.wrap_u32]; omega
  have t1 : ∀ m : Nat, (m : Int).tmod 256 = ((m % 256 : Nat) : Int) := fun m => rfl
  simp only [beX, be4, e1, e2, e3, e4]
  rw [w1 _ (by omega), w1 _ (by omega), w1 _ (by omega), t1, t1]
  simp only [IntKind.wrap_u8]
  refine List.cons_eq_cons.2 ⟨by omega, List.cons_eq_cons.2 ⟨by omega, List.cons_eq_cons.2 ⟨by omega, List.cons_eq_cons.2 ⟨by omega, rfl⟩⟩⟩⟩
theorem beY_eq (i : Nat) : beY (i : Int) = be4 i := by
  have e1 : (i : Int).fdiv (2 ^ (min (24 : Int).toNat IntKind.u32.bits)) = ((i / 16777216 : Nat) : Int) := by
    rw [show (2 ^ (min (24 : Int).toNat IntKind.u32.bits) : Int) = 16777216 by decide, Int.fdiv_eq_ediv_of_nonneg _ (by decide)]; rfl
  have e2 : (i : Int).fdiv (2 ^ (min (16 : Int).toNat IntKind.u32.bits)) = ((i / 65536 : Nat) : Int) := by
    rw [show (2 ^ (min (16 : Int).toNat IntKind.u32.bits) : Int) = 65536 by decide, Int.fdiv_eq_ediv_of_nonneg _ (by decide)]; rfl
  have e3 : (i : Int).fdiv (2 ^ (min (8 : Int).toNat IntKind.u32.bits)) = ((i / 256 : Nat) : Int) := by
    rw [show (2 ^ (min (8 : Int).toNat IntKind.u32.bits) : Int) = 256 by decide, Int.fdiv_eq_ediv_of_nonneg _ (by decide)]; rfl
  simp only [beY, be4, e1, e2, e3, IntKind.wrap_u8]
  refine List.cons_eq_cons.2 ⟨by omega, List.cons_eq_cons.2 ⟨by omega, List.cons_eq_cons.2 ⟨by omega, List.cons_eq_cons.2 ⟨by omega, rfl⟩⟩⟩⟩
/-- A slice literal is a row of the call's own. -/
theorem owns_lit {w w1 : World} {base : Nat} {l : List Int} (hc : Chg w w1 w.heap.size (.cells (iv .u8 l).toArray 5 (0, 0))) (hb : base ≤ w.heap.size) (hm : l.length ≤ maxLen) : w1.ownsRow base 5 1 (.slice (some ⟨w.heap.size, 0, none⟩) l.length l.length) l.length (iv .u8 l) :=
  ⟨by rw [iv_len, Nat.mul_one], .inr ⟨w.heap.size, l.length, _, rfl, hb, hc.here, Nat.le_refl _, hm, by simp [iv_len], by rw [List.take_of_length_le (by simp [iv_len])]⟩⟩
/-- octetsm.AppendBE32 onto an empty slice of a block of four -/
theorem be_ret (b i : Nat) (cur : Array Value) (tt : TypeId) (w : World) (hk : Blk w b cur tt) (hs : cur.size = 4) (hi : i < 4294967296) :
    Ret Tryd.prog 33 #[.slice (some ⟨b, 0, none⟩) 0 4, .int .u32 (i : Int)] w fun v w' => v = .slice (some ⟨b, 0, none⟩) 4 4 ∧ Blk w' b (iv .u8 (be4 i)).toArray tt ∧ Chs (· = b) w w' := by
  refine ret_of_T (vs := [.slice (some ⟨b, 0, none⟩) 0 4, .int .u32 (i : Int)]) Tryd.func33 Tryd.ntmps33 rfl (Nat.le_of_ble_eq_true rfl) ?_
  have hlt := hk.lt
  repeat (first | refine T_seq ?_ | refine T_block ?_ | refine T_inBlock ?_ | refine T_skip ?_)
  refine T_region ?_
  refine L_val _ _ (X_assign) rfl ?_
  refine L_nil ?_
  repeat (first | refine T_seq ?_ | refine T_block ?_ | refine T_inBlock ?_ | refine T_skip ?_)
  refine T_region ?_
  refine L_val _ _ (X_move) rfl ?_
  refine L_val _ _ (X_move) rfl ?_
  refine L_val _ _ (X_quo rfl rfl (by decide)) rfl ?_
  refine L_val _ _ (X_convInt U26 U5 rfl) rfl ?_
  refine L_val _ _ (X_move) rfl ?_
  refine L_val _ _ (X_quo rfl rfl (by decide)) rfl ?_
  refine L_val _ _ (X_rem rfl rfl (by decide)) rfl ?_
  refine L_val _ _ (X_convInt U26 U5 rfl) rfl ?_
  refine L_val _ _ (X_move) rfl ?_
  refine L_val _ _ (X_quo rfl rfl (by decide)) rfl ?_
  refine L_val _ _ (X_rem rfl rfl (by decide)) rfl ?_
  refine L_val _ _ (X_convInt U26 U5 rfl) rfl ?_
  refine L_val _ _ (X_move) rfl ?_
  refine L_val _ _ (X_rem rfl rfl (by decide)) rfl ?_
  refine L_val _ _ (X_convInt U26 U5 rfl) rfl ?_
  refine L_buildSlice (iv .u8 (beX (i : Int))).toArray 5 (by kernel_rfl) rfl fun w1 h1 => ?_
  rw [beX_eq hi] at h1
  refine L_appendR ⟨w.heap.size, 0, none⟩ 4 4 (iv .u8 (be4 i)) Tryd.underlying25 I5 rfl rfl (h1.blk hk (by omega)) rfl (by decide) (by omega) (ints_src (ints_blk h1.new) _ rfl) (iv_one _ _) rfl fun w2 h2 => ?_
  refine L_val _ _ (X_assign) rfl ?_
  refine L_nil ?_
  have e : (cur.toList.take 0 ++ iv .u8 (be4 i) ++ cur.toList.drop (0 + (iv .u8 (be4 i)).length)) = iv .u8 (be4 i) := by
    rw [List.drop_of_length_le (by simp [iv_len, be4_len, hs])]
    simp
  rw [e] at h2
  refine T_ret1 Tryd.func33 rfl ⟨rfl, h2.new, ?_⟩
  exact (Chs.of_chg (S := (· = b)) h1 (.inl (Nat.le_refl _))).trans (Chs.of_chg (S := (· = b)) h2 (.inr rfl)) (fun _ _ h => h)
/-- modesm.Int32 -/
theorem int32_ret (i : Nat) (w : World) : Ret Tryd.prog 36 #[.int .u32 (i : Int)] w (Made w (be4 i)) := by
  refine ret_of_T (vs := [.int .u32 (i : Int)]) Tryd.func36 Tryd.ntmps36 rfl (Nat.le_of_ble_eq_true rfl) ?_
  repeat (first | refine T_seq ?_ | refine T_block ?_ | refine T_inBlock ?_ | refine T_skip ?_)
  refine T_region ?_
  refine L_val _ _ (X_assign) rfl ?_
  refine L_nil ?_
  repeat (first | refine T_seq ?_ | refine T_block ?_ | refine T_inBlock ?_ | refine T_skip ?_)
  refine T_region ?_
  refine L_val _ _ (X_move) rfl ?_
  refine L_val _ _ (X_shr rfl rfl (by decide)) rfl ?_
  refine L_val _ _ (X_convInt U26 U5 rfl) rfl ?_
  refine L_val _ _ (X_move) rfl ?_
  refine L_val _ _ (X_shr rfl rfl (by decide)) rfl ?_
  refine L_val _ _ (X_convInt U26 U5 rfl) rfl ?_
  refine L_val _ _ (X_move) rfl ?_
  refine L_val _ _ (X_shr rfl rfl (by decide)) rfl ?_
  refine L_val _ _ (X_convInt U26 U5 rfl) rfl ?_
  refine L_val _ _ (X_move) rfl ?_
  refine L_val _ _ (X_convInt U26 U5 rfl) rfl ?_
  refine L_buildSlice (iv .u8 (beY (i : Int))).toArray 5 (by kernel_rfl) rfl fun w1 h1 => ?_
  rw [beY_eq i] at h1
  refine L_val _ _ (X_assign) rfl ?_
  refine L_nil ?_
  exact T_ret1 Tryd.func36 rfl ⟨_, _, rfl, owns_lit h1 (Nat.le_refl _) (by rw [be4_len]; decide), h1.below (Below.refl _ _) (Nat.le_refl _)⟩
theorem owns_set {w w1 : World} {base g n c i : Nat} {l : List Int} {y : Int} {cur : Array Value} (h : w.ownsRow base 5 1 (.slice (some ⟨g, 0, none⟩) n c) n (iv .u8 l)) (hk : Blk w g cur 5) (hc : Chg w w1 g (.cells (cur.setIfInBounds i (.int .u8 y)) 5 (0, 0))) :
    w1.ownsRow base 5 1 (.slice (some ⟨g, 0, none⟩) n c) n (iv .u8 (l.set i y)) := by
  have h1 := h.1
  rw [iv_len] at h1
  refine ⟨by rw [iv_len, List.length_set, h1], ?_⟩
  rcases h.2 with ⟨e, _⟩ | ⟨g', cap, cur', e, hb, hgg, hnc, hcm, hcs, htk⟩
  · cases e
  · simp only [Value.slice.injEq, Option.some.injEq, Addr.mk.injEq, and_true] at e
    obtain ⟨rfl, -, rfl⟩ := e
    have e3 := hgg.symm.trans hk
    simp only [Option.some.injEq, Obj.cells.injEq, and_true] at e3
    subst e3
    refine .inr ⟨g, c, _, rfl, hb, hc.here, hnc, hcm, by simp [hcs], ?_⟩
    rw [Array.toList_setIfInBounds, List.take_set, htk, iv_set]
theorem zx_step {t u : List Int} {i : Nat} (p : List Int) (h : i < t.length) : (p ++ (zx t u i ++ t.drop i)).set (p.length + i) (xI (gI t i) (gI u i)) = p ++ (zx t u (i + 1) ++ t.drop (i + 1)) := by
  rw [List.set_append_right _ _ (by omega), Nat.add_sub_cancel_left, drop_gI h, set_mid _ _ _ _ _ (zx_len _ _ _)]
  rfl
set_option maxHeartbeats 4000000 in
/-- octetsm.XOR of the end of a row of the call's own, in place -/
theorem xorIn_ret (base g n c : Nat) (p t : List Int) (u : Sl) (w : World) (ho : w.ownsRow base 5 1 (.slice (some ⟨g, 0, none⟩) n c) n (iv .u8 (p ++ t))) (hul : u.2.1.length = t.length) (hu : Sl.ok w u) (hne : ∀ ad, u.1 = some ad → ad.block ≠ g) (hn : n ≤ 1000000) (hpt : p.length + t.length = n) :
    Ret Tryd.prog 34 #[.slice (some ⟨g, 0 + p.length * 1, none⟩) t.length (c - p.length), .slice (some ⟨g, 0 + p.length * 1, none⟩) t.length (c - p.length), u.val] w fun v w' => w'.ownsRow base 5 1 (.slice (some ⟨g, 0, none⟩) n c) n (iv .u8 (p ++ zx t u.2.1 t.length)) ∧ Chs (· = g) w w' := by
  obtain ⟨ua, ul, uc⟩ := u
  simp only at hul hne
  refine ret_of_T (vs := [.slice (some ⟨g, 0 + p.length * 1, none⟩) t.length (c - p.length), .slice (some ⟨g, 0 + p.length * 1, none⟩) t.length (c - p.length), .slice ua ul.length uc]) Tryd.func34 Tryd.ntmps34 rfl (Nat.le_of_ble_eq_true rfl) ?_
  repeat (first | refine T_seq ?_ | refine T_block ?_ | refine T_inBlock ?_ | refine T_skip ?_)
  refine T_region ?_
  refine L_val _ _ (X_assign) rfl ?_
  refine L_nil ?_
  repeat (first | refine T_seq ?_ | refine T_block ?_ | refine T_inBlock ?_ | refine T_skip ?_)
  refine T_region ?_
  refine L_val _ _ (X_assign) rfl ?_
  refine L_nil ?_
  repeat (first | refine T_seq ?_ | refine T_block ?_ | refine T_inBlock ?_ | refine T_skip ?_)
  refine T_loopS [7, 0, 1, 2] (fun m vs z => ∃ (i : Nat), vs = [.int .i64 i, .slice (some ⟨g, 0 + p.length * 1, none⟩) t.length (c - p.length), .slice (some ⟨g, 0 + p.length * 1, none⟩) t.length (c - p.length), .slice ua ul.length uc] ∧ i ≤ t.length ∧ m = t.length - i ∧ z.ownsRow base 5 1 (.slice (some ⟨g, 0, none⟩) n c) n (iv .u8 (p ++ (zx t ul i ++ t.drop i))) ∧ Chs (· = g) w z) t.length
    ⟨0, rfl, by omega, rfl, by simpa [zx] using ho, Chs.refl _ _⟩ ?_
  rintro m vs ρ z ⟨i, rfl, hi, rfl, oz, cz⟩ ih
  rcases Nat.lt_or_ge i t.length with hlt | hge
  case inr =>
    obtain rfl : i = t.length := by omega
    have e1 : cmpB .lss (t.length : Int) (t.length : Int) = false := by simp [cmpB]
    repeat (first | refine T_seq ?_ | refine T_block ?_ | refine T_inBlock ?_ | refine T_skip ?_)
    refine T_region ?_
    refine L_val _ _ (X_move) rfl ?_
    refine L_val _ _ (X_move) rfl ?_
    refine L_val _ _ (X_lenS U25 rfl) rfl ?_
    refine L_val _ _ (X_cmpR false rfl rfl rfl e1) rfl ?_
    refine L_val _ _ (X_move) rfl ?_
    refine L_passB rfl rfl rfl ?_
    refine L_passB rfl rfl rfl ?_
    refine L_passB rfl rfl rfl ?_
    refine L_passB rfl rfl rfl ?_
    refine L_val _ _ (X_pick rfl) rfl ?_
    refine L_val _ _ (X_move) rfl ?_
    refine L_passB rfl rfl rfl ?_
    refine L_passB rfl rfl rfl ?_
    refine L_passB rfl rfl rfl ?_
    refine L_passB rfl rfl rfl ?_
    refine L_val _ _ (X_pick rfl) rfl ?_
    refine L_nil ?_
    refine T_false rfl ?_
    refine T_exit rfl ?_
    repeat (first | refine T_seq ?_ | refine T_block ?_ | refine T_inBlock ?_ | refine T_skip ?_)
    refine T_region ?_
    refine L_val _ _ (X_move) rfl ?_
    refine L_val _ _ (X_assign) rfl ?_
    refine L_nil ?_
    rw [List.drop_length, List.append_nil] at oz
    exact T_ret1 Tryd.func34 rfl ⟨oz, cz⟩
  have e1 : cmpB .lss (i : Int) (t.length : Int) = true := by simp [cmpB]; omega
  have e2 : cmpB .lss (i : Int) (ul.length : Int) = true := by simp [cmpB]; omega
  repeat (first | refine T_seq ?_ | refine T_block ?_ | refine T_inBlock ?_ | refine T_skip ?_)
  refine T_region ?_
  refine L_val _ _ (X_move) rfl ?_
  refine L_val _ _ (X_move) rfl ?_
  refine L_val _ _ (X_lenS U25 rfl) rfl ?_
  refine L_val _ _ (X_cmpR true rfl rfl rfl e1) rfl ?_
  refine L_val _ _ (X_move) rfl ?_
  refine L_guard rfl rfl rfl ?_
  refine L_val _ _ (X_move) rfl ?_
  refine L_guard rfl rfl rfl ?_
  refine L_val _ _ (X_move) rfl ?_
  refine L_guard rfl rfl rfl ?_
  refine L_val _ _ (X_lenS U25 rfl) rfl ?_
  refine L_guard rfl rfl rfl ?_
  refine L_val _ _ (X_cmpR true rfl rfl rfl e1) rfl ?_
  refine L_val _ _ (X_pick rfl) rfl ?_
  refine L_val _ _ (X_move) rfl ?_
  refine L_guard rfl rfl rfl ?_
  refine L_val _ _ (X_move) rfl ?_
  refine L_guard rfl rfl rfl ?_
  refine L_val _ _ (X_move) rfl ?_
  refine L_guard rfl rfl rfl ?_
  refine L_val _ _ (X_lenS U25 rfl) rfl ?_
  refine L_guard rfl rfl rfl ?_
  refine L_val _ _ (X_cmpR true rfl rfl rfl e2) rfl ?_
  refine L_val _ _ (X_pick rfl) rfl ?_
  refine L_nil ?_
  refine T_true rfl ?_
  have st := zx_step (u := ul) p hlt
  have huz : Sl.ok z (ua, ul, uc) := ⟨cz.ints hu.1 (fun ad h e => hne ad h e), hu.2⟩
  obtain ⟨p1, r1, rfl, hp1, hc1⟩ := huz.1.cell i _ (gI_at (show i < ul.length by omega))
  have hI := ints_owns oz (by have := oz.1; rw [iv_len, Nat.mul_one] at this; exact this)
  obtain ⟨p2, r2, e3, hp2, hc2⟩ := hI.cell (p.length + i) (gI t i) (by rw [List.getElem?_append_right (by omega), Nat.add_sub_cancel_left, drop_gI hlt, List.getElem?_append_right (by rw [zx_len]; exact Nat.le_refl _), zx_len, Nat.sub_self]; rfl)
  simp only [Option.some.injEq, Addr.mk.injEq, and_true] at e3
  obtain ⟨rfl, rfl⟩ := e3
  obtain ⟨_, _, cur, e4, hgb, kg, hgc, hgm, hgs, htk⟩ := owns_some oz (by omega)
  simp only [Value.slice.injEq, Option.some.injEq, Addr.mk.injEq, and_true, true_and] at e4
  obtain ⟨rfl, rfl⟩ := e4
  generalize gI t i = x at *
  generalize gI ul i = y at *
  refine T_skip ?_
  repeat (first | refine T_seq ?_ | refine T_block ?_ | refine T_inBlock ?_ | refine T_skip ?_)
  refine T_draw (fun v => Below z.heap.size z v) 11 rfl rfl fun z1 hsm => ?_
  have hS : Below z.heap.size z z1 := hsm.below (Below.refl _ _)
  refine D_takeT 0 _ rfl (by kernel_rfl) hS (fun w hw => X_move) rfl ?_
  refine D_takeT 1 _ rfl (by kernel_rfl) hS (fun w hw => X_move) rfl ?_
  refine D_takeT 2 _ rfl (by kernel_rfl) hS (fun w hw => X_move) rfl ?_
  refine D_takeT 3 _ rfl (by kernel_rfl) hS (fun w hw => X_move) rfl ?_
  refine D_takeT 4 _ rfl (by kernel_rfl) hS (fun w hw => X_index U25 S5 rfl rfl hlt) rfl ?_
  refine D_takeT 5 _ rfl (by kernel_rfl) hS (fun w hw => X_load A5 rfl ((by rw [show 0 + p.length * 1 + i * 1 = 0 + (p.length + i) by omega]; exact (below_cell hw _ hp2).trans hc2))) rfl ?_
  refine D_takeT 6 _ rfl (by kernel_rfl) hS (fun w hw => X_move) rfl ?_
  refine D_takeT 7 _ rfl (by kernel_rfl) hS (fun w hw => X_move) rfl ?_
  refine D_takeT 8 _ rfl (by kernel_rfl) hS (fun w hw => X_index U25 S5 rfl rfl (by omega)) rfl ?_
  refine D_takeT 9 _ rfl (by kernel_rfl) hS (fun w hw => X_load A5 rfl ((by rw [Nat.mul_one]; exact (below_cell hw _ hp1).trans hc1))) rfl ?_
  refine D_takeT 10 _ rfl (by kernel_rfl) hS (fun w hw => X_bit rfl rfl rfl) rfl ?_
  refine D_val 11 _ _ rfl (by kernel_rfl) (X_index U25 S5 rfl rfl hlt) rfl (fun hb => by cases hb) ?_
  refine D_store 12 (.int .u8 (xI x y)) rfl (by kernel_rfl) S5 rfl rfl rfl (below_blk hS kg hp2) (by omega) fun z2 h2 => ⟨fun h => absurd h (by decide), ?_⟩
  refine D_done (by kernel_rfl) ?_
  have oz1 := (Chs.of_below (S := fun _ => False) hS).owns oz (fun _ _ h => h)
  have o2 := owns_set oz1 (below_blk hS kg hp2) h2
  rw [show 0 + p.length * 1 + i * 1 = p.length + i by omega, st] at o2
  repeat (first | refine T_seq ?_ | refine T_block ?_ | refine T_inBlock ?_ | refine T_skip ?_)
  refine T_region ?_
  refine L_val _ _ (X_move) rfl ?_
  refine L_val _ _ (X_add rfl rfl (by omega) (by omega)) rfl ?_
  refine L_val _ _ (X_assign) rfl ?_
  refine L_nil ?_
  repeat (first | refine T_seq ?_ | refine T_block ?_ | refine T_inBlock ?_ | refine T_skip ?_)
  exact ih _ _ _ (by omega) ⟨i + 1, rfl, by omega, rfl, o2, (cz.trans (Chs.of_below (S := fun _ => False) hS) (fun _ _ h => h.elim)).trans (Chs.of_chg (S := (· = g)) h2 (.inr rfl)) (fun _ _ h => h)⟩
end Go.Proofs.Qxb6500863aDoor
