/-
  modes.CounterKDF, modes.FeedbackKDF.
-/
import Derived.Test.Qxb6500863aDoorGU
namespace Go.Proofs.Qxb6500863aDoor
set_option linter.unusedSimpArgs false
set_option linter.unusedVariables false
open Go.RowKit
/-- What CounterKDF derives (digests of 48 octets). -/
def cT (H : List Int → List Int) (A B : List Int) (n i : Nat) : List Int := H (be4 i ++ fx A B n)
def ckN (H : List Int → List Int) (A B : List Int) (n : Nat) : List Int := (dkL (cT H A B n) ((n + 47) / 48)).take n
/-- What FeedbackKDF derives (digests of 48 octets). -/
def kT (H : List Int → List Int) (V A B : List Int) (n : Nat) : Nat → List Int
  | 0 => V
  | m + 1 => H (kT H V A B n m ++ (be4 (m + 1) ++ fx A B n))
def fkN (H : List Int → List Int) (V A B : List Int) (n : Nat) : List Int := (dkL (kT H V A B n) ((n + 47) / 48)).take n
theorem kdL_len {H : List Int → List Int} {s : Nat} (hH : ∀ x, (H x).length = s) (V A B : List Int) (n : Nat) : ∀ m, (dkL (kT H V A B n) m).length = m * s
  | 0 => by simp [dkL]
  | m + 1 => by rw [dkL, List.length_append, kdL_len hH V A B n m, kT, hH, Nat.succ_mul]
structure KS (base mb id : Nat) (ip op : List Int) (w0 z : World) (og oc on : Nat) (ol : List Int) (ib : Nat) (F : Nat → Prop) (l : List Int) : Prop where
  mac : Mac z base F mb id ip op l
  out : Rw z base F (.slice (some ⟨og, 0, none⟩) on oc) on ol
  ix : ∃ cur, Blk z ib cur 63 ∧ cur.size = 4
  ixF : ¬ F ib
  ixb : base ≤ ib
  bel : Below base w0 z
section
variable {base mb id : Nat} {ip op : List Int} {w0 z z' : World} {og oc on : Nat} {ol : List Int} {ib : Nat} {F : Nat → Prop} {l l' : List Int}
theorem KS.hbs (h : KS base mb id ip op w0 z og oc on ol ib F l) : base ≤ z.heap.size := Nat.le_trans h.out.lt.1 (Nat.le_of_lt h.out.lt.2)
theorem KS.meff (h : KS base mb id ip op w0 z og oc on ol ib F l) (hm : MEff z base F mb id ip op l' z') : ∃ F', KS base mb id ip op w0 z' og oc on ol ib F' l' := by
  have b := hm.below h.mac h.bel h.hbs
  obtain ⟨F', hM, c, hF⟩ := hm
  obtain ⟨cur, kx, sx⟩ := h.ix
  have hx := kx.lt
  exact ⟨F', hM, h.out.step c hF, ⟨cur, c.blk kx h.ixF, sx⟩, fun hf => (hF ib hf).elim h.ixF (fun hge => by omega), h.ixb, b⟩
theorem KS.reset_ret (h : KS base mb id ip op w0 z og oc on ol ib F l) : Ret Tryd.prog 27 #[.pointer (some ⟨mb, 0, none⟩)] z fun v z' => ∃ F', KS base mb id ip op w0 z' og oc on ol ib F' ip :=
  (mreset_ret base mb id F ip op l z h.mac).mono fun v z' hm => h.meff hm
theorem KS.write_ret (h : KS base mb id ip op w0 z og oc on ol ib F l) (X : Sl) (hX : Sl.ok z X) (hl : l.length + X.2.1.length ≤ 10000000) : Ret Tryd.prog 32 #[.pointer (some ⟨mb, 0, none⟩), X.val] z fun v z' => ∃ F', KS base mb id ip op w0 z' og oc on ol ib F' (l ++ X.2.1) :=
  (mwrite_ret base mb id F ip op l X z h.mac hX hl).mono fun v z' hm => h.meff hm
theorem KS.be_ret (h : KS base mb id ip op w0 z og oc on ol ib F l) (i : Nat) (hi : i < 4294967296) : Ret Tryd.prog 33 #[.slice (some ⟨ib, 0, none⟩) 0 4, .int .u32 (i : Int)] z fun v z' => v = .slice (some ⟨ib, 0, none⟩) 4 4 ∧ KS base mb id ip op w0 z' og oc on ol ib F l ∧ Sl.ok z' (some ⟨ib, 0, none⟩, be4 i, 4) ∧ Chs (fun k => k = ib) z z' := by
  obtain ⟨cur, kx, sx⟩ := h.ix
  refine (Qxb6500863aDoor.be_ret ib i cur 63 z kx sx hi).mono ?_
  rintro v z' ⟨rfl, k', c⟩
  refine ⟨rfl, ⟨h.mac.keep c (fun k hf e => h.ixF (e ▸ hf)), h.out.chs c (fun b hb e => h.out.ne kx (by decide) (by rw [← e]; exact (Option.some.inj hb).symm)), ⟨_, k', by simp [iv_len, be4_len]⟩, h.ixF, h.ixb, c.below h.bel h.hbs (fun k e => e ▸ h.ixb)⟩, ⟨ints_blk k', fun h => by cases h⟩, c⟩
theorem KS.fixed_ret (h : KS base mb id ip op w0 z og oc on ol ib F l) (hb0 : base = w0.heap.size) (A B : Sl) (n : Nat) (hA : Sl.ok w0 A) (hB : Sl.ok w0 B) (hAl : A.2.1.length ≤ 1000) (hBl : B.2.1.length ≤ 1000) (hl : l.length ≤ 1000000) (hn : n ≤ 65536) :
    Ret Tryd.prog 40 #[.iface 44 (.pointer (some ⟨mb, 0, none⟩)), A.val, B.val, .int .i64 (n : Int)] z fun v z' => ∃ F', KS base mb id ip op w0 z' og oc on ol ib F' (l ++ fx A.2.1 B.2.1 n) := by
  have hz : ∀ z', Chs F z z' → Below w0.heap.size w0 z' := fun z' c => hb0 ▸ c.below h.bel h.hbs (fun k hk => (h.mac.lt k hk).1)
  exact (fi_ret base mb id F ip op l A B n z h.mac (fun z' c => hA.below (hz z' c)) (fun z' c => hB.below (hz z' c)) hAl hBl hl hn).mono fun v z' hm => h.meff hm
theorem KS.sum_ret {sn cr : List Int} {s : Nat} (h : KS base mb id ip op w0 z og oc on ol ib F l) (hG : Glob sn cr z) (hb2 : 2 ≤ base) (hl : l.length ≤ 1000000) (hon : on ≤ 1000000) (hs : (dg sn cr id (op ++ dg sn cr id l)).length = s) (hs0 : 0 < s) :
    Ret Tryd.prog 25 #[.pointer (some ⟨mb, 0, none⟩), .slice (some ⟨og, 0, none⟩) on oc] z fun v z' => ∃ og' oc' F', v = .slice (some ⟨og', 0, none⟩) (on + s) oc' ∧ on + s ≤ oc' ∧ KS base mb id ip op w0 z' og' oc' (on + s) (ol ++ dg sn cr id (op ++ dg sn cr id l)) ib F' l := by
  obtain ⟨cur, kx, sx⟩ := h.ix
  have hx := kx.lt
  have hog := h.out.lt
  have hol := h.out.len
  have ho := h.out.own
  have hr := msum_ret sn cr base mb id F ip op l ol (.slice (some ⟨og, 0, none⟩) on oc) z hG hb2 h.mac (by rw [hol]; exact ho) h.out.sep hl (by omega)
  refine hr.mono ?_
  rintro v z' ⟨o, -, ⟨F', hM, hF, hvF⟩, c, p⟩
  rw [List.length_append, hs, hol] at o
  obtain ⟨g, cg, cur', rfl, hgb, kg, hgc, hgm, hgs, htk⟩ := owns_some o (by omega)
  have hxo : ib ≠ og := h.out.ne kx (by decide)
  exact ⟨g, cg, F', rfl, hgc, hM, ⟨o, hvF⟩, ⟨cur, c.blk kx (fun e => e.elim h.ixF (fun e => hxo (Option.some.inj e).symm)), sx⟩, fun hf => (hF ib hf).elim h.ixF (fun hge => by omega), h.ixb, c.below h.bel h.hbs (fun k e => e.elim (fun e => (h.mac.lt k e).1) (fun e => by have : og = k := Option.some.inj e; omega))⟩
theorem KS.below (h : KS base mb id ip op w0 z og oc on ol ib F l) (hb : Below z.heap.size z z') : KS base mb id ip op w0 z' og oc on ol ib F l := by
  obtain ⟨cur, kx, sx⟩ := h.ix
  exact ⟨h.mac.below hb, h.out.below hb, ⟨cur, below_blk hb kx kx.lt, sx⟩, h.ixF, h.ixb, h.bel.trans (hb.mono h.hbs)⟩
end
set_option maxHeartbeats 8000000 in
set_option maxRecDepth 10000 in
/-- modes.CounterKDF over a running HMAC whose digests have 48 octets -/
theorem ck_ret (sn cr : List Int) (id : Nat) (hsz : szD id = 48) (H : List Int → List Int) (ip op l : List Int) (mb : Nat) (A B : Sl) (n : Nat) (w0 w : World) (hHe : ∀ x, dg sn cr id (op ++ dg sn cr id (ip ++ x)) = H x) (hHl : ∀ x, (H x).length = 48) (hipl : ip.length ≤ 1000)
    (hMB : MacB w0 w mb id ip op l) (hG : Glob sn cr w0) (hA : Sl.ok w0 A) (hB : Sl.ok w0 B) (hAl : A.2.1.length ≤ 1000) (hBl : B.2.1.length ≤ 1000) (hn1 : 1 ≤ n) (hn2 : n ≤ 65536) :
    Ret Tryd.prog 17 #[.iface 44 (.pointer (some ⟨mb, 0, none⟩)), A.val, B.val, .int .i64 (n : Int)] w fun v w' => ∃ a c, v = .tuple #[.slice a n c, .nilIface] ∧ Sl.ok w' (a, ckN H A.2.1 B.2.1 n, c) ∧ MacB w0 w' mb id ip op ip := by
  refine ret_of_T (vs := [.iface 44 (.pointer (some ⟨mb, 0, none⟩)), A.val, B.val, .int .i64 (n : Int)]) Tryd.func17 Tryd.ntmps17 rfl (Nat.le_of_ble_eq_true rfl) ?_
  obtain ⟨F, hM, hbel⟩ := hMB
  have hgs := hG.size
  have hdl := dkL_len (T := cT H A.2.1 B.2.1 n) (s := 48) (fun i => hHl _)
  obtain ⟨M, hMe⟩ : ∃ M, M = (n + 47) / 48 := ⟨_, rfl⟩
  have e3 : cmpB .lss (n : Int) 1 = false := by simp [cmpB]; omega
  have e4 : cmpB .gtr (n : Int) 65536 = false := by simp [cmpB]; omega
  have hfl : (fx A.2.1 B.2.1 n).length ≤ 3000 := by simp only [fx, List.length_append, be4_len, List.length_singleton]; omega
  repeat (first | refine T_seq ?_ | refine T_block ?_ | refine T_inBlock ?_ | refine T_skip ?_)
  refine T_region ?_
  refine L_val _ _ (X_assign) rfl ?_
  refine L_val _ _ (X_assign) rfl ?_
  refine L_nil ?_
  refine T_seq ?_
  refine T_seq ?_
  refine T_region ?_
  refine L_val _ _ (X_move) rfl ?_
  refine L_val _ _ (X_cmpR false rfl rfl rfl e3) rfl ?_
  refine L_val _ _ (X_move) rfl ?_
  refine L_guard rfl rfl rfl ?_
  refine L_val _ _ (X_move) rfl ?_
  refine L_guard rfl rfl rfl ?_
  refine L_val _ _ (X_cmpR false rfl rfl rfl e4) rfl ?_
  refine L_val _ _ (X_pick rfl) rfl ?_
  refine L_nil ?_
  refine T_false rfl ?_
  refine T_skip ?_
  repeat (first | refine T_seq ?_ | refine T_block ?_ | refine T_inBlock ?_ | refine T_skip ?_)
  refine T_region ?_
  refine L_val _ _ (X_move) rfl ?_
  refine L_val _ _ (X_nilCheckI rfl) rfl ?_
  refine L_deferI rfl ?_
  refine L_nil ?_
  repeat (first | refine T_seq ?_ | refine T_block ?_ | refine T_inBlock ?_ | refine T_skip ?_)
  refine T_region ?_
  refine L_val _ _ (X_move) rfl ?_
  refine L_val _ _ (X_move) rfl ?_
  refine L_callI [] MT44z E24 rfl rfl rfl (msize_ret w0.heap.size mb id F ip op l w hM) ?_
  rintro v2 w2 ⟨rfl, b2⟩
  rw [hsz]
  refine L_val _ _ (X_arN (n + 48) rfl rfl rfl (by simp only [arB]; omega) (by omega)) rfl ?_
  refine L_make (l := 0) (c := n + 48) Tryd.underlying25 I5 rfl rfl (by omega) (by omega) (by simp only [maxLen]; omega) rfl fun w3 h3 => ?_
  refine L_val _ _ (X_assign) rfl ?_
  refine L_nil ?_
  repeat (first | refine T_seq ?_ | refine T_block ?_ | refine T_inBlock ?_ | refine T_skip ?_)
  refine T_region ?_
  refine L_alloc Z63 rfl fun w5 h5 => ?_
  refine L_nil ?_
  have s0 := hbel.size
  have s2 := b2.size
  have o3 : w3.ownsRow w0.heap.size 5 1 (.slice (some ⟨w2.heap.size, 0, none⟩) 0 (n + 48)) 0 (iv .u8 []) := owns_made h3 (by omega) (by simp only [maxLen]; omega)
  have s3 := h3.size
  have l3 := h3.lt
  have M2 := hM.below b2
  have M3 := M2.below (h3.below (Below.refl _ _) (Nat.le_refl _))
  have M5 := M3.below (h5.below (Below.refl _ _) (Nat.le_refl _))
  have hP : KS w0.heap.size mb id ip op w0 w5 w2.heap.size (n + 48) 0 (dkL (cT H A.2.1 B.2.1 n) 0) w3.heap.size F l :=
    { mac := M5
      out := ⟨owns_new' h5 o3, fun b hb hf => by have hb' : w2.heap.size = b := Option.some.inj hb; have := (M2.lt b hf).2; omega⟩
      ix := ⟨_, h5.new, rfl⟩
      ixF := fun hf => by have := (M2.lt _ hf).2; omega
      ixb := by omega
      bel := h5.below (h3.below (hbel.trans (b2.mono s0)) (by omega)) (by omega) }
  clear b2 h3 h5 o3 M2 M3 M5 hM e3 e4 hbel
  repeat (first | refine T_seq ?_ | refine T_block ?_ | refine T_inBlock ?_ | refine T_skip ?_)
  refine T_region ?_
  refine L_val _ _ (X_assign) rfl ?_
  refine L_nil ?_
  repeat (first | refine T_seq ?_ | refine T_block ?_ | refine T_inBlock ?_ | refine T_skip ?_)
  refine T_loopS [10, 12, 11, 0, 1, 2, 3] (fun r vs z => ∃ (ib m on og oc : Nat) (F : Nat → Prop) (l : List Int), vs = [.slice (some ⟨og, 0, none⟩) on oc, .int .u32 ((m + 1 : Nat) : Int), .pointer (some ⟨ib, 0, none⟩), .iface 44 (.pointer (some ⟨mb, 0, none⟩)), A.val, B.val, .int .i64 (n : Int)] ∧ on = 48 * m ∧ m ≤ M ∧ r = M - m ∧ KS w0.heap.size mb id ip op w0 z og oc on (dkL (cT H A.2.1 B.2.1 n) m) ib F l) M
    ⟨w3.heap.size, 0, 0, w2.heap.size, _, F, l, rfl, rfl, by omega, rfl, hP⟩ ?_
  clear hP
  rintro r vs ρ z ⟨ib, m, on, og, oc, F, l, rfl, hon, hm, rfl, h⟩ ih
  repeat (first | refine T_seq ?_ | refine T_block ?_ | refine T_inBlock ?_ | refine T_skip ?_)
  refine T_region ?_
  refine L_val _ _ (X_move) rfl ?_
  refine L_val _ _ (X_lenS U25 rfl) rfl ?_
  refine L_val _ _ (X_move) rfl ?_
  refine L_val _ _ (X_cmp rfl rfl rfl) rfl ?_
  refine L_nil ?_
  repeat (first | refine T_seq ?_ | refine T_block ?_ | refine T_inBlock ?_ | refine T_skip ?_)
  refine T_if rfl (fun ht => ?_) (fun hf => ?_)
  case refine_2 =>
    have hge : ¬ on < n := by simpa [cmpB] using hf
    obtain rfl : m = M := by omega
    refine T_exit rfl ?_
    have hoc : on ≤ oc := h.out.blk.choose_spec.2.2.1
    have hb7 := h.out.lt
    repeat (first | refine T_seq ?_ | refine T_block ?_ | refine T_inBlock ?_ | refine T_skip ?_)
    refine T_region ?_
    refine L_val _ _ (X_move) rfl ?_
    refine L_val _ _ (X_move) rfl ?_
    refine L_val _ _ (X_sliceLg U25 S5 rfl rfl (show n ≤ on by omega) hoc) rfl ?_
    refine L_callF [.slice (some ⟨og, if oc = n then 0 else 0 + n * 1, none⟩) (on - n) (oc - n)] E35 rfl rfl (wipeR_ret h.out (by omega) (by omega)) ?_
    rintro v8 z8 ⟨r8, c8⟩
    refine L_nil ?_
    have b8 : Below w0.heap.size w0 z8 := c8.below h.bel (by omega) (fun k e => by omega)
    have M8 := h.mac.keep c8 (fun k hf e => h.out.nF (e ▸ hf))
    repeat (first | refine T_seq ?_ | refine T_block ?_ | refine T_inBlock ?_ | refine T_skip ?_)
    refine T_region ?_
    refine L_val _ _ (X_move) rfl ?_
    refine L_val _ _ (X_move) rfl ?_
    refine L_val _ _ (X_sliceH U25 S5 rfl rfl (show n ≤ oc by omega)) rfl ?_
    refine L_val _ _ (X_assign) rfl ?_
    refine L_val _ _ (X_assign) rfl ?_
    refine L_nil ?_
    refine T_ret2D Tryd.func17 rfl rfl rfl (inv_method MT44r E27) (mreset_both w0.heap.size mb id F ip op l z8 M8).2 ?_
    intro v9 z9 hm9
    have b9 := hm9.below M8 b8 b8.size
    obtain ⟨F9, M9, c9, hF9⟩ := hm9
    have r9 := r8.chs c9 r8.sep
    refine ⟨some ⟨og, 0, none⟩, oc, rfl, ?_, F9, M9, b9⟩
    rw [ckN, ← hMe]
    exact r9.sl
  have hlt : on < n := by simpa [cmpB] using ht
  repeat (first | refine T_seq ?_ | refine T_block ?_ | refine T_inBlock ?_ | refine T_skip ?_)
  refine T_region ?_
  refine L_val _ _ (X_move) rfl ?_
  refine L_callI [] MT44r E27 rfl rfl rfl h.reset_ret ?_
  rintro v1 z1 ⟨F1, h1⟩
  refine L_nil ?_
  repeat (first | refine T_seq ?_ | refine T_block ?_ | refine T_inBlock ?_ | refine T_skip ?_)
  refine T_draw (fun u => Chs (fun k => k = ib) z1 u) 6 rfl rfl fun z2 hsm => ?_
  have b2 : Below z1.heap.size z1 z2 := hsm.below (Below.refl _ _)
  have hS : Chs (fun k => k = ib) z1 z2 := Chs.of_below b2
  refine D_takeT 0 _ rfl (by kernel_rfl) hS (fun w hw => X_move) rfl ?_
  refine D_takeT 1 _ rfl (by kernel_rfl) hS (fun w hw => X_sliceAH (h := 0) U63 S5 rfl rfl (by decide) (by decide)) rfl ?_
  refine D_takeT 2 _ rfl (by kernel_rfl) hS (fun w hw => X_move) rfl ?_
  refine D_takeT 4 _ rfl (by kernel_rfl) hS (fun w hw => X_nilCheckI rfl) rfl ?_
  refine D_takeT 5 _ rfl (by kernel_rfl) hS (fun w hw => X_move) rfl ?_
  skip
  have h2 := h1.below b2
  refine D_callF 3 [.slice (some ⟨ib, 0, none⟩) 0 4, .int .u32 ((m + 1 : Nat) : Int)] rfl (by kernel_rfl) E33 rfl rfl (h2.be_ret (m + 1) (by omega)) ?_
  rintro v3 z3 ⟨rfl, h3, k3, c3⟩
  refine ⟨fun _ => hS.trans c3 (fun _ _ h => h), ?_⟩
  refine D_callR 6 rfl (by kernel_rfl) (X_callI [.slice (some ⟨ib, 0, none⟩) 4 4] MT44w E32 rfl rfl) rfl (h3.write_ret (some ⟨ib, 0, none⟩, be4 (m + 1), 4) k3 (by show ip.length + 4 ≤ _; omega)) ?_
  rintro v4 z4 ⟨F4, h4⟩
  refine ⟨fun h => absurd h (by decide), ?_⟩
  refine D_done (by kernel_rfl) ?_
  have h4' : KS w0.heap.size mb id ip op w0 z4 og oc on (dkL (cT H A.2.1 B.2.1 n) m) ib F4 (ip ++ be4 (m + 1)) := h4
  clear h h1 h2 h3 h4
  repeat (first | refine T_seq ?_ | refine T_block ?_ | refine T_inBlock ?_ | refine T_skip ?_)
  refine T_region ?_
  refine L_val _ _ (X_move) rfl ?_
  refine L_val _ _ (X_move) rfl ?_
  refine L_val _ _ (X_move) rfl ?_
  refine L_val _ _ (X_move) rfl ?_
  refine L_callF [.iface 44 (.pointer (some ⟨mb, 0, none⟩)), A.val, B.val, .int .i64 (n : Int)] E40 rfl rfl (h4'.fixed_ret rfl A B n hA hB hAl hBl (by rw [List.length_append, be4_len]; omega) hn2) ?_
  rintro v5 z5 ⟨F5, h5⟩
  refine L_nil ?_
  have ea : ip ++ be4 (m + 1) ++ fx A.2.1 B.2.1 n = ip ++ (be4 (m + 1) ++ fx A.2.1 B.2.1 n) := List.append_assoc _ _ _
  rw [ea] at h5
  repeat (first | refine T_seq ?_ | refine T_block ?_ | refine T_inBlock ?_ | refine T_skip ?_)
  refine T_region ?_
  refine L_val _ _ (X_move) rfl ?_
  refine L_val _ _ (X_move) rfl ?_
  refine L_callI [.slice (some ⟨og, 0, none⟩) on oc] MT44s E25 rfl rfl rfl (h5.sum_ret (s := 48) (hG.below h5.bel) (by omega) (by rw [List.length_append, List.length_append, be4_len]; omega) (by omega) (by rw [hHe]; exact hHl _) (by decide)) ?_
  rintro v6 z6 ⟨og6, oc6, F6, rfl, hoc6, h6⟩
  refine L_val _ _ (X_assign) rfl ?_
  refine L_nil ?_
  rw [hHe] at h6
  repeat (first | refine T_seq ?_ | refine T_block ?_ | refine T_inBlock ?_ | refine T_skip ?_)
  refine T_region ?_
  refine L_val _ _ (X_move) rfl ?_
  refine L_val _ _ (X_addU (m + 1) 1 rfl rfl (by omega)) rfl ?_
  refine L_val _ _ (X_assign) rfl ?_
  refine L_nil ?_
  exact ih _ _ _ (by omega) ⟨ib, m + 1, on + 48, og6, oc6, F6, _, rfl, by omega, by omega, rfl, h6⟩
set_option maxHeartbeats 8000000 in
set_option maxRecDepth 10000 in
/-- modes.FeedbackKDF over a running HMAC whose digests have 48 octets -/
theorem fk_ret (sn cr : List Int) (id : Nat) (hsz : szD id = 48) (H : List Int → List Int) (ip op l : List Int) (mb : Nat) (V A B : Sl) (n : Nat) (w0 w : World) (hHe : ∀ x, dg sn cr id (op ++ dg sn cr id (ip ++ x)) = H x) (hHl : ∀ x, (H x).length = 48) (hipl : ip.length ≤ 1000)
    (hMB : MacB w0 w mb id ip op l) (hG : Glob sn cr w0) (hV : Sl.ok w0 V) (hA : Sl.ok w0 A) (hB : Sl.ok w0 B) (hVl : V.2.1.length ≤ 1000) (hAl : A.2.1.length ≤ 1000) (hBl : B.2.1.length ≤ 1000) (hn1 : 1 ≤ n) (hn2 : n ≤ 65536) :
    Ret Tryd.prog 19 #[.iface 44 (.pointer (some ⟨mb, 0, none⟩)), V.val, A.val, B.val, .int .i64 (n : Int)] w fun v w' => ∃ a c, v = .tuple #[.slice a n c, .nilIface] ∧ Sl.ok w' (a, fkN H V.2.1 A.2.1 B.2.1 n, c) ∧ MacB w0 w' mb id ip op ip := by
  refine ret_of_T (vs := [.iface 44 (.pointer (some ⟨mb, 0, none⟩)), V.val, A.val, B.val, .int .i64 (n : Int)]) Tryd.func19 Tryd.ntmps19 rfl (Nat.le_of_ble_eq_true rfl) ?_
  obtain ⟨F, hM, hbel⟩ := hMB
  have hgs := hG.size
  have hdl := kdL_len hHl V.2.1 A.2.1 B.2.1 n
  obtain ⟨M, hMe⟩ : ∃ M, M = (n + 47) / 48 := ⟨_, rfl⟩
  have e3 : cmpB .lss (n : Int) 1 = false := by simp [cmpB]; omega
  have e4 : cmpB .gtr (n : Int) 65536 = false := by simp [cmpB]; omega
  have hfl : (fx A.2.1 B.2.1 n).length ≤ 3000 := by simp only [fx, List.length_append, be4_len, List.length_singleton]; omega
  have hkl : ∀ m, (kT H V.2.1 A.2.1 B.2.1 n m).length ≤ 1000 := by
    intro m
    cases m with
    | zero => exact hVl
    | succ m => rw [kT, hHl]; decide
  repeat (first | refine T_seq ?_ | refine T_block ?_ | refine T_inBlock ?_ | refine T_skip ?_)
  refine T_region ?_
  refine L_val _ _ (X_assign) rfl ?_
  refine L_val _ _ (X_assign) rfl ?_
  refine L_nil ?_
  refine T_seq ?_
  refine T_seq ?_
  refine T_region ?_
  refine L_val _ _ (X_move) rfl ?_
  refine L_val _ _ (X_cmpR false rfl rfl rfl e3) rfl ?_
  refine L_val _ _ (X_move) rfl ?_
  refine L_guard rfl rfl rfl ?_
  refine L_val _ _ (X_move) rfl ?_
  refine L_guard rfl rfl rfl ?_
  refine L_val _ _ (X_cmpR false rfl rfl rfl e4) rfl ?_
  refine L_val _ _ (X_pick rfl) rfl ?_
  refine L_nil ?_
  refine T_false rfl ?_
  refine T_skip ?_
  repeat (first | refine T_seq ?_ | refine T_block ?_ | refine T_inBlock ?_ | refine T_skip ?_)
  refine T_region ?_
  refine L_val _ _ (X_move) rfl ?_
  refine L_val _ _ (X_nilCheckI rfl) rfl ?_
  refine L_deferI rfl ?_
  refine L_nil ?_
  repeat (first | refine T_seq ?_ | refine T_block ?_ | refine T_inBlock ?_ | refine T_skip ?_)
  refine T_region ?_
  refine L_val _ _ (X_move) rfl ?_
  refine L_val _ _ (X_move) rfl ?_
  refine L_callI [] MT44z E24 rfl rfl rfl (msize_ret w0.heap.size mb id F ip op l w hM) ?_
  rintro v2 w2 ⟨rfl, b2⟩
  rw [hsz]
  refine L_val _ _ (X_arN (n + 48) rfl rfl rfl (by simp only [arB]; omega) (by omega)) rfl ?_
  refine L_make (l := 0) (c := n + 48) Tryd.underlying25 I5 rfl rfl (by omega) (by omega) (by simp only [maxLen]; omega) rfl fun w3 h3 => ?_
  refine L_val _ _ (X_assign) rfl ?_
  refine L_nil ?_
  repeat (first | refine T_seq ?_ | refine T_block ?_ | refine T_inBlock ?_ | refine T_skip ?_)
  refine T_region ?_
  refine L_val _ _ (X_move) rfl ?_
  refine L_val _ _ (X_assign) rfl ?_
  refine L_nil ?_
  repeat (first | refine T_seq ?_ | refine T_block ?_ | refine T_inBlock ?_ | refine T_skip ?_)
  refine T_region ?_
  refine L_alloc Z63 rfl fun w5 h5 => ?_
  refine L_nil ?_
  have s0 := hbel.size
  have s2 := b2.size
  have o3 : w3.ownsRow w0.heap.size 5 1 (.slice (some ⟨w2.heap.size, 0, none⟩) 0 (n + 48)) 0 (iv .u8 []) := owns_made h3 (by omega) (by simp only [maxLen]; omega)
  have s3 := h3.size
  have l3 := h3.lt
  have M2 := hM.below b2
  have M3 := M2.below (h3.below (Below.refl _ _) (Nat.le_refl _))
  have M5 := M3.below (h5.below (Below.refl _ _) (Nat.le_refl _))
  have hP : KS w0.heap.size mb id ip op w0 w5 w2.heap.size (n + 48) 0 (dkL (kT H V.2.1 A.2.1 B.2.1 n) 0) w3.heap.size F l :=
    { mac := M5
      out := ⟨owns_new' h5 o3, fun b hb hf => by have hb' : w2.heap.size = b := Option.some.inj hb; have := (M2.lt b hf).2; omega⟩
      ix := ⟨_, h5.new, rfl⟩
      ixF := fun hf => by have := (M2.lt _ hf).2; omega
      ixb := by omega
      bel := h5.below (h3.below (hbel.trans (b2.mono s0)) (by omega)) (by omega) }
  clear b2 h3 h5 o3 M2 M3 M5 hM e3 e4 hbel
  repeat (first | refine T_seq ?_ | refine T_block ?_ | refine T_inBlock ?_ | refine T_skip ?_)
  refine T_region ?_
  refine L_val _ _ (X_assign) rfl ?_
  refine L_nil ?_
  repeat (first | refine T_seq ?_ | refine T_block ?_ | refine T_inBlock ?_ | refine T_skip ?_)
  refine T_loopS [12, 13, 15, 14, 0, 2, 3, 4] (fun r vs z => ∃ (ib m on og oc : Nat) (F : Nat → Prop) (l : List Int) (ba : Option Addr) (bc : Nat), vs = [.slice (some ⟨og, 0, none⟩) on oc, Sl.val (ba, kT H V.2.1 A.2.1 B.2.1 n m, bc), .int .u32 ((m + 1 : Nat) : Int), .pointer (some ⟨ib, 0, none⟩), .iface 44 (.pointer (some ⟨mb, 0, none⟩)), A.val, B.val, .int .i64 (n : Int)] ∧ on = 48 * m ∧ m ≤ M ∧ r = M - m ∧ (∀ z' F' l', KS w0.heap.size mb id ip op w0 z' og oc on (dkL (kT H V.2.1 A.2.1 B.2.1 n) m) ib F' l' → Sl.ok z' (ba, kT H V.2.1 A.2.1 B.2.1 n m, bc)) ∧ KS w0.heap.size mb id ip op w0 z og oc on (dkL (kT H V.2.1 A.2.1 B.2.1 n) m) ib F l) M
    ⟨w3.heap.size, 0, 0, w2.heap.size, _, F, l, V.1, V.2.2, rfl, rfl, by omega, rfl, fun z' F' l' h => hV.below h.bel, hP⟩ ?_
  clear hP
  rintro r vs ρ z ⟨ib, m, on, og, oc, F, l, ba, bc, rfl, hon, hm, rfl, hbf, h⟩ ih
  repeat (first | refine T_seq ?_ | refine T_block ?_ | refine T_inBlock ?_ | refine T_skip ?_)
  refine T_region ?_
  refine L_val _ _ (X_move) rfl ?_
  refine L_val _ _ (X_lenS U25 rfl) rfl ?_
  refine L_val _ _ (X_move) rfl ?_
  refine L_val _ _ (X_cmp rfl rfl rfl) rfl ?_
  refine L_nil ?_
  repeat (first | refine T_seq ?_ | refine T_block ?_ | refine T_inBlock ?_ | refine T_skip ?_)
  refine T_if rfl (fun ht => ?_) (fun hf => ?_)
  case refine_2 =>
    have hge : ¬ on < n := by simpa [cmpB] using hf
    obtain rfl : m = M := by omega
    refine T_exit rfl ?_
    have hoc : on ≤ oc := h.out.blk.choose_spec.2.2.1
    have hb7 := h.out.lt
    repeat (first | refine T_seq ?_ | refine T_block ?_ | refine T_inBlock ?_ | refine T_skip ?_)
    refine T_region ?_
    refine L_val _ _ (X_move) rfl ?_
    refine L_val _ _ (X_move) rfl ?_
    refine L_val _ _ (X_sliceLg U25 S5 rfl rfl (show n ≤ on by omega) hoc) rfl ?_
    refine L_callF [.slice (some ⟨og, if oc = n then 0 else 0 + n * 1, none⟩) (on - n) (oc - n)] E35 rfl rfl (wipeR_ret h.out (by omega) (by omega)) ?_
    rintro v8 z8 ⟨r8, c8⟩
    refine L_nil ?_
    have b8 : Below w0.heap.size w0 z8 := c8.below h.bel (by omega) (fun k e => by omega)
    have M8 := h.mac.keep c8 (fun k hf e => h.out.nF (e ▸ hf))
    repeat (first | refine T_seq ?_ | refine T_block ?_ | refine T_inBlock ?_ | refine T_skip ?_)
    refine T_region ?_
    refine L_val _ _ (X_move) rfl ?_
    refine L_val _ _ (X_move) rfl ?_
    refine L_val _ _ (X_sliceH U25 S5 rfl rfl (show n ≤ oc by omega)) rfl ?_
    refine L_val _ _ (X_assign) rfl ?_
    refine L_val _ _ (X_assign) rfl ?_
    refine L_nil ?_
    refine T_ret2D Tryd.func19 rfl rfl rfl (inv_method MT44r E27) (mreset_both w0.heap.size mb id F ip op l z8 M8).2 ?_
    intro v9 z9 hm9
    have b9 := hm9.below M8 b8 b8.size
    obtain ⟨F9, M9, c9, hF9⟩ := hm9
    have r9 := r8.chs c9 r8.sep
    refine ⟨some ⟨og, 0, none⟩, oc, rfl, ?_, F9, M9, b9⟩
    rw [fkN, ← hMe]
    exact r9.sl
  have hlt : on < n := by simpa [cmpB] using ht
  have hkm := hkl m
  repeat (first | refine T_seq ?_ | refine T_block ?_ | refine T_inBlock ?_ | refine T_skip ?_)
  refine T_region ?_
  refine L_val _ _ (X_move) rfl ?_
  refine L_callI [] MT44r E27 rfl rfl rfl h.reset_ret ?_
  rintro v1 z1 ⟨F1, h1⟩
  refine L_nil ?_
  repeat (first | refine T_seq ?_ | refine T_block ?_ | refine T_inBlock ?_ | refine T_skip ?_)
  refine T_region ?_
  refine L_val _ _ (X_move) rfl ?_
  refine L_val _ _ (X_move) rfl ?_
  refine L_callI [Sl.val (ba, kT H V.2.1 A.2.1 B.2.1 n m, bc)] MT44w E32 rfl rfl rfl (h1.write_ret (ba, kT H V.2.1 A.2.1 B.2.1 n m, bc) (hbf _ _ _ h1) (by show ip.length + (kT H V.2.1 A.2.1 B.2.1 n m).length ≤ _; omega)) ?_
  rintro v1' z1' ⟨F1', h1'⟩
  refine L_nil ?_
  repeat (first | refine T_seq ?_ | refine T_block ?_ | refine T_inBlock ?_ | refine T_skip ?_)
  refine T_draw (fun u => Chs (fun k => k = ib) z1' u) 6 rfl rfl fun z2 hsm => ?_
  have b2 : Below z1'.heap.size z1' z2 := hsm.below (Below.refl _ _)
  have hS : Chs (fun k => k = ib) z1' z2 := Chs.of_below b2
  refine D_takeT 0 _ rfl (by kernel_rfl) hS (fun w hw => X_move) rfl ?_
  refine D_takeT 1 _ rfl (by kernel_rfl) hS (fun w hw => X_sliceAH (h := 0) U63 S5 rfl rfl (by decide) (by decide)) rfl ?_
  refine D_takeT 2 _ rfl (by kernel_rfl) hS (fun w hw => X_move) rfl ?_
  refine D_takeT 4 _ rfl (by kernel_rfl) hS (fun w hw => X_nilCheckI rfl) rfl ?_
  refine D_takeT 5 _ rfl (by kernel_rfl) hS (fun w hw => X_move) rfl ?_
  skip
  have h2 := h1'.below b2
  refine D_callF 3 [.slice (some ⟨ib, 0, none⟩) 0 4, .int .u32 ((m + 1 : Nat) : Int)] rfl (by kernel_rfl) E33 rfl rfl (h2.be_ret (m + 1) (by omega)) ?_
  rintro v3 z3 ⟨rfl, h3, k3, c3⟩
  refine ⟨fun _ => hS.trans c3 (fun _ _ h => h), ?_⟩
  refine D_callR 6 rfl (by kernel_rfl) (X_callI [.slice (some ⟨ib, 0, none⟩) 4 4] MT44w E32 rfl rfl) rfl (h3.write_ret (some ⟨ib, 0, none⟩, be4 (m + 1), 4) k3 (by show (ip ++ kT H V.2.1 A.2.1 B.2.1 n m).length + 4 ≤ _; rw [List.length_append]; omega)) ?_
  rintro v4 z4 ⟨F4, h4⟩
  refine ⟨fun h => absurd h (by decide), ?_⟩
  refine D_done (by kernel_rfl) ?_
  have h4' : KS w0.heap.size mb id ip op w0 z4 og oc on (dkL (kT H V.2.1 A.2.1 B.2.1 n) m) ib F4 (ip ++ kT H V.2.1 A.2.1 B.2.1 n m ++ be4 (m + 1)) := h4
  clear h h1 h1' h2 h3 h4
  repeat (first | refine T_seq ?_ | refine T_block ?_ | refine T_inBlock ?_ | refine T_skip ?_)
  refine T_region ?_
  refine L_val _ _ (X_move) rfl ?_
  refine L_val _ _ (X_move) rfl ?_
  refine L_val _ _ (X_move) rfl ?_
  refine L_val _ _ (X_move) rfl ?_
  refine L_callF [.iface 44 (.pointer (some ⟨mb, 0, none⟩)), A.val, B.val, .int .i64 (n : Int)] E40 rfl rfl (h4'.fixed_ret rfl A B n hA hB hAl hBl (by rw [List.length_append, List.length_append, be4_len]; omega) hn2) ?_
  rintro v5 z5 ⟨F5, h5⟩
  refine L_nil ?_
  have ea : ip ++ kT H V.2.1 A.2.1 B.2.1 n m ++ be4 (m + 1) ++ fx A.2.1 B.2.1 n = ip ++ (kT H V.2.1 A.2.1 B.2.1 n m ++ (be4 (m + 1) ++ fx A.2.1 B.2.1 n)) := by simp only [List.append_assoc]
  rw [ea] at h5
  repeat (first | refine T_seq ?_ | refine T_block ?_ | refine T_inBlock ?_ | refine T_skip ?_)
  refine T_region ?_
  refine L_val _ _ (X_move) rfl ?_
  refine L_val _ _ (X_lenS U25 rfl) rfl ?_
  refine L_val _ _ (X_assign) rfl ?_
  refine L_nil ?_
  repeat (first | refine T_seq ?_ | refine T_block ?_ | refine T_inBlock ?_ | refine T_skip ?_)
  refine T_region ?_
  refine L_val _ _ (X_move) rfl ?_
  refine L_val _ _ (X_move) rfl ?_
  refine L_callI [.slice (some ⟨og, 0, none⟩) on oc] MT44s E25 rfl rfl rfl (h5.sum_ret (s := 48) (hG.below h5.bel) (by omega) (by rw [List.length_append, List.length_append, List.length_append, be4_len]; omega) (by omega) (by rw [hHe]; exact hHl _) (by decide)) ?_
  rintro v6 z6 ⟨og6, oc6, F6, rfl, hoc6, h6⟩
  refine L_val _ _ (X_assign) rfl ?_
  refine L_nil ?_
  rw [hHe] at h6
  have hk1 : (kT H V.2.1 A.2.1 B.2.1 n (m + 1)).length = 48 := hHl _
  have hdm := hdl m
  repeat (first | refine T_seq ?_ | refine T_block ?_ | refine T_inBlock ?_ | refine T_skip ?_)
  refine T_region ?_
  refine L_val _ _ (X_move) rfl ?_
  refine L_val _ _ (X_move) rfl ?_
  refine L_val _ _ (X_sliceLr on (kT H V.2.1 A.2.1 B.2.1 n (m + 1)).length (oc6 - on) U25 S5 rfl rfl (by omega) (by omega) (by omega) (by omega) rfl) rfl ?_
  refine L_val _ _ (X_assign) rfl ?_
  refine L_nil ?_
  repeat (first | refine T_seq ?_ | refine T_block ?_ | refine T_inBlock ?_ | refine T_skip ?_)
  refine T_region ?_
  refine L_val _ _ (X_move) rfl ?_
  refine L_val _ _ (X_addU (m + 1) 1 rfl rfl (by omega)) rfl ?_
  refine L_val _ _ (X_assign) rfl ?_
  refine L_nil ?_
  refine ih _ _ _ (by omega) ⟨ib, m + 1, on + 48, og6, oc6, F6, _, some ⟨og6, on, none⟩, oc6 - on, rfl, by omega, by omega, rfl, fun z' F' l' h' => ⟨?_, fun h => by cases h⟩, h6⟩
  have h7 := ints_drop (n := on) h'.out.sl.1
  have e7 : (dkL (kT H V.2.1 A.2.1 B.2.1 n) (m + 1)).drop on = kT H V.2.1 A.2.1 B.2.1 n (m + 1) := by
    rw [dkL, List.drop_left' (by omega)]
  simp only [e7, Nat.zero_add] at h7
  exact h7
end Go.Proofs.Qxb6500863aDoor
