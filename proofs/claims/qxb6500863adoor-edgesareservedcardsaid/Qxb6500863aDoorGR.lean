/-
  modes.PBKDF2.
-/
import Derived.Test.Qxb6500863aDoorGQ
namespace Go.Proofs.Qxb6500863aDoor
set_option linter.unusedSimpArgs false
set_option linter.unusedVariables false
open Go.RowKit
/-- U(j+1) and T so far. -/
def ut (H : List Int → List Int) (x : List Int) : Nat → List Int × List Int
  | 0 => (H x, H x)
  | j + 1 => (H (ut H x j).1, zx (ut H x j).2 (H (ut H x j).1) (ut H x j).2.length)
theorem ut_len {H : List Int → List Int} {s : Nat} (hH : ∀ x, (H x).length = s) (x : List Int) : ∀ j, (ut H x j).1.length = s ∧ (ut H x j).2.length = s
  | 0 => ⟨hH _, hH _⟩
  | j + 1 => ⟨hH _, by rw [ut, zx_len]; exact (ut_len hH x j).2⟩
def dkL (T : Nat → List Int) : Nat → List Int
  | 0 => []
  | m + 1 => dkL T m ++ T (m + 1)
theorem dkL_len {T : Nat → List Int} {s : Nat} (hT : ∀ i, (T i).length = s) : ∀ m, (dkL T m).length = m * s
  | 0 => by simp [dkL]
  | m + 1 => by rw [dkL, List.length_append, dkL_len hT m, hT, Nat.succ_mul]
def pT (H : List Int → List Int) (s : List Int) (count i : Nat) : List Int := (ut H (s ++ be4 i) (count - 1)).2
theorem pT_len {H : List Int → List Int} {s : Nat} (hH : ∀ x, (H x).length = s) (sl : List Int) (count i : Nat) : (pT H sl count i).length = s := (ut_len hH _ _).2
/-- What PBKDF2 derives (digests of 16 octets). -/
def pbN (H : List Int → List Int) (s : List Int) (count n : Nat) : List Int := (dkL (pT H s count) ((n + 15) / 16)).take n
structure PS (base mb id : Nat) (ip op : List Int) (w0 z : World) (og oc on : Nat) (ol : List Int) (ug uc un : Nat) (ul : List Int) (ib : Nat) (F : Nat → Prop) (l : List Int) : Prop where
  mac : Mac z base F mb id ip op l
  out : Rw z base F (.slice (some ⟨og, 0, none⟩) on oc) on ol
  u : Rw z base F (.slice (some ⟨ug, 0, none⟩) un uc) un ul
  ne : og ≠ ug
  ix : ∃ cur, Blk z ib cur 63 ∧ cur.size = 4
  ixF : ¬ F ib
  ixb : base ≤ ib
  bel : Below base w0 z
section
variable {base mb id : Nat} {ip op : List Int} {w0 z z' : World} {og oc on : Nat} {ol : List Int} {ug uc un : Nat} {ul : List Int} {ib : Nat} {F : Nat → Prop} {l l' : List Int}
theorem PS.hbs (h : PS base mb id ip op w0 z og oc on ol ug uc un ul ib F l) : base ≤ z.heap.size := Nat.le_trans h.out.lt.1 (Nat.le_of_lt h.out.lt.2)
theorem PS.meff (h : PS base mb id ip op w0 z og oc on ol ug uc un ul ib F l) (hm : MEff z base F mb id ip op l' z') : ∃ F', PS base mb id ip op w0 z' og oc on ol ug uc un ul ib F' l' := by
  have b := hm.below h.mac h.bel h.hbs
  obtain ⟨F', hM, c, hF⟩ := hm
  obtain ⟨cur, kx, sx⟩ := h.ix
  have hx := kx.lt
  exact ⟨F', hM, h.out.step c hF, h.u.step c hF, h.ne, ⟨cur, c.blk kx h.ixF, sx⟩, fun hf => (hF ib hf).elim h.ixF (fun hge => by omega), h.ixb, b⟩
theorem PS.reset_ret (h : PS base mb id ip op w0 z og oc on ol ug uc un ul ib F l) : Ret Tryd.prog 27 #[.pointer (some ⟨mb, 0, none⟩)] z fun v z' => ∃ F', PS base mb id ip op w0 z' og oc on ol ug uc un ul ib F' ip :=
  (mreset_ret base mb id F ip op l z h.mac).mono fun v z' hm => h.meff hm
theorem PS.write_ret (h : PS base mb id ip op w0 z og oc on ol ug uc un ul ib F l) (X : Sl) (hX : Sl.ok z X) (hl : l.length + X.2.1.length ≤ 10000000) : Ret Tryd.prog 32 #[.pointer (some ⟨mb, 0, none⟩), X.val] z fun v z' => ∃ F', PS base mb id ip op w0 z' og oc on ol ug uc un ul ib F' (l ++ X.2.1) :=
  (mwrite_ret base mb id F ip op l X z h.mac hX hl).mono fun v z' hm => h.meff hm
theorem PS.writeU_ret (h : PS base mb id ip op w0 z og oc on ol ug uc un ul ib F l) (hl : l.length + un ≤ 10000000) : Ret Tryd.prog 32 #[.pointer (some ⟨mb, 0, none⟩), .slice (some ⟨ug, 0, none⟩) un uc] z fun v z' => ∃ F', PS base mb id ip op w0 z' og oc on ol ug uc un ul ib F' (l ++ ul) :=
  ret_args (by rw [Sl.val, h.u.len]) (h.write_ret (some ⟨ug, 0, none⟩, ul, uc) h.u.sl (by show l.length + ul.length ≤ _; rw [h.u.len]; exact hl))
theorem PS.be_ret (h : PS base mb id ip op w0 z og oc on ol ug uc un ul ib F l) (i : Nat) (hi : i < 4294967296) : Ret Tryd.prog 33 #[.slice (some ⟨ib, 0, none⟩) 0 4, .int .u32 (i : Int)] z fun v z' => v = .slice (some ⟨ib, 0, none⟩) 4 4 ∧ PS base mb id ip op w0 z' og oc on ol ug uc un ul ib F l ∧ Sl.ok z' (some ⟨ib, 0, none⟩, be4 i, 4) := by
  obtain ⟨cur, kx, sx⟩ := h.ix
  refine (Qxb6500863aDoor.be_ret ib i cur 63 z kx sx hi).mono ?_
  rintro v z' ⟨rfl, k', c⟩
  refine ⟨rfl, ⟨h.mac.keep c (fun k hf e => h.ixF (e ▸ hf)), h.out.chs c (fun b hb e => h.out.ne kx (by decide) (by rw [← e]; exact (Option.some.inj hb).symm)), h.u.chs c (fun b hb e => h.u.ne kx (by decide) (by rw [← e]; exact (Option.some.inj hb).symm)), h.ne, ⟨_, k', by simp [iv_len, be4_len]⟩, h.ixF, h.ixb, c.below h.bel h.hbs (fun k e => e ▸ h.ixb)⟩, ints_blk k', fun h => by cases h⟩
theorem PS.sum_ret {sn cr : List Int} {s : Nat} (h : PS base mb id ip op w0 z og oc on ol ug uc un ul ib F l) (hG : Glob sn cr z) (hb2 : 2 ≤ base) (hl : l.length ≤ 1000000) (hs : (dg sn cr id (op ++ dg sn cr id l)).length = s) (hs0 : 0 < s) :
    Ret Tryd.prog 25 #[.pointer (some ⟨mb, 0, none⟩), .slice (some ⟨ug, 0, none⟩) 0 uc] z fun v z' => ∃ ug' uc' F', v = .slice (some ⟨ug', 0, none⟩) s uc' ∧ PS base mb id ip op w0 z' og oc on ol ug' uc' s (dg sn cr id (op ++ dg sn cr id l)) ib F' l := by
  have ou : z.ownsRow base 5 1 (.slice (some ⟨ug, 0, none⟩) 0 uc) 0 (iv .u8 []) := by
    have h1 := h.u.own
    rw [← List.nil_append (iv .u8 ul)] at h1
    exact owns_head h1 rfl (Nat.zero_le _)
  obtain ⟨cur, kx, sx⟩ := h.ix
  have hx := kx.lt
  have hug := h.u.lt
  have hog := h.out.lt
  refine (msum_ret sn cr base mb id F ip op l [] (.slice (some ⟨ug, 0, none⟩) 0 uc) z hG hb2 h.mac ou h.u.sep hl (by simp)).mono ?_
  rintro v z' ⟨o, -, ⟨F', hM, hF, hvF⟩, c, p⟩
  rw [List.nil_append, hs] at o
  obtain ⟨g, cg, cur', rfl, hgb, kg, hgc, hgm, hgs, htk⟩ := owns_some o hs0
  have hg : g = ug ∨ z.heap.size ≤ g := by
    rcases p with e | ⟨k, e, hk⟩
    · exact .inl (Option.some.inj e)
    · have : g = k := Option.some.inj e
      exact .inr (by omega)
  have hxu : ib ≠ ug := h.u.ne kx (by decide)
  refine ⟨g, cg, F', rfl, hM, ⟨c.owns h.out.own (fun b hb e => ?_), fun b hb hf => ?_⟩, ⟨o, hvF⟩, by have := h.ne; omega, ⟨cur, c.blk kx (fun e => e.elim h.ixF (fun e => hxu (Option.some.inj e).symm)), sx⟩, fun hf => (hF ib hf).elim h.ixF (fun hge => by omega), h.ixb, c.below h.bel h.hbs (fun k e => e.elim (fun e => (h.mac.lt k e).1) (fun e => by have : ug = k := Option.some.inj e; omega))⟩
  · exact e.elim (h.out.sep b hb) (fun e => h.ne ((Option.some.inj hb).trans (Option.some.inj e).symm))
  · have hb' : og = b := Option.some.inj hb
    exact (hF b hf).elim (h.out.sep b hb) (fun hge => by omega)
theorem PS.app {v1 : Value} {z1 : World} {n : Nat} (h : PS base mb id ip op w0 z og oc on ol ug uc un ul ib F l) (hn : on + un = n) (hn0 : 0 < n) (o1 : z1.ownsRow base 5 1 v1 (on + un) (iv .u8 ol ++ iv .u8 ul)) (g1 : z.grownBy z1 (Value.slice (some ⟨og, 0, none⟩) on oc).ownBlock) (p1 : v1.ownBlock = (Value.slice (some ⟨og, 0, none⟩) on oc).ownBlock ∨ v1.ownBlock = some z.heap.size) :
    ∃ og' oc', v1 = .slice (some ⟨og', 0, none⟩) n oc' ∧ n ≤ oc' ∧ PS base mb id ip op w0 z1 og' oc' n (ol ++ ul) ug uc un ul ib F l := by
  subst hn
  rw [← iv_app] at o1
  obtain ⟨g, cg, cur', rfl, hgb, kg, hgc, hgm, hgs, htk⟩ := owns_some o1 hn0
  have c : Chs (fun k => k = og) z z1 := Chs.of_grown g1 (fun b hb => (Option.some.inj hb).symm)
  obtain ⟨cur, kx, sx⟩ := h.ix
  have hx := kx.lt
  have hug := h.u.lt
  have hog := h.out.lt
  have hg : g = og ∨ g = z.heap.size := by
    rcases p1 with e | e
    · exact .inl (Option.some.inj e)
    · exact .inr (Option.some.inj e)
  refine ⟨g, cg, rfl, hgc, h.mac.keep c (fun k hf e => h.out.nF (e ▸ hf)), ⟨o1, fun b hb hf => ?_⟩, h.u.chs c (fun b hb e => h.ne (by rw [← e]; exact (Option.some.inj hb).symm)), ?_, ⟨cur, c.blk kx (h.out.ne kx (by decide)), sx⟩, h.ixF, h.ixb, c.below h.bel h.hbs (fun k e => by omega)⟩
  · have hb' : g = b := Option.some.inj hb
    rcases hg with e | e
    · exact h.out.nF (by rw [← e, hb']; exact hf)
    · have := (h.mac.lt b hf).2
      omega
  · have := h.ne
    omega
theorem PS.xor_ret {p t : List Int} {pl tl : Nat} (h : PS base mb id ip op w0 z og oc on (p ++ t) ug uc un ul ib F l) (hp : p.length = pl) (ht : t.length = tl) (hu : un = tl) (hon : on ≤ 1000000) :
    Ret Tryd.prog 34 #[.slice (some ⟨og, pl, none⟩) tl (oc - pl), .slice (some ⟨og, pl, none⟩) tl (oc - pl), .slice (some ⟨ug, 0, none⟩) un uc] z fun v z' => PS base mb id ip op w0 z' og oc on (p ++ zx t ul t.length) ug uc un ul ib F l := by
  subst hp ht
  have hul := h.u.len
  have hol := h.out.len
  rw [List.length_append] at hol
  obtain ⟨cur, kx, sx⟩ := h.ix
  have hog := h.out.lt
  have hr := xorIn_ret base og on oc p t (some ⟨ug, 0, none⟩, ul, uc) z h.out.own (by show ul.length = _; omega) h.u.sl (fun ad had e => h.ne (by have : ad = ⟨ug, 0, none⟩ := (Option.some.inj had).symm; rw [this] at e; exact e.symm)) hon hol
  rw [Nat.zero_add, Nat.mul_one] at hr
  refine (ret_args (by rw [Sl.val, hul]) hr).mono ?_
  rintro v z' ⟨o, c⟩
  exact ⟨h.mac.keep c (fun k hf e => h.out.nF (e ▸ hf)), ⟨o, h.out.sep⟩, h.u.chs c (fun b hb e => h.ne (by rw [← e]; exact (Option.some.inj hb).symm)), h.ne, ⟨cur, c.blk kx (h.out.ne kx (by decide)), sx⟩, h.ixF, h.ixb, c.below h.bel h.hbs (fun k e => by omega)⟩
theorem PS.wipeU_ret (h : PS base mb id ip op w0 z og oc on ol ug uc un ul ib F l) (hun : un ≤ 1000000) : Ret Tryd.prog 35 #[.slice (some ⟨ug, 0, none⟩) un uc] z fun v z' => Mac z' base F mb id ip op l ∧ Rw z' base F (.slice (some ⟨og, 0, none⟩) on oc) on ol ∧ Below base w0 z' := by
  obtain ⟨cur, kg, hcs, hNc, htk⟩ := h.u.blk
  have hug := h.u.lt
  refine (wipe_ret ug 0 un uc cur 5 z kg (by omega) (by omega)).mono ?_
  intro v z' c
  exact ⟨h.mac.keep c (fun k hf e => h.u.nF (e ▸ hf)), h.out.chs c (fun b hb e => h.ne (by rw [← e]; exact Option.some.inj hb)), c.below h.bel h.hbs (fun k e => by omega)⟩
end
end Go.Proofs.Qxb6500863aDoor
