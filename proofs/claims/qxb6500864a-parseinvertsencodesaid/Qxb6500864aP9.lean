/-
  What reading makes of what was written, in plain words.
-/
import Derived.Test.Qxb6500864aP8
import Derived.Laws.StructEq
namespace Go.Proofs.Qxb6500864a
set_option linter.unusedSimpArgs false
set_option linter.unusedVariables false
open Go.RowKit
def Mic (h : Hd) : Prop := ∃ fl a b c d e f g i, h = ⟨1028, fl, 0, 0, be [a, b, c, d, e, f, g, i]⟩ ∧ octN h = [4, 4, fl, 255, 255, 255, 255, 255, a, b, c, d, e, f, g, i] ∧ fl < 8 ∧ fl / 2 % 2 ≠ 1
def Wrp (h : Hd) : Prop := ∃ fl p q r s a b c d e f g i, h = ⟨1284, fl, p * 256 + q, r * 256 + s, be [a, b, c, d, e, f, g, i]⟩ ∧ octN h = [5, 4, fl, 255, p, q, r, s, a, b, c, d, e, f, g, i] ∧ fl < 8
theorem oct_cases {h : Hd} (hk : h.ok) (hc : chk h = 0) : Mic h ∨ Wrp h := by
  obtain ⟨id, fl, ec, rrc, seq⟩ := h
  obtain ⟨h1, h2, h3, h4, h5⟩ := hk
  simp only at h1 h2 h3 h4 h5
  have hbe := be_eight h5
  rw [eight_eq] at hbe
  unfold chk at hc
  simp only at hc
  split at hc
  · omega
  split at hc
  · omega
  split at hc
  · omega
  split at hc
  · omega
  rename_i q1 q2 q3 q4
  by_cases hm : id = 1028
  · subst hm
    have e1 : ec = 0 := by omega
    have e2 : rrc = 0 := by omega
    subst e1 e2
    refine .inl ⟨fl, _, _, _, _, _, _, _, _, by rw [hbe], ?_, by omega, by omega⟩
    simp [octN, two, eight_eq]
  · have hw : id = 1284 := by omega
    subst hw
    have e1 : ec / 256 * 256 + ec % 256 = ec := Nat.div_add_mod' ec 256
    have e2 : rrc / 256 * 256 + rrc % 256 = rrc := Nat.div_add_mod' rrc 256
    refine .inr ⟨fl, ec / 256, ec % 256, rrc / 256, rrc % 256, _, _, _, _, _, _, _, _, by rw [hbe, e1, e2], ?_, by omega⟩
    simp [octN, two, eight_eq]
theorem oct_lt {h : Hd} (hk : h.ok) : ∀ x ∈ octN h, x < 256 := by
  have h1 := hk.id
  have h2 := hk.fl
  have h3 := hk.ec
  have h4 := hk.rrc
  intro x hx
  unfold octN at hx
  simp only [two, eight, List.mem_append, List.mem_cons, List.not_mem_nil, or_false, List.mem_map] at hx
  rcases hx with (((hx | hx) | hx) | hx) | ⟨j, _, hx⟩
  · omega
  · omega
  · omega
  · split at hx
    · simp only [List.mem_append, List.mem_cons, List.not_mem_nil, or_false] at hx
      omega
    · simp only [List.mem_replicate] at hx
      omega
  · omega
/-- Reading inverts writing. -/
theorem par_oct {h : Hd} (hk : h.ok) (hc : chk h = 0) (r : List Nat) : par (octN h ++ r) = 0 ∧ parH (octN h ++ r) = h := by
  have key : hdOf (octN h ++ r) = h ∧ filOk (octN h ++ r) = true ∧ ¬ (octN h ++ r).length < 16 := by
    rcases oct_cases hk hc with ⟨fl, a, b, c, d, e, f, g, i, hh, ho, hf, hs⟩ | ⟨fl, p, q, r', s, a, b, c, d, e, f, g, i, hh, ho, hf⟩
    · rw [ho, hh]
      exact ⟨by simp [hdOf, gt], by simp [filOk, filEnd, gt], by simp⟩
    · rw [ho, hh]
      exact ⟨by simp [hdOf, gt], by simp [filOk, filEnd, gt], by simp⟩
  obtain ⟨k1, k2, k3⟩ := key
  have hp : par (octN h ++ r) = 0 := by rw [par, if_neg k3, k1, if_neg (not_not_intro hc), if_pos k2]
  exact ⟨hp, by rw [parH, if_pos hp, k1]⟩
theorem par_short {l : List Nat} (h : l.length < 16) : par l = 8 := by rw [par, if_pos h]
/-- Another token ID. -/
theorem par_id {h : Hd} (hk : h.ok) (hc : chk h = 0) (i : Nat) (h1 : i ≠ 1028) (h2 : i ≠ 1284) : par (((octN h).set 0 (i / 256)).set 1 (i % 256)) = 9 := by
  have key : ∃ l : List Nat, octN h = l ∧ ∃ x y z, l = x :: y :: z ∧ z.length = 14 := by
    rcases oct_cases hk hc with ⟨fl, a, b, c, d, e, f, g, i, hh, ho, hf, hs⟩ | ⟨fl, p, q, r', s, a, b, c, d, e, f, g, i, hh, ho, hf⟩
    · exact ⟨_, ho, _, _, _, rfl, rfl⟩
    · exact ⟨_, ho, _, _, _, rfl, rfl⟩
  obtain ⟨l, ho, x, y, z, rfl, hz⟩ := key
  rw [ho]
  show par (i / 256 :: i % 256 :: z) = 9
  have hid : (hdOf (i / 256 :: i % 256 :: z)).id = i := by
    show (i / 256) * 256 + i % 256 = i
    omega
  have hck : chk (hdOf (i / 256 :: i % 256 :: z)) = 9 := by rw [chk, hid, if_pos ⟨h1, h2⟩]
  rw [par, if_neg (by simp [hz]), hck, if_pos (by decide)]
/-- A reserved flag. -/
theorem par_fl {h : Hd} (hk : h.ok) (hc : chk h = 0) (x : Nat) (h8 : 8 ≤ x) : par ((octN h).set 2 x) = 6 := by
  rcases oct_cases hk hc with ⟨fl, a, b, c, d, e, f, g, i, hh, ho, hf, hs⟩ | ⟨fl, p, q, r', s, a, b, c, d, e, f, g, i, hh, ho, hf⟩
  · rw [ho]
    have hck : chk (hdOf ([4, 4, x, 255, 255, 255, 255, 255, a, b, c, d, e, f, g, i])) = 6 := by
      have e1 : (hdOf ([4, 4, x, 255, 255, 255, 255, 255, a, b, c, d, e, f, g, i])).id = 1028 := by simp [hdOf, gt]
      have e2 : (hdOf ([4, 4, x, 255, 255, 255, 255, 255, a, b, c, d, e, f, g, i])).fl = x := by simp [hdOf, gt]
      rw [chk, e1, e2, if_neg (by decide), if_pos (by omega)]
    show par [4, 4, x, 255, 255, 255, 255, 255, a, b, c, d, e, f, g, i] = 6
    rw [par, if_neg (by simp), hck, if_pos (by decide)]
  · rw [ho]
    have hck : chk (hdOf ([5, 4, x, 255, p, q, r', s, a, b, c, d, e, f, g, i])) = 6 := by
      have e1 : (hdOf ([5, 4, x, 255, p, q, r', s, a, b, c, d, e, f, g, i])).id = 1284 := by simp [hdOf, gt]
      have e2 : (hdOf ([5, 4, x, 255, p, q, r', s, a, b, c, d, e, f, g, i])).fl = x := by simp [hdOf, gt]
      rw [chk, e1, e2, if_neg (by decide), if_pos (by omega)]
    show par [5, 4, x, 255, p, q, r', s, a, b, c, d, e, f, g, i] = 6
    rw [par, if_neg (by simp), hck, if_pos (by decide)]
/-- A filler octet other than FF. -/
theorem par_fill {h : Hd} (hk : h.ok) (hc : chk h = 0) (at_ y : Nat) (hy : y ≠ 255) (h3 : 3 ≤ at_) (hl : at_ ≤ if h.id = 1028 then 7 else 3) : par ((octN h).set at_ y) = 10 := by
  rcases oct_cases hk hc with ⟨fl, a, b, c, d, e, f, g, i, hh, ho, hf, hs⟩ | ⟨fl, p, q, r', s, a, b, c, d, e, f, g, i, hh, ho, hf⟩
  · rw [ho]
    have hid : h.id = 1028 := by rw [hh]
    rw [hid, if_pos rfl] at hl
    have hck0 : chk ⟨1028, fl, 0, 0, be [a, b, c, d, e, f, g, i]⟩ = 0 := by rw [← hh]; exact hc
    have key : ∀ b3 b4 b5 b6 b7, ¬ (b3 = 255 ∧ b4 = 255 ∧ b5 = 255 ∧ b6 = 255 ∧ b7 = 255) → par [4, 4, fl, b3, b4, b5, b6, b7, a, b, c, d, e, f, g, i] = 10 := by
      intro b3 b4 b5 b6 b7 hn
      have e1 : hdOf [4, 4, fl, b3, b4, b5, b6, b7, a, b, c, d, e, f, g, i] = ⟨1028, fl, 0, 0, be [a, b, c, d, e, f, g, i]⟩ := by simp [hdOf, gt]
      have e2 : ¬ filOk [4, 4, fl, b3, b4, b5, b6, b7, a, b, c, d, e, f, g, i] = true := by
        have hfo : filOk [4, 4, fl, b3, b4, b5, b6, b7, a, b, c, d, e, f, g, i] = ([b3, b4, b5, b6, b7].all (· == 255)) := by simp [filOk, filEnd, gt]
        rw [hfo]
        simp
        omega
      rw [par, if_neg (by simp), e1, if_neg (not_not_intro hck0), if_neg e2]
    have : at_ = 3 ∨ at_ = 4 ∨ at_ = 5 ∨ at_ = 6 ∨ at_ = 7 := by omega
    rcases this with rfl | rfl | rfl | rfl | rfl
    · exact key y 255 255 255 255 (by omega)
    · exact key 255 y 255 255 255 (by omega)
    · exact key 255 255 y 255 255 (by omega)
    · exact key 255 255 255 y 255 (by omega)
    · exact key 255 255 255 255 y (by omega)
  · rw [ho]
    have hid : h.id = 1284 := by rw [hh]
    rw [hid, if_neg (by decide)] at hl
    obtain rfl : at_ = 3 := by omega
    have hck0 : chk ⟨1284, fl, p * 256 + q, r' * 256 + s, be [a, b, c, d, e, f, g, i]⟩ = 0 := by rw [← hh]; exact hc
    show par [5, 4, fl, y, p, q, r', s, a, b, c, d, e, f, g, i] = 10
    have e1 : hdOf [5, 4, fl, y, p, q, r', s, a, b, c, d, e, f, g, i] = ⟨1284, fl, p * 256 + q, r' * 256 + s, be [a, b, c, d, e, f, g, i]⟩ := by simp [hdOf, gt]
    have e2 : ¬ filOk [5, 4, fl, y, p, q, r', s, a, b, c, d, e, f, g, i] = true := by
      have hfo : filOk [5, 4, fl, y, p, q, r', s, a, b, c, d, e, f, g, i] = ([y].all (· == 255)) := by simp [filOk, filEnd, gt]
      rw [hfo]
      simp
      exact hy
    rw [par, if_neg (by simp), e1, if_neg (not_not_intro hck0), if_neg e2]
/-- Whatever reading accepts, writing gives back. -/
theorem oct_par {l : List Nat} (hb : ∀ x ∈ l, x < 256) (hp : par l = 0) : octN (hdOf l) = l.take 16 ∧ chk (hdOf l) = 0 ∧ 16 ≤ l.length := by
  unfold par at hp
  split at hp
  · omega
  split at hp
  · omega
  split at hp
  · rename_i h1 h2 h3
    have hc : chk (hdOf l) = 0 := by simpa using h2
    have hsp := spell_par (by omega) hb hc
    rw [h3, decide_eq_true_eq] at hsp
    refine ⟨?_, hc, by omega⟩
    rw [← hsp]
    have hok := hdOf_ok hb
    generalize hdOf l = h at *
    have hid : h.id = 1028 ∨ h.id = 1284 := by
      unfold chk at hc
      split at hc
      · omega
      · omega
    unfold octN spellN
    rcases hid with e | e
    · rw [e, if_neg (by decide), if_pos rfl]; rfl
    · rw [e, if_pos rfl, if_neg (by decide)]; simp [two]
  · omega
theorem g32 : Try.prog.eqGuardType Try.prog.depth 32 = false := by kernel_rfl
theorem h32 : Try.prog.stoodInHeld 32 = false := by kernel_rfl
theorem ite_and (a b : Bool) (w : World) : (if a = false then Result.ok false w else Result.ok b w) = Result.ok (a && b) w := by cases a <;> simp
set_option maxRecDepth 100000 in
theorem eq32_self (d : Nat) (h : Hd) (w : World) : (Op.equalIn (d + 2) 32 (.agg h.cells.toArray) (.agg h.cells.toArray)).run Try.prog w = .ok true w := by
  have hs : Try.prog.underlying 32 = some (.struct (Try.prog.fieldsOf 32)) := by kernel_rfl
  rw [run_equalIn_agg w (d + 1) 32 _ _ hs h32]
  simp only [Program.fieldsOf, Try.underlying32]
  have e27 : ∀ a b w, (Op.equalIn (d + 1) 27 (.int .u16 a) (.int .u16 b)).run Try.prog w = .ok (a == b) w := fun a b w => run_equalIn_int w d 27 .u16 .u16 a b Try.underlying27
  have e5 : ∀ a b w, (Op.equalIn (d + 1) 5 (.int .u8 a) (.int .u8 b)).run Try.prog w = .ok (a == b) w := fun a b w => run_equalIn_int w d 5 .u8 .u8 a b Try.underlying5
  have e28 : ∀ a b w, (Op.equalIn (d + 1) 28 (.int .u64 a) (.int .u64 b)).run Try.prog w = .ok (a == b) w := fun a b w => run_equalIn_int w d 28 .u64 .u64 a b Try.underlying28
  simp [Op.eqFields, Hd.cells, part]
  simp only [e27, e5, e28, Result.andThen_ok, ite_and, Bool.and_true, beq_self_eq_true]
theorem neq32 (h : Hd) (x y : Operand) (w : World) : (do eqGuard .neq 32 x y (.agg h.cells.toArray) (.agg h.cells.toArray); binOp .neq 32 (.agg h.cells.toArray) (.agg h.cells.toArray)).run Try.prog w = .ok (.bool false) w := by
  rw [Sem.run_bind, run_eqGuard_agg w _ _ _ _ _ _ g32, Result.andThen_ok, run_neq_struct, eq32_self 9998, Result.andThen_ok]
  rfl
theorem X_neq32 {ρ : Env} {w : World} {dst : Option Tmp} {gd : Option (Nat × Bool)} {ty : TypeId} {pos : String} {after : Array Edge} {t' : TypeId} {x y : Operand} (h : Hd) (hx : ev ρ x = .agg h.cells.toArray) (hy : ev ρ y = .agg h.cells.toArray) :
    (execOp (ev ρ) ⟨dst, .binOp .neq 32 x y t', ty, pos, after, gd⟩).run Try.prog w = .ok (.value (.bool false)) w :=
  X_neq (by rw [hx, hy]; exact neq32 h x y w)
theorem xor_fl : ∀ f : Fin 8, ∀ j : Fin 5, 8 ≤ xorN f.val (2 ^ (3 + j.val)) ∧ xorN f.val (2 ^ (3 + j.val)) < 256 := by decide +kernel
theorem xor_ff : ∀ v : Fin 256, v.val ≠ 0 → xorN 255 v.val ≠ 255 ∧ xorN 255 v.val < 256 := by decide +kernel
end Go.Proofs.Qxb6500864a
