/-
  The walking kit, fourth part: slicing.
-/
import Derived.Test.Qxb6500863aDoorWk3
namespace Go.Proofs.Qxb6500863aDoor
set_option linter.unusedSimpArgs false
set_option linter.unusedVariables false
open Go.RowKit
section
variable {P : Program} {ρ : Env} {w : World} {dst : Option Tmp} {gd : Option (Nat × Bool)} {ty : TypeId} {pos : String} {after : Array Edge}
theorem run_bound {k : IntKind} {i y : Nat} {code : BoundsCode} (h : i ≤ y) : (Instr.sliceBound (.int k (i : Int)) y code).run P w = .ok i w := by
  simp [Instr.sliceBound, asIntOf, h]
/-- x[l:] of a slice. -/
theorem X_sliceL {t e : TypeId} {x y : Operand} {sz b o len cap l : Nat} {q : IntKind} (ht : UN P t (.slice e)) (hs : SZ P e sz) (hx : ev ρ x = .slice (some ⟨b, o, none⟩) len cap) (hy : ev ρ y = .int q l) (hl : l ≤ len) (hlc : l < cap) :
    (execOp (ev ρ) ⟨dst, .slice t x (some y) none none, ty, pos, after, gd⟩).run P w = .ok (.value (.slice (some ⟨b, o + l * sz, none⟩) (len - l) (cap - l))) w := by
  have h1 := ht w
  have h2 := hs w
  have hb := run_bound (P := P) (w := w) (k := q) (code := .sliceB) hl
  simp [execOp, Instr.sliceAt, Instr.slice, Instr.sliceBounds, hx, hy, h1, h2, hb, show ¬ cap = l by omega, Addr.add_lit]
/-- x[:h] of a slice. -/
theorem X_sliceH {t e : TypeId} {x y : Operand} {sz len cap h : Nat} {a : Option Addr} {q : IntKind} (ht : UN P t (.slice e)) (hs : SZ P e sz) (hx : ev ρ x = .slice a len cap) (hy : ev ρ y = .int q h) (hl : h ≤ cap) :
    (execOp (ev ρ) ⟨dst, .slice t x none (some y) none, ty, pos, after, gd⟩).run P w = .ok (.value (.slice a h cap)) w := by
  have h1 := ht w
  have h2 := hs w
  have hb := run_bound (P := P) (w := w) (k := q) (code := .sliceAcap) hl
  have ha : (if cap = 0 then a else a.map (·.add (0 * sz))) = a := by
    split
    · rfl
    · cases a with
      | none => rfl
      | some ad => simp [Addr.add]
  simp [execOp, Instr.sliceAt, Instr.slice, Instr.sliceBounds, hx, hy, h1, h2, hb]
  simpa using ha
/-- x[l:h] of a slice. -/
theorem X_sliceLH {t e : TypeId} {x y z : Operand} {sz b o len cap l h : Nat} {q q' : IntKind} (ht : UN P t (.slice e)) (hs : SZ P e sz) (hx : ev ρ x = .slice (some ⟨b, o, none⟩) len cap) (hy : ev ρ y = .int q l) (hz : ev ρ z = .int q' h) (hl : l ≤ h) (hh : h ≤ cap) (hlc : l < cap) :
    (execOp (ev ρ) ⟨dst, .slice t x (some y) (some z) none, ty, pos, after, gd⟩).run P w = .ok (.value (.slice (some ⟨b, o + l * sz, none⟩) (h - l) (cap - l))) w := by
  have h1 := ht w
  have h2 := hs w
  have hb := run_bound (P := P) (w := w) (k := q) (code := .sliceB) hl
  have hb2 := run_bound (P := P) (w := w) (k := q') (code := .sliceAcap) hh
  simp [execOp, Instr.sliceAt, Instr.slice, Instr.sliceBounds, hx, hy, hz, h1, h2, hb, hb2, show ¬ cap = l by omega, Addr.add_lit]
/-- a % b on what is no negative number. -/
theorem X_remN {t t' : TypeId} {x y : Operand} {q : IntKind} (a b : Nat) (hx : ev ρ x = .int q (a : Int)) (hy : ev ρ y = .int q (b : Int)) (hb : b ≠ 0) :
    (execOp (ev ρ) ⟨dst, .binOp .rem t x y t', ty, pos, after, gd⟩).run P w = .ok (.value (.int q ((a % b : Nat) : Int))) w := by
  rw [X_rem hx hy (by omega)]
  rfl
end
end Go.Proofs.Qxb6500863aDoor
