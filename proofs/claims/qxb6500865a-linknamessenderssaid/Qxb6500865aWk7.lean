/-
  The walking kit: function values.
-/
import Derived.Test.Qxb6500865aWk5
namespace Go.Proofs.Qxb6500865a
set_option linter.unusedSimpArgs false
set_option linter.unusedVariables false
open Go.RowKit
section
variable {P : Program} {f : FuncId} {n : Nat} {R : Value → World → Prop} {ρ : Env} {w : World} {k : List Item} {ops : Array Oper} {rest : List Oper}
variable {d : Nat} {dst : Option Tmp} {gd : Option (Nat × Bool)} {ty : TypeId} {pos : String} {after : Array Edge}
theorem X_makeFunc {fn : Fn} {first captured : Array Operand} : (execOp (ev ρ) ⟨dst, .makeFunc fn first captured, ty, pos, after, gd⟩).run P w = .ok (.value (.func fn (first.toList.map (ev ρ)).toArray (captured.toList.map (ev ρ)).toArray)) w := by
  have e : ∀ xs : Array Operand, xs.map (ev ρ) = (xs.toList.map (ev ρ)).toArray := fun xs => by apply Array.ext'; simp
  simp only [execOp, Instr.makeFunc, e]
  rfl
theorem L_callV {g : FuncId} {x : Operand} {xs : Array Operand} {ts : Array TypeId} {S : Value → World → Prop} (args cap : List Value) (hg : EN P g) (hx : ev ρ x = .func (.func g) #[] cap.toArray) (ha : xs.toList.map (ev ρ) = args) (hd : Nat.blt d n = true)
    (hc : Ret P g (args ++ cap).toArray w S) (h : ∀ v w', S v w' → L P f n ops rest k R (upd ρ d v) w') : L P f n ops (⟨some d, .call { callee := .value x, args := xs, argTypes := ts }, ty, pos, after, none⟩ :: rest) k R ρ w := by
  refine L_call (g := g) (args := (args ++ cap).toArray) ?_ hd hc h
  have e : xs.map (ev ρ) = args.toArray := by
    rw [← ha]; apply Array.ext'; simp
  have h1 := hg (args ++ cap).toArray w
  simp [execOp, resolve, e, hx, Deferred.ofValue, invoke, h1]
end
end Go.Proofs.Qxb6500865a
