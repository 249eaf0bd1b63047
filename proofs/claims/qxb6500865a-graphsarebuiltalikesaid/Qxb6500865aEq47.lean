/-
  '==' on the struct Graph.
-/
import Derived.Test.Qxb6500865aGr2
import Derived.Test.Qxb6500865aEq
import Derived.ChangeKeysEq
namespace Go.Proofs.Qxb6500865a
set_option linter.unusedSimpArgs false
set_option linter.unusedVariables false
open Go.RowKit
theorem g47 : Try.prog.eqGuardType Try.prog.depth 47 = false := by kernel_rfl
theorem h47 : Try.prog.stoodInHeld 47 = false := by kernel_rfl
theorem eq45 (d : Nat) (m0 m1 m2 m3 m4 m5 m6 m7 : Int) (w : World) :
    (Op.equalIn (d + 2) 45 (.agg #[.int .u8 m0, .int .u8 m1, .int .u8 m2, .int .u8 m3, .int .u8 m4, .int .u8 m5, .int .u8 m6, .int .u8 m7]) (.agg #[.int .u8 m0, .int .u8 m1, .int .u8 m2, .int .u8 m3, .int .u8 m4, .int .u8 m5, .int .u8 m6, .int .u8 m7])).run Try.prog w = .ok true w := by
  have e5 : ∀ a b w, (Op.equalIn (d + 1) 5 (.int .u8 a) (.int .u8 b)).run Try.prog w = .ok (a == b) w := fun a b w => run_equalIn_int w d 5 .u8 .u8 a b Try.underlying5
  have hc : Try.prog.cellsOf 5 = 1 := by kernel_rfl
  obtain ⟨i, hi⟩ : ∃ i, Try.prog.info? 5 = some i := ⟨_, rfl⟩
  have x5 : ∀ w, (isAgg 5).run Try.prog w = .ok false w := A5
  have s5 : ∀ w, (sizeOf 5).run Try.prog w = .ok 1 w := S5
  rw [run_equalIn_array (P := Try.prog) (w := w) (d + 1) _ _ Try.underlying45 hi, hc]
  simp [List.range, List.range.loop, Op.eqItems, part, x5, s5, e5]
set_option maxRecDepth 100000 in
theorem eq47 (d n : Nat) (M : List Nat) (hM : M.length = 8) (w : World) : (Op.equalIn (d + 3) 47 (.agg (gcells n M).toArray) (.agg (gcells n M).toArray)).run Try.prog w = .ok true w := by
  obtain ⟨m0, m1, m2, m3, m4, m5, m6, m7, rfl⟩ : ∃ m0 m1 m2 m3 m4 m5 m6 m7, M = [m0, m1, m2, m3, m4, m5, m6, m7] := by
    match M, hM with
    | [a, b, c, d, e, f, g, h], _ => exact ⟨a, b, c, d, e, f, g, h, rfl⟩
  have hs : Try.prog.underlying 47 = some (.struct (Try.prog.fieldsOf 47)) := by kernel_rfl
  rw [run_equalIn_agg w (d + 2) 47 _ _ hs h47]
  simp only [Program.fieldsOf, Try.underlying47]
  have e3 : ∀ a b w, (Op.equalIn (d + 2) 3 (.int .i64 a) (.int .i64 b)).run Try.prog w = .ok (a == b) w := fun a b w => run_equalIn_int w (d + 1) 3 .i64 .i64 a b Try.underlying3
  have x45 : ∀ w, (isAgg 45).run Try.prog w = .ok true w := A45
  have s45 : ∀ w, (sizeOf 45).run Try.prog w = .ok 8 w := S45
  have x3 : ∀ w, (isAgg 3).run Try.prog w = .ok false w := A3
  have s3 : ∀ w, (sizeOf 3).run Try.prog w = .ok 1 w := S3
  have p : ∀ w, (part 45 (gcells n [m0, m1, m2, m3, m4, m5, m6, m7]).toArray 1).run Try.prog w = .ok (.agg #[.int .u8 m0, .int .u8 m1, .int .u8 m2, .int .u8 m3, .int .u8 m4, .int .u8 m5, .int .u8 m6, .int .u8 m7]) w := fun w => by
    simp only [part, Sem.run_bind, x45, s45, Result.andThen_ok]; rfl
  have p3 : ∀ w, (part 3 (gcells n [m0, m1, m2, m3, m4, m5, m6, m7]).toArray 0).run Try.prog w = .ok (.int .i64 n) w := fun w => by
    simp only [part, Sem.run_bind, x3, s3, Result.andThen_ok]; rfl
  simp [Op.eqFields, p, p3, e3, eq45]
theorem X_neq47 {ρ : Env} {w : World} {dst : Option Tmp} {gd : Option (Nat × Bool)} {ty : TypeId} {pos : String} {after : Array Edge} {t' : TypeId} {x y : Operand} (n : Nat) (M : List Nat) (hM : M.length = 8) (hx : ev ρ x = .agg (gcells n M).toArray) (hy : ev ρ y = .agg (gcells n M).toArray) :
    (execOp (ev ρ) ⟨dst, .binOp .neq 47 x y t', ty, pos, after, gd⟩).run Try.prog w = .ok (.value (.bool false)) w :=
  X_neq (by rw [hx, hy, Sem.run_bind, run_eqGuard_agg w _ _ _ _ _ _ g47, Result.andThen_ok, run_neq_struct, eq47 9997 n M hM, Result.andThen_ok]; rfl)
end Go.Proofs.Qxb6500865a
