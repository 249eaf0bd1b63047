/-
  '==' on the structs Message and Tx.
-/
import Derived.Test.Qxb6500865aDa
import Derived.Laws.StructEq
namespace Go.Proofs.Qxb6500865a
set_option linter.unusedSimpArgs false
set_option linter.unusedVariables false
theorem g37 : Try.prog.eqGuardType Try.prog.depth 37 = false := by kernel_rfl
theorem g39 : Try.prog.eqGuardType Try.prog.depth 39 = false := by kernel_rfl
theorem h37 : Try.prog.stoodInHeld 37 = false := by kernel_rfl
theorem h39 : Try.prog.stoodInHeld 39 = false := by kernel_rfl
def Msg.same (t u : Msg) : Bool := t.kind == u.kind && (t.frm == u.frm && (t.to == u.to && (t.sender == u.sender && (t.receiver == u.receiver && (t.seq == u.seq && (t.token == u.token && (t.amount == u.amount && t.payload.toList == u.payload.toList)))))))
def Tx.same (t u : Tx) : Bool := t.kind == u.kind && (t.chain == u.chain && (t.frm == u.frm && (t.nonce == u.nonce && (t.fee == u.fee && (t.to == u.to && (t.dest == u.dest && (t.token == u.token && (t.amount == u.amount && (t.payload.toList == u.payload.toList && t.msg.same u.msg)))))))))
theorem ite_and (a b : Bool) (w : World) : (if a = false then Result.ok false w else Result.ok b w) = Result.ok (a && b) w := by cases a <;> simp
theorem Msg.same_self (m : Msg) : m.same m = true := by simp [Msg.same]
theorem Tx.same_self (t : Tx) : t.same t = true := by simp [Tx.same, Msg.same_self]
set_option maxRecDepth 100000 in
theorem eq37 (d : Nat) (t u : Msg) (w : World) : (Op.equalIn (d + 2) 37 (.agg t.cells.toArray) (.agg u.cells.toArray)).run Try.prog w = .ok (t.same u) w := by
  have hs : Try.prog.underlying 37 = some (.struct (Try.prog.fieldsOf 37)) := by kernel_rfl
  rw [run_equalIn_agg w (d + 1) 37 _ _ hs h37]
  simp only [Program.fieldsOf, Try.underlying37]
  have e35 : ∀ a b w, (Op.equalIn (d + 1) 35 (.int .u8 a) (.int .u8 b)).run Try.prog w = .ok (a == b) w := fun a b w => run_equalIn_int w d 35 .u8 .u8 a b Try.underlying35
  have e25 : ∀ a b w, (Op.equalIn (d + 1) 25 (.int .u8 a) (.int .u8 b)).run Try.prog w = .ok (a == b) w := fun a b w => run_equalIn_int w d 25 .u8 .u8 a b Try.underlying25
  have e33 : ∀ a b w, (Op.equalIn (d + 1) 33 (.int .u8 a) (.int .u8 b)).run Try.prog w = .ok (a == b) w := fun a b w => run_equalIn_int w d 33 .u8 .u8 a b Try.underlying33
  have e34 : ∀ a b w, (Op.equalIn (d + 1) 34 (.int .u8 a) (.int .u8 b)).run Try.prog w = .ok (a == b) w := fun a b w => run_equalIn_int w d 34 .u8 .u8 a b Try.underlying34
  have e29 : ∀ a b w, (Op.equalIn (d + 1) 29 (.int .u64 a) (.int .u64 b)).run Try.prog w = .ok (a == b) w := fun a b w => run_equalIn_int w d 29 .u64 .u64 a b Try.underlying29
  have e9 : ∀ a b w, (Op.equalIn (d + 1) 9 (.string a) (.string b)).run Try.prog w = .ok (a.toList == b.toList) w := fun a b w => run_equalIn_string w d 9 a b Try.underlying9
  simp [Op.eqFields, Msg.cells, part]
  simp only [e35, e25, e33, e34, e29, e9, Result.andThen_ok, ite_and, Bool.and_true, Msg.same]
set_option maxRecDepth 100000 in
theorem eq39 (d : Nat) (t u : Tx) (w : World) : (Op.equalIn (d + 3) 39 (.agg t.cells.toArray) (.agg u.cells.toArray)).run Try.prog w = .ok (t.same u) w := by
  have hs : Try.prog.underlying 39 = some (.struct (Try.prog.fieldsOf 39)) := by kernel_rfl
  rw [run_equalIn_agg w (d + 2) 39 _ _ hs h39]
  simp only [Program.fieldsOf, Try.underlying39]
  have e32 : ∀ a b w, (Op.equalIn (d + 2) 32 (.int .u8 a) (.int .u8 b)).run Try.prog w = .ok (a == b) w := fun a b w => run_equalIn_int w (d + 1) 32 .u8 .u8 a b Try.underlying32
  have e25 : ∀ a b w, (Op.equalIn (d + 2) 25 (.int .u8 a) (.int .u8 b)).run Try.prog w = .ok (a == b) w := fun a b w => run_equalIn_int w (d + 1) 25 .u8 .u8 a b Try.underlying25
  have e33 : ∀ a b w, (Op.equalIn (d + 2) 33 (.int .u8 a) (.int .u8 b)).run Try.prog w = .ok (a == b) w := fun a b w => run_equalIn_int w (d + 1) 33 .u8 .u8 a b Try.underlying33
  have e34 : ∀ a b w, (Op.equalIn (d + 2) 34 (.int .u8 a) (.int .u8 b)).run Try.prog w = .ok (a == b) w := fun a b w => run_equalIn_int w (d + 1) 34 .u8 .u8 a b Try.underlying34
  have e29 : ∀ a b w, (Op.equalIn (d + 2) 29 (.int .u64 a) (.int .u64 b)).run Try.prog w = .ok (a == b) w := fun a b w => run_equalIn_int w (d + 1) 29 .u64 .u64 a b Try.underlying29
  have e9 : ∀ a b w, (Op.equalIn (d + 2) 9 (.string a) (.string b)).run Try.prog w = .ok (a.toList == b.toList) w := fun a b w => run_equalIn_string w (d + 1) 9 a b Try.underlying9
  have x37 : ∀ w, (isAgg 37).run Try.prog w = .ok true w := A37
  have s37 : ∀ w, (sizeOf 37).run Try.prog w = .ok 9 w := S37
  have m1 := fun w => eq37 d t.msg u.msg w
  have m2 : t.cells.toArray.extract 10 19 = t.msg.cells.toArray := by simp [Tx.cells, Msg.cells]
  have m3 : u.cells.toArray.extract 10 19 = u.msg.cells.toArray := by simp [Tx.cells, Msg.cells]
  have p37 : ∀ w, (part 37 t.cells.toArray 10).run Try.prog w = .ok (.agg t.msg.cells.toArray) w := fun w => by rw [← m2]; simp only [part, Sem.run_bind, x37, s37, Result.andThen_ok]; rfl
  have q37 : ∀ w, (part 37 u.cells.toArray 10).run Try.prog w = .ok (.agg u.msg.cells.toArray) w := fun w => by rw [← m3]; simp only [part, Sem.run_bind, x37, s37, Result.andThen_ok]; rfl
  simp [Op.eqFields, p37, q37, m1]
  simp [Tx.cells, part]
  simp only [e32, e25, e33, e34, e29, e9, m1, Result.andThen_ok, ite_and, Bool.and_true, Tx.same]
theorem neq39 (t u : Tx) (x y : Operand) (w : World) : (do eqGuard .neq 39 x y (.agg t.cells.toArray) (.agg u.cells.toArray); binOp .neq 39 (.agg t.cells.toArray) (.agg u.cells.toArray)).run Try.prog w = .ok (.bool (!t.same u)) w := by
  rw [Sem.run_bind, run_eqGuard_agg w _ _ _ _ _ _ g39, Result.andThen_ok, run_neq_struct, eq39 9997, Result.andThen_ok]
theorem eql37 (t u : Msg) (x y : Operand) (w : World) : (do eqGuard .eql 37 x y (.agg t.cells.toArray) (.agg u.cells.toArray); binOp .eql 37 (.agg t.cells.toArray) (.agg u.cells.toArray)).run Try.prog w = .ok (.bool (t.same u)) w := by
  rw [Sem.run_bind, run_eqGuard_agg w _ _ _ _ _ _ g37, Result.andThen_ok, run_eql_struct, eq37 9998, Result.andThen_ok]
end Go.Proofs.Qxb6500865a
