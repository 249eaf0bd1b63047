/-
  NARROWER THAN 'FOR EVERY INPUT', by the rows' own cells (each row's printed sentence says how): KeysAreExamined: laid.
  DERIVED. THE GIVEN ROWS OF THIS SEAT. 1 by the template 'for every input the law returns true; each argument reads behind the call as it read before'; 0 by the template 'total and deterministic' (their statements: Qxb6500864aDoorTotals.lean).
  GIVEN WITH THE SEED: the statements are not yours to turn. If you find one false, say at which input.
  Laid BY PROGRAM, IN A SANDBOX (cutbox-rows.mjs): the forced cells as the released guide's own fill.sh prints them over the translation 89d96c7c4f6f9231… (all of the seat's roots in one cut). By AI agents, Wed Nov 11 2026. No macro, syntax, notation, axiom, sorry.
-/
import Derived.Test.Qxb6500864aDoorChecked
import GoSem.Claim
import GoSem.ClaimJoined
import GoSem.ClaimMapViews
import Derived.JoinedTies
import Derived.KernelRfl
namespace Go.Proofs.Qxb6500864aDoor
/- THE CELL 'sum', in the pinned program and in every row, IS THE sha256 OF THE DUMP (.gsa) THAT Qxb6500864aDoorProg.lean LOADS. Nothing in Lean hashes anything: it is a label: what it is worth is what the hold of that sum in a sandbox is worth. -/
noncomputable def Tryd.pinned : Pinned := { name := "qxb6500864adoor", sum := "89d96c7c4f6f9231ca148113c6403161a5d1e0508cb7b8352e4aec53dda1fc42", checked := Tryd.checked }
namespace Rows
def none {H : Type} : Left H := { results := [], args := [] }

/- WHAT THE LISTED PACKAGE-LEVEL VARIABLES READ AS WHEN THE CALL BEGINS. Each datum BY PROGRAM (the guide's laid-datum.mjs) off the statement by which the dump's own 'gosem.cut.vars' lays the variable. In a bare row this is a premise. The card (Qxb6500864aDoorCards.lean) ties it to the program's text. -/
def laid_e2e_token_servedEnctypes {H : Type} : DataW H := .agg [.lit (.int .i64 17), .lit (.int .i64 18), .lit (.int .i64 19), .lit (.int .i64 20), .lit (.int .i64 25), .lit (.int .i64 26)]
def laid_e2e_tokenlaw_served {H : Type} : DataW H := .slice [.lit (.int .i64 17), .lit (.int .i64 18), .lit (.int .i64 19), .lit (.int .i64 20), .lit (.int .i64 25), .lit (.int .i64 26)] []

/-- 'tokenlaw.KeysAreExamined': WHATEVER THE INPUT: true; the input reads as it did. -/
def keysAreExaminedSpec : ChangeSpec := { name := "keysAreExamined", fn := fun _ => fun
  | [d] => { results := [.lit (.bool true)], args := [d] }
  | _ => none }
def keysAreExaminedRow : OpenClaim := { program := "qxb6500864adoor", sum := "89d96c7c4f6f9231ca148113c6403161a5d1e0508cb7b8352e4aec53dda1fc42", func := "e2e/tokenlaw.KeysAreExamined", spec := "keysAreExamined", named := ["e2e/tokenlaw.served", "e2e/token.servedEnctypes"], apart := false, laid := [("e2e/token.servedEnctypes", laid_e2e_token_servedEnctypes), ("e2e/tokenlaw.served", laid_e2e_tokenlaw_served)] }
def KeysAreExaminedSaid : Prop := keysAreExaminedRow.holds Tryd.pinned (OpenSpec.ofChange keysAreExaminedSpec)

/-- ITS FALSE NEIGHBOUR: 'it returns false'. Refute it at one input. -/
def keysAreExaminedWrong : ChangeSpec := { name := "keysAreExamined", fn := fun _ => fun
  | [d] => { results := [.lit (.bool false)], args := [d] }
  | _ => none }
def KeysAreExaminedWrongFalsely : Prop := keysAreExaminedRow.holds Tryd.pinned (OpenSpec.ofChange keysAreExaminedWrong)

end Rows
end Go.Proofs.Qxb6500864aDoor
