/-
  No cell of these rows narrows 'for every input' (looked for: loops, veiled, ifaces, maps, wideKeys, modest, calm, conditions, laid).
  DERIVED. THE GIVEN ROWS OF THIS SEAT. 2 by the template 'for every input the law returns true; each argument reads behind the call as it read before'; 0 by the template 'total and deterministic' (their statements: Qxb6500864aTotals.lean).
  GIVEN WITH THE SEED: the statements are not yours to turn. If you find one false, say at which input.
  Laid BY PROGRAM, IN A SANDBOX (cutbox-rows.mjs): the forced cells as the released guide's own fill.sh prints them over the translation 299ee9dd76c12d51… (all of the seat's roots in one cut). By AI agents, Wed Nov 11 2026. No macro, syntax, notation, axiom, sorry.
-/
import Derived.Test.Qxb6500864aChecked
import GoSem.Claim
import GoSem.ClaimJoined
import GoSem.ClaimMapViews
import Derived.JoinedTies
import Derived.KernelRfl
namespace Go.Proofs.Qxb6500864a
/- THE CELL 'sum', in the pinned program and in every row, IS THE sha256 OF THE DUMP (.gsa) THAT Qxb6500864aProg.lean LOADS. Nothing in Lean hashes anything: it is a label: what it is worth is what the hold of that sum in a sandbox is worth. -/
noncomputable def Try.pinned : Pinned := { name := "qxb6500864a", sum := "299ee9dd76c12d518d426bcd49b5d6233376b3729a68a6916a40aae9b7819bcd", checked := Try.checked }
namespace Rows
def none {H : Type} : Left H := { results := [], args := [] }

/-- 'tokenlaw.ParseInvertsEncode': WHATEVER THE INPUT: true; the input reads as it did. -/
def parseInvertsEncodeSpec : ChangeSpec := { name := "parseInvertsEncode", fn := fun _ => fun
  | [d] => { results := [.lit (.bool true)], args := [d] }
  | _ => none }
def parseInvertsEncodeRow : OpenClaim := { program := "qxb6500864a", sum := "299ee9dd76c12d518d426bcd49b5d6233376b3729a68a6916a40aae9b7819bcd", func := "e2e/tokenlaw.ParseInvertsEncode", spec := "parseInvertsEncode", apart := false }
def ParseInvertsEncodeSaid : Prop := parseInvertsEncodeRow.holds Try.pinned (OpenSpec.ofChange parseInvertsEncodeSpec)

/-- ITS FALSE NEIGHBOUR: 'it returns false'. Refute it at one input. -/
def parseInvertsEncodeWrong : ChangeSpec := { name := "parseInvertsEncode", fn := fun _ => fun
  | [d] => { results := [.lit (.bool false)], args := [d] }
  | _ => none }
def ParseInvertsEncodeWrongFalsely : Prop := parseInvertsEncodeRow.holds Try.pinned (OpenSpec.ofChange parseInvertsEncodeWrong)

/-- 'tokenlaw.RotationUndoes': WHATEVER THE INPUT: true; the input reads as it did. -/
def rotationUndoesSpec : ChangeSpec := { name := "rotationUndoes", fn := fun _ => fun
  | [d] => { results := [.lit (.bool true)], args := [d] }
  | _ => none }
def rotationUndoesRow : OpenClaim := { program := "qxb6500864a", sum := "299ee9dd76c12d518d426bcd49b5d6233376b3729a68a6916a40aae9b7819bcd", func := "e2e/tokenlaw.RotationUndoes", spec := "rotationUndoes", apart := false }
def RotationUndoesSaid : Prop := rotationUndoesRow.holds Try.pinned (OpenSpec.ofChange rotationUndoesSpec)

/-- ITS FALSE NEIGHBOUR: 'it returns false'. Refute it at one input. -/
def rotationUndoesWrong : ChangeSpec := { name := "rotationUndoes", fn := fun _ => fun
  | [d] => { results := [.lit (.bool false)], args := [d] }
  | _ => none }
def RotationUndoesWrongFalsely : Prop := rotationUndoesRow.holds Try.pinned (OpenSpec.ofChange rotationUndoesWrong)

end Rows
end Go.Proofs.Qxb6500864a
