/-
  No cell of these rows narrows 'for every input' (looked for: loops, veiled, ifaces, maps, wideKeys, modest, calm, conditions, laid).
  DERIVED. THE GIVEN ROWS OF THIS SEAT. 5 by the template 'for every input the law returns true; each argument reads behind the call as it read before'; 0 by the template 'total and deterministic' (their statements: Qxb6500865aTotals.lean).
  GIVEN WITH THE SEED: the statements are not yours to turn. If you find one false, say at which input.
  Laid BY PROGRAM, IN A SANDBOX (cutbox-rows.mjs): the forced cells as the released guide's own fill.sh prints them over the translation 7905dd76d596a710… (all of the seat's roots in one cut). By AI agents, Wed Nov 11 2026. No macro, syntax, notation, axiom, sorry.
-/
import Derived.Test.Qxb6500865aChecked
import GoSem.Claim
import GoSem.ClaimJoined
import GoSem.ClaimMapViews
import Derived.JoinedTies
import Derived.KernelRfl
namespace Go.Proofs.Qxb6500865a
/- THE CELL 'sum', in the pinned program and in every row, IS THE sha256 OF THE DUMP (.gsa) THAT Qxb6500865aProg.lean LOADS. Nothing in Lean hashes anything: it is a label: what it is worth is what the hold of that sum in a sandbox is worth. -/
noncomputable def Try.pinned : Pinned := { name := "qxb6500865a", sum := "7905dd76d596a71065e1b65f2fae0338db3ee775b16ba7c86a2b9e12a055390f", checked := Try.checked }
namespace Rows
def none {H : Type} : Left H := { results := [], args := [] }

/-- 'bundlelaw.OrderIsLeast': WHATEVER THE INPUT: true; the input reads as it did. -/
def orderIsLeastSpec : ChangeSpec := { name := "orderIsLeast", fn := fun _ => fun
  | [d] => { results := [.lit (.bool true)], args := [d] }
  | _ => none }
def orderIsLeastRow : OpenClaim := { program := "qxb6500865a", sum := "7905dd76d596a71065e1b65f2fae0338db3ee775b16ba7c86a2b9e12a055390f", func := "e2e/bundlelaw.OrderIsLeast", spec := "orderIsLeast", unfollowed := true, recurses := true, apart := false }
def OrderIsLeastSaid : Prop := orderIsLeastRow.holds Try.pinned (OpenSpec.ofChange orderIsLeastSpec)

/-- ITS FALSE NEIGHBOUR: 'it returns false'. Refute it at one input. -/
def orderIsLeastWrong : ChangeSpec := { name := "orderIsLeast", fn := fun _ => fun
  | [d] => { results := [.lit (.bool false)], args := [d] }
  | _ => none }
def OrderIsLeastWrongFalsely : Prop := orderIsLeastRow.holds Try.pinned (OpenSpec.ofChange orderIsLeastWrong)

/-- 'bundlelaw.CycleIsShown': WHATEVER THE INPUT: true; the input reads as it did. -/
def cycleIsShownSpec : ChangeSpec := { name := "cycleIsShown", fn := fun _ => fun
  | [d] => { results := [.lit (.bool true)], args := [d] }
  | _ => none }
def cycleIsShownRow : OpenClaim := { program := "qxb6500865a", sum := "7905dd76d596a71065e1b65f2fae0338db3ee775b16ba7c86a2b9e12a055390f", func := "e2e/bundlelaw.CycleIsShown", spec := "cycleIsShown", apart := false }
def CycleIsShownSaid : Prop := cycleIsShownRow.holds Try.pinned (OpenSpec.ofChange cycleIsShownSpec)

/-- ITS FALSE NEIGHBOUR: 'it returns false'. Refute it at one input. -/
def cycleIsShownWrong : ChangeSpec := { name := "cycleIsShown", fn := fun _ => fun
  | [d] => { results := [.lit (.bool false)], args := [d] }
  | _ => none }
def CycleIsShownWrongFalsely : Prop := cycleIsShownRow.holds Try.pinned (OpenSpec.ofChange cycleIsShownWrong)

/-- 'bundlelaw.GraphsAreBuiltAlike': WHATEVER THE INPUT: true; the input reads as it did. -/
def graphsAreBuiltAlikeSpec : ChangeSpec := { name := "graphsAreBuiltAlike", fn := fun _ => fun
  | [d] => { results := [.lit (.bool true)], args := [d] }
  | _ => none }
def graphsAreBuiltAlikeRow : OpenClaim := { program := "qxb6500865a", sum := "7905dd76d596a71065e1b65f2fae0338db3ee775b16ba7c86a2b9e12a055390f", func := "e2e/bundlelaw.GraphsAreBuiltAlike", spec := "graphsAreBuiltAlike", apart := false }
def GraphsAreBuiltAlikeSaid : Prop := graphsAreBuiltAlikeRow.holds Try.pinned (OpenSpec.ofChange graphsAreBuiltAlikeSpec)

/-- ITS FALSE NEIGHBOUR: 'it returns false'. Refute it at one input. -/
def graphsAreBuiltAlikeWrong : ChangeSpec := { name := "graphsAreBuiltAlike", fn := fun _ => fun
  | [d] => { results := [.lit (.bool false)], args := [d] }
  | _ => none }
def GraphsAreBuiltAlikeWrongFalsely : Prop := graphsAreBuiltAlikeRow.holds Try.pinned (OpenSpec.ofChange graphsAreBuiltAlikeWrong)

/-- 'bundlelaw.LinkNamesSenders': WHATEVER THE INPUT: true; the input reads as it did. -/
def linkNamesSendersSpec : ChangeSpec := { name := "linkNamesSenders", fn := fun _ => fun
  | [d] => { results := [.lit (.bool true)], args := [d] }
  | _ => none }
def linkNamesSendersRow : OpenClaim := { program := "qxb6500865a", sum := "7905dd76d596a71065e1b65f2fae0338db3ee775b16ba7c86a2b9e12a055390f", func := "e2e/bundlelaw.LinkNamesSenders", spec := "linkNamesSenders", unfollowed := true, recurses := true, apart := false }
def LinkNamesSendersSaid : Prop := linkNamesSendersRow.holds Try.pinned (OpenSpec.ofChange linkNamesSendersSpec)

/-- ITS FALSE NEIGHBOUR: 'it returns false'. Refute it at one input. -/
def linkNamesSendersWrong : ChangeSpec := { name := "linkNamesSenders", fn := fun _ => fun
  | [d] => { results := [.lit (.bool false)], args := [d] }
  | _ => none }
def LinkNamesSendersWrongFalsely : Prop := linkNamesSendersRow.holds Try.pinned (OpenSpec.ofChange linkNamesSendersWrong)

/-- 'bundlelaw.CopySharesNothing': WHATEVER THE INPUT: true; the input reads as it did. -/
def copySharesNothingSpec : ChangeSpec := { name := "copySharesNothing", fn := fun _ => fun
  | [d] => { results := [.lit (.bool true)], args := [d] }
  | _ => none }
def copySharesNothingRow : OpenClaim := { program := "qxb6500865a", sum := "7905dd76d596a71065e1b65f2fae0338db3ee775b16ba7c86a2b9e12a055390f", func := "e2e/bundlelaw.CopySharesNothing", spec := "copySharesNothing", apart := false }
def CopySharesNothingSaid : Prop := copySharesNothingRow.holds Try.pinned (OpenSpec.ofChange copySharesNothingSpec)

/-- ITS FALSE NEIGHBOUR: 'it returns false'. Refute it at one input. -/
def copySharesNothingWrong : ChangeSpec := { name := "copySharesNothing", fn := fun _ => fun
  | [d] => { results := [.lit (.bool false)], args := [d] }
  | _ => none }
def CopySharesNothingWrongFalsely : Prop := copySharesNothingRow.holds Try.pinned (OpenSpec.ofChange copySharesNothingWrong)

end Rows
end Go.Proofs.Qxb6500865a
