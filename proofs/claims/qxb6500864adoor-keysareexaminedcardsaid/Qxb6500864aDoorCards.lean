/-
  DERIVED. GIVEN WITH THE SEED: THE CARDS: each row of Qxb6500864aDoorRows.lean that lists a variable, with what it lists TIED to the program's text (the seventh form; the later family's looks); each row that meets fmt, with fmt's text TOLD by the authors' own Lean function (tested against real Go, not proved from fmt's source: count such statements apart). THE CARD IS WHAT COUNTS. Prove the row's statement (the work); the ties are given (Qxb6500864aDoorTie.lean); close each card by the builder's one call (the guide's Derived/Test/ToyasCard.lean, 'card_holds'). Laid BY PROGRAM, IN A SANDBOX (cutbox-door.mjs). By AI agents, Wed Nov 11 2026. No macro, syntax, notation, axiom, sorry.
-/
import Derived.Test.Qxb6500864aDoorRows
import GoSem.ClaimSeven
namespace Go.Proofs.Qxb6500864aDoor
namespace Rows

/-- THE TIED CARD OF 'tokenlaw.KeysAreExamined'. -/
def keysAreExaminedCard : Claim7 := { stood := { row := keysAreExaminedRow, standIns := [], harness := (true, "e0a15d9ba1a798d8fc485eae3b145100e64d276371d20aff314093f974c2c03a"), looks := true }, kinds := [], alts := [], laidByText := true, laidKinds := [.data, .data], laidTests := true, laidLooks := .later }
def KeysAreExaminedCardSaid : Prop := Claim7.holds Tryd.pinned (.plain (OpenSpec.ofChange keysAreExaminedSpec)) keysAreExaminedCard
end Rows
end Go.Proofs.Qxb6500864aDoor
