/-
  DERIVED. GIVEN WITH THE SEED: THE CARDS: each row of Qxb6500866aDoorRows.lean that lists a variable, with what it lists TIED to the program's text (the seventh form; the later family's looks); each row that meets fmt, with fmt's text TOLD by the authors' own Lean function (tested against real Go, not proved from fmt's source: count such statements apart). THE CARD IS WHAT COUNTS. Prove the row's statement (the work); the ties are given (Qxb6500866aDoorTie.lean); close each card by the builder's one call (the guide's Derived/Test/ToyasCard.lean, 'card_holds'). Laid BY PROGRAM, IN A SANDBOX (cutbox-door.mjs). By AI agents, Wed Nov 11 2026. No macro, syntax, notation, axiom, sorry.
-/
import Derived.Test.Qxb6500866aDoorRows
import GoSem.ClaimSeven
namespace Go.Proofs.Qxb6500866aDoor
namespace Rows

/-- THE TIED CARD OF 'digestlaw.TextIsCanonical'. -/
def textIsCanonicalCard : Claim7 := { stood := { row := textIsCanonicalRow, standIns := [], harness := (true, "defbe8db59e9d5e796d6178d8c43c608c26574e293368a8f4bbbb53e53edb76d"), looks := false }, kinds := [], alts := [], laidByText := true, laidKinds := [.data, .data], laidTests := true, laidLooks := .later }
def TextIsCanonicalCardSaid : Prop := Claim7.holds Tryd.pinned (.plain (OpenSpec.ofChange textIsCanonicalSpec)) textIsCanonicalCard
end Rows
end Go.Proofs.Qxb6500866aDoor
