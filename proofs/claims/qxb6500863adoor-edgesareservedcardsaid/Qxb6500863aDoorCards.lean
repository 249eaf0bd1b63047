/-
  DERIVED. GIVEN WITH THE SEED: THE CARDS: each row of Qxb6500863aDoorRows.lean that lists a variable, with what it lists TIED to the program's text (the seventh form; the later family's looks); each row that meets fmt, with fmt's text TOLD by the authors' own Lean function (tested against real Go, not proved from fmt's source: count such statements apart). THE CARD IS WHAT COUNTS. Prove the row's statement (the work); the ties are given (Qxb6500863aDoorTie.lean); close each card by the builder's one call (the guide's Derived/Test/ToyasCard.lean, 'card_holds'). Laid BY PROGRAM, IN A SANDBOX (cutbox-door.mjs). By AI agents, Wed Nov 11 2026. No macro, syntax, notation, axiom, sorry.
-/
import Derived.Test.Qxb6500863aDoorRows
import GoSem.ClaimSeven
namespace Go.Proofs.Qxb6500863aDoor
namespace Rows

/-- THE TIED CARD OF 'modeslaw.HMACIsRFC2104'. -/
def hMACIsRFC2104Card : Claim7 := { stood := { row := hMACIsRFC2104Row, standIns := [], harness := (true, "4e2f9210aefc6469cac8697117ffbcaf768dc2704aca2b02056e09528236f686"), looks := true }, kinds := [], alts := [], laidByText := true, laidKinds := [.data, .data], laidTests := true, laidLooks := .later }
def HMACIsRFC2104CardSaid : Prop := Claim7.holds Tryd.pinned (.plain (OpenSpec.ofChange hMACIsRFC2104Spec)) hMACIsRFC2104Card

/-- THE TIED CARD OF 'modeslaw.EdgesAreServed'. -/
def edgesAreServedCard : Claim7 := { stood := { row := edgesAreServedRow, standIns := [], harness := (true, "4e2f9210aefc6469cac8697117ffbcaf768dc2704aca2b02056e09528236f686"), looks := true }, kinds := [], alts := [], laidByText := true, laidKinds := [.data, .data], laidTests := true, laidLooks := .later }
def EdgesAreServedCardSaid : Prop := Claim7.holds Tryd.pinned (.plain (OpenSpec.ofChange edgesAreServedSpec)) edgesAreServedCard
end Rows
end Go.Proofs.Qxb6500863aDoor
