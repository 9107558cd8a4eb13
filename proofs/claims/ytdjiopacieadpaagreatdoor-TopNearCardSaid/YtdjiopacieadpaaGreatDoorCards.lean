/-
  DERIVED. GIVEN WITH THE SEED: THE CARDS: each row of YtdjiopacieadpaaGreatDoorRows.lean that lists a variable, with what it lists TIED to the program's text (the seventh form; the later family's looks); each row that meets fmt, with fmt's text TOLD by the authors' own Lean function (tested against real Go, not proved from fmt's source: count such statements apart). THE CARD IS WHAT COUNTS. Prove the row's statement (the work); the ties are given (YtdjiopacieadpaaGreatDoorTie.lean); close each card by the builder's one call (the guide's Derived/Test/ToyasCard.lean, 'card_holds'). Laid BY PROGRAM, IN A SANDBOX (cutbox-door.mjs). By AI agents, Wed Nov 11 2026. No macro, syntax, notation, axiom, sorry.
-/
import Derived.Test.YtdjiopacieadpaaGreatDoorRows
import GoSem.ClaimSeven
namespace Go.Proofs.YtdjiopacieadpaaGreatDoor
namespace Rows

/-- THE TIED CARD OF 'gangwaytop.TopNear'. -/
def topNearCard : Claim7 := { stood := { row := topNearRow, standIns := [], harness := (true, "b6fa296a4e0ea42eb2e90c81a0e3e4d5ebb44df1a249a5845537e6b41640f43d"), looks := false }, kinds := [], alts := [], laidByText := true, laidKinds := [.data, .data], laidTests := true, laidLooks := .later }
def TopNearCardSaid : Prop := Claim7.holds Tryz.pinned (.plain (OpenSpec.ofChange topNearSpec)) topNearCard

/-- THE SECOND FORM's CARD OF 'gangwaytop.TopNear'. -/
def topNearUptoCard : Claim7 := { stood := { row := topNearUptoRow, standIns := [], harness := (true, "b6fa296a4e0ea42eb2e90c81a0e3e4d5ebb44df1a249a5845537e6b41640f43d"), looks := false }, kinds := [], alts := [], laidByText := true, laidKinds := [.data, .data], laidTests := true, laidLooks := .later }
def TopNearUptoCardSaid : Prop := Claim7.holds Tryz.pinned (.plain (OpenSpec.upto topNearSpec)) topNearUptoCard
end Rows
end Go.Proofs.YtdjiopacieadpaaGreatDoor
