/-
  DERIVED. GIVEN WITH THE SEED: THE CARDS: each row of YtehghobmmpihfaaGreatDoorRows.lean that lists a variable, with what it lists TIED to the program's text (the seventh form; the later family's looks); each row that meets fmt, with fmt's text TOLD by the authors' own Lean function (tested against real Go, not proved from fmt's source: count such statements apart). THE CARD IS WHAT COUNTS. Prove the row's statement (the work); the ties are given (YtehghobmmpihfaaGreatDoorTie.lean); close each card by the builder's one call (the guide's Derived/Test/ToyasCard.lean, 'card_holds'). Laid BY PROGRAM, IN A SANDBOX (cutbox-door.mjs). By AI agents, Wed Nov 11 2026. No macro, syntax, notation, axiom, sorry.
-/
import Derived.Test.YtehghobmmpihfaaGreatDoorRows
import GoSem.ClaimSeven
namespace Go.Proofs.YtehghobmmpihfaaGreatDoor
namespace Rows

/-- THE TIED CARD OF 'laws.FnExactReadPolygon'. -/
def fnExactReadPolygonCard : Claim7 := { stood := { row := fnExactReadPolygonRow, standIns := [], harness := (true, "749e3fc178639412445c0effb6238afb2646034d928929d6f20fa3f547c8efb2"), looks := true }, kinds := [], alts := [], laidByText := true, laidKinds := [.data, .data, .data, .data, .sentinel, .sentinel, .data, .pinned], laidTests := true, laidLooks := .later }
def FnExactReadPolygonCardSaid : Prop := Claim7.holds Tryz.pinned (.plain (OpenSpec.ofChange fnExactReadPolygonSpec)) fnExactReadPolygonCard

/-- THE SECOND FORM's CARD OF 'laws.FnExactReadPolygon'. -/
def fnExactReadPolygonUptoCard : Claim7 := { stood := { row := fnExactReadPolygonUptoRow, standIns := [], harness := (true, "749e3fc178639412445c0effb6238afb2646034d928929d6f20fa3f547c8efb2"), looks := true }, kinds := [], alts := [], laidByText := true, laidKinds := [.data, .data, .data, .data, .sentinel, .sentinel, .data, .pinned], laidTests := true, laidLooks := .later }
def FnExactReadPolygonUptoCardSaid : Prop := Claim7.holds Tryz.pinned (.plain (OpenSpec.upto fnExactReadPolygonSpec)) fnExactReadPolygonUptoCard
end Rows
end Go.Proofs.YtehghobmmpihfaaGreatDoor
