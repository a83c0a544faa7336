/-
  DERIVED. GIVEN WITH THE SEED: THE CARDS: each row of YtbnfbflfhpniaaaDoorRows.lean that lists a variable, with what it lists TIED to the program's text (the seventh form; the later family's looks); each row that meets fmt, with fmt's text TOLD by the authors' own Lean function (tested against real Go, not proved from fmt's source: count such statements apart). THE CARD IS WHAT COUNTS. Prove the row's statement (the work); the ties are given (YtbnfbflfhpniaaaDoorTie.lean); close each card by the builder's one call (the guide's Derived/Test/ToyasCard.lean, 'card_holds'). Laid BY PROGRAM, IN A SANDBOX (cutbox-door.mjs). By AI agents, Wed Nov 11 2026. No macro, syntax, notation, axiom, sorry.
-/
import Derived.Test.YtbnfbflfhpniaaaDoorRows
import GoSem.ClaimSeven
namespace Go.Proofs.YtbnfbflfhpniaaaDoor
namespace Rows

/-- THE TIED CARD OF 'laws.FnExactNormalPolygon'. -/
def fnExactNormalPolygonCard : Claim7 := { stood := { row := fnExactNormalPolygonRow, standIns := [], harness := (true, "05446de17f721ca4400cbdee0466894d1656d47705bbd27bcff93278a9aa02bc"), looks := false }, kinds := [], alts := [], laidByText := true, laidKinds := [.data], laidTests := true, laidLooks := .later }
def FnExactNormalPolygonCardSaid : Prop := Claim7.holds Tryd.pinned (.plain (OpenSpec.ofChange fnExactNormalPolygonSpec)) fnExactNormalPolygonCard

/-- THE SECOND FORM's CARD OF 'laws.FnExactNormalPolygon'. -/
def fnExactNormalPolygonUptoCard : Claim7 := { stood := { row := fnExactNormalPolygonUptoRow, standIns := [], harness := (true, "05446de17f721ca4400cbdee0466894d1656d47705bbd27bcff93278a9aa02bc"), looks := false }, kinds := [], alts := [], laidByText := true, laidKinds := [.data], laidTests := true, laidLooks := .later }
def FnExactNormalPolygonUptoCardSaid : Prop := Claim7.holds Tryd.pinned (.plain (OpenSpec.upto fnExactNormalPolygonSpec)) fnExactNormalPolygonUptoCard
end Rows
end Go.Proofs.YtbnfbflfhpniaaaDoor
