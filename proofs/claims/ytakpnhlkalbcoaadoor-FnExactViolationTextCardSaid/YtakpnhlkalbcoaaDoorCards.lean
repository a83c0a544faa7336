/-
  DERIVED. GIVEN WITH THE SEED: THE CARDS: each row of YtakpnhlkalbcoaaDoorRows.lean that lists a variable, with what it lists TIED to the program's text (the seventh form; the later family's looks); each row that meets fmt, with fmt's text TOLD by the authors' own Lean function (tested against real Go, not proved from fmt's source: count such statements apart). THE CARD IS WHAT COUNTS. Prove the row's statement (the work); the ties are given (YtakpnhlkalbcoaaDoorTie.lean); close each card by the builder's one call (the guide's Derived/Test/ToyasCard.lean, 'card_holds'). Laid BY PROGRAM, IN A SANDBOX (cutbox-door.mjs). By AI agents, Wed Nov 11 2026. No macro, syntax, notation, axiom, sorry.
-/
import Derived.Test.YtakpnhlkalbcoaaDoorRows
import GoSem.ClaimSeven
namespace Go.Proofs.YtakpnhlkalbcoaaDoor
namespace Rows

/-- THE TIED CARD OF 'laws.FnExactDirectionOf'. -/
def fnExactDirectionOfCard : Claim7 := { stood := { row := fnExactDirectionOfRow, standIns := [], harness := (true, "f2dba0a883245b2f45379298d045fe3bf9004d1c1b68c822dee0fa344877112b"), looks := false }, kinds := [], alts := [], laidByText := true, laidKinds := [.data], laidTests := true, laidLooks := .later }
def FnExactDirectionOfCardSaid : Prop := Claim7.holds Tryd.pinned (.plain (OpenSpec.ofChange fnExactDirectionOfSpec)) fnExactDirectionOfCard

/-- THE TIED CARD OF 'laws.FnExactViolationText'. -/
def fnExactViolationTextCard : Claim7 := { stood := { row := fnExactViolationTextRow, standIns := [], harness := (true, "f2dba0a883245b2f45379298d045fe3bf9004d1c1b68c822dee0fa344877112b"), looks := false }, kinds := [], alts := [], laidByText := true, laidKinds := [.data, .data, .data], laidTests := true, laidLooks := .later }
def FnExactViolationTextCardSaid : Prop := Claim7.holds Tryd.pinned (.plain (OpenSpec.ofChange fnExactViolationTextSpec)) fnExactViolationTextCard

/-- THE SECOND FORM's CARD OF 'laws.FnExactDirectionOf'. -/
def fnExactDirectionOfUptoCard : Claim7 := { stood := { row := fnExactDirectionOfUptoRow, standIns := [], harness := (true, "f2dba0a883245b2f45379298d045fe3bf9004d1c1b68c822dee0fa344877112b"), looks := false }, kinds := [], alts := [], laidByText := true, laidKinds := [.data], laidTests := true, laidLooks := .later }
def FnExactDirectionOfUptoCardSaid : Prop := Claim7.holds Tryd.pinned (.plain (OpenSpec.upto fnExactDirectionOfSpec)) fnExactDirectionOfUptoCard

/-- THE SECOND FORM's CARD OF 'laws.FnExactViolationText'. -/
def fnExactViolationTextUptoCard : Claim7 := { stood := { row := fnExactViolationTextUptoRow, standIns := [], harness := (true, "f2dba0a883245b2f45379298d045fe3bf9004d1c1b68c822dee0fa344877112b"), looks := false }, kinds := [], alts := [], laidByText := true, laidKinds := [.data, .data, .data], laidTests := true, laidLooks := .later }
def FnExactViolationTextUptoCardSaid : Prop := Claim7.holds Tryd.pinned (.plain (OpenSpec.upto fnExactViolationTextSpec)) fnExactViolationTextUptoCard
end Rows
end Go.Proofs.YtakpnhlkalbcoaaDoor
