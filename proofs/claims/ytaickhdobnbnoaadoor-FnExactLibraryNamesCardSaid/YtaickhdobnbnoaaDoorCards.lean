/-
  DERIVED. GIVEN WITH THE SEED: THE CARDS: each row of YtaickhdobnbnoaaDoorRows.lean that lists a variable, with what it lists TIED to the program's text (the seventh form; the later family's looks); each row that meets fmt, with fmt's text TOLD by the authors' own Lean function (tested against real Go, not proved from fmt's source: count such statements apart). THE CARD IS WHAT COUNTS. Prove the row's statement (the work); the ties are given (YtaickhdobnbnoaaDoorTie.lean); close each card by the builder's one call (the guide's Derived/Test/ToyasCard.lean, 'card_holds'). Laid BY PROGRAM, IN A SANDBOX (cutbox-door.mjs). By AI agents, Wed Nov 11 2026. No macro, syntax, notation, axiom, sorry.
-/
import Derived.Test.YtaickhdobnbnoaaDoorRows
import GoSem.ClaimSeven
namespace Go.Proofs.YtaickhdobnbnoaaDoor
namespace Rows

/-- THE TIED CARD OF 'laws.FnExactLibraryNames'. -/
def fnExactLibraryNamesCard : Claim7 := { stood := { row := fnExactLibraryNamesRow, standIns := [], harness := (true, "59d4143a0b35aa4ae549615a2cf64811fccd31f471b650d1638fc0a4684bf163"), looks := false }, kinds := [], alts := [], laidByText := true, laidKinds := [.data, .pinned], laidTests := true, laidLooks := .later }
def FnExactLibraryNamesCardSaid : Prop := Claim7.holds Tryd.pinned (.plain (OpenSpec.ofChange fnExactLibraryNamesSpec)) fnExactLibraryNamesCard

/-- THE SECOND FORM's CARD OF 'laws.FnExactLibraryNames'. -/
def fnExactLibraryNamesUptoCard : Claim7 := { stood := { row := fnExactLibraryNamesUptoRow, standIns := [], harness := (true, "59d4143a0b35aa4ae549615a2cf64811fccd31f471b650d1638fc0a4684bf163"), looks := false }, kinds := [], alts := [], laidByText := true, laidKinds := [.data, .pinned], laidTests := true, laidLooks := .later }
def FnExactLibraryNamesUptoCardSaid : Prop := Claim7.holds Tryd.pinned (.plain (OpenSpec.upto fnExactLibraryNamesSpec)) fnExactLibraryNamesUptoCard
end Rows
end Go.Proofs.YtaickhdobnbnoaaDoor
