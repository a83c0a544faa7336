/-
  DERIVED. GIVEN WITH THE SEED: THE CARDS: each row of YtkbobbhecgmgpaaDoorRows.lean that lists a variable, with what it lists TIED to the program's text (the seventh form; the later family's looks); each row that meets fmt, with fmt's text TOLD by the authors' own Lean function (tested against real Go, not proved from fmt's source: count such statements apart). THE CARD IS WHAT COUNTS. Prove the row's statement (the work); the ties are given (YtkbobbhecgmgpaaDoorTie.lean); close each card by the builder's one call (the guide's Derived/Test/ToyasCard.lean, 'card_holds'). Laid BY PROGRAM, IN A SANDBOX (cutbox-door.mjs). By AI agents, Wed Nov 11 2026. No macro, syntax, notation, axiom, sorry.
-/
import Derived.Test.YtkbobbhecgmgpaaDoorRows
import GoSem.ClaimSeven
namespace Go.Proofs.YtkbobbhecgmgpaaDoor
namespace Rows

/-- THE TIED CARD OF 'laws.FnExactIsName'. -/
def fnExactIsNameCard : Claim7 := { stood := { row := fnExactIsNameRow, standIns := [], harness := (true, "059e40b424179ed74c61a0d90fb093b154fd637ea3a9994c1f936dd569e9252d"), looks := false }, kinds := [], alts := [], laidByText := true, laidKinds := [.data, .pinned], laidTests := true, laidLooks := .later }
def FnExactIsNameCardSaid : Prop := Claim7.holds Tryd.pinned (.plain (OpenSpec.ofChange fnExactIsNameSpec)) fnExactIsNameCard

/-- THE TIED CARD OF 'laws.FnExactNumText'. -/
def fnExactNumTextCard : Claim7 := { stood := { row := fnExactNumTextRow, standIns := [], harness := (true, "059e40b424179ed74c61a0d90fb093b154fd637ea3a9994c1f936dd569e9252d"), looks := false }, kinds := [], alts := [], laidByText := true, laidKinds := [.data, .data, .data], laidTests := true, laidLooks := .later }
def FnExactNumTextCardSaid : Prop := Claim7.holds Tryd.pinned (.plain (OpenSpec.ofChange fnExactNumTextSpec)) fnExactNumTextCard

/-- THE TIED CARD OF 'laws.FnExactLibraryNames'. -/
def fnExactLibraryNamesCard : Claim7 := { stood := { row := fnExactLibraryNamesRow, standIns := [], harness := (true, "059e40b424179ed74c61a0d90fb093b154fd637ea3a9994c1f936dd569e9252d"), looks := false }, kinds := [], alts := [], laidByText := true, laidKinds := [.data, .pinned], laidTests := true, laidLooks := .later }
def FnExactLibraryNamesCardSaid : Prop := Claim7.holds Tryd.pinned (.plain (OpenSpec.ofChange fnExactLibraryNamesSpec)) fnExactLibraryNamesCard

/-- THE TIED CARD OF 'laws.FnExactLineText'. -/
def fnExactLineTextCard : Claim7 := { stood := { row := fnExactLineTextRow, standIns := [], harness := (true, "059e40b424179ed74c61a0d90fb093b154fd637ea3a9994c1f936dd569e9252d"), looks := false }, kinds := [], alts := [], laidByText := true, laidKinds := [.data, .data, .data], laidTests := true, laidLooks := .later }
def FnExactLineTextCardSaid : Prop := Claim7.holds Tryd.pinned (.plain (OpenSpec.ofChange fnExactLineTextSpec)) fnExactLineTextCard

/-- THE TIED CARD OF 'laws.FnExactPointText'. -/
def fnExactPointTextCard : Claim7 := { stood := { row := fnExactPointTextRow, standIns := [], harness := (true, "059e40b424179ed74c61a0d90fb093b154fd637ea3a9994c1f936dd569e9252d"), looks := false }, kinds := [], alts := [], laidByText := true, laidKinds := [.data, .data, .data], laidTests := true, laidLooks := .later }
def FnExactPointTextCardSaid : Prop := Claim7.holds Tryd.pinned (.plain (OpenSpec.ofChange fnExactPointTextSpec)) fnExactPointTextCard

/-- THE TIED CARD OF 'laws.FnExactMotionText'. -/
def fnExactMotionTextCard : Claim7 := { stood := { row := fnExactMotionTextRow, standIns := [], harness := (true, "059e40b424179ed74c61a0d90fb093b154fd637ea3a9994c1f936dd569e9252d"), looks := false }, kinds := [], alts := [], laidByText := true, laidKinds := [.data, .data, .data], laidTests := true, laidLooks := .later }
def FnExactMotionTextCardSaid : Prop := Claim7.holds Tryd.pinned (.plain (OpenSpec.ofChange fnExactMotionTextSpec)) fnExactMotionTextCard

/-- THE SECOND FORM's CARD OF 'laws.FnExactIsName'. -/
def fnExactIsNameUptoCard : Claim7 := { stood := { row := fnExactIsNameUptoRow, standIns := [], harness := (true, "059e40b424179ed74c61a0d90fb093b154fd637ea3a9994c1f936dd569e9252d"), looks := false }, kinds := [], alts := [], laidByText := true, laidKinds := [.data, .pinned], laidTests := true, laidLooks := .later }
def FnExactIsNameUptoCardSaid : Prop := Claim7.holds Tryd.pinned (.plain (OpenSpec.upto fnExactIsNameSpec)) fnExactIsNameUptoCard

/-- THE SECOND FORM's CARD OF 'laws.FnExactNumText'. -/
def fnExactNumTextUptoCard : Claim7 := { stood := { row := fnExactNumTextUptoRow, standIns := [], harness := (true, "059e40b424179ed74c61a0d90fb093b154fd637ea3a9994c1f936dd569e9252d"), looks := false }, kinds := [], alts := [], laidByText := true, laidKinds := [.data, .data, .data], laidTests := true, laidLooks := .later }
def FnExactNumTextUptoCardSaid : Prop := Claim7.holds Tryd.pinned (.plain (OpenSpec.upto fnExactNumTextSpec)) fnExactNumTextUptoCard

/-- THE SECOND FORM's CARD OF 'laws.FnExactLibraryNames'. -/
def fnExactLibraryNamesUptoCard : Claim7 := { stood := { row := fnExactLibraryNamesUptoRow, standIns := [], harness := (true, "059e40b424179ed74c61a0d90fb093b154fd637ea3a9994c1f936dd569e9252d"), looks := false }, kinds := [], alts := [], laidByText := true, laidKinds := [.data, .pinned], laidTests := true, laidLooks := .later }
def FnExactLibraryNamesUptoCardSaid : Prop := Claim7.holds Tryd.pinned (.plain (OpenSpec.upto fnExactLibraryNamesSpec)) fnExactLibraryNamesUptoCard

/-- THE SECOND FORM's CARD OF 'laws.FnExactLineText'. -/
def fnExactLineTextUptoCard : Claim7 := { stood := { row := fnExactLineTextUptoRow, standIns := [], harness := (true, "059e40b424179ed74c61a0d90fb093b154fd637ea3a9994c1f936dd569e9252d"), looks := false }, kinds := [], alts := [], laidByText := true, laidKinds := [.data, .data, .data], laidTests := true, laidLooks := .later }
def FnExactLineTextUptoCardSaid : Prop := Claim7.holds Tryd.pinned (.plain (OpenSpec.upto fnExactLineTextSpec)) fnExactLineTextUptoCard

/-- THE SECOND FORM's CARD OF 'laws.FnExactPointText'. -/
def fnExactPointTextUptoCard : Claim7 := { stood := { row := fnExactPointTextUptoRow, standIns := [], harness := (true, "059e40b424179ed74c61a0d90fb093b154fd637ea3a9994c1f936dd569e9252d"), looks := false }, kinds := [], alts := [], laidByText := true, laidKinds := [.data, .data, .data], laidTests := true, laidLooks := .later }
def FnExactPointTextUptoCardSaid : Prop := Claim7.holds Tryd.pinned (.plain (OpenSpec.upto fnExactPointTextSpec)) fnExactPointTextUptoCard

/-- THE SECOND FORM's CARD OF 'laws.FnExactMotionText'. -/
def fnExactMotionTextUptoCard : Claim7 := { stood := { row := fnExactMotionTextUptoRow, standIns := [], harness := (true, "059e40b424179ed74c61a0d90fb093b154fd637ea3a9994c1f936dd569e9252d"), looks := false }, kinds := [], alts := [], laidByText := true, laidKinds := [.data, .data, .data], laidTests := true, laidLooks := .later }
def FnExactMotionTextUptoCardSaid : Prop := Claim7.holds Tryd.pinned (.plain (OpenSpec.upto fnExactMotionTextSpec)) fnExactMotionTextUptoCard
end Rows
end Go.Proofs.YtkbobbhecgmgpaaDoor
