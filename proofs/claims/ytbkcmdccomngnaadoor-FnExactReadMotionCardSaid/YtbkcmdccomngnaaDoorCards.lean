/-
  DERIVED. GIVEN WITH THE SEED: THE CARDS: each row of YtbkcmdccomngnaaDoorRows.lean that lists a variable, with what it lists TIED to the program's text (the seventh form; the later family's looks); each row that meets fmt, with fmt's text TOLD by the authors' own Lean function (tested against real Go, not proved from fmt's source: count such statements apart). THE CARD IS WHAT COUNTS. Prove the row's statement (the work); the ties are given (YtbkcmdccomngnaaDoorTie.lean); close each card by the builder's one call (the guide's Derived/Test/ToyasCard.lean, 'card_holds'). Laid BY PROGRAM, IN A SANDBOX (cutbox-door.mjs). By AI agents, Wed Nov 11 2026. No macro, syntax, notation, axiom, sorry.
-/
import Derived.Test.YtbkcmdccomngnaaDoorRows
import GoSem.ClaimSeven
namespace Go.Proofs.YtbkcmdccomngnaaDoor
namespace Rows

/-- THE TIED CARD OF 'laws.FnExactReadNum'. -/
def fnExactReadNumCard : Claim7 := { stood := { row := fnExactReadNumRow, standIns := [], harness := (true, "778e7c58cfc78df707fe498db88b06979636772bc94e5163ccdce2fcccbb6854"), looks := true }, kinds := [], alts := [], laidByText := true, laidKinds := [.data, .data, .data, .data, .sentinel, .sentinel, .pinned], laidTests := true, laidLooks := .later }
def FnExactReadNumCardSaid : Prop := Claim7.holds Tryd.pinned (.plain (OpenSpec.ofChange fnExactReadNumSpec)) fnExactReadNumCard

/-- THE TIED CARD OF 'laws.FnExactReadLine'. -/
def fnExactReadLineCard : Claim7 := { stood := { row := fnExactReadLineRow, standIns := [], harness := (true, "778e7c58cfc78df707fe498db88b06979636772bc94e5163ccdce2fcccbb6854"), looks := true }, kinds := [], alts := [], laidByText := true, laidKinds := [.data, .data, .data, .data, .sentinel, .sentinel, .pinned], laidTests := true, laidLooks := .later }
def FnExactReadLineCardSaid : Prop := Claim7.holds Tryd.pinned (.plain (OpenSpec.ofChange fnExactReadLineSpec)) fnExactReadLineCard

/-- THE TIED CARD OF 'laws.FnExactReadPoint'. -/
def fnExactReadPointCard : Claim7 := { stood := { row := fnExactReadPointRow, standIns := [], harness := (true, "778e7c58cfc78df707fe498db88b06979636772bc94e5163ccdce2fcccbb6854"), looks := true }, kinds := [], alts := [], laidByText := true, laidKinds := [.data, .data, .data, .data, .sentinel, .sentinel, .pinned], laidTests := true, laidLooks := .later }
def FnExactReadPointCardSaid : Prop := Claim7.holds Tryd.pinned (.plain (OpenSpec.ofChange fnExactReadPointSpec)) fnExactReadPointCard

/-- THE TIED CARD OF 'laws.FnExactReadMotion'. -/
def fnExactReadMotionCard : Claim7 := { stood := { row := fnExactReadMotionRow, standIns := [], harness := (true, "778e7c58cfc78df707fe498db88b06979636772bc94e5163ccdce2fcccbb6854"), looks := true }, kinds := [], alts := [], laidByText := true, laidKinds := [.data, .data, .data, .data, .sentinel, .sentinel, .pinned], laidTests := true, laidLooks := .later }
def FnExactReadMotionCardSaid : Prop := Claim7.holds Tryd.pinned (.plain (OpenSpec.ofChange fnExactReadMotionSpec)) fnExactReadMotionCard

/-- THE SECOND FORM's CARD OF 'laws.FnExactReadNum'. -/
def fnExactReadNumUptoCard : Claim7 := { stood := { row := fnExactReadNumUptoRow, standIns := [], harness := (true, "778e7c58cfc78df707fe498db88b06979636772bc94e5163ccdce2fcccbb6854"), looks := true }, kinds := [], alts := [], laidByText := true, laidKinds := [.data, .data, .data, .data, .sentinel, .sentinel, .pinned], laidTests := true, laidLooks := .later }
def FnExactReadNumUptoCardSaid : Prop := Claim7.holds Tryd.pinned (.plain (OpenSpec.upto fnExactReadNumSpec)) fnExactReadNumUptoCard

/-- THE SECOND FORM's CARD OF 'laws.FnExactReadLine'. -/
def fnExactReadLineUptoCard : Claim7 := { stood := { row := fnExactReadLineUptoRow, standIns := [], harness := (true, "778e7c58cfc78df707fe498db88b06979636772bc94e5163ccdce2fcccbb6854"), looks := true }, kinds := [], alts := [], laidByText := true, laidKinds := [.data, .data, .data, .data, .sentinel, .sentinel, .pinned], laidTests := true, laidLooks := .later }
def FnExactReadLineUptoCardSaid : Prop := Claim7.holds Tryd.pinned (.plain (OpenSpec.upto fnExactReadLineSpec)) fnExactReadLineUptoCard

/-- THE SECOND FORM's CARD OF 'laws.FnExactReadPoint'. -/
def fnExactReadPointUptoCard : Claim7 := { stood := { row := fnExactReadPointUptoRow, standIns := [], harness := (true, "778e7c58cfc78df707fe498db88b06979636772bc94e5163ccdce2fcccbb6854"), looks := true }, kinds := [], alts := [], laidByText := true, laidKinds := [.data, .data, .data, .data, .sentinel, .sentinel, .pinned], laidTests := true, laidLooks := .later }
def FnExactReadPointUptoCardSaid : Prop := Claim7.holds Tryd.pinned (.plain (OpenSpec.upto fnExactReadPointSpec)) fnExactReadPointUptoCard

/-- THE SECOND FORM's CARD OF 'laws.FnExactReadMotion'. -/
def fnExactReadMotionUptoCard : Claim7 := { stood := { row := fnExactReadMotionUptoRow, standIns := [], harness := (true, "778e7c58cfc78df707fe498db88b06979636772bc94e5163ccdce2fcccbb6854"), looks := true }, kinds := [], alts := [], laidByText := true, laidKinds := [.data, .data, .data, .data, .sentinel, .sentinel, .pinned], laidTests := true, laidLooks := .later }
def FnExactReadMotionUptoCardSaid : Prop := Claim7.holds Tryd.pinned (.plain (OpenSpec.upto fnExactReadMotionSpec)) fnExactReadMotionUptoCard
end Rows
end Go.Proofs.YtbkcmdccomngnaaDoor
