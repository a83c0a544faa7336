/-
  DERIVED. GIVEN WITH THE SEED: THE CARDS: each row of YtmajpmofeddknaaDoorRows.lean that lists a variable, with what it lists TIED to the program's text (the seventh form; the later family's looks); each row that meets fmt, with fmt's text TOLD by the authors' own Lean function (tested against real Go, not proved from fmt's source: count such statements apart). THE CARD IS WHAT COUNTS. Prove the row's statement (the work); the ties are given (YtmajpmofeddknaaDoorTie.lean); close each card by the builder's one call (the guide's Derived/Test/ToyasCard.lean, 'card_holds'). Laid BY PROGRAM, IN A SANDBOX (cutbox-door.mjs). By AI agents, Wed Nov 11 2026. No macro, syntax, notation, axiom, sorry.
-/
import Derived.Test.YtmajpmofeddknaaDoorRows
import GoSem.ClaimSeven
namespace Go.Proofs.YtmajpmofeddknaaDoor
namespace Rows

/-- THE TIED CARD OF 'laws.FnExactValidPolygon'. -/
def fnExactValidPolygonCard : Claim7 := { stood := { row := fnExactValidPolygonRow, standIns := [], harness := (true, "7550e0b98b353fc8b9f7229cf78786b1c47a432af654395302cf7a75ecb95075"), looks := true }, kinds := [], alts := [], laidByText := true, laidKinds := [.data], laidTests := true, laidLooks := .later }
def FnExactValidPolygonCardSaid : Prop := Claim7.holds Tryd.pinned (.plain (OpenSpec.ofChange fnExactValidPolygonSpec)) fnExactValidPolygonCard

/-- THE TIED CARD OF 'laws.FnExactInPolygon'. -/
def fnExactInPolygonCard : Claim7 := { stood := { row := fnExactInPolygonRow, standIns := [], harness := (true, "7550e0b98b353fc8b9f7229cf78786b1c47a432af654395302cf7a75ecb95075"), looks := true }, kinds := [], alts := [], laidByText := true, laidKinds := [.data], laidTests := true, laidLooks := .later }
def FnExactInPolygonCardSaid : Prop := Claim7.holds Tryd.pinned (.plain (OpenSpec.ofChange fnExactInPolygonSpec)) fnExactInPolygonCard

/-- THE TIED CARD OF 'laws.FnExactValidPlaces'. -/
def fnExactValidPlacesCard : Claim7 := { stood := { row := fnExactValidPlacesRow, standIns := [], harness := (true, "7550e0b98b353fc8b9f7229cf78786b1c47a432af654395302cf7a75ecb95075"), looks := true }, kinds := [], alts := [], laidByText := true, laidKinds := [.data], laidTests := true, laidLooks := .later }
def FnExactValidPlacesCardSaid : Prop := Claim7.holds Tryd.pinned (.plain (OpenSpec.ofChange fnExactValidPlacesSpec)) fnExactValidPlacesCard

/-- THE TIED CARD OF 'laws.FnExactFoldSide'. -/
def fnExactFoldSideCard : Claim7 := { stood := { row := fnExactFoldSideRow, standIns := [], harness := (true, "7550e0b98b353fc8b9f7229cf78786b1c47a432af654395302cf7a75ecb95075"), looks := true }, kinds := [], alts := [], laidByText := true, laidKinds := [.data], laidTests := true, laidLooks := .later }
def FnExactFoldSideCardSaid : Prop := Claim7.holds Tryd.pinned (.plain (OpenSpec.ofChange fnExactFoldSideSpec)) fnExactFoldSideCard

/-- THE TIED CARD OF 'laws.FnExactNormalPolygon'. -/
def fnExactNormalPolygonCard : Claim7 := { stood := { row := fnExactNormalPolygonRow, standIns := [], harness := (true, "7550e0b98b353fc8b9f7229cf78786b1c47a432af654395302cf7a75ecb95075"), looks := true }, kinds := [], alts := [], laidByText := true, laidKinds := [.data], laidTests := true, laidLooks := .later }
def FnExactNormalPolygonCardSaid : Prop := Claim7.holds Tryd.pinned (.plain (OpenSpec.ofChange fnExactNormalPolygonSpec)) fnExactNormalPolygonCard

/-- THE TIED CARD OF 'laws.FnExactValidFolds'. -/
def fnExactValidFoldsCard : Claim7 := { stood := { row := fnExactValidFoldsRow, standIns := [], harness := (true, "7550e0b98b353fc8b9f7229cf78786b1c47a432af654395302cf7a75ecb95075"), looks := true }, kinds := [], alts := [], laidByText := true, laidKinds := [.data], laidTests := true, laidLooks := .later }
def FnExactValidFoldsCardSaid : Prop := Claim7.holds Tryd.pinned (.plain (OpenSpec.ofChange fnExactValidFoldsSpec)) fnExactValidFoldsCard

/-- THE TIED CARD OF 'laws.FnExactPolygonText'. -/
def fnExactPolygonTextCard : Claim7 := { stood := { row := fnExactPolygonTextRow, standIns := [], harness := (true, "7550e0b98b353fc8b9f7229cf78786b1c47a432af654395302cf7a75ecb95075"), looks := true }, kinds := [], alts := [], laidByText := true, laidKinds := [.data, .data, .data, .data], laidTests := true, laidLooks := .later }
def FnExactPolygonTextCardSaid : Prop := Claim7.holds Tryd.pinned (.plain (OpenSpec.ofChange fnExactPolygonTextSpec)) fnExactPolygonTextCard

/-- THE TIED CARD OF 'laws.FnExactReadNum'. -/
def fnExactReadNumCard : Claim7 := { stood := { row := fnExactReadNumRow, standIns := [], harness := (true, "7550e0b98b353fc8b9f7229cf78786b1c47a432af654395302cf7a75ecb95075"), looks := true }, kinds := [], alts := [], laidByText := true, laidKinds := [.data, .data, .data, .data, .sentinel, .sentinel, .pinned], laidTests := true, laidLooks := .later }
def FnExactReadNumCardSaid : Prop := Claim7.holds Tryd.pinned (.plain (OpenSpec.ofChange fnExactReadNumSpec)) fnExactReadNumCard

/-- THE TIED CARD OF 'laws.FnExactReadLine'. -/
def fnExactReadLineCard : Claim7 := { stood := { row := fnExactReadLineRow, standIns := [], harness := (true, "7550e0b98b353fc8b9f7229cf78786b1c47a432af654395302cf7a75ecb95075"), looks := true }, kinds := [], alts := [], laidByText := true, laidKinds := [.data, .data, .data, .data, .sentinel, .sentinel, .pinned], laidTests := true, laidLooks := .later }
def FnExactReadLineCardSaid : Prop := Claim7.holds Tryd.pinned (.plain (OpenSpec.ofChange fnExactReadLineSpec)) fnExactReadLineCard

/-- THE TIED CARD OF 'laws.FnExactReadPoint'. -/
def fnExactReadPointCard : Claim7 := { stood := { row := fnExactReadPointRow, standIns := [], harness := (true, "7550e0b98b353fc8b9f7229cf78786b1c47a432af654395302cf7a75ecb95075"), looks := true }, kinds := [], alts := [], laidByText := true, laidKinds := [.data, .data, .data, .data, .sentinel, .sentinel, .pinned], laidTests := true, laidLooks := .later }
def FnExactReadPointCardSaid : Prop := Claim7.holds Tryd.pinned (.plain (OpenSpec.ofChange fnExactReadPointSpec)) fnExactReadPointCard

/-- THE TIED CARD OF 'laws.FnExactReadMotion'. -/
def fnExactReadMotionCard : Claim7 := { stood := { row := fnExactReadMotionRow, standIns := [], harness := (true, "7550e0b98b353fc8b9f7229cf78786b1c47a432af654395302cf7a75ecb95075"), looks := true }, kinds := [], alts := [], laidByText := true, laidKinds := [.data, .data, .data, .data, .sentinel, .sentinel, .pinned], laidTests := true, laidLooks := .later }
def FnExactReadMotionCardSaid : Prop := Claim7.holds Tryd.pinned (.plain (OpenSpec.ofChange fnExactReadMotionSpec)) fnExactReadMotionCard

/-- THE SECOND FORM's CARD OF 'laws.FnExactValidPolygon'. -/
def fnExactValidPolygonUptoCard : Claim7 := { stood := { row := fnExactValidPolygonUptoRow, standIns := [], harness := (true, "7550e0b98b353fc8b9f7229cf78786b1c47a432af654395302cf7a75ecb95075"), looks := true }, kinds := [], alts := [], laidByText := true, laidKinds := [.data], laidTests := true, laidLooks := .later }
def FnExactValidPolygonUptoCardSaid : Prop := Claim7.holds Tryd.pinned (.plain (OpenSpec.upto fnExactValidPolygonSpec)) fnExactValidPolygonUptoCard

/-- THE SECOND FORM's CARD OF 'laws.FnExactInPolygon'. -/
def fnExactInPolygonUptoCard : Claim7 := { stood := { row := fnExactInPolygonUptoRow, standIns := [], harness := (true, "7550e0b98b353fc8b9f7229cf78786b1c47a432af654395302cf7a75ecb95075"), looks := true }, kinds := [], alts := [], laidByText := true, laidKinds := [.data], laidTests := true, laidLooks := .later }
def FnExactInPolygonUptoCardSaid : Prop := Claim7.holds Tryd.pinned (.plain (OpenSpec.upto fnExactInPolygonSpec)) fnExactInPolygonUptoCard

/-- THE SECOND FORM's CARD OF 'laws.FnExactValidPlaces'. -/
def fnExactValidPlacesUptoCard : Claim7 := { stood := { row := fnExactValidPlacesUptoRow, standIns := [], harness := (true, "7550e0b98b353fc8b9f7229cf78786b1c47a432af654395302cf7a75ecb95075"), looks := true }, kinds := [], alts := [], laidByText := true, laidKinds := [.data], laidTests := true, laidLooks := .later }
def FnExactValidPlacesUptoCardSaid : Prop := Claim7.holds Tryd.pinned (.plain (OpenSpec.upto fnExactValidPlacesSpec)) fnExactValidPlacesUptoCard

/-- THE SECOND FORM's CARD OF 'laws.FnExactFoldSide'. -/
def fnExactFoldSideUptoCard : Claim7 := { stood := { row := fnExactFoldSideUptoRow, standIns := [], harness := (true, "7550e0b98b353fc8b9f7229cf78786b1c47a432af654395302cf7a75ecb95075"), looks := true }, kinds := [], alts := [], laidByText := true, laidKinds := [.data], laidTests := true, laidLooks := .later }
def FnExactFoldSideUptoCardSaid : Prop := Claim7.holds Tryd.pinned (.plain (OpenSpec.upto fnExactFoldSideSpec)) fnExactFoldSideUptoCard

/-- THE SECOND FORM's CARD OF 'laws.FnExactNormalPolygon'. -/
def fnExactNormalPolygonUptoCard : Claim7 := { stood := { row := fnExactNormalPolygonUptoRow, standIns := [], harness := (true, "7550e0b98b353fc8b9f7229cf78786b1c47a432af654395302cf7a75ecb95075"), looks := true }, kinds := [], alts := [], laidByText := true, laidKinds := [.data], laidTests := true, laidLooks := .later }
def FnExactNormalPolygonUptoCardSaid : Prop := Claim7.holds Tryd.pinned (.plain (OpenSpec.upto fnExactNormalPolygonSpec)) fnExactNormalPolygonUptoCard

/-- THE SECOND FORM's CARD OF 'laws.FnExactValidFolds'. -/
def fnExactValidFoldsUptoCard : Claim7 := { stood := { row := fnExactValidFoldsUptoRow, standIns := [], harness := (true, "7550e0b98b353fc8b9f7229cf78786b1c47a432af654395302cf7a75ecb95075"), looks := true }, kinds := [], alts := [], laidByText := true, laidKinds := [.data], laidTests := true, laidLooks := .later }
def FnExactValidFoldsUptoCardSaid : Prop := Claim7.holds Tryd.pinned (.plain (OpenSpec.upto fnExactValidFoldsSpec)) fnExactValidFoldsUptoCard

/-- THE SECOND FORM's CARD OF 'laws.FnExactPolygonText'. -/
def fnExactPolygonTextUptoCard : Claim7 := { stood := { row := fnExactPolygonTextUptoRow, standIns := [], harness := (true, "7550e0b98b353fc8b9f7229cf78786b1c47a432af654395302cf7a75ecb95075"), looks := true }, kinds := [], alts := [], laidByText := true, laidKinds := [.data, .data, .data, .data], laidTests := true, laidLooks := .later }
def FnExactPolygonTextUptoCardSaid : Prop := Claim7.holds Tryd.pinned (.plain (OpenSpec.upto fnExactPolygonTextSpec)) fnExactPolygonTextUptoCard

/-- THE SECOND FORM's CARD OF 'laws.FnExactReadNum'. -/
def fnExactReadNumUptoCard : Claim7 := { stood := { row := fnExactReadNumUptoRow, standIns := [], harness := (true, "7550e0b98b353fc8b9f7229cf78786b1c47a432af654395302cf7a75ecb95075"), looks := true }, kinds := [], alts := [], laidByText := true, laidKinds := [.data, .data, .data, .data, .sentinel, .sentinel, .pinned], laidTests := true, laidLooks := .later }
def FnExactReadNumUptoCardSaid : Prop := Claim7.holds Tryd.pinned (.plain (OpenSpec.upto fnExactReadNumSpec)) fnExactReadNumUptoCard

/-- THE SECOND FORM's CARD OF 'laws.FnExactReadLine'. -/
def fnExactReadLineUptoCard : Claim7 := { stood := { row := fnExactReadLineUptoRow, standIns := [], harness := (true, "7550e0b98b353fc8b9f7229cf78786b1c47a432af654395302cf7a75ecb95075"), looks := true }, kinds := [], alts := [], laidByText := true, laidKinds := [.data, .data, .data, .data, .sentinel, .sentinel, .pinned], laidTests := true, laidLooks := .later }
def FnExactReadLineUptoCardSaid : Prop := Claim7.holds Tryd.pinned (.plain (OpenSpec.upto fnExactReadLineSpec)) fnExactReadLineUptoCard

/-- THE SECOND FORM's CARD OF 'laws.FnExactReadPoint'. -/
def fnExactReadPointUptoCard : Claim7 := { stood := { row := fnExactReadPointUptoRow, standIns := [], harness := (true, "7550e0b98b353fc8b9f7229cf78786b1c47a432af654395302cf7a75ecb95075"), looks := true }, kinds := [], alts := [], laidByText := true, laidKinds := [.data, .data, .data, .data, .sentinel, .sentinel, .pinned], laidTests := true, laidLooks := .later }
def FnExactReadPointUptoCardSaid : Prop := Claim7.holds Tryd.pinned (.plain (OpenSpec.upto fnExactReadPointSpec)) fnExactReadPointUptoCard

/-- THE SECOND FORM's CARD OF 'laws.FnExactReadMotion'. -/
def fnExactReadMotionUptoCard : Claim7 := { stood := { row := fnExactReadMotionUptoRow, standIns := [], harness := (true, "7550e0b98b353fc8b9f7229cf78786b1c47a432af654395302cf7a75ecb95075"), looks := true }, kinds := [], alts := [], laidByText := true, laidKinds := [.data, .data, .data, .data, .sentinel, .sentinel, .pinned], laidTests := true, laidLooks := .later }
def FnExactReadMotionUptoCardSaid : Prop := Claim7.holds Tryd.pinned (.plain (OpenSpec.upto fnExactReadMotionSpec)) fnExactReadMotionUptoCard
end Rows
end Go.Proofs.YtmajpmofeddknaaDoor
