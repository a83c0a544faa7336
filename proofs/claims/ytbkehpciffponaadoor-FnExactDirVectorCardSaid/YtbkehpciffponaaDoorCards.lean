/-
  DERIVED. GIVEN WITH THE SEED: THE CARDS: each row of YtbkehpciffponaaDoorRows.lean that lists a variable, with what it lists TIED to the program's text (the seventh form; the later family's looks); each row that meets fmt, with fmt's text TOLD by the authors' own Lean function (tested against real Go, not proved from fmt's source: count such statements apart). THE CARD IS WHAT COUNTS. Prove the row's statement (the work); the ties are given (YtbkehpciffponaaDoorTie.lean); close each card by the builder's one call (the guide's Derived/Test/ToyasCard.lean, 'card_holds'). Laid BY PROGRAM, IN A SANDBOX (cutbox-door.mjs). By AI agents, Wed Nov 11 2026. No macro, syntax, notation, axiom, sorry.
-/
import Derived.Test.YtbkehpciffponaaDoorRows
import GoSem.ClaimSeven
namespace Go.Proofs.YtbkehpciffponaaDoor
namespace Rows

/-- THE TIED CARD OF 'laws.FnExactDirVector'. -/
def fnExactDirVectorCard : Claim7 := { stood := { row := fnExactDirVectorRow, standIns := [], harness := (true, "ced5a96524fb605a57bb1481cca929c1cb4165080fc15d43e81e31549a26f866"), looks := false }, kinds := [], alts := [], laidByText := true, laidKinds := [.data], laidTests := true, laidLooks := .later }
def FnExactDirVectorCardSaid : Prop := Claim7.holds Tryd.pinned (.plain (OpenSpec.ofChange fnExactDirVectorSpec)) fnExactDirVectorCard

/-- THE SECOND FORM's CARD OF 'laws.FnExactDirVector'. -/
def fnExactDirVectorUptoCard : Claim7 := { stood := { row := fnExactDirVectorUptoRow, standIns := [], harness := (true, "ced5a96524fb605a57bb1481cca929c1cb4165080fc15d43e81e31549a26f866"), looks := false }, kinds := [], alts := [], laidByText := true, laidKinds := [.data], laidTests := true, laidLooks := .later }
def FnExactDirVectorUptoCardSaid : Prop := Claim7.holds Tryd.pinned (.plain (OpenSpec.upto fnExactDirVectorSpec)) fnExactDirVectorUptoCard
end Rows
end Go.Proofs.YtbkehpciffponaaDoor
