-- Printed for this claim by this session's program pp.py, which drives the kit's print with additions. Not trusted: Lean checks it.
import Derived.Test.YtbpkbllokmplnaaK1PFnExactKawasakiSequencesx0
import Derived.Test.YtbpkbllokmplnaaK1PFnExactKawasakiSequencesx1
import Derived.Test.YtbpkbllokmplnaaK1PFnExactKawasakiSequencesx2
import Derived.Test.YtbpkbllokmplnaaK1PFnExactKawasakiSequencesx3
import Derived.Test.YtbpkbllokmplnaaK1PFnExactKawasakiSequencesx4
import Derived.Test.YtbpkbllokmplnaaK1PFnExactKawasakiSequencesx5
import Derived.Test.YtbpkbllokmplnaaK1PFnExactKawasakiSequencesx6
namespace Go.Proofs.Ytbpkbllokmplnaa.PFnExactKawasakiSequences
open Go.RowKit Go.Proofs.YtbpkbllokmplnaaW.PrintWords Go.Proofs.YtbpkbllokmplnaaW.PrintLast Go.Proofs.YtbpkbllokmplnaaW.PrintMore
attribute [local go_sem] max2_int min2_int max_two min_two max_three min_three max_four min_four   -- for this text's walks alone
set_option linter.unusedVariables false
set_option linter.unusedSimpArgs false

end Go.Proofs.Ytbpkbllokmplnaa.PFnExactKawasakiSequences
