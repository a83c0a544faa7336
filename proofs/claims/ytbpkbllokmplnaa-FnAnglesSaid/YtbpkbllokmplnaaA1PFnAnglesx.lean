-- Printed for this claim by this session's program pp.py, which drives the kit's print with additions. Not trusted: Lean checks it.
import Derived.Test.YtbpkbllokmplnaaA1PFnAnglesx0
import Derived.Test.YtbpkbllokmplnaaA1PFnAnglesx1
import Derived.Test.YtbpkbllokmplnaaA1PFnAnglesx2
import Derived.Test.YtbpkbllokmplnaaA1PFnAnglesx3
import Derived.Test.YtbpkbllokmplnaaA1PFnAnglesx4
import Derived.Test.YtbpkbllokmplnaaA1PFnAnglesx5
import Derived.Test.YtbpkbllokmplnaaA1PFnAnglesx6
import Derived.Test.YtbpkbllokmplnaaA1PFnAnglesx7
namespace Go.Proofs.Ytbpkbllokmplnaa.PFnAngles
open Go.RowKit Go.Proofs.YtbpkbllokmplnaaW.PrintWords Go.Proofs.YtbpkbllokmplnaaW.PrintLast Go.Proofs.YtbpkbllokmplnaaW.PrintMore
attribute [local go_sem] max2_int min2_int max_two min_two max_three min_three max_four min_four   -- for this text's walks alone
set_option linter.unusedVariables false
set_option linter.unusedSimpArgs false

end Go.Proofs.Ytbpkbllokmplnaa.PFnAngles
