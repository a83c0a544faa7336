-- Printed for this claim by this session's program pp.py, which drives the kit's print with additions. Not trusted: Lean checks it.
import Derived.Test.YtjldcnibdddioaaPFnLittleRunsx0
import Derived.Test.YtjldcnibdddioaaPFnLittleRunsx1
import Derived.Test.YtjldcnibdddioaaPFnLittleRunsx2
import Derived.Test.YtjldcnibdddioaaPFnLittleRunsx3
import Derived.Test.YtjldcnibdddioaaPFnLittleRunsx4
namespace Go.Proofs.Ytjldcnibdddioaa.PFnLittleRuns
open Go.RowKit Go.Proofs.YtjldcnibdddioaaW.PrintWords Go.Proofs.YtjldcnibdddioaaW.PrintLast Go.Proofs.YtjldcnibdddioaaW.PrintMore
attribute [local go_sem] max2_int min2_int max_two min_two max_three min_three max_four min_four   -- for this text's walks alone
set_option linter.unusedVariables false
set_option linter.unusedSimpArgs false

end Go.Proofs.Ytjldcnibdddioaa.PFnLittleRuns
