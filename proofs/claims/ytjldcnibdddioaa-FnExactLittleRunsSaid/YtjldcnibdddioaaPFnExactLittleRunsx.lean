-- Printed for this claim by this session's program pp.py, which drives the kit's print with additions. Not trusted: Lean checks it.
import Derived.Test.YtjldcnibdddioaaPFnExactLittleRunsx0
import Derived.Test.YtjldcnibdddioaaPFnExactLittleRunsx1
import Derived.Test.YtjldcnibdddioaaPFnExactLittleRunsx2
import Derived.Test.YtjldcnibdddioaaPFnExactLittleRunsx3
import Derived.Test.YtjldcnibdddioaaPFnExactLittleRunsx4
namespace Go.Proofs.Ytjldcnibdddioaa.PFnExactLittleRuns
open Go.RowKit Go.Proofs.YtjldcnibdddioaaW.PrintWords Go.Proofs.YtjldcnibdddioaaW.PrintLast Go.Proofs.YtjldcnibdddioaaW.PrintMore
attribute [local go_sem] max2_int min2_int max_two min_two max_three min_three max_four min_four   -- for this text's walks alone
set_option linter.unusedVariables false
set_option linter.unusedSimpArgs false

end Go.Proofs.Ytjldcnibdddioaa.PFnExactLittleRuns
