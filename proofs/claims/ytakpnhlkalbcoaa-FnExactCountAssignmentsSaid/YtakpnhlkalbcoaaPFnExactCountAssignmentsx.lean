-- Printed for this claim by this session's program pp.py, which drives the kit's print with additions. Not trusted: Lean checks it.
import Derived.Test.YtakpnhlkalbcoaaPFnExactCountAssignmentsx0
import Derived.Test.YtakpnhlkalbcoaaPFnExactCountAssignmentsx1
import Derived.Test.YtakpnhlkalbcoaaPFnExactCountAssignmentsx2
import Derived.Test.YtakpnhlkalbcoaaPFnExactCountAssignmentsx3
import Derived.Test.YtakpnhlkalbcoaaPFnExactCountAssignmentsx4
import Derived.Test.YtakpnhlkalbcoaaPFnExactCountAssignmentsx5
import Derived.Test.YtakpnhlkalbcoaaPFnExactCountAssignmentsx6
import Derived.Test.YtakpnhlkalbcoaaPFnExactCountAssignmentsx7
namespace Go.Proofs.Ytakpnhlkalbcoaa.PFnExactCountAssignments
open Go.RowKit Go.Proofs.YtakpnhlkalbcoaaW.PrintWords Go.Proofs.YtakpnhlkalbcoaaW.PrintLast Go.Proofs.YtakpnhlkalbcoaaW.PrintMore
attribute [local go_sem] max2_int min2_int max_two min_two max_three min_three max_four min_four   -- for this text's walks alone
set_option linter.unusedVariables false
set_option linter.unusedSimpArgs false

end Go.Proofs.Ytakpnhlkalbcoaa.PFnExactCountAssignments
