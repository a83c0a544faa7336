-- Printed for this claim by this session's program pp.py, which drives the kit's print with additions. Not trusted: Lean checks it.
import Derived.Test.YtakpnhlkalbcoaaDoorPFnExactViolationTextx0
import Derived.Test.YtakpnhlkalbcoaaDoorPFnExactViolationTextx1
import Derived.Test.YtakpnhlkalbcoaaDoorPFnExactViolationTextx2
import Derived.Test.YtakpnhlkalbcoaaDoorPFnExactViolationTextx3
import Derived.Test.YtakpnhlkalbcoaaDoorPFnExactViolationTextx4
namespace Go.Proofs.YtakpnhlkalbcoaaDoor.PFnExactViolationText
open Go.RowKit Go.Proofs.YtakpnhlkalbcoaaDoorW.PrintWords Go.Proofs.YtakpnhlkalbcoaaDoorW.PrintLast Go.Proofs.YtakpnhlkalbcoaaDoorW.PrintMore
attribute [local go_sem] max2_int min2_int max_two min_two max_three min_three max_four min_four   -- for this text's walks alone
set_option linter.unusedVariables false
set_option linter.unusedSimpArgs false

end Go.Proofs.YtakpnhlkalbcoaaDoor.PFnExactViolationText
