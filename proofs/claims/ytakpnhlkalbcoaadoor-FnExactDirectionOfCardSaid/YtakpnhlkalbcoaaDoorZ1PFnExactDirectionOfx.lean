-- Printed for this claim by this session's program pp.py, which drives the kit's print with additions. Not trusted: Lean checks it.
import Derived.Test.YtakpnhlkalbcoaaDoorZ1PFnExactDirectionOfx0
import Derived.Test.YtakpnhlkalbcoaaDoorZ1PFnExactDirectionOfx1
import Derived.Test.YtakpnhlkalbcoaaDoorZ1PFnExactDirectionOfx2
import Derived.Test.YtakpnhlkalbcoaaDoorZ1PFnExactDirectionOfx3
import Derived.Test.YtakpnhlkalbcoaaDoorZ1PFnExactDirectionOfx4
import Derived.Test.YtakpnhlkalbcoaaDoorZ1PFnExactDirectionOfx5
import Derived.Test.YtakpnhlkalbcoaaDoorZ1PFnExactDirectionOfx6
import Derived.Test.YtakpnhlkalbcoaaDoorZ1PFnExactDirectionOfx7
import Derived.Test.YtakpnhlkalbcoaaDoorZ1PFnExactDirectionOfx8
import Derived.Test.YtakpnhlkalbcoaaDoorZ1PFnExactDirectionOfx9
namespace Go.Proofs.YtakpnhlkalbcoaaDoor.PFnExactDirectionOf
open Go.RowKit Go.Proofs.YtakpnhlkalbcoaaDoorW.PrintWords Go.Proofs.YtakpnhlkalbcoaaDoorW.PrintLast Go.Proofs.YtakpnhlkalbcoaaDoorW.PrintMore
attribute [local go_sem] max2_int min2_int max_two min_two max_three min_three max_four min_four   -- for this text's walks alone
set_option linter.unusedVariables false
set_option linter.unusedSimpArgs false

end Go.Proofs.YtakpnhlkalbcoaaDoor.PFnExactDirectionOf
