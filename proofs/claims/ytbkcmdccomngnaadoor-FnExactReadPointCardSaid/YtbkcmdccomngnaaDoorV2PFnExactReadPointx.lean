-- Printed for this claim by this session's program pp.py, which drives the kit's print with additions. Not trusted: Lean checks it.
import Derived.Test.YtbkcmdccomngnaaDoorV2PFnExactReadPointx0
import Derived.Test.YtbkcmdccomngnaaDoorV2PFnExactReadPointx1
import Derived.Test.YtbkcmdccomngnaaDoorV2PFnExactReadPointx2
import Derived.Test.YtbkcmdccomngnaaDoorV2PFnExactReadPointx3
import Derived.Test.YtbkcmdccomngnaaDoorV2PFnExactReadPointx4
import Derived.Test.YtbkcmdccomngnaaDoorV2PFnExactReadPointx5
import Derived.Test.YtbkcmdccomngnaaDoorV2PFnExactReadPointx6
import Derived.Test.YtbkcmdccomngnaaDoorV2PFnExactReadPointx7
import Derived.Test.YtbkcmdccomngnaaDoorV2PFnExactReadPointx8
import Derived.Test.YtbkcmdccomngnaaDoorV2PFnExactReadPointx9
import Derived.Test.YtbkcmdccomngnaaDoorV2PFnExactReadPointx10
namespace Go.Proofs.YtbkcmdccomngnaaDoor.PFnExactReadPoint
open Go.RowKit Go.Proofs.YtbkcmdccomngnaaDoorW.PrintWords Go.Proofs.YtbkcmdccomngnaaDoorW.PrintLast Go.Proofs.YtbkcmdccomngnaaDoorW.PrintMore
attribute [local go_sem] zbB ziA max_two min_two znE zuA znH zkT   -- for this text's walks alone
set_option linter.unusedVariables false
set_option linter.unusedSimpArgs false

end Go.Proofs.YtbkcmdccomngnaaDoor.PFnExactReadPoint
