-- Printed for this claim by this session's program pp.py, which drives the kit's print with additions. Not trusted: Lean checks it.
import Derived.Test.YtbkcmdccomngnaaDoorV1PFnExactReadNumx0
import Derived.Test.YtbkcmdccomngnaaDoorV1PFnExactReadNumx1
import Derived.Test.YtbkcmdccomngnaaDoorV1PFnExactReadNumx2
import Derived.Test.YtbkcmdccomngnaaDoorV1PFnExactReadNumx3
import Derived.Test.YtbkcmdccomngnaaDoorV1PFnExactReadNumx4
import Derived.Test.YtbkcmdccomngnaaDoorV1PFnExactReadNumx5
import Derived.Test.YtbkcmdccomngnaaDoorV1PFnExactReadNumx6
import Derived.Test.YtbkcmdccomngnaaDoorV1PFnExactReadNumx7
import Derived.Test.YtbkcmdccomngnaaDoorV1PFnExactReadNumx8
namespace Go.Proofs.YtbkcmdccomngnaaDoor.PFnExactReadNum
open Go.RowKit Go.Proofs.YtbkcmdccomngnaaDoorW.PrintWords Go.Proofs.YtbkcmdccomngnaaDoorW.PrintLast Go.Proofs.YtbkcmdccomngnaaDoorW.PrintMore
attribute [local go_sem] max2_int min2_int max_two min_two znE zuA max_four min_four   -- for this text's walks alone
set_option linter.unusedVariables false
set_option linter.unusedSimpArgs false

end Go.Proofs.YtbkcmdccomngnaaDoor.PFnExactReadNum
