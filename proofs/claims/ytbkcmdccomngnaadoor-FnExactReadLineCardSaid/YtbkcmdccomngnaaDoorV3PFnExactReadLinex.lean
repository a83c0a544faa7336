-- Printed for this claim by this session's program pp.py, which drives the kit's print with additions. Not trusted: Lean checks it.
import Derived.Test.YtbkcmdccomngnaaDoorV3PFnExactReadLinex0
import Derived.Test.YtbkcmdccomngnaaDoorV3PFnExactReadLinex1
import Derived.Test.YtbkcmdccomngnaaDoorV3PFnExactReadLinex2
import Derived.Test.YtbkcmdccomngnaaDoorV3PFnExactReadLinex3
import Derived.Test.YtbkcmdccomngnaaDoorV3PFnExactReadLinex4
import Derived.Test.YtbkcmdccomngnaaDoorV3PFnExactReadLinex5
import Derived.Test.YtbkcmdccomngnaaDoorV3PFnExactReadLinex6
import Derived.Test.YtbkcmdccomngnaaDoorV3PFnExactReadLinex7
import Derived.Test.YtbkcmdccomngnaaDoorV3PFnExactReadLinex8
import Derived.Test.YtbkcmdccomngnaaDoorV3PFnExactReadLinex9
namespace Go.Proofs.YtbkcmdccomngnaaDoor.PFnExactReadLine
open Go.RowKit Go.Proofs.YtbkcmdccomngnaaDoorW.PrintWords Go.Proofs.YtbkcmdccomngnaaDoorW.PrintLast Go.Proofs.YtbkcmdccomngnaaDoorW.PrintMore
attribute [local go_sem] max2_int min2_int max_two min_two znE zuA max_four min_four   -- for this text's walks alone
set_option linter.unusedVariables false
set_option linter.unusedSimpArgs false

end Go.Proofs.YtbkcmdccomngnaaDoor.PFnExactReadLine
