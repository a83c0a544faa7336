-- Printed for this claim by this session's program pp.py, which drives the kit's print with additions. Not trusted: Lean checks it.
import Derived.Test.YtbkcmdccomngnaaDoorV4PFnExactReadMotionx0
import Derived.Test.YtbkcmdccomngnaaDoorV4PFnExactReadMotionx1
import Derived.Test.YtbkcmdccomngnaaDoorV4PFnExactReadMotionx2
import Derived.Test.YtbkcmdccomngnaaDoorV4PFnExactReadMotionx3
import Derived.Test.YtbkcmdccomngnaaDoorV4PFnExactReadMotionx4
import Derived.Test.YtbkcmdccomngnaaDoorV4PFnExactReadMotionx5
import Derived.Test.YtbkcmdccomngnaaDoorV4PFnExactReadMotionx6
import Derived.Test.YtbkcmdccomngnaaDoorV4PFnExactReadMotionx7
import Derived.Test.YtbkcmdccomngnaaDoorV4PFnExactReadMotionx8
import Derived.Test.YtbkcmdccomngnaaDoorV4PFnExactReadMotionx9
import Derived.Test.YtbkcmdccomngnaaDoorV4PFnExactReadMotionx10
import Derived.Test.YtbkcmdccomngnaaDoorV4PFnExactReadMotionx11
import Derived.Test.YtbkcmdccomngnaaDoorV4PFnExactReadMotionx12
import Derived.Test.YtbkcmdccomngnaaDoorV4PFnExactReadMotionx13
namespace Go.Proofs.YtbkcmdccomngnaaDoor.PFnExactReadMotion
open Go.RowKit Go.Proofs.YtbkcmdccomngnaaDoorW.PrintWords Go.Proofs.YtbkcmdccomngnaaDoorW.PrintLast Go.Proofs.YtbkcmdccomngnaaDoorW.PrintMore
attribute [local go_sem] zbB ziA zrC zhD znE zuA znK zkT   -- for this text's walks alone
set_option linter.unusedVariables false
set_option linter.unusedSimpArgs false

end Go.Proofs.YtbkcmdccomngnaaDoor.PFnExactReadMotion
