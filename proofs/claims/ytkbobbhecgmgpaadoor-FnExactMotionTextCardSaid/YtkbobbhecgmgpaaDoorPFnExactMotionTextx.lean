-- Printed for this claim by this session's program pp.py, which drives the kit's print with additions. Not trusted: Lean checks it.
import Derived.Test.YtkbobbhecgmgpaaDoorPFnExactMotionTextx0
import Derived.Test.YtkbobbhecgmgpaaDoorPFnExactMotionTextx1
import Derived.Test.YtkbobbhecgmgpaaDoorPFnExactMotionTextx2
import Derived.Test.YtkbobbhecgmgpaaDoorPFnExactMotionTextx3
import Derived.Test.YtkbobbhecgmgpaaDoorPFnExactMotionTextx4
import Derived.Test.YtkbobbhecgmgpaaDoorPFnExactMotionTextx5
namespace Go.Proofs.YtkbobbhecgmgpaaDoor.PFnExactMotionText
open Go.RowKit Go.Proofs.YtkbobbhecgmgpaaDoorW.PrintWords Go.Proofs.YtkbobbhecgmgpaaDoorW.PrintLast Go.Proofs.YtkbobbhecgmgpaaDoorW.PrintMore
attribute [local go_sem] max2_int min2_int max_two min_two max_three min_three max_four min_four   -- for this text's walks alone
set_option linter.unusedVariables false
set_option linter.unusedSimpArgs false

end Go.Proofs.YtkbobbhecgmgpaaDoor.PFnExactMotionText
