-- Printed for this claim by this session's program pp.py, which drives the kit's print with additions. Not trusted: Lean checks it.
import Derived.Test.YtkbobbhecgmgpaaPFnExactFoldsAroundx0
import Derived.Test.YtkbobbhecgmgpaaPFnExactFoldsAroundx1
import Derived.Test.YtkbobbhecgmgpaaPFnExactFoldsAroundx2
import Derived.Test.YtkbobbhecgmgpaaPFnExactFoldsAroundx3
import Derived.Test.YtkbobbhecgmgpaaPFnExactFoldsAroundx4
import Derived.Test.YtkbobbhecgmgpaaPFnExactFoldsAroundx5
import Derived.Test.YtkbobbhecgmgpaaPFnExactFoldsAroundx6
import Derived.Test.YtkbobbhecgmgpaaPFnExactFoldsAroundx7
import Derived.Test.YtkbobbhecgmgpaaPFnExactFoldsAroundx8
namespace Go.Proofs.Ytkbobbhecgmgpaa.PFnExactFoldsAround
open Go.RowKit Go.Proofs.YtkbobbhecgmgpaaW.PrintWords Go.Proofs.YtkbobbhecgmgpaaW.PrintLast Go.Proofs.YtkbobbhecgmgpaaW.PrintMore
attribute [local go_sem] max2_int min2_int max_two min_two max_three min_three max_four min_four   -- for this text's walks alone
set_option linter.unusedVariables false
set_option linter.unusedSimpArgs false

end Go.Proofs.Ytkbobbhecgmgpaa.PFnExactFoldsAround
