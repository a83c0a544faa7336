-- Printed for this claim by this session's program pp.py, which drives the kit's print with additions. Not trusted: Lean checks it.
import Derived.Test.YtbkehpciffponaaPFnExactSquarePaperx0
import Derived.Test.YtbkehpciffponaaPFnExactSquarePaperx1
import Derived.Test.YtbkehpciffponaaPFnExactSquarePaperx2
namespace Go.Proofs.Ytbkehpciffponaa.PFnExactSquarePaper
open Go.RowKit Go.Proofs.YtbkehpciffponaaW.PrintWords Go.Proofs.YtbkehpciffponaaW.PrintLast Go.Proofs.YtbkehpciffponaaW.PrintMore
attribute [local go_sem] max2_int min2_int max_two min_two max_three min_three max_four min_four   -- for this text's walks alone
set_option linter.unusedVariables false
set_option linter.unusedSimpArgs false

end Go.Proofs.Ytbkehpciffponaa.PFnExactSquarePaper
