-- Printed for this claim by this session's program pp.py, which drives the kit's print with additions. Not trusted: Lean checks it.
import Derived.Test.YtaickhdobnbnoaaDoorV1PFnExactLibraryNamesx0
import Derived.Test.YtaickhdobnbnoaaDoorV1PFnExactLibraryNamesx1
namespace Go.Proofs.YtaickhdobnbnoaaDoor.PFnExactLibraryNames
open Go.RowKit Go.Proofs.YtaickhdobnbnoaaDoorW.PrintWords Go.Proofs.YtaickhdobnbnoaaDoorW.PrintLast Go.Proofs.YtaickhdobnbnoaaDoorW.PrintMore
attribute [local go_sem] max2_int min2_int max_two min_two max_three min_three max_four min_four   -- for this text's walks alone
set_option linter.unusedVariables false
set_option linter.unusedSimpArgs false

end Go.Proofs.YtaickhdobnbnoaaDoor.PFnExactLibraryNames
