-- Printed for this claim by this session's program pp.py, which drives the kit's print with additions. Not trusted: Lean checks it.
import Derived.Test.YtdnblakbegjohaaV1PFnCrimpsx0
import Derived.Test.YtdnblakbegjohaaV1PFnCrimpsx1
import Derived.Test.YtdnblakbegjohaaV1PFnCrimpsx2
import Derived.Test.YtdnblakbegjohaaV1PFnCrimpsx3
import Derived.Test.YtdnblakbegjohaaV1PFnCrimpsx4
import Derived.Test.YtdnblakbegjohaaV1PFnCrimpsx5
import Derived.Test.YtdnblakbegjohaaV1PFnCrimpsx6
import Derived.Test.YtdnblakbegjohaaV1PFnCrimpsx7
import Derived.Test.YtdnblakbegjohaaV1PFnCrimpsx8
import Derived.Test.YtdnblakbegjohaaV1PFnCrimpsx9
namespace Go.Proofs.Ytdnblakbegjohaa.PFnCrimps
open Go.RowKit Go.Proofs.YtdnblakbegjohaaW.PrintWords Go.Proofs.YtdnblakbegjohaaW.PrintLast Go.Proofs.YtdnblakbegjohaaW.PrintMore
attribute [local go_sem] max2_int min2_int max_two min_two znE zuB max_four min_four   -- for this text's walks alone
set_option linter.unusedVariables false
set_option linter.unusedSimpArgs false

end Go.Proofs.Ytdnblakbegjohaa.PFnCrimps
