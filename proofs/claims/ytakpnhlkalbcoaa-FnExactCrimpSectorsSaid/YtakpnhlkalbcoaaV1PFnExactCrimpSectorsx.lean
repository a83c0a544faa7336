-- Printed for this claim by this session's program pp.py, which drives the kit's print with additions. Not trusted: Lean checks it.
import Derived.Test.YtakpnhlkalbcoaaV1PFnExactCrimpSectorsx0
import Derived.Test.YtakpnhlkalbcoaaV1PFnExactCrimpSectorsx1
import Derived.Test.YtakpnhlkalbcoaaV1PFnExactCrimpSectorsx2
import Derived.Test.YtakpnhlkalbcoaaV1PFnExactCrimpSectorsx3
import Derived.Test.YtakpnhlkalbcoaaV1PFnExactCrimpSectorsx4
import Derived.Test.YtakpnhlkalbcoaaV1PFnExactCrimpSectorsx5
import Derived.Test.YtakpnhlkalbcoaaV1PFnExactCrimpSectorsx6
import Derived.Test.YtakpnhlkalbcoaaV1PFnExactCrimpSectorsx7
import Derived.Test.YtakpnhlkalbcoaaV1PFnExactCrimpSectorsx8
import Derived.Test.YtakpnhlkalbcoaaV1PFnExactCrimpSectorsx9
namespace Go.Proofs.Ytakpnhlkalbcoaa.PFnExactCrimpSectors
open Go.RowKit Go.Proofs.YtakpnhlkalbcoaaW.PrintWords Go.Proofs.YtakpnhlkalbcoaaW.PrintLast Go.Proofs.YtakpnhlkalbcoaaW.PrintMore
attribute [local go_sem] max2_int min2_int max_two min_two max_three min_three max_four min_four   -- for this text's walks alone
set_option linter.unusedVariables false
set_option linter.unusedSimpArgs false

end Go.Proofs.Ytakpnhlkalbcoaa.PFnExactCrimpSectors
