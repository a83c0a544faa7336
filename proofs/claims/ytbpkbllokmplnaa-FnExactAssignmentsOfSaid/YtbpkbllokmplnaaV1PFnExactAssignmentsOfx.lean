-- Printed for this claim by this session's program pp.py, which drives the kit's print with additions. Not trusted: Lean checks it.
import Derived.Test.YtbpkbllokmplnaaV1PFnExactAssignmentsOfx0
import Derived.Test.YtbpkbllokmplnaaV1PFnExactAssignmentsOfx1
import Derived.Test.YtbpkbllokmplnaaV1PFnExactAssignmentsOfx2
import Derived.Test.YtbpkbllokmplnaaV1PFnExactAssignmentsOfx3
import Derived.Test.YtbpkbllokmplnaaV1PFnExactAssignmentsOfx4
import Derived.Test.YtbpkbllokmplnaaV1PFnExactAssignmentsOfx5
import Derived.Test.YtbpkbllokmplnaaV1PFnExactAssignmentsOfx6
import Derived.Test.YtbpkbllokmplnaaV1PFnExactAssignmentsOfx7
import Derived.Test.YtbpkbllokmplnaaV1PFnExactAssignmentsOfx8
import Derived.Test.YtbpkbllokmplnaaV1PFnExactAssignmentsOfx9
namespace Go.Proofs.Ytbpkbllokmplnaa.PFnExactAssignmentsOf
open Go.RowKit Go.Proofs.YtbpkbllokmplnaaW.PrintWords Go.Proofs.YtbpkbllokmplnaaW.PrintLast Go.Proofs.YtbpkbllokmplnaaW.PrintMore
attribute [local go_sem] max2_int min2_int max_two min_two znE zuB max_four min_four   -- for this text's walks alone
set_option linter.unusedVariables false
set_option linter.unusedSimpArgs false

end Go.Proofs.Ytbpkbllokmplnaa.PFnExactAssignmentsOf
