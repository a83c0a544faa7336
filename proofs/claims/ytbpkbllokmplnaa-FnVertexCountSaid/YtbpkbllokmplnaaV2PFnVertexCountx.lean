-- Printed for this claim by this session's program pp.py, which drives the kit's print with additions. Not trusted: Lean checks it.
import Derived.Test.YtbpkbllokmplnaaV2PFnVertexCountx0
import Derived.Test.YtbpkbllokmplnaaV2PFnVertexCountx1
import Derived.Test.YtbpkbllokmplnaaV2PFnVertexCountx2
import Derived.Test.YtbpkbllokmplnaaV2PFnVertexCountx3
import Derived.Test.YtbpkbllokmplnaaV2PFnVertexCountx4
import Derived.Test.YtbpkbllokmplnaaV2PFnVertexCountx5
import Derived.Test.YtbpkbllokmplnaaV2PFnVertexCountx6
import Derived.Test.YtbpkbllokmplnaaV2PFnVertexCountx7
import Derived.Test.YtbpkbllokmplnaaV2PFnVertexCountx8
namespace Go.Proofs.Ytbpkbllokmplnaa.PFnVertexCount
open Go.RowKit Go.Proofs.YtbpkbllokmplnaaW.PrintWords Go.Proofs.YtbpkbllokmplnaaW.PrintLast Go.Proofs.YtbpkbllokmplnaaW.PrintMore
attribute [local go_sem] max2_int min2_int max_two min_two znE zuB max_four min_four   -- for this text's walks alone
set_option linter.unusedVariables false
set_option linter.unusedSimpArgs false

end Go.Proofs.Ytbpkbllokmplnaa.PFnVertexCount
