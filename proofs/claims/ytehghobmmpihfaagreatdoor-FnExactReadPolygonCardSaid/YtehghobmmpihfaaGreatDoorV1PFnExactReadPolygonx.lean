-- Printed for this claim by this session's program pp.py, which drives the kit's print with additions. Not trusted: Lean checks it.
import Derived.Test.YtehghobmmpihfaaGreatDoorV1PFnExactReadPolygonx23
namespace Go.Proofs.YtehghobmmpihfaaGreatDoor.PFnExactReadPolygon
open Go.RowKit Go.Proofs.YtehghobmmpihfaaGreatDoorW.PrintWords Go.Proofs.YtehghobmmpihfaaGreatDoorW.PrintLast Go.Proofs.YtehghobmmpihfaaGreatDoorW.PrintMore
attribute [local go_sem] zbB ziB zrC zhD znE zuB znH zkT   -- for this text's walks alone
set_option linter.unusedVariables false
set_option linter.unusedSimpArgs false

end Go.Proofs.YtehghobmmpihfaaGreatDoor.PFnExactReadPolygon
