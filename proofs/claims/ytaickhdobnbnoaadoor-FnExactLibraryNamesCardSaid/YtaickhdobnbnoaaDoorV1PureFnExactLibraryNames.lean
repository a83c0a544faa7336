/- What is proved: the program's LibraryNames returns what the reference's returns. Conditions: none. -/
import Derived.Test.YtaickhdobnbnoaaDoorV1PFnExactLibraryNamesx
import Derived.Test.YtaickhdobnbnoaaDoorV1Math
namespace Go.Proofs.YtaickhdobnbnoaaDoor.Pure
open Go.RowKit Go.Proofs.YtaickhdobnbnoaaDoor.PFnExactLibraryNames Go.Proofs.YtaickhdobnbnoaaDoorW.PrintWords Go.Proofs.YtaickhdobnbnoaaDoorW.PrintLast Go.Proofs.YtaickhdobnbnoaaDoorW.PrintMore Go.Proofs.YtaickhdobnbnoaaDoor.Math

theorem FnExactLibraryNames : laws_FnExactLibraryNames.Pure := ⟨100, by kernel_rfl⟩

end Go.Proofs.YtaickhdobnbnoaaDoor.Pure
