/- What is proved: the law FnExactConstants of the given program answers true. Conditions: none. -/
import Derived.Test.YtafnmeokmopnmaaPFnExactConstantsx
import Derived.Test.YtafnmeokmopnmaaMath
namespace Go.Proofs.Ytafnmeokmopnmaa.Pure
open Go.RowKit Go.Proofs.Ytafnmeokmopnmaa.PFnExactConstants Go.Proofs.YtafnmeokmopnmaaW.PrintWords Go.Proofs.YtafnmeokmopnmaaW.PrintLast Go.Proofs.YtafnmeokmopnmaaW.PrintMore Go.Proofs.Ytafnmeokmopnmaa.Math


theorem FnExactConstants : laws_FnExactConstants.Pure := rfl

end Go.Proofs.Ytafnmeokmopnmaa.Pure
