/- Plain lemmas of this session on the kinds with which a cone can be folded: their mountains and valleys, their number, their order. Conditions: none. -/
import Derived.Test.YtdnblakbegjohaaV1Bits
namespace Go.Proofs.Ytdnblakbegjohaa.Math
open Go.RowKit Go.Proofs.YtdnblakbegjohaaW.PrintWords Go.Proofs.YtdnblakbegjohaaW.PrintMore

end Go.Proofs.Ytdnblakbegjohaa.Math
