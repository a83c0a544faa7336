/- Plain lemmas of this session on the kinds with a number. Conditions: none. -/
import Derived.Test.YtbpkbllokmplnaaA1Count
namespace Go.Proofs.Ytbpkbllokmplnaa.Math
open Go.RowKit Go.Proofs.YtbpkbllokmplnaaW.PrintWords Go.Proofs.YtbpkbllokmplnaaW.PrintMore

end Go.Proofs.Ytbpkbllokmplnaa.Math
