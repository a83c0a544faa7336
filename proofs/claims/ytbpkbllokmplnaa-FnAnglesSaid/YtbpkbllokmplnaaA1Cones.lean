/- Plain lemmas of this session on the kinds with which a cone can be folded: their mountains and valleys, their number, their order. Conditions: none. -/
import Derived.Test.YtbpkbllokmplnaaA1Bits
namespace Go.Proofs.Ytbpkbllokmplnaa.Math
open Go.RowKit Go.Proofs.YtbpkbllokmplnaaW.PrintWords Go.Proofs.YtbpkbllokmplnaaW.PrintMore

def lexlt : List Int → List Int → Bool
  | x :: xs, y :: ys => if x = y then lexlt xs ys else decide (x < y)
  | _, _ => false
end Go.Proofs.Ytbpkbllokmplnaa.Math
