/- Plain lemmas of this session on the order of lists and on rotations. Conditions: none. -/
import Derived.Test.YtbpkbllokmplnaaV2Math
namespace Go.Proofs.Ytbpkbllokmplnaa.Math
open Go.RowKit Go.Proofs.YtbpkbllokmplnaaW.PrintWords Go.Proofs.YtbpkbllokmplnaaW.PrintMore

/-- A rotation. -/
def rot (l : List Int) (j : Nat) : List Int := l.drop j ++ l.take j
theorem zfX (l : List Int) (j : Nat) (h : j ≤ l.length) : (rot l j).length = l.length := by
  unfold rot; rw [List.length_append, List.length_drop, List.length_take]; omega
end Go.Proofs.Ytbpkbllokmplnaa.Math
