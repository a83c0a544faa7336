/- Plain lemmas of this session on crimps of cones. Conditions: none. -/
import Derived.Test.YtbpkbllokmplnaaA1Around
namespace Go.Proofs.Ytbpkbllokmplnaa.Math
open Go.RowKit Go.Proofs.YtbpkbllokmplnaaW.PrintWords Go.Proofs.YtbpkbllokmplnaaW.PrintMore

def KndOk (q : List Int) : Prop := ∀ x ∈ q, x = 2 ∨ x = 3
instance (q : List Int) : Decidable (KndOk q) := by unfold KndOk; infer_instance
def zlR (c : Nat) (Q : List Int) : List Int := (Q.take (c + 2)).drop 1
structure RunR (c : Nat) (L : List Int) : Prop where
  one : 1 ≤ c
  two : c + 2 ≤ L.length
  len : L.length ≤ 16
  even : L.length % 2 = 0
  big : ∀ x ∈ L, 1 ≤ x ∧ x ≤ 16
  sum : L.sum ≤ 16
  alt : alt L = 0
  eq : ∀ j, 1 ≤ j → j ≤ c → rd L (j : Int) = rd L 1
  hd : rd L 0 > rd L 1
  tl : rd L ((c + 1 : Nat) : Int) > rd L 1
end Go.Proofs.Ytbpkbllokmplnaa.Math
