/- Plain lemmas of this session on sector lists. Conditions: none. -/
import Derived.Test.YtbpkbllokmplnaaV3Math
namespace Go.Proofs.Ytbpkbllokmplnaa.Math
open Go.RowKit Go.Proofs.YtbpkbllokmplnaaW.PrintWords Go.Proofs.YtbpkbllokmplnaaW.PrintMore

/-- A valid sector list. -/
def SecOk (l : List Int) : Prop := l.length ≤ 16 ∧ (∀ x ∈ l, 1 ≤ x ∧ x ≤ 16) ∧ l.sum = 16
instance (l : List Int) : Decidable (SecOk l) := by unfold SecOk; infer_instance
/-- The alternating sum. -/
def alt : List Int → Int
  | [] => 0
  | x :: xs => x - alt xs
/-- A valid cone. -/
def ConeOk (l : List Int) : Prop := 2 ≤ l.length ∧ l.length ≤ 16 ∧ l.length % 2 = 0 ∧ (∀ x ∈ l, 1 ≤ x ∧ x ≤ 16) ∧ l.sum ≤ 16 ∧ alt l = 0
instance (l : List Int) : Decidable (ConeOk l) := by unfold ConeOk; infer_instance
/-- Rising numbers within bounds, behind p. -/
def rises (lo hi : Int) : Option Int → List Int → Bool
  | _, [] => true
  | p, x :: xs => decide (lo ≤ x ∧ x ≤ hi) && (match p with | none => true | some q => decide (q < x)) && rises lo hi (some x) xs
/-- What stands prevOf of place j. -/
def prevOf (l : List Int) (j : Nat) : Option Int := if j = 0 then none else l[j - 1]?
end Go.Proofs.Ytbpkbllokmplnaa.Math
