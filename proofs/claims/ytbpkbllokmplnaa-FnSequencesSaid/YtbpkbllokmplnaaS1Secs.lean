/- Plain lemmas of this session on sector lists. Conditions: none. -/
import Derived.Test.YtbpkbllokmplnaaS1Math
namespace Go.Proofs.Ytbpkbllokmplnaa.Math
open Go.RowKit Go.Proofs.YtbpkbllokmplnaaW.PrintWords Go.Proofs.YtbpkbllokmplnaaW.PrintMore

def SecOk (l : List Int) : Prop := l.length ≤ 16 ∧ (∀ x ∈ l, 1 ≤ x ∧ x ≤ 16) ∧ l.sum = 16
instance (l : List Int) : Decidable (SecOk l) := by unfold SecOk; infer_instance
def alt : List Int → Int
  | [] => 0
  | x :: xs => x - alt xs
def ConeOk (l : List Int) : Prop := 2 ≤ l.length ∧ l.length ≤ 16 ∧ l.length % 2 = 0 ∧ (∀ x ∈ l, 1 ≤ x ∧ x ≤ 16) ∧ l.sum ≤ 16 ∧ alt l = 0
instance (l : List Int) : Decidable (ConeOk l) := by unfold ConeOk; infer_instance
theorem any_not (l : List Int) (p : Int → Prop) [DecidablePred p] : l.any (fun x => !decide (p x)) = !decide (∀ x ∈ l, p x) := by
  induction l with
  | nil => simp
  | cons x xs ih => rw [List.any_cons, ih]; by_cases h : p x <;> simp [h]
end Go.Proofs.Ytbpkbllokmplnaa.Math
