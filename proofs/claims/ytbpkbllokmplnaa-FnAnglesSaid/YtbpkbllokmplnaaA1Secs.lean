/- Plain lemmas of this session on sector lists. Conditions: none. -/
import Derived.Test.YtbpkbllokmplnaaA1Math
namespace Go.Proofs.Ytbpkbllokmplnaa.Math
open Go.RowKit Go.Proofs.YtbpkbllokmplnaaW.PrintWords Go.Proofs.YtbpkbllokmplnaaW.PrintMore

def zcD (l : List Int) : Prop := l.length ≤ 16 ∧ (∀ x ∈ l, 1 ≤ x ∧ x ≤ 16) ∧ l.sum = 16
instance (l : List Int) : Decidable (zcD l) := by unfold zcD; infer_instance
def alt : List Int → Int
  | [] => 0
  | x :: xs => x - alt xs
def ConeOk (l : List Int) : Prop := 2 ≤ l.length ∧ l.length ≤ 16 ∧ l.length % 2 = 0 ∧ (∀ x ∈ l, 1 ≤ x ∧ x ≤ 16) ∧ l.sum ≤ 16 ∧ alt l = 0
instance (l : List Int) : Decidable (ConeOk l) := by unfold ConeOk; infer_instance
def rises (lo hi : Int) : Option Int → List Int → Bool
  | _, [] => true
  | p, x :: xs => decide (lo ≤ x ∧ x ≤ hi) && (match p with | none => true | some q => decide (q < x)) && rises lo hi (some x) xs
theorem rises_mem {lo hi : Int} : ∀ {l : List Int} {p : Option Int}, rises lo hi p l = true → ∀ x ∈ l, lo ≤ x ∧ x ≤ hi
  | [], _, _, x, hx => by simp at hx
  | y :: ys, p, h, x, hx => by
    simp only [rises, Bool.and_eq_true, decide_eq_true_eq] at h
    rcases List.mem_cons.1 hx with rfl | hx
    · exact h.1.1
    · exact rises_mem h.2 x hx
def prevOf (l : List Int) (j : Nat) : Option Int := if j = 0 then none else l[j - 1]?
def gaps (f : Int) : List Int → List Int
  | [] => []
  | [x] => [f + 16 - x]
  | x :: y :: r => (y - x) :: gaps f (y :: r)
def dirsF : Int → List Int → List Int → List Int × Bool
  | _, o, [] => (o, true)
  | f, o, x :: xs => if f ≥ 16 then ([], false) else dirsF (f + x) (o ++ [f]) xs
theorem any_not (l : List Int) (p : Int → Prop) [DecidablePred p] : l.any (fun x => !decide (p x)) = !decide (∀ x ∈ l, p x) := by
  induction l with
  | nil => simp
  | cons x xs ih => rw [List.any_cons, ih]; by_cases h : p x <;> simp [h]
end Go.Proofs.Ytbpkbllokmplnaa.Math
