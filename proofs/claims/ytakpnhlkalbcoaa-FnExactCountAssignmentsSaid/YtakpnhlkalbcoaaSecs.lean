/- Plain lemmas of this session on sector lists. Conditions: none. -/
import Derived.Test.YtakpnhlkalbcoaaMath
namespace Go.Proofs.Ytakpnhlkalbcoaa.Math
open Go.RowKit Go.Proofs.YtakpnhlkalbcoaaW.PrintWords Go.Proofs.YtakpnhlkalbcoaaW.PrintMore

/-- A valid sector list. -/
def SecOk (l : List Int) : Prop := l.length ≤ 16 ∧ (∀ x ∈ l, 1 ≤ x ∧ x ≤ 16) ∧ l.sum = 16
instance (l : List Int) : Decidable (SecOk l) := by unfold SecOk; infer_instance
/-- The alternating sum. -/
def alt : List Int → Int
  | [] => 0
  | x :: xs => x - alt xs
theorem alt_bd : ∀ {l : List Int}, (∀ x ∈ l, 0 ≤ x ∧ x ≤ 16) → -(16 * (l.length : Int)) ≤ alt l ∧ alt l ≤ 16 * l.length
  | [], _ => by simp [alt]
  | x :: xs, h => by
    have h1 := h x List.mem_cons_self
    have h2 := alt_bd (l := xs) (fun y hy => h y (List.mem_cons_of_mem _ hy))
    simp only [alt, List.length_cons]
    omega
/-- A valid cone. -/
def ConeOk (l : List Int) : Prop := 2 ≤ l.length ∧ l.length ≤ 16 ∧ l.length % 2 = 0 ∧ (∀ x ∈ l, 1 ≤ x ∧ x ≤ 16) ∧ l.sum ≤ 16 ∧ alt l = 0
instance (l : List Int) : Decidable (ConeOk l) := by unfold ConeOk; infer_instance
/-- Rising numbers within bounds, behind p. -/
def rises (lo hi : Int) : Option Int → List Int → Bool
  | _, [] => true
  | p, x :: xs => decide (lo ≤ x ∧ x ≤ hi) && (match p with | none => true | some q => decide (q < x)) && rises lo hi (some x) xs
theorem rises_mem {lo hi : Int} : ∀ {l : List Int} {p : Option Int}, rises lo hi p l = true → ∀ x ∈ l, lo ≤ x ∧ x ≤ hi
  | [], _, _, x, hx => by simp at hx
  | y :: ys, p, h, x, hx => by
    simp only [rises, Bool.and_eq_true, decide_eq_true_eq] at h
    rcases List.mem_cons.1 hx with rfl | hx
    · exact h.1.1
    · exact rises_mem h.2 x hx
/-- What stands prevOf of place j. -/
def prevOf (l : List Int) (j : Nat) : Option Int := if j = 0 then none else l[j - 1]?
/-- The sectors between directions, where f is the first one. -/
def gaps (f : Int) : List Int → List Int
  | [] => []
  | [x] => [f + 16 - x]
  | x :: y :: r => (y - x) :: gaps f (y :: r)
theorem gaps_length (f : Int) : ∀ l : List Int, (gaps f l).length = l.length
  | [] => rfl
  | [_] => rfl
  | _ :: y :: r => by simp [gaps, gaps_length f (y :: r)]
/-- The directions with some sectors, behind o. -/
def dirsF : Int → List Int → List Int → List Int × Bool
  | _, o, [] => (o, true)
  | f, o, x :: xs => if f ≥ 16 then ([], false) else dirsF (f + x) (o ++ [f]) xs
theorem dirsF_length : ∀ (l : List Int) (f : Int) (o : List Int), (dirsF f o l).1.length ≤ o.length + l.length
  | [], f, o => by simp [dirsF]
  | x :: xs, f, o => by
    simp only [dirsF]
    split
    · simp
    · have := dirsF_length xs (f + x) (o ++ [f])
      simp at this ⊢
      omega
theorem any_not (l : List Int) (p : Int → Prop) [DecidablePred p] : l.any (fun x => !decide (p x)) = !decide (∀ x ∈ l, p x) := by
  induction l with
  | nil => simp
  | cons x xs ih => rw [List.any_cons, ih]; by_cases h : p x <;> simp [h]
end Go.Proofs.Ytakpnhlkalbcoaa.Math
