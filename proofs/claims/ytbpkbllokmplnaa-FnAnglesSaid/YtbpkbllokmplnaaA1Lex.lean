/- Plain lemmas of this session on the order of lists and on rotations. Conditions: none. -/
import Derived.Test.YtbpkbllokmplnaaA1Math
namespace Go.Proofs.Ytbpkbllokmplnaa.Math
open Go.RowKit Go.Proofs.YtbpkbllokmplnaaW.PrintWords Go.Proofs.YtbpkbllokmplnaaW.PrintMore

def zlU : List Int → List Int → Bool
  | [], b => decide (0 < b.length)
  | _ :: _, [] => false
  | x :: xs, y :: ys => if x = y then zlU xs ys else decide (x < y)
def lexCmp : List Int → List Int → Int
  | [], [] => 0
  | [], _ :: _ => -1
  | _ :: _, [] => 1
  | x :: xs, y :: ys => if x < y then -1 else if x > y then 1 else lexCmp xs ys
theorem lexCmp_lt : ∀ a b : List Int, decide (lexCmp a b < 0) = zlU a b
  | [], [] => rfl
  | [], _ :: _ => by simp [lexCmp, zlU]
  | _ :: _, [] => rfl
  | x :: xs, y :: ys => by
    simp only [lexCmp, zlU]
    by_cases h : x = y
    · subst h; simp only [show ¬ x < x by omega, if_false, if_true]; exact lexCmp_lt xs ys
    · by_cases h2 : x < y
      · simp [h, h2]
      · have h3 : y < x := by omega
        simp [h, h2, h3]
theorem lexLt_self : ∀ a : List Int, zlU a a = false
  | [] => rfl
  | x :: xs => by simp only [zlU, if_true]; exact lexLt_self xs
theorem lexLt_same : ∀ a b : List Int, (!zlU a b && !zlU b a) = decide (a = b)
  | [], [] => rfl
  | [], _ :: _ => by simp [zlU]
  | _ :: _, [] => by simp [zlU]
  | x :: xs, y :: ys => by
    simp only [zlU]
    by_cases h : x = y
    · subst h; rw [if_pos rfl, if_pos rfl, lexLt_same xs ys]; simp
    · rw [if_neg h, if_neg (fun c => h c.symm)]
      by_cases h2 : x < y
      · simp [h, h2]
      · have : y < x := by omega
        simp [h, h2, this]
def rot (l : List Int) (j : Nat) : List Int := l.drop j ++ l.take j
theorem zfX (l : List Int) (j : Nat) (h : j ≤ l.length) : (rot l j).length = l.length := by
  unfold rot; rw [List.length_append, List.length_drop, List.length_take]; omega
def lesser (a b : List Int) : List Int := if zlU a b = true then a else b
def least (l : List Int) : Nat → Nat → List Int → List Int
  | 0, _, best => best
  | d + 1, j, best => least l d (j + 1) (lesser (rot l.reverse j) (lesser (rot l j) best))
end Go.Proofs.Ytbpkbllokmplnaa.Math
