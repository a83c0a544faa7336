/- Plain lemmas of this session on least rotations and on the two growths of lists. Conditions: none. -/
import Derived.Test.YtbpkbllokmplnaaA1Math
import Derived.Test.YtbpkbllokmplnaaA1Lex
import Derived.Test.YtbpkbllokmplnaaA1Secs
namespace Go.Proofs.Ytbpkbllokmplnaa.Math
open Go.RowKit Go.Proofs.YtbpkbllokmplnaaW.PrintWords Go.Proofs.YtbpkbllokmplnaaW.PrintMore

theorem lexLt_trans : ∀ a b c : List Int, zlU a b = true → zlU b c = true → zlU a c = true
  | [], [], _, h, _ => by simp [zlU] at h
  | [], _ :: _, [], _, h => by simp [zlU] at h
  | [], _ :: _, _ :: _, _, _ => by simp [zlU]
  | _ :: _, [], _, h, _ => by simp [zlU] at h
  | _ :: _, _ :: _, [], _, h => by simp [zlU] at h
  | x :: xs, y :: ys, z :: zs, h1, h2 => by
    simp only [zlU] at h1 h2 ⊢
    by_cases e1 : x = y
    · subst e1
      rw [if_pos rfl] at h1
      by_cases e2 : x = z
      · subst e2
        rw [if_pos rfl] at h2 ⊢
        exact lexLt_trans xs ys zs h1 h2
      · rw [if_neg e2] at h2 ⊢
        exact h2
    · rw [if_neg e1] at h1
      have h1 := of_decide_eq_true h1
      by_cases e2 : y = z
      · subst e2
        rw [if_neg e1]
        exact decide_eq_true h1
      · rw [if_neg e2] at h2
        have h2 := of_decide_eq_true h2
        rw [if_neg (by omega)]
        exact decide_eq_true (by omega)
theorem lexLt_asymm (a b : List Int) (h : zlU a b = true) : zlU b a = false := by
  cases c : zlU b a with
  | false => rfl
  | true => have := lexLt_trans a b a h c; rw [lexLt_self] at this; cases this
theorem lexLt_total (a b : List Int) (h1 : zlU a b = false) (h2 : zlU b a = false) : a = b := by
  have := lexLt_same a b
  rw [h1, h2] at this
  exact of_decide_eq_true this.symm
theorem lexLe_trans (a b c : List Int) (h1 : zlU b a = false) (h2 : zlU c b = false) : zlU c a = false := by
  cases h : zlU c a with
  | false => rfl
  | true =>
    by_cases e : b = c
    · subst e; rw [h] at h1; cases h1
    · have hbc : zlU b c = true := by
        cases g : zlU b c with
        | true => rfl
        | false => exact absurd (lexLt_total b c g h2) e
      rw [lexLt_trans b c a hbc h] at h1
      cases h1
theorem lesser_le_right (a b : List Int) : zlU b (lesser a b) = false := by
  unfold lesser
  split
  · exact lexLt_asymm _ _ (by assumption)
  · exact lexLt_self b
theorem lesser_le_left (a b : List Int) : zlU a (lesser a b) = false := by
  unfold lesser
  split
  · exact lexLt_self a
  · rename_i h; cases c : zlU a b with
    | false => rfl
    | true => exact absurd c h
theorem least_le_best (l : List Int) : ∀ (d j : Nat) (b c : List Int), zlU c b = false → zlU c (least l d j b) = false
  | 0, _, _, _, h => h
  | d + 1, j, _, c, h => least_le_best l d (j + 1) _ c (lexLe_trans _ _ c (lesser_le_right _ _) (lexLe_trans _ _ c (lesser_le_right _ _) h))
theorem least_le_rot (l : List Int) : ∀ (d j : Nat) (b : List Int) (i : Nat), j ≤ i → i < j + d → zlU (rot l i) (least l d j b) = false
  | 0, j, _, i, h1, h2 => by omega
  | d + 1, j, b, i, h1, h2 => by
    by_cases e : i = j
    · subst e
      exact least_le_best l d (i + 1) _ _ (lexLe_trans _ _ _ (lesser_le_right _ _) (lesser_le_left _ _))
    · exact least_le_rot l d (j + 1) _ i (by omega) (by omega)
theorem least_le_mirror (l : List Int) : ∀ (d j : Nat) (b : List Int) (i : Nat), j ≤ i → i < j + d → zlU (rot l.reverse i) (least l d j b) = false
  | 0, j, _, i, h1, h2 => by omega
  | d + 1, j, b, i, h1, h2 => by
    by_cases e : i = j
    · subst e
      exact least_le_best l d (i + 1) _ _ (lesser_le_left _ _)
    · exact least_le_mirror l d (j + 1) _ i (by omega) (by omega)
end Go.Proofs.Ytbpkbllokmplnaa.Math
