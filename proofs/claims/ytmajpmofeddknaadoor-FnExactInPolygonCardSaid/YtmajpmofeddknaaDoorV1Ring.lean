/- Plain lemmas of this session on signs of products of numbers a + b r, and on sides of lines. Conditions: none. -/
import Derived.Test.YtmajpmofeddknaaDoorV1Dirs
namespace Go.Proofs.YtmajpmofeddknaaDoor.Math
open Go.RowKit Go.Proofs.YtmajpmofeddknaaDoorW.PrintWords Go.Proofs.YtmajpmofeddknaaDoorW.PrintMore

theorem pos_iff (a b : Int) : pos a b ↔ (0 < a ∧ 2 * (b * b) < a * a) ∨ (0 < b ∧ a * a < 2 * (b * b)) := by
  unfold pos
  constructor
  · rintro (⟨h1, h2, h3⟩ | ⟨h1, h2, h3⟩ | ⟨h1, h2, h3⟩)
    · have nr : a * a ≠ 2 * (b * b) := fun e => h3 (no_root_int e)
      by_cases hq : a * a < 2 * (b * b)
      · refine .inr ⟨?_, hq⟩
        rcases Int.lt_or_eq_of_le h2 with h | h
        · exact h
        · subst h
          have := Int.mul_nonneg h1 h1
          omega
      · refine .inl ⟨?_, by omega⟩
        rcases Int.lt_or_eq_of_le h1 with h | h
        · exact h
        · subst h
          have := Int.mul_nonneg h2 h2
          omega
    · exact .inl ⟨h1, h3⟩
    · exact .inr ⟨h2, h3⟩
  · rintro (⟨h1, h2⟩ | ⟨h1, h2⟩)
    · by_cases hb : 0 ≤ b
      · exact .inl ⟨by omega, hb, by omega⟩
      · exact .inr (.inl ⟨h1, by omega, h2⟩)
    · by_cases ha : 0 ≤ a
      · exact .inl ⟨ha, by omega, by omega⟩
      · exact .inr (.inr ⟨by omega, h1, h2⟩)
theorem norm_mul (a b c d : Int) : (a * c + 2 * (b * d)) * (a * c + 2 * (b * d)) - 2 * ((a * d + b * c) * (a * d + b * c)) = (a * a - 2 * (b * b)) * (c * c - 2 * (d * d)) := by grind
theorem mul_lt2 {a b c d : Int} (h1 : a < c) (h2 : b < d) (h3 : 0 ≤ a) (h4 : 0 ≤ b) : a * b < c * d := Int.lt_of_le_of_lt (Int.mul_le_mul_of_nonneg_left (Int.le_of_lt h2) h3) (Int.mul_lt_mul_of_pos_right h1 (by omega))
theorem sq_nn (a : Int) : 0 ≤ a * a := by
  rcases Int.le_total 0 a with h | h
  · exact Int.mul_nonneg h h
  · exact Int.mul_nonneg_of_nonpos_of_nonpos h h
theorem le_sq {p q : Int} (h0 : 0 ≤ p) (h : p ≤ q) : p * p ≤ q * q := Int.mul_le_mul h h h0 (by omega)
theorem pos_mul {a b c d : Int} (h : pos a b) (k : pos c d) : pos (a * c + 2 * (b * d)) (a * d + b * c) := by
  rw [pos_iff] at h k ⊢
  have N := norm_mul a b c d
  have a2 := sq_nn a
  have b2 := sq_nn b
  have c2 := sq_nn c
  have d2 := sq_nn d
  rcases h with ⟨h1, h2⟩ | ⟨h1, h2⟩ <;> rcases k with ⟨k1, k2⟩ | ⟨k1, k2⟩
  · left
    have hN := Int.mul_pos (show 0 < a * a - 2 * (b * b) by omega) (show 0 < c * c - 2 * (d * d) by omega)
    refine ⟨?_, by omega⟩
    have hp := Int.mul_pos h1 k1
    have := mul_lt2 h2 k2 (by omega) (by omega)
    rcases Int.lt_or_le 0 (a * c + 2 * (b * d)) with g | g
    · exact g
    · have s := le_sq (p := a * c) (q := -(2 * (b * d))) (by omega) (by omega)
      have e1 : a * c * (a * c) = a * a * (c * c) := by grind
      have e2 : -(2 * (b * d)) * -(2 * (b * d)) = 2 * (b * b) * (2 * (d * d)) := by grind
      omega
  · right
    have hN := Int.mul_pos (show 0 < a * a - 2 * (b * b) by omega) (show 0 < 2 * (d * d) - c * c by omega)
    have eN : (a * a - 2 * (b * b)) * (c * c - 2 * (d * d)) = -((a * a - 2 * (b * b)) * (2 * (d * d) - c * c)) := by grind
    refine ⟨?_, by omega⟩
    have hp := Int.mul_pos h1 k1
    have := mul_lt2 h2 k2 (by omega) (by omega)
    rcases Int.lt_or_le 0 (a * d + b * c) with g | g
    · exact g
    · have s := le_sq (p := a * d) (q := -(b * c)) (by omega) (by omega)
      have e1 : a * a * (2 * (d * d)) = 2 * (a * d * (a * d)) := by grind
      have e2 : 2 * (b * b) * (c * c) = 2 * (-(b * c) * -(b * c)) := by grind
      omega
  · right
    have hN := Int.mul_pos (show 0 < 2 * (b * b) - a * a by omega) (show 0 < c * c - 2 * (d * d) by omega)
    have eN : (a * a - 2 * (b * b)) * (c * c - 2 * (d * d)) = -((2 * (b * b) - a * a) * (c * c - 2 * (d * d))) := by grind
    refine ⟨?_, by omega⟩
    have hp := Int.mul_pos h1 k1
    have := mul_lt2 h2 k2 (by omega) (by omega)
    rcases Int.lt_or_le 0 (a * d + b * c) with g | g
    · exact g
    · have s := le_sq (p := b * c) (q := -(a * d)) (by omega) (by omega)
      have e1 : 2 * (b * b) * (c * c) = 2 * (b * c * (b * c)) := by grind
      have e2 : a * a * (2 * (d * d)) = 2 * (-(a * d) * -(a * d)) := by grind
      omega
  · left
    have hN := Int.mul_pos (show 0 < 2 * (b * b) - a * a by omega) (show 0 < 2 * (d * d) - c * c by omega)
    have eN : (a * a - 2 * (b * b)) * (c * c - 2 * (d * d)) = (2 * (b * b) - a * a) * (2 * (d * d) - c * c) := by grind
    refine ⟨?_, by omega⟩
    have hp := Int.mul_pos h1 k1
    have := mul_lt2 h2 k2 (by omega) (by omega)
    rcases Int.lt_or_le 0 (a * c + 2 * (b * d)) with g | g
    · exact g
    · have s := le_sq (p := 2 * (b * d)) (q := -(a * c)) (by omega) (by omega)
      have e1 : 2 * (b * b) * (2 * (d * d)) = 2 * (b * d) * (2 * (b * d)) := by grind
      have e2 : a * a * (c * c) = -(a * c) * -(a * c) := by grind
      omega
theorem sgn_mul (a b c d : Int) : sgn (a * c + 2 * (b * d)) (a * d + b * c) = sgn a b * sgn c d := by
  have one : ∀ {a b c d : Int}, sgn a b = 1 → sgn c d = 1 → sgn (a * c + 2 * (b * d)) (a * d + b * c) = 1 := fun h k => (sgn_one _ _).2 (pos_mul ((sgn_one _ _).1 h) ((sgn_one _ _).1 k))
  have neg : ∀ {a b : Int}, sgn a b = -1 → sgn (-a) (-b) = 1 := fun h => by rw [sgn_neg, h]; rfl
  rcases sgn_three a b with h | h | h
  · rcases sgn_three c d with k | k | k
    · rw [one h k, h, k]; rfl
    · obtain ⟨rfl, rfl⟩ := (zdY _ _).1 k; rw [k]; simp; exact (zdY _ _).2 ⟨rfl, rfl⟩
    · have := one h (neg k)
      rw [show a * -c + 2 * (b * -d) = -(a * c + 2 * (b * d)) by grind, show a * -d + b * -c = -(a * d + b * c) by grind, sgn_neg] at this
      rw [h, k]; omega
  · obtain ⟨rfl, rfl⟩ := (zdY _ _).1 h; rw [h]; simp; exact (zdY _ _).2 ⟨rfl, rfl⟩
  · rcases sgn_three c d with k | k | k
    · have := one (neg h) k
      rw [show -a * c + 2 * (-b * d) = -(a * c + 2 * (b * d)) by grind, show -a * d + -b * c = -(a * d + b * c) by grind, sgn_neg] at this
      rw [h, k]; omega
    · obtain ⟨rfl, rfl⟩ := (zdY _ _).1 k; rw [k]; simp; exact (zdY _ _).2 ⟨rfl, rfl⟩
    · have := one (neg h) (neg k)
      rw [show -a * -c + 2 * (-b * -d) = a * c + 2 * (b * d) by grind, show -a * -d + -b * -c = a * d + b * c by grind] at this
      rw [h, k, this]; rfl
/-- On which side of a way W along a direction v a vector U is: told by W and told by v. -/
theorem side_same (x xb y yb P Pb Q Qb R Rb S Sb : Int) (c1 : (-y * P + 2 * -yb * Pb) + (x * Q + 2 * xb * Qb) = 0) (c2 : (-y * Pb + -yb * P) + (x * Qb + xb * Q) = 0)
    (hd : sgn ((x * P + 2 * xb * Pb) + (y * Q + 2 * yb * Qb)) ((x * Pb + xb * P) + (y * Qb + yb * Q)) = 1) (hn : sgn (x * x + 2 * (xb * xb) + (y * y + 2 * (yb * yb))) (2 * (x * xb) + 2 * (y * yb)) = 1) :
    sgn ((P * S + 2 * (Pb * Sb)) - (Q * R + 2 * (Qb * Rb))) ((P * Sb + Pb * S) - (Q * Rb + Qb * R)) = sgn ((-y * R + 2 * -yb * Rb) + (x * S + 2 * xb * Sb)) ((-y * Rb + -yb * R) + (x * Sb + xb * S)) := by
  have h1 := sgn_mul (x * x + 2 * (xb * xb) + (y * y + 2 * (yb * yb))) (2 * (x * xb) + 2 * (y * yb)) ((P * S + 2 * (Pb * Sb)) - (Q * R + 2 * (Qb * Rb))) ((P * Sb + Pb * S) - (Q * Rb + Qb * R))
  have h2 := sgn_mul ((x * P + 2 * xb * Pb) + (y * Q + 2 * yb * Qb)) ((x * Pb + xb * P) + (y * Qb + yb * Q)) ((-y * R + 2 * -yb * Rb) + (x * S + 2 * xb * Sb)) ((-y * Rb + -yb * R) + (x * Sb + xb * S))
  rw [hn, Int.one_mul] at h1
  rw [hd, Int.one_mul] at h2
  rw [← h1, ← h2]
  -- the difference of the two is the cross product of v and W, times (y S + x R)
  have e1 : (x * x + 2 * (xb * xb) + (y * y + 2 * (yb * yb))) * ((P * S + 2 * (Pb * Sb)) - (Q * R + 2 * (Qb * Rb))) + 2 * ((2 * (x * xb) + 2 * (y * yb)) * ((P * Sb + Pb * S) - (Q * Rb + Qb * R)))
      = ((x * P + 2 * xb * Pb) + (y * Q + 2 * yb * Qb)) * ((-y * R + 2 * -yb * Rb) + (x * S + 2 * xb * Sb)) + 2 * (((x * Pb + xb * P) + (y * Qb + yb * Q)) * ((-y * Rb + -yb * R) + (x * Sb + xb * S)))
        - (((-y * P + 2 * -yb * Pb) + (x * Q + 2 * xb * Qb)) * (y * S + 2 * (yb * Sb) + (x * R + 2 * (xb * Rb))) + 2 * (((-y * Pb + -yb * P) + (x * Qb + xb * Q)) * (y * Sb + yb * S + (x * Rb + xb * R)))) := by grind
  have e2 : (x * x + 2 * (xb * xb) + (y * y + 2 * (yb * yb))) * ((P * Sb + Pb * S) - (Q * Rb + Qb * R)) + (2 * (x * xb) + 2 * (y * yb)) * ((P * S + 2 * (Pb * Sb)) - (Q * R + 2 * (Qb * Rb)))
      = ((x * P + 2 * xb * Pb) + (y * Q + 2 * yb * Qb)) * ((-y * Rb + -yb * R) + (x * Sb + xb * S)) + ((x * Pb + xb * P) + (y * Qb + yb * Q)) * ((-y * R + 2 * -yb * Rb) + (x * S + 2 * xb * Sb))
        - (((-y * P + 2 * -yb * Pb) + (x * Q + 2 * xb * Qb)) * (y * Sb + yb * S + (x * Rb + xb * R)) + ((-y * Pb + -yb * P) + (x * Qb + xb * Q)) * (y * S + 2 * (yb * Sb) + (x * R + 2 * (xb * Rb)))) := by grind
  rw [c1, c2] at e1 e2
  rw [e1, e2]
  simp
end Go.Proofs.YtmajpmofeddknaaDoor.Math
