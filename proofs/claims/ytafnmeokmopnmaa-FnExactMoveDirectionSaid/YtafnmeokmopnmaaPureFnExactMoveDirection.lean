/- What is proved: the program's MoveDirection answers what the reference's answers, at every motion and direction. Conditions: none. -/
import Derived.Test.YtafnmeokmopnmaaPFnExactMoveDirectionx
import Derived.Test.YtafnmeokmopnmaaMath
namespace Go.Proofs.Ytafnmeokmopnmaa.Pure
open Go.RowKit Go.Proofs.Ytafnmeokmopnmaa.PFnExactMoveDirection Go.Proofs.YtafnmeokmopnmaaW.PrintWords Go.Proofs.YtafnmeokmopnmaaW.PrintLast Go.Proofs.YtafnmeokmopnmaaW.PrintMore Go.Proofs.Ytafnmeokmopnmaa.Math

-- laws_toNum
theorem laws_toNum_eq (a b k : Int) : laws_toNum.f a b k = some (a, b, k) := rfl

-- laws_toMotion
theorem laws_toMotion_eq (t : Int) (f : Bool) (a b k c d l : Int) : laws_toMotion.f t f a b k c d l = some (t, f, a, b, k, c, d, l) := rfl

-- spec_l00In
theorem spec_l00In_eq (a b c : Int) : spec_l00In.f a b c = some (decide (b ≤ a ∧ a ≤ c)) := by
  unfold spec_l00In.f
  by_cases h : b ≤ a <;> simp [h]

-- spec_l01Ok
theorem spec_l01Ok_eq (a b k : Int) : spec_l01Ok.f a b k = some (decide (NumOk a b k)) := by
  unfold spec_l01Ok.f NumOk
  simp only [spec_l00In_eq, Option.bind_some]
  by_cases h1 : -131072 ≤ a ∧ a ≤ 131072
  · by_cases h2 : -131072 ≤ b ∧ b ≤ 131072
    · by_cases h3 : 0 ≤ k ∧ k ≤ 10
      · simp only [h1, h2, h3, and_self, decide_true, if_true, true_and]
        by_cases h4 : k = 0
        · simp [h4]
        · by_cases h5 : Int.tmod a 2 = 0
          · have := (tmod2 a).1 h5
            by_cases h6 : Int.tmod b 2 = 0
            · have := (tmod2 b).1 h6
              simp [h4, h5, h6]; omega
            · have h7 : b % 2 = 1 := by have : ¬ b % 2 = 0 := fun h => h6 ((tmod2 b).2 h); omega
              simp [h4, h5, h6, h7]
          · have h7 : a % 2 = 1 := by have : ¬ a % 2 = 0 := fun h => h5 ((tmod2 a).2 h); omega
            simp [h4, h5, h7]
      · simp [h1, h2, h3]
    · simp [h1, h2]
  · simp [h1]

-- spec_l04Ok
theorem spec_l04Ok_eq (t : Int) (f : Bool) (a b k c d l : Int) : spec_l04Ok.f t f a b k c d l = some (decide ((0 ≤ t ∧ t ≤ 7) ∧ NumOk a b k ∧ NumOk c d l)) := by
  unfold spec_l04Ok.f
  simp only [spec_l00In_eq, spec_l01Ok_eq, Option.bind_some]
  by_cases h : 0 ≤ t ∧ t ≤ 7 <;> by_cases h1 : NumOk a b k <;> simp [h, h1]

-- spec_l02Mod
theorem spec_l02Mod_eq (d : Int) : spec_l02Mod.f d = some (d % 16) := by
  unfold spec_l02Mod.f
  have h := Int.tmod_lt_of_pos d (show (0 : Int) < 16 by omega)
  have h2 : -16 < Int.tmod d 16 := by have := Int.lt_tmod_of_pos d (show (0 : Int) < 16 by omega); omega
  have e : (Int.tmod d 16 + 16) % 16 = d % 16 := by
    have := Int.tmod_add_mul_tdiv d 16
    omega
  rw [w64 (by omega) (by omega), Int.tmod_eq_emod_of_nonneg (by omega), e]

-- spec_l04Dir
theorem spec_l04Dir_eq (t : Int) (f : Bool) (a b k c d l e : Int) : spec_l04Dir.f t f a b k c d l e = some ((if f = true then wrap64 (wrap64 (-e) + wrap64 (2 * t)) else wrap64 (e + wrap64 (2 * t))) % 16) := by
  unfold spec_l04Dir.f
  by_cases h : f = true <;> simp [h, spec_l02Mod_eq]

-- spec_l01Of
theorem spec_l01Of_eq (a b k : Int) : spec_l01Of.f a b k = some (a, b, k) := rfl

-- spec_l04Of
theorem spec_l04Of_eq (t : Int) (f : Bool) (a b k c d l : Int) : spec_l04Of.f t f a b k c d l = some (t, f, a, b, k, c, d, l) := rfl

-- impl_within
theorem impl_within_eq (a b c : Int) : impl_within.f a b c = some (decide (b ≤ a ∧ a ≤ c)) := by
  unfold impl_within.f
  by_cases h : b ≤ a <;> simp [h]

-- impl_ValidNum
theorem impl_ValidNum_eq (a b k : Int) : impl_ValidNum.f a b k = some (decide (NumOk a b k)) := by
  unfold impl_ValidNum.f NumOk
  simp only [impl_within_eq, Option.bind_some, and1]
  by_cases h1 : -131072 ≤ a ∧ a ≤ 131072
  · by_cases h2 : -131072 ≤ b ∧ b ≤ 131072
    · by_cases h3 : 0 ≤ k ∧ k ≤ 10
      · simp only [h1, h2, h3, and_self, decide_true, if_true, true_and]
        by_cases h4 : k = 0
        · simp [h4]
        · by_cases h5 : a % 2 = 1
          · simp [h4, h5]
          · by_cases h6 : b % 2 = 1 <;> simp [h4, h5, h6]
      · simp [h1, h2, h3]
    · simp [h1, h2]
  · simp [h1]

-- impl_ValidMotion
theorem impl_ValidMotion_eq (t : Int) (f : Bool) (a b k c d l : Int) : impl_ValidMotion.f t f a b k c d l = some (decide ((0 ≤ t ∧ t ≤ 7) ∧ NumOk a b k ∧ NumOk c d l)) := by
  unfold impl_ValidMotion.f
  simp only [impl_within_eq, impl_ValidNum_eq, Option.bind_some]
  by_cases h : 0 ≤ t ∧ t ≤ 7 <;> by_cases h1 : NumOk a b k <;> simp [h, h1]

-- impl_isDirection
theorem impl_isDirection_eq (d : Int) : impl_isDirection.f d = some (decide (0 ≤ d ∧ d ≤ 15)) := by unfold impl_isDirection.f; simp only [impl_within_eq, Option.bind_some]

-- impl_turned
theorem impl_turned_eq (d : Int) : impl_turned.f d = some (d % 16) := by unfold impl_turned.f; rw [and15]

-- impl_Motion_direct
theorem impl_Motion_direct_eq (t : Int) (f : Bool) (a b k c d l e : Int) : impl_Motion_direct.f t f a b k c d l e = some ((if f = true then wrap64 (wrap64 (-e) + wrap64 (2 * t)) else wrap64 (e + wrap64 (2 * t))) % 16) := by
  unfold impl_Motion_direct.f
  by_cases h : f = true <;> simp [h, impl_turned_eq]

theorem FnExactMoveDirection : laws_FnExactMoveDirection.Pure := by
  intro t f a b k c d l e _ _
  refine ⟨1, ?_⟩
  unfold laws_FnExactMoveDirection.f spec_MoveDirection.f impl_MoveDirection.f
  simp only [laws_toMotion_eq, spec_l04Ok_eq, spec_l00In_eq, impl_ValidMotion_eq, impl_isDirection_eq, Option.bind_some, spec_MoveDirection.j0, spec_l04Of_eq, spec_l04Dir_eq, impl_Motion_direct_eq]
  by_cases h : (0 ≤ t ∧ t ≤ 7) ∧ NumOk a b k ∧ NumOk c d l <;> by_cases h1 : 0 ≤ e ∧ e ≤ 15 <;> simp [h, h1]

end Go.Proofs.Ytafnmeokmopnmaa.Pure
