/- What is proved: the program's DirVector answers what the reference's answers, at every number. Conditions: none. -/
import Derived.Test.YtbkehpciffponaaDoorPFnExactDirVectorx
import Derived.Test.YtbkehpciffponaaDoorMath
import Derived.Test.YtbkehpciffponaaDoorNums
namespace Go.Proofs.YtbkehpciffponaaDoor.Pure
open Go.RowKit Go.Proofs.YtbkehpciffponaaDoor.PFnExactDirVector Go.Proofs.YtbkehpciffponaaDoorW.PrintWords Go.Proofs.YtbkehpciffponaaDoorW.PrintLast Go.Proofs.YtbkehpciffponaaDoorW.PrintMore Go.Proofs.YtbkehpciffponaaDoor.Math

-- spec_l00In
theorem spec_l00In_eq (a b c : Int) : spec_l00In.f a b c = some (decide (b ≤ a ∧ a ≤ c)) := by
  unfold spec_l00In.f
  by_cases h : b ≤ a <;> simp [h]

-- spec_l02Mod
theorem spec_l02Mod_eq (d : Int) : spec_l02Mod.f d = some (d % 16) := by
  unfold spec_l02Mod.f
  have h := Int.tmod_lt_of_pos d (show (0 : Int) < 16 by omega)
  have h2 : -16 < Int.tmod d 16 := by have := Int.lt_tmod_of_pos d (show (0 : Int) < 16 by omega); omega
  have e : (Int.tmod d 16 + 16) % 16 = d % 16 := by
    have := Int.tmod_add_mul_tdiv d 16
    omega
  rw [w64 (by omega) (by omega), Int.tmod_eq_emod_of_nonneg (by omega), e]

-- spec_l02Vec
theorem spec_l02Vec_eq (d : Int) (h0 : 0 ≤ d) (h1 : d ≤ 15) : spec_l02Vec.f d = impl_vector.f d := by
  have : d = 0 ∨ d = 1 ∨ d = 2 ∨ d = 3 ∨ d = 4 ∨ d = 5 ∨ d = 6 ∨ d = 7 ∨ d = 8 ∨ d = 9 ∨ d = 10 ∨ d = 11 ∨ d = 12 ∨ d = 13 ∨ d = 14 ∨ d = 15 := by omega
  rcases this with rfl | rfl | rfl | rfl | rfl | rfl | rfl | rfl | rfl | rfl | rfl | rfl | rfl | rfl | rfl | rfl <;> decide +kernel

-- impl_within
theorem impl_within_eq (a b c : Int) : impl_within.f a b c = some (decide (b ≤ a ∧ a ≤ c)) := by
  unfold impl_within.f
  by_cases h : b ≤ a <;> simp [h]

-- impl_isDirection
theorem impl_isDirection_eq (d : Int) : impl_isDirection.f d = some (decide (0 ≤ d ∧ d ≤ 15)) := by unfold impl_isDirection.f; simp only [impl_within_eq, Option.bind_some]

-- impl_Num_neg
-- MATH Nums
theorem impl_Num_neg_eq (a b c : Int) (h0 : -4611686018427387904 ≤ a) (h1 : a ≤ 4611686018427387904) (h2 : -4611686018427387904 ≤ b) (h3 : b ≤ 4611686018427387904) : impl_Num_neg.f a b c = some (-a, -b, c) := by
  unfold impl_Num_neg.f
  rw [w64 (by omega) (by omega), w64 (by omega) (by omega)]

-- laws_eqNum
theorem laws_eqNum_eq (a b k c d l : Int) : laws_eqNum.f a b k c d l = some (decide (a = c ∧ b = d ∧ k = l)) := by
  unfold laws_eqNum.f
  by_cases h : a = c <;> by_cases h1 : b = d <;> by_cases h2 : k = l <;> simp [h, h1, h2]

-- laws_eqPoint
theorem laws_eqPoint_eq (x y : S25) : laws_eqPoint.f x.f0.f0 x.f0.f1 x.f0.f2 x.f1.f0 x.f1.f1 x.f1.f2 y.f0.f0 y.f0.f1 y.f0.f2 y.f1.f0 y.f1.f1 y.f1.f2 = some (decide ((x.f0.f0 = y.f0.f0 ∧ x.f0.f1 = y.f0.f1 ∧ x.f0.f2 = y.f0.f2) ∧ (x.f1.f0 = y.f1.f0 ∧ x.f1.f1 = y.f1.f1 ∧ x.f1.f2 = y.f1.f2))) := by
  unfold laws_eqPoint.f
  simp only [laws_eqNum_eq, Option.bind_some]
  exact dec2 _ _
theorem point_ext {x y : S25} (h : (x.f0.f0 = y.f0.f0 ∧ x.f0.f1 = y.f0.f1 ∧ x.f0.f2 = y.f0.f2) ∧ (x.f1.f0 = y.f1.f0 ∧ x.f1.f1 = y.f1.f1 ∧ x.f1.f2 = y.f1.f2)) : x = y := by
  obtain ⟨⟨a, b, c⟩, ⟨d, e, f⟩⟩ := x
  obtain ⟨⟨a', b', c'⟩, ⟨d', e', f'⟩⟩ := y
  obtain ⟨⟨rfl, rfl, rfl⟩, ⟨rfl, rfl, rfl⟩⟩ := h
  rfl

theorem vec_some (d : Int) (h0 : 0 ≤ d) (h1 : d ≤ 15) : (impl_vector.f d).isSome = true := by
  have : d = 0 ∨ d = 1 ∨ d = 2 ∨ d = 3 ∨ d = 4 ∨ d = 5 ∨ d = 6 ∨ d = 7 ∨ d = 8 ∨ d = 9 ∨ d = 10 ∨ d = 11 ∨ d = 12 ∨ d = 13 ∨ d = 14 ∨ d = 15 := by omega
  rcases this with rfl | rfl | rfl | rfl | rfl | rfl | rfl | rfl | rfl | rfl | rfl | rfl | rfl | rfl | rfl | rfl <;> decide +kernel
theorem FnExactDirVector : laws_FnExactDirVector.Pure := by
  intro d _
  unfold laws_FnExactDirVector.f spec_DirVector.f impl_DirVector.f impl_isDirection.f impl_within.f spec_l00In.f
  have e : ∀ a b c x y z : Int, laws_eqPoint.f a b c x y z a b c x y z = some true := fun a b c x y z => by unfold laws_eqPoint.f laws_eqNum.f; simp
  by_cases h : 0 ≤ d ∧ d ≤ 15
  · obtain ⟨v, hv⟩ := Option.isSome_iff_exists.1 (vec_some d h.1 h.2)
    simp [h.1, h.2, spec_l02Vec_eq d h.1 h.2, hv, e]
  · by_cases h0 : 0 ≤ d
    · have h1 : ¬ d ≤ 15 := fun c => h ⟨h0, c⟩
      simp [h0, h1, e]
    · simp [h0, e]

end Go.Proofs.YtbkehpciffponaaDoor.Pure
