/- What is proved: the program's ValidMotion answers what the reference's answers, at every motion. Conditions: none. -/
import Derived.Test.YtafnmeokmopnmaaPFnExactValidMotionx
import Derived.Test.YtafnmeokmopnmaaMath
namespace Go.Proofs.Ytafnmeokmopnmaa.Pure
open Go.RowKit Go.Proofs.Ytafnmeokmopnmaa.PFnExactValidMotion Go.Proofs.YtafnmeokmopnmaaW.PrintWords Go.Proofs.YtafnmeokmopnmaaW.PrintLast Go.Proofs.YtafnmeokmopnmaaW.PrintMore Go.Proofs.Ytafnmeokmopnmaa.Math

-- spec_l00In
theorem spec_l00In_eq (a b c : Int) : spec_l00In.f a b c = some (decide (b ≤ a ∧ a ≤ c)) := by
  unfold spec_l00In.f
  by_cases h : b ≤ a <;> simp [h]

-- spec_l01Ok
theorem spec_l01Ok_eq (a b k : Int) : spec_l01Ok.f a b k = some (decide (NumOk a b k)) := by
  unfold spec_l01Ok.f NumOk
  simp only [spec_l00In_eq, Option.bind_some]
  by_cases h1 : -131072 ≤ a ∧ a ≤ 131072
  · by_cases h2 : -131072 ≤ b ∧ b ≤ 131072
    · by_cases h3 : 0 ≤ k ∧ k ≤ 10
      · simp only [h1, h2, h3, and_self, decide_true, if_true, true_and]
        by_cases h4 : k = 0
        · simp [h4]
        · by_cases h5 : Int.tmod a 2 = 0
          · have := (tmod2 a).1 h5
            by_cases h6 : Int.tmod b 2 = 0
            · have := (tmod2 b).1 h6
              simp [h4, h5, h6]; omega
            · have h7 : b % 2 = 1 := by have : ¬ b % 2 = 0 := fun h => h6 ((tmod2 b).2 h); omega
              simp [h4, h5, h6, h7]
          · have h7 : a % 2 = 1 := by have : ¬ a % 2 = 0 := fun h => h5 ((tmod2 a).2 h); omega
            simp [h4, h5, h7]
      · simp [h1, h2, h3]
    · simp [h1, h2]
  · simp [h1]

-- spec_l04Ok
theorem spec_l04Ok_eq (t : Int) (f : Bool) (a b k c d l : Int) : spec_l04Ok.f t f a b k c d l = some (decide ((0 ≤ t ∧ t ≤ 7) ∧ NumOk a b k ∧ NumOk c d l)) := by
  unfold spec_l04Ok.f
  simp only [spec_l00In_eq, spec_l01Ok_eq, Option.bind_some]
  by_cases h : 0 ≤ t ∧ t ≤ 7 <;> by_cases h1 : NumOk a b k <;> simp [h, h1]

-- spec_ValidMotion
theorem spec_ValidMotion_eq (t : Int) (f : Bool) (a b k c d l : Int) : spec_ValidMotion.f t f a b k c d l = some (decide ((0 ≤ t ∧ t ≤ 7) ∧ NumOk a b k ∧ NumOk c d l)) := by
  unfold spec_ValidMotion.f
  simp only [spec_l04Ok_eq, Option.bind_some]

-- laws_toNum
theorem laws_toNum_eq (a b k : Int) : laws_toNum.f a b k = some (a, b, k) := rfl

-- laws_toMotion
theorem laws_toMotion_eq (t : Int) (f : Bool) (a b k c d l : Int) : laws_toMotion.f t f a b k c d l = some (t, f, a, b, k, c, d, l) := rfl

-- impl_within
theorem impl_within_eq (a b c : Int) : impl_within.f a b c = some (decide (b ≤ a ∧ a ≤ c)) := by
  unfold impl_within.f
  by_cases h : b ≤ a <;> simp [h]

-- impl_ValidNum
theorem impl_ValidNum_eq (a b k : Int) : impl_ValidNum.f a b k = some (decide (NumOk a b k)) := by
  unfold impl_ValidNum.f NumOk
  simp only [impl_within_eq, Option.bind_some, and1]
  by_cases h1 : -131072 ≤ a ∧ a ≤ 131072
  · by_cases h2 : -131072 ≤ b ∧ b ≤ 131072
    · by_cases h3 : 0 ≤ k ∧ k ≤ 10
      · simp only [h1, h2, h3, and_self, decide_true, if_true, true_and]
        by_cases h4 : k = 0
        · simp [h4]
        · by_cases h5 : a % 2 = 1
          · simp [h4, h5]
          · by_cases h6 : b % 2 = 1 <;> simp [h4, h5, h6]
      · simp [h1, h2, h3]
    · simp [h1, h2]
  · simp [h1]

-- impl_ValidMotion
theorem impl_ValidMotion_eq (t : Int) (f : Bool) (a b k c d l : Int) : impl_ValidMotion.f t f a b k c d l = some (decide ((0 ≤ t ∧ t ≤ 7) ∧ NumOk a b k ∧ NumOk c d l)) := by
  unfold impl_ValidMotion.f
  simp only [impl_within_eq, impl_ValidNum_eq, Option.bind_some]
  by_cases h : 0 ≤ t ∧ t ≤ 7 <;> by_cases h1 : NumOk a b k <;> simp [h, h1]

theorem FnExactValidMotion : laws_FnExactValidMotion.Pure := by
  intro t f a b k c d l _
  unfold laws_FnExactValidMotion.f
  simp [laws_toMotion_eq, spec_ValidMotion_eq, impl_ValidMotion_eq]

end Go.Proofs.Ytafnmeokmopnmaa.Pure
