/- What is proved: the program's CodeName answers what the reference's answers, at every code. Conditions: none. -/
import Derived.Test.YtafnmeokmopnmaaPFnExactCodeNamex
import Derived.Test.YtafnmeokmopnmaaMath
namespace Go.Proofs.Ytafnmeokmopnmaa.Pure
open Go.RowKit Go.Proofs.Ytafnmeokmopnmaa.PFnExactCodeName Go.Proofs.YtafnmeokmopnmaaW.PrintWords Go.Proofs.YtafnmeokmopnmaaW.PrintLast Go.Proofs.YtafnmeokmopnmaaW.PrintMore Go.Proofs.Ytafnmeokmopnmaa.Math

-- spec_l00In
theorem spec_l00In_eq (a b c : Int) : spec_l00In.f a b c = some (decide (b ≤ a ∧ a ≤ c)) := by
  unfold spec_l00In.f
  by_cases h : b ≤ a <;> simp [h]

-- impl_within
theorem impl_within_eq (a b c : Int) : impl_within.f a b c = some (decide (b ≤ a ∧ a ≤ c)) := by
  unfold impl_within.f
  by_cases h : b ≤ a <;> simp [h]

theorem FnExactCodeName : laws_FnExactCodeName.Pure := by
  intro a h
  have e : wrap64 12 = 12 := by unfold wrap64; omega
  unfold laws_FnExactCodeName.f spec_CodeName.f impl_CodeName.f spec_l00In.f impl_within.f impl_length_string.f
  simp only [Option.bind_some, List.length_cons, List.length_nil]
  by_cases h0 : a ≥ 0
  · by_cases h1 : a ≤ 12
    · have h2 : a < 13 := by omega
      have h0' : 0 ≤ a := h0
      simp [h0', h1, h2, e]
    · simp [h0, h1, e]
  · simp [h0]

end Go.Proofs.Ytafnmeokmopnmaa.Pure
