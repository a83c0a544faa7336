/- What is proved: the program's KindBetween answers what the reference's answers, at every flag and order. Conditions: none. -/
import Derived.Test.YtafnmeokmopnmaaPFnExactKindBetweenx
import Derived.Test.YtafnmeokmopnmaaMath
namespace Go.Proofs.Ytafnmeokmopnmaa.Pure
open Go.RowKit Go.Proofs.Ytafnmeokmopnmaa.PFnExactKindBetween Go.Proofs.YtafnmeokmopnmaaW.PrintWords Go.Proofs.YtafnmeokmopnmaaW.PrintLast Go.Proofs.YtafnmeokmopnmaaW.PrintMore Go.Proofs.Ytafnmeokmopnmaa.Math


theorem FnExactKindBetween : laws_FnExactKindBetween.Pure := by
  intro a b h
  refine ⟨1, ?_⟩
  unfold laws_FnExactKindBetween.f spec_KindBetween.f impl_KindBetween.f
  simp only [spec_KindBetween.j0, impl_KindBetween.j0]
  by_cases h1 : b = 1
  · subst h1; cases a <;> simp
  · by_cases h2 : b = -1
    · subst h2; cases a <;> simp
    · simp [h1, h2]

end Go.Proofs.Ytafnmeokmopnmaa.Pure
