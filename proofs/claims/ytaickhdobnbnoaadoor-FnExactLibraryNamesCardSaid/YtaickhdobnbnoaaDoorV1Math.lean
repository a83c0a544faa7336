/- Plain lemmas of this session on numbers: wrapping, bits, valid numbers. Conditions: none. -/
import Derived.Laws.BitsLemmas
import Derived.RowKit
import Derived.Test.YtaickhdobnbnoaaDoorV1WMore
namespace Go.Proofs.YtaickhdobnbnoaaDoor.Math
open Go.RowKit Go.Proofs.YtaickhdobnbnoaaDoorW.PrintWords Go.Proofs.YtaickhdobnbnoaaDoorW.PrintMore

def NumOk (a b k : Int) : Prop := (-131072 ≤ a ∧ a ≤ 131072) ∧ (-131072 ≤ b ∧ b ≤ 131072) ∧ (0 ≤ k ∧ k ≤ 10) ∧ (k = 0 ∨ a % 2 = 1 ∨ b % 2 = 1)
instance (a b k : Int) : Decidable (NumOk a b k) := by unfold NumOk; infer_instance
end Go.Proofs.YtaickhdobnbnoaaDoor.Math
