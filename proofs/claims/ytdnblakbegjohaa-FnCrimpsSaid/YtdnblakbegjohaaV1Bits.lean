/- Plain lemmas of this session on the kinds with a number. Conditions: none. -/
import Derived.Test.YtdnblakbegjohaaV1Count
namespace Go.Proofs.Ytdnblakbegjohaa.Math
open Go.RowKit Go.Proofs.YtdnblakbegjohaaW.PrintWords Go.Proofs.YtdnblakbegjohaaW.PrintMore

/-- The kind of a crease in the kinds with a number, where mountains come first. -/
def bitA (n b i : Nat) : Int := 2 + ((b / 2 ^ (n - 1 - i) % 2 : Nat) : Int)
def zkC (n b : Nat) : List Int := (List.range n).map (bitA n b)
theorem kindsB_length (n b : Nat) : (zkC n b).length = n := by unfold zkC; simp
theorem kindsB_ok (n b : Nat) : znM (zkC n b) := by
  intro x hx
  obtain ⟨i, _, rfl⟩ := List.mem_map.1 hx
  unfold bitA
  omega
end Go.Proofs.Ytdnblakbegjohaa.Math
