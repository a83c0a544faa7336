/- Plain lemmas of this session on the kinds with a number. Conditions: none. -/
import Derived.Test.YtbpkbllokmplnaaV1Count
namespace Go.Proofs.Ytbpkbllokmplnaa.Math
open Go.RowKit Go.Proofs.YtbpkbllokmplnaaW.PrintWords Go.Proofs.YtbpkbllokmplnaaW.PrintMore

/-- The kind of a crease in the kinds with a number, where mountains come first. -/
def bitA (n b i : Nat) : Int := 2 + ((b / 2 ^ (n - 1 - i) % 2 : Nat) : Int)
def kindsB (n b : Nat) : List Int := (List.range n).map (bitA n b)
theorem kindsB_length (n b : Nat) : (kindsB n b).length = n := by unfold kindsB; simp
theorem kindsB_ok (n b : Nat) : znM (kindsB n b) := by
  intro x hx
  obtain ⟨i, _, rfl⟩ := List.mem_map.1 hx
  unfold bitA
  omega
end Go.Proofs.Ytbpkbllokmplnaa.Math
