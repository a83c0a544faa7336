/- Plain lemmas of this session on lists told around: sectors at places, runs of equal ones. Conditions: none. -/
import Derived.Test.YtbpkbllokmplnaaA1Secs
import Derived.Test.YtbpkbllokmplnaaA1Lex
namespace Go.Proofs.Ytbpkbllokmplnaa.Math
open Go.RowKit Go.Proofs.YtbpkbllokmplnaaW.PrintWords Go.Proofs.YtbpkbllokmplnaaW.PrintMore

theorem mem_rot {l : List Int} {b : Nat} {x : Int} (h : x ∈ rot l b) : x ∈ l := by
  unfold rot at h
  rcases List.mem_append.1 h with h | h
  · exact List.mem_of_mem_drop h
  · exact List.mem_of_mem_take h
end Go.Proofs.Ytbpkbllokmplnaa.Math
