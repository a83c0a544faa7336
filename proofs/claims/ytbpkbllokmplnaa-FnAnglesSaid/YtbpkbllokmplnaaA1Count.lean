/- Plain lemmas of this session on the number of kinds with which a cone can be folded. Conditions: none. -/
import Derived.Test.YtbpkbllokmplnaaA1Crimp
namespace Go.Proofs.Ytbpkbllokmplnaa.Math
open Go.RowKit Go.Proofs.YtbpkbllokmplnaaW.PrintWords Go.Proofs.YtbpkbllokmplnaaW.PrintMore

/-! A sum over all kinds of n creases. -/
theorem KndOk.cons {x : Int} {r : List Int} (hx : x = 2 ∨ x = 3) (hr : KndOk r) : KndOk (x :: r) := by
  intro y hy
  rcases List.mem_cons.1 hy with rfl | h
  · exact hx
  · exact hr y h
theorem KndOk.nil : KndOk [] := fun _ h => by cases h
theorem KndOk.append {a b : List Int} (ha : KndOk a) (hb : KndOk b) : KndOk (a ++ b) := fun y hy => (List.mem_append.1 hy).elim (ha y) (hb y)
theorem KndOk.drop {a : List Int} (ha : KndOk a) (n : Nat) : KndOk (a.drop n) := fun y hy => ha y (List.mem_of_mem_drop hy)
theorem KndOk.rot {a : List Int} (ha : KndOk a) (b : Nat) : KndOk (rot a b) := fun y hy => ha y (mem_rot hy)
/-! Folding a cone crimp by crimp. -/
/-! The number of kinds. -/
end Go.Proofs.Ytbpkbllokmplnaa.Math
