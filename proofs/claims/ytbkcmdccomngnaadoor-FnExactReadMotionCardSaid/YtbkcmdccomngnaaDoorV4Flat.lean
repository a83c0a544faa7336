/- A general aid, by this session: cells that read as a datum of numbers alone are the datum's numbers. Conditions: none. -/
import Derived.OpenShut
import Derived.ChangeArms
namespace Go.Proofs.YtbkcmdccomngnaaDoor.Flat
open Go.ChangeShapes Go.WideShapes

structure Flat (P : Program) (t : TypeId) (s : Nat) (F : {H : Type} → DataW H → List Value) : Prop where
  size : P.cellsOf t = s
  op : ∀ {H : Type} {enc : TypeId × Value → H} {W : World} {base : Nat} {spare : Nat → Bool} {held : Bool} {fuel : Nat} {cs : List Value} {x : DataW H × List MemPlace}, DataW.trod enc P W base spare held fuel t cs = some x → cs = F x.1 ∧ cs.length = s

end Go.Proofs.YtbkcmdccomngnaaDoor.Flat
