/- A general aid, by this session: what a value that came in and reads as data of a type holds, as one of the print's kinds (Kd). Conditions: none. -/
import Derived.Deep.Slices
import Derived.DataReads
import Derived.DataShut
import Derived.Test.YtehghobmmpihfaaGreatDoorV1WMore
namespace Go.Proofs.YtehghobmmpihfaaGreatDoor.Open
open Go.Proofs.YtehghobmmpihfaaGreatDoorW.PrintWords Go.ChangeShapes Go.WideShapes Go.Deep

structure Opens {α : Type} (P : Program) (t : TypeId) (d : Kd α) (ok : α → Prop) : Prop where
  sz : d.sz = P.cellsOf t
  op : ∀ {H : Type} {enc : TypeId × Value → H} {W : World} {fuel : Nat} {cs : List Value} {x : DataW H × List MemPlace},
    DataW.trod enc P W 0 (fun _ => true) true fuel t cs = some x → ∃ y, d.K W y cs ∧ ok y

structure Line {α : Type} (P : Program) (fs : List Field) (b : Nat) (d : Kd α) (ok : α → Prop) : Prop where
  op : ∀ {H : Type} {enc : TypeId × Value → H} {W : World} {fuel : Nat} {cs : List Value}, cs.length = d.sz →
    (∀ f ∈ fs, ∃ x, DataW.trod enc P W 0 (fun _ => true) true fuel f.type ((cs.drop (f.offset - b)).take (P.cellsOf f.type)) = some x) → (∀ f ∈ fs, b ≤ f.offset) → ∃ y, d.K W y cs ∧ ok y
end Go.Proofs.YtehghobmmpihfaaGreatDoor.Open
