-- Printed for this claim by this session's program pp.py, which drives the kit's print with additions. Not trusted: Lean checks it.
import Derived.Test.YtaickhdobnbnoaaDoorProg
import Derived.Below
import Derived.Deep.Draws
import Derived.Deep.AppendLies
import Derived.Maps.AppendAt
import Derived.OwnWalk
import Derived.Laws.BytesArg
import Derived.Laws.MakeOwn
import Derived.Laws.OwnMore
import Derived.Deep.OwnRows
import Derived.Tactics
import Derived.Lib.ConvBytes
import Derived.Laws.Slices
import Derived.WalkKit
import Derived.KernelRfl
import Derived.RowKit3
import Derived.Deep.LoopGhost
import Derived.Deep.QuietTactic
import Derived.BigQuiet
import Derived.WideLaws
import Derived.Deep.DeepCutAuto
import Derived.Deep.CutBlock
import Derived.Deep.RegionHeld3
import Derived.Laws.Rows
import Derived.Lib.AppendStr
import Derived.ArgAppend
import Derived.Laws.IdiomCopy
import Derived.OrdersHeld
import Derived.Laws.BitsLemmas
import Derived.RowKit
import Derived.Lib.SliceRun
import Derived.Test.YtaickhdobnbnoaaDoorV1Shelf
import Derived.Test.YtaickhdobnbnoaaDoorV1WWords
import Derived.Test.YtaickhdobnbnoaaDoorV1WLast
import Derived.Test.YtaickhdobnbnoaaDoorV1WTab
import Derived.Test.YtaickhdobnbnoaaDoorV1WFour
import Derived.Test.YtaickhdobnbnoaaDoorV1WQPut
import Derived.Test.YtaickhdobnbnoaaDoorV1WApart
import Derived.Test.YtaickhdobnbnoaaDoorV1WArr
import Derived.Test.YtaickhdobnbnoaaDoorV1WZeros
import Derived.Test.YtaickhdobnbnoaaDoorV1WFoot
import Derived.Test.YtaickhdobnbnoaaDoorV1WKept
import Derived.Test.YtaickhdobnbnoaaDoorV1WShare
import Derived.Test.YtaickhdobnbnoaaDoorV1WN
import Derived.Test.YtaickhdobnbnoaaDoorV1WFootNe
import Derived.Test.YtaickhdobnbnoaaDoorV1WAt
import Derived.Test.YtaickhdobnbnoaaDoorV1WEqStruct
import Derived.Test.YtaickhdobnbnoaaDoorV1WRepsOne
import Derived.Test.YtaickhdobnbnoaaDoorV1WInv
import Derived.Test.YtaickhdobnbnoaaDoorV1WInvWords
import Derived.Test.YtaickhdobnbnoaaDoorV1WGuard
import Derived.Test.YtaickhdobnbnoaaDoorV1WNEv
import Derived.Test.YtaickhdobnbnoaaDoorV1WMore
namespace Go.Proofs.YtaickhdobnbnoaaDoor.PFnExactLibraryNames
open Go.RowKit Go.Proofs.YtaickhdobnbnoaaDoorW.PrintWords Go.Proofs.YtaickhdobnbnoaaDoorW.PrintLast Go.Proofs.YtaickhdobnbnoaaDoorW.PrintMore
section
variable {P : Program} {ops : Array Oper} {rest : List Oper} {o : Oper} {Q : Exit → Act → World → Prop} {md : Region.Mode} {S : World → Prop} {ds : List Nat} {fuel : Nat} {l : Array Bool} {a a' : Act} {w w0 W : World} {oi : Oper} {v : Value} {g n : Nat} {ob : Obj} {t : TypeId}
def bl_ (n m : Nat) : Array Bool := ⟨(List.range n).map fun i => m.testBit i⟩
theorem bb_ {n : Nat} {w W : World} (h : Below n w W := by repeat (first | (with_reducible first | exact HB.out | apply znU | apply pw_below_drewN | apply below_drew1 | refine below_set ?_ (Aside0.out (by assumption))) | exact HB.out)) : Below n w W := h
theorem ns_ {w W w2 : World} (k : Below W.heap.size W w2) (h : Below w.heap.size w W := by exact bb_) : Aside0 (Below w.heap.size w w2) := ⟨below_step h k⟩
theorem dt_ {p : Prop} [hd : Decidable p] (h : @decide p hd = true := by first | (with_reducible assumption) | assumption) : p := of_decide_eq_true h
end
attribute [local go_sem] max2_int min2_int max_two min_two max_three min_three max_four min_four   -- for this text's walks alone
set_option linter.unusedVariables false
set_option linter.unusedSimpArgs false

def errW : Option Int → Value
 | none => .nilIface
 | some c => .iface 0 (.int .i64 c)
theorem ziS : errW none = .nilIface := rfl
theorem znJ (c : Int) : errW (some c) = .iface 0 (.int .i64 c) := rfl

theorem info9 : (Tryd.prog.info? 9).map (fun i => (i.zero, i.size, i.bytes)) = some (some (.string ⟨#[]⟩), 1, 16) := by kernel_rfl
-- the values' own types

end Go.Proofs.YtaickhdobnbnoaaDoor.PFnExactLibraryNames
