-- Printed for this claim by this session's program pp.py, which drives the kit's print with additions. Not trusted: Lean checks it.
import Derived.Test.YtafnmeokmopnmaaProg
import Derived.Below
import Derived.Deep.Draws
import Derived.Deep.AppendLies
import Derived.Maps.AppendAt
import Derived.OwnWalk
import Derived.Laws.BytesArg
import Derived.Laws.MakeOwn
import Derived.Laws.OwnMore
import Derived.Deep.OwnRows
import Derived.Tactics
import Derived.Lib.ConvBytes
import Derived.Laws.Slices
import Derived.WalkKit
import Derived.KernelRfl
import Derived.RowKit3
import Derived.Deep.LoopGhost
import Derived.Deep.QuietTactic
import Derived.BigQuiet
import Derived.WideLaws
import Derived.Deep.DeepCutAuto
import Derived.Deep.CutBlock
import Derived.Deep.RegionHeld3
import Derived.Laws.Rows
import Derived.Lib.AppendStr
import Derived.ArgAppend
import Derived.Laws.IdiomCopy
import Derived.OrdersHeld
import Derived.Laws.BitsLemmas
import Derived.RowKit
import Derived.Lib.SliceRun
import Derived.Test.YtafnmeokmopnmaaWWords
import Derived.Test.YtafnmeokmopnmaaWLast
import Derived.Test.YtafnmeokmopnmaaWTab
import Derived.Test.YtafnmeokmopnmaaWFour
import Derived.Test.YtafnmeokmopnmaaWQPut
import Derived.Test.YtafnmeokmopnmaaWApart
import Derived.Test.YtafnmeokmopnmaaWArr
import Derived.Test.YtafnmeokmopnmaaWZeros
import Derived.Test.YtafnmeokmopnmaaWFoot
import Derived.Test.YtafnmeokmopnmaaWKept
import Derived.Test.YtafnmeokmopnmaaWShare
import Derived.Test.YtafnmeokmopnmaaWN
import Derived.Test.YtafnmeokmopnmaaWFootNe
import Derived.Test.YtafnmeokmopnmaaWAt
import Derived.Test.YtafnmeokmopnmaaWEqStruct
import Derived.Test.YtafnmeokmopnmaaWRepsOne
import Derived.Test.YtafnmeokmopnmaaWInv
import Derived.Test.YtafnmeokmopnmaaWInvWords
import Derived.Test.YtafnmeokmopnmaaWGuard
import Derived.Test.YtafnmeokmopnmaaWNEv
import Derived.Test.YtafnmeokmopnmaaWMore
namespace Go.Proofs.Ytafnmeokmopnmaa.PFnExactValidSectors
open Go.RowKit Go.Proofs.YtafnmeokmopnmaaW.PrintWords Go.Proofs.YtafnmeokmopnmaaW.PrintLast Go.Proofs.YtafnmeokmopnmaaW.PrintMore
attribute [local go_sem] max2_int min2_int max_two min_two max_three min_three max_four min_four   -- for this text's walks alone
set_option linter.unusedVariables false
set_option linter.unusedSimpArgs false



def errW : Option Int → Value
  | none => .nilIface
  | some c => .iface 0 (.int .i64 c)
theorem errW_none : errW none = .nilIface := rfl
theorem errW_some (c : Int) : errW (some c) = .iface 0 (.int .i64 c) := rfl

theorem info2 : (Try.prog.info? 2).map (fun i => (i.zero, i.size, i.bytes)) = some (some (.int .i64 0), 1, 8) := by kernel_rfl
-- the values' own types

end Go.Proofs.Ytafnmeokmopnmaa.PFnExactValidSectors
