-- Printed for this claim by this session's program pp.py, which drives the kit's print with additions. Not trusted: Lean checks it.
import Derived.Test.YtbkehpciffponaaProg
import Derived.Below
import Derived.Deep.Draws
import Derived.Deep.AppendLies
import Derived.Maps.AppendAt
import Derived.OwnWalk
import Derived.Laws.BytesArg
import Derived.Laws.MakeOwn
import Derived.Laws.OwnMore
import Derived.Deep.OwnRows
import Derived.Tactics
import Derived.Lib.ConvBytes
import Derived.Laws.Slices
import Derived.WalkKit
import Derived.KernelRfl
import Derived.RowKit3
import Derived.Deep.LoopGhost
import Derived.Deep.QuietTactic
import Derived.BigQuiet
import Derived.WideLaws
import Derived.Deep.DeepCutAuto
import Derived.Deep.CutBlock
import Derived.Deep.RegionHeld3
import Derived.Laws.Rows
import Derived.Lib.AppendStr
import Derived.ArgAppend
import Derived.Laws.IdiomCopy
import Derived.OrdersHeld
import Derived.Laws.BitsLemmas
import Derived.RowKit
import Derived.Lib.SliceRun
import Derived.Test.YtbkehpciffponaaWWords
import Derived.Test.YtbkehpciffponaaWLast
import Derived.Test.YtbkehpciffponaaWTab
import Derived.Test.YtbkehpciffponaaWFour
import Derived.Test.YtbkehpciffponaaWQPut
import Derived.Test.YtbkehpciffponaaWApart
import Derived.Test.YtbkehpciffponaaWArr
import Derived.Test.YtbkehpciffponaaWZeros
import Derived.Test.YtbkehpciffponaaWFoot
import Derived.Test.YtbkehpciffponaaWKept
import Derived.Test.YtbkehpciffponaaWShare
import Derived.Test.YtbkehpciffponaaWN
import Derived.Test.YtbkehpciffponaaWFootNe
import Derived.Test.YtbkehpciffponaaWAt
import Derived.Test.YtbkehpciffponaaWEqStruct
import Derived.Test.YtbkehpciffponaaWRepsOne
import Derived.Test.YtbkehpciffponaaWInv
import Derived.Test.YtbkehpciffponaaWInvWords
import Derived.Test.YtbkehpciffponaaWGuard
import Derived.Test.YtbkehpciffponaaWNEv
import Derived.Test.YtbkehpciffponaaWMore
namespace Go.Proofs.Ytbkehpciffponaa.PFnExactValidCone
open Go.RowKit Go.Proofs.YtbkehpciffponaaW.PrintWords Go.Proofs.YtbkehpciffponaaW.PrintLast Go.Proofs.YtbkehpciffponaaW.PrintMore
attribute [local go_sem] max2_int min2_int max_two min_two max_three min_three max_four min_four   -- for this text's walks alone
set_option linter.unusedVariables false
set_option linter.unusedSimpArgs false



def errW : Option Int → Value
  | none => .nilIface
  | some c => .iface 0 (.int .i64 c)
theorem errW_none : errW none = .nilIface := rfl
theorem errW_some (c : Int) : errW (some c) = .iface 0 (.int .i64 c) := rfl

theorem info2 : (Try.prog.info? 2).map (fun i => (i.zero, i.size, i.bytes)) = some (some (.int .i64 0), 1, 8) := by kernel_rfl
-- the values' own types

end Go.Proofs.Ytbkehpciffponaa.PFnExactValidCone
