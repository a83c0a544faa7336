-- Printed for this claim by this session's program pp.py, which drives the kit's print with additions. Not trusted: Lean checks it.
import Derived.Test.YtkbobbhecgmgpaaDoorProg
import Derived.Below
import Derived.Deep.Draws
import Derived.Deep.AppendLies
import Derived.Maps.AppendAt
import Derived.OwnWalk
import Derived.Laws.BytesArg
import Derived.Laws.MakeOwn
import Derived.Laws.OwnMore
import Derived.Deep.OwnRows
import Derived.Tactics
import Derived.Lib.ConvBytes
import Derived.Laws.Slices
import Derived.WalkKit
import Derived.KernelRfl
import Derived.RowKit3
import Derived.Deep.LoopGhost
import Derived.Deep.QuietTactic
import Derived.BigQuiet
import Derived.WideLaws
import Derived.Deep.DeepCutAuto
import Derived.Deep.CutBlock
import Derived.Deep.RegionHeld3
import Derived.Laws.Rows
import Derived.Lib.AppendStr
import Derived.ArgAppend
import Derived.Laws.IdiomCopy
import Derived.OrdersHeld
import Derived.Laws.BitsLemmas
import Derived.RowKit
import Derived.Lib.SliceRun
import Derived.Test.YtkbobbhecgmgpaaDoorShelf
import Derived.Test.YtkbobbhecgmgpaaDoorWWords
import Derived.Test.YtkbobbhecgmgpaaDoorWLast
import Derived.Test.YtkbobbhecgmgpaaDoorWTab
import Derived.Test.YtkbobbhecgmgpaaDoorWFour
import Derived.Test.YtkbobbhecgmgpaaDoorWQPut
import Derived.Test.YtkbobbhecgmgpaaDoorWApart
import Derived.Test.YtkbobbhecgmgpaaDoorWArr
import Derived.Test.YtkbobbhecgmgpaaDoorWZeros
import Derived.Test.YtkbobbhecgmgpaaDoorWFoot
import Derived.Test.YtkbobbhecgmgpaaDoorWKept
import Derived.Test.YtkbobbhecgmgpaaDoorWShare
import Derived.Test.YtkbobbhecgmgpaaDoorWN
import Derived.Test.YtkbobbhecgmgpaaDoorWFootNe
import Derived.Test.YtkbobbhecgmgpaaDoorWAt
import Derived.Test.YtkbobbhecgmgpaaDoorWEqStruct
import Derived.Test.YtkbobbhecgmgpaaDoorWRepsOne
import Derived.Test.YtkbobbhecgmgpaaDoorWInv
import Derived.Test.YtkbobbhecgmgpaaDoorWInvWords
import Derived.Test.YtkbobbhecgmgpaaDoorWGuard
import Derived.Test.YtkbobbhecgmgpaaDoorWNEv
import Derived.Test.YtkbobbhecgmgpaaDoorWMore
namespace Go.Proofs.YtkbobbhecgmgpaaDoor.PFnExactIsName
open Go.RowKit Go.Proofs.YtkbobbhecgmgpaaDoorW.PrintWords Go.Proofs.YtkbobbhecgmgpaaDoorW.PrintLast Go.Proofs.YtkbobbhecgmgpaaDoorW.PrintMore
attribute [local go_sem] max2_int min2_int max_two min_two max_three min_three max_four min_four   -- for this text's walks alone
set_option linter.unusedVariables false
set_option linter.unusedSimpArgs false



def errW : Option Int → Value
  | none => .nilIface
  | some c => .iface 0 (.int .i64 c)
theorem errW_none : errW none = .nilIface := rfl
theorem errW_some (c : Int) : errW (some c) = .iface 0 (.int .i64 c) := rfl

-- the values' own types

end Go.Proofs.YtkbobbhecgmgpaaDoor.PFnExactIsName
