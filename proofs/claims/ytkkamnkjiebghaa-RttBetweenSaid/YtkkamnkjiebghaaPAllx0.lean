-- written by wip/tools/mp.py, a program of this session, over the printer of the kit, out of the translation
import Derived.Test.YtkkamnkjiebghaaProg
import Derived.Below
import Derived.Deep.Draws
import Derived.Deep.AppendLies
import Derived.Maps.AppendAt
import Derived.OwnWalk
import Derived.Laws.BytesArg
import Derived.Laws.MakeOwn
import Derived.Laws.OwnMore
import Derived.Deep.OwnRows
import Derived.Tactics
import Derived.Lib.ConvBytes
import Derived.Laws.Slices
import Derived.WalkKit
import Derived.KernelRfl
import Derived.RowKit3
import Derived.Deep.LoopGhost
import Derived.Deep.QuietTactic
import Derived.BigQuiet
import Derived.WideLaws
import Derived.Deep.DeepCutAuto
import Derived.Deep.CutBlock
import Derived.Deep.RegionHeld3
import Derived.Laws.Rows
import Derived.Lib.AppendStr
import Derived.ArgAppend
import Derived.Laws.IdiomCopy
import Derived.OrdersHeld
import Derived.Laws.BitsLemmas
import Derived.RowKit
import Derived.Lib.SlBytesConst
import Derived.Test.YtkkamnkjiebghaaWWords
import Derived.Test.YtkkamnkjiebghaaWLast
import Derived.Test.YtkkamnkjiebghaaWTab
import Derived.Test.YtkkamnkjiebghaaWFour
import Derived.Test.YtkkamnkjiebghaaWQPut
import Derived.Test.YtkkamnkjiebghaaWApart
import Derived.Test.YtkkamnkjiebghaaWArr
import Derived.Test.YtkkamnkjiebghaaWZeros
import Derived.Test.YtkkamnkjiebghaaWFoot
import Derived.Test.YtkkamnkjiebghaaWKept
import Derived.Test.YtkkamnkjiebghaaWShare
import Derived.Test.YtkkamnkjiebghaaWN
import Derived.Test.YtkkamnkjiebghaaWFootNe
import Derived.Test.YtkkamnkjiebghaaWAt
import Derived.Test.YtkkamnkjiebghaaWEqStruct
import Derived.Test.YtkkamnkjiebghaaWRepsOne
import Derived.Test.YtkkamnkjiebghaaWInv
import Derived.Test.YtkkamnkjiebghaaWInvWords
import Derived.Test.YtkkamnkjiebghaaWGuard
import Derived.Test.YtkkamnkjiebghaaWNEv
import Derived.Test.YtkkamnkjiebghaaWMore
namespace Go.Proofs.Ytkkamnkjiebghaa.PAll
open Go.RowKit Go.Proofs.YtkkamnkjiebghaaW.PrintWords Go.Proofs.YtkkamnkjiebghaaW.PrintLast Go.Proofs.YtkkamnkjiebghaaW.PrintMore
attribute [local go_sem] max2_int min2_int max_two min_two max_three min_three max_four min_four   -- for this text's walks alone
set_option linter.unusedVariables false
set_option linter.unusedSimpArgs false



def errW : Option Int → Value
  | none => .nilIface
  | some c => .iface 0 (.int .i64 c)
theorem errW_none : errW none = .nilIface := rfl
theorem errW_some (c : Int) : errW (some c) = .iface 0 (.int .i64 c) := rfl

theorem info3 : (Try.prog.info? 3).map (fun i => (i.zero, i.size, i.bytes)) = some (some (.int .i64 0), 1, 8) := by kernel_rfl
-- the values' own types

end Go.Proofs.Ytkkamnkjiebghaa.PAll
