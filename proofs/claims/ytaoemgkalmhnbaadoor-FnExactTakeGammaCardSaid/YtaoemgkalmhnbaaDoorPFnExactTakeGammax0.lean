/- A law's functions as plain Lean functions, each with the walk that shows that the code computes it: written by this session's program wip/tools/ppmake.py. -/
import Derived.Test.YtaoemgkalmhnbaaDoorProg
import Derived.Test.YtaoemgkalmhnbaaDoorShelf
import Derived.Below
import Derived.Deep.Draws
import Derived.Deep.AppendLies
import Derived.Maps.AppendAt
import Derived.OwnWalk
import Derived.Laws.BytesArg
import Derived.Laws.MakeOwn
import Derived.Laws.OwnMore
import Derived.Deep.OwnRows
import Derived.Tactics
import Derived.Lib.ConvBytes
import Derived.Laws.Slices
import Derived.WalkKit
import Derived.KernelRfl
import Derived.RowKit3
import Derived.Deep.LoopGhost
import Derived.Deep.QuietTactic
import Derived.BigQuiet
import Derived.WideLaws
import Derived.Deep.DeepCutAuto
import Derived.Deep.CutBlock
import Derived.Deep.RegionHeld3
import Derived.Laws.Rows
import Derived.Lib.AppendStr
import Derived.ArgAppend
import Derived.Laws.IdiomCopy
import Derived.OrdersHeld
import Derived.Laws.BitsLemmas
import Derived.RowKit
import Derived.Deep.RegionLaw
import Derived.Deep.RegionWith
import Derived.Laws.CopyOwn
import Derived.Laws.CopyRow
import Derived.Lib.SliceRun
import Derived.Shelf.Abstract
import Derived.Test.YtaoemgkalmhnbaaDoorWWords
import Derived.Test.YtaoemgkalmhnbaaDoorWLast
import Derived.Test.YtaoemgkalmhnbaaDoorWTab
import Derived.Test.YtaoemgkalmhnbaaDoorWFour
import Derived.Test.YtaoemgkalmhnbaaDoorWQPut
import Derived.Test.YtaoemgkalmhnbaaDoorWApart
import Derived.Test.YtaoemgkalmhnbaaDoorWArr
import Derived.Test.YtaoemgkalmhnbaaDoorWZeros
import Derived.Test.YtaoemgkalmhnbaaDoorWFoot
import Derived.Test.YtaoemgkalmhnbaaDoorWKept
import Derived.Test.YtaoemgkalmhnbaaDoorWShare
import Derived.Test.YtaoemgkalmhnbaaDoorWN
import Derived.Test.YtaoemgkalmhnbaaDoorWFootNe
import Derived.Test.YtaoemgkalmhnbaaDoorWAt
import Derived.Test.YtaoemgkalmhnbaaDoorWEqStruct
import Derived.Test.YtaoemgkalmhnbaaDoorWRepsOne
import Derived.Test.YtaoemgkalmhnbaaDoorWInv
import Derived.Test.YtaoemgkalmhnbaaDoorWInvWords
import Derived.Test.YtaoemgkalmhnbaaDoorWGuard
import Derived.Test.YtaoemgkalmhnbaaDoorWNEv
import Derived.Test.YtaoemgkalmhnbaaDoorWMore
namespace Go.Proofs.YtaoemgkalmhnbaaDoor.PFnExactTakeGamma
open Go.RowKit Go.Proofs.YtaoemgkalmhnbaaDoorW.PrintWords Go.Proofs.YtaoemgkalmhnbaaDoorW.PrintLast Go.Proofs.YtaoemgkalmhnbaaDoorW.PrintMore
attribute [local go_sem] max2_int min2_int max_two min_two max_three min_three max_four min_four   -- for this text's walks alone
set_option linter.unusedVariables false
set_option linter.unusedSimpArgs false



def errW : Option Int → Value
  | none => .nilIface
  | some c => .iface 0 (.int .i64 c)
theorem errW_none : errW none = .nilIface := rfl
theorem errW_some (c : Int) : errW (some c) = .iface 0 (.int .i64 c) := rfl

-- the values' own types

end Go.Proofs.YtaoemgkalmhnbaaDoor.PFnExactTakeGamma
