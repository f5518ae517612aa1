/- A law's functions as plain Lean functions, each with the walk that shows that the code computes it: written by this session's program wip/tools/ppmake.py. -/
import Derived.Test.YthhcgepofldgaaaProg
import Derived.Test.YthhcgepofldgaaaPByteM
import Derived.Below
import Derived.Deep.Draws
import Derived.Deep.AppendLies
import Derived.Maps.AppendAt
import Derived.OwnWalk
import Derived.Laws.BytesArg
import Derived.Laws.MakeOwn
import Derived.Laws.OwnMore
import Derived.Deep.OwnRows
import Derived.Tactics
import Derived.Lib.ConvBytes
import Derived.Laws.Slices
import Derived.WalkKit
import Derived.KernelRfl
import Derived.RowKit3
import Derived.Deep.LoopGhost
import Derived.Deep.QuietTactic
import Derived.BigQuiet
import Derived.WideLaws
import Derived.Deep.DeepCutAuto
import Derived.Deep.CutBlock
import Derived.Deep.RegionHeld3
import Derived.Laws.Rows
import Derived.Lib.AppendStr
import Derived.ArgAppend
import Derived.Laws.IdiomCopy
import Derived.OrdersHeld
import Derived.Laws.BitsLemmas
import Derived.RowKit
import Derived.Deep.RegionLaw
import Derived.Deep.RegionWith
import Derived.Laws.CopyOwn
import Derived.Laws.CopyRow
import Derived.Lib.SliceRun
import Derived.Shelf.Abstract
import Derived.Test.YthhcgepofldgaaaPSortO
import Derived.Test.YthhcgepofldgaaaWWords
import Derived.Test.YthhcgepofldgaaaWLast
import Derived.Test.YthhcgepofldgaaaWTab
import Derived.Test.YthhcgepofldgaaaWFour
import Derived.Test.YthhcgepofldgaaaWQPut
import Derived.Test.YthhcgepofldgaaaWApart
import Derived.Test.YthhcgepofldgaaaWArr
import Derived.Test.YthhcgepofldgaaaWZeros
import Derived.Test.YthhcgepofldgaaaWFoot
import Derived.Test.YthhcgepofldgaaaWKept
import Derived.Test.YthhcgepofldgaaaWShare
import Derived.Test.YthhcgepofldgaaaWN
import Derived.Test.YthhcgepofldgaaaWFootNe
import Derived.Test.YthhcgepofldgaaaWAt
import Derived.Test.YthhcgepofldgaaaWEqStruct
import Derived.Test.YthhcgepofldgaaaWRepsOne
import Derived.Test.YthhcgepofldgaaaWInv
import Derived.Test.YthhcgepofldgaaaWInvWords
import Derived.Test.YthhcgepofldgaaaWGuard
import Derived.Test.YthhcgepofldgaaaWNEv
import Derived.Test.YthhcgepofldgaaaWMore
namespace Go.Proofs.Ythhcgepofldgaaa.PFnColumns
open Go.RowKit Go.Proofs.YthhcgepofldgaaaW.PrintWords Go.Proofs.YthhcgepofldgaaaW.PrintLast Go.Proofs.YthhcgepofldgaaaW.PrintMore
attribute [local go_sem] max2_int min2_int max_two min_two max_three min_three max_four min_four   -- for this text's walks alone
set_option linter.unusedVariables false
set_option linter.unusedSimpArgs false



def errW : Option Int → Value
  | none => .nilIface
  | some c => .iface 0 (.int .i64 c)
theorem errW_none : errW none = .nilIface := rfl
theorem errW_some (c : Int) : errW (some c) = .iface 0 (.int .i64 c) := rfl

theorem info3 : (Try.prog.info? 3).map (fun i => (i.zero, i.size, i.bytes)) = some (some (.int .i64 0), 1, 8) := by kernel_rfl
theorem info4 : (Try.prog.info? 4).map (fun i => (i.zero, i.size, i.bytes)) = some (some (.bool false), 1, 1) := by kernel_rfl
theorem info5 : (Try.prog.info? 5).map (fun i => (i.zero, i.size, i.bytes)) = some (some (.int .u8 0), 1, 1) := by kernel_rfl
theorem info9 : (Try.prog.info? 9).map (fun i => (i.zero, i.size, i.bytes)) = some (some (.string ⟨#[]⟩), 1, 16) := by kernel_rfl
-- the values' own types

end Go.Proofs.Ythhcgepofldgaaa.PFnColumns
