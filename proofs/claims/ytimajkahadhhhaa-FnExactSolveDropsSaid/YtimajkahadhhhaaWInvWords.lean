-- CUT OR RESPELLED by this session (wip/tools/trimw.py, squeeze.py, words.py) out of the printed words: not as printed
import Derived.Test.YtimajkahadhhhaaWInv
import Derived.Test.YtimajkahadhhhaaWFootNe
namespace Go.Proofs.YtimajkahadhhhaaW.PrintWords
open Go.RowKit
end Go.Proofs.YtimajkahadhhhaaW.PrintWords
namespace Go.Proofs.YtimajkahadhhhaaW.PrintLast
section
variable {ops : Array Oper} {a : Act} {o og : Oper} {g : Nat} {t : Tmp} {u : Bool}
end
end Go.Proofs.YtimajkahadhhhaaW.PrintLast
