-- CUT OR RESPELLED by this session (wip/tools/trimw.py, squeeze.py, words.py) out of the printed words: not as printed
import Derived.Test.YtekaaoeojbclfaaWInv
import Derived.Test.YtekaaoeojbclfaaWFootNe
namespace Go.Proofs.YtekaaoeojbclfaaW.PrintWords
open Go.RowKit
end Go.Proofs.YtekaaoeojbclfaaW.PrintWords
namespace Go.Proofs.YtekaaoeojbclfaaW.PrintLast
section
variable {ops : Array Oper} {a : Act} {o og : Oper} {g : Nat} {t : Tmp} {u : Bool}
end
end Go.Proofs.YtekaaoeojbclfaaW.PrintLast
