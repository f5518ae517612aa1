-- CUT OR RESPELLED by this session (wip/tools/trimw.py, squeeze.py, words.py) out of the printed words: not as printed
import Derived.Test.YtaofmiigbhfnbaaDoorWInv
import Derived.Test.YtaofmiigbhfnbaaDoorWFootNe
namespace Go.Proofs.YtaofmiigbhfnbaaDoorW.PrintWords
open Go.RowKit
end Go.Proofs.YtaofmiigbhfnbaaDoorW.PrintWords
namespace Go.Proofs.YtaofmiigbhfnbaaDoorW.PrintLast
section
variable {ops : Array Oper} {a : Act} {o og : Oper} {g : Nat} {t : Tmp} {u : Bool}
end
end Go.Proofs.YtaofmiigbhfnbaaDoorW.PrintLast
