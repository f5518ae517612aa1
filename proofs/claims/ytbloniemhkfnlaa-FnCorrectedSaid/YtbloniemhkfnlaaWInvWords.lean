-- CUT OR RESPELLED by this session (wip/tools/trimw.py, squeeze.py, words.py) out of the printed words: not as printed
import Derived.Test.YtbloniemhkfnlaaWInv
import Derived.Test.YtbloniemhkfnlaaWFootNe
namespace Go.Proofs.YtbloniemhkfnlaaW.PrintWords
open Go.RowKit
end Go.Proofs.YtbloniemhkfnlaaW.PrintWords
namespace Go.Proofs.YtbloniemhkfnlaaW.PrintLast
section
variable {ops:Array Oper} {a:Act} {o og:Oper} {g:Nat} {t:Tmp} {u:Bool}
end
end Go.Proofs.YtbloniemhkfnlaaW.PrintLast
