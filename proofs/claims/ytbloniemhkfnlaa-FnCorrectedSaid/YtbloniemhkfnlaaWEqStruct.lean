-- CUT OR RESPELLED by this session (wip/tools/trimw.py, squeeze.py, words.py) out of the printed words: not as printed
import Derived.Test.YtbloniemhkfnlaaWWords
import Derived.Laws.StructEq
namespace Go.Proofs.YtbloniemhkfnlaaW.PrintWords
open Go.RowKit
section
variable {P:Program} {d:Nat} {xs ys:Array Value} {f:Field} {fs:List Field} {a b:Value} {r s:Bool} {w:World}
end
end Go.Proofs.YtbloniemhkfnlaaW.PrintWords
