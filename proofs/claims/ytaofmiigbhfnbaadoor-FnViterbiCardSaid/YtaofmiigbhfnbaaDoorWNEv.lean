-- CUT OR RESPELLED by this session (wip/tools/trimw.py, squeeze.py, words.py) out of the printed words: not as printed
import Derived.Test.YtaofmiigbhfnbaaDoorWN
namespace Go.Proofs.YtaofmiigbhfnbaaDoorW.PrintWords
open Go.RowKit
namespace Kd
section
variable {α : Type} {d : Kd α} {e base n cap g : Nat} {ok ok' okp : Nat → Prop} {w w1 W : World} {v v1 : Value} {xs ys : List α}
end
section
variable {P : Program} {ops : Array Oper} {rest : List Oper} {o : Oper} {a : Act} {Q : Exit → Act → World → Prop} {Kc : Act → World → Prop} {α : Type}
end
end Kd
end Go.Proofs.YtaofmiigbhfnbaaDoorW.PrintWords
