-- CUT OR RESPELLED by this session (wip/tools/trimw.py, squeeze.py, words.py) out of the printed words: not as printed
import Derived.Test.YtaofmiigbhfnbaaDoorWTab
namespace Go.Proofs.YtaofmiigbhfnbaaDoorW.PrintLast
section
variable {P : Program} {ops : Array Oper} {Q : Exit → Act → World → Prop} {md : Region.Mode} {T : Bool × List (List Nat × List Nat)} {B : List Nat} {O : List Nat} {b : Nat → Bool} {i j n : Nat}
end
end Go.Proofs.YtaofmiigbhfnbaaDoorW.PrintLast
