-- CUT OR RESPELLED by this session (wip/tools/trimw.py, squeeze.py, words.py) out of the printed words: not as printed
import Derived.Test.YtaofmiigbhfnbaaDoorWWords
namespace Go.Proofs.YtaofmiigbhfnbaaDoorW.PrintWords
open Go.RowKit
namespace Kd
section
variable {α : Type} {n : Nat} {d : Kd α} {hs : 0 < d.sz} {w : World} {base : Nat} {ok : Nat → Prop} {xs : List α} {cs : List Value}
end
section
variable {α : Type} {n : Nat} {enc : α → Value} {h1 : ∀ x, (enc x).oneCell' = true} {hs : 0 < (scalar enc h1).sz} {w : World} {base : Nat} {ok : Nat → Prop} {xs : List α} {cs : List Value}
end
end Kd
end Go.Proofs.YtaofmiigbhfnbaaDoorW.PrintWords
