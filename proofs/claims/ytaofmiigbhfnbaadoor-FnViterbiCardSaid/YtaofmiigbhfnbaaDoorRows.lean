/-
  NARROWER THAN 'FOR EVERY INPUT', by the rows' own cells (each row's printed sentence says how): FnExactDistanceBits: laid · FnExactFlipBits: laid · FnExactBestPaths: laid · FnExactEncodeBits: laid · FnExactCostOf: laid · FnExactDecodeBits: laid · FnViterbi: laid · FnFree: laid.
  DERIVED. THE GIVEN ROWS OF THIS SEAT. 8 by the template 'for every input the law returns true; each argument reads behind the call as it read before'; 0 by the template 'total and deterministic' (their statements: YtaofmiigbhfnbaaDoorTotals.lean).
  GIVEN WITH THE SEED: the statements are not yours to turn. If you find one false, say at which input.
  Laid BY PROGRAM, IN A SANDBOX (cutbox-rows.mjs): the forced cells as the released guide's own fill.sh prints them over the translation f6e41d3dd9695cdf… (all of the seat's roots in one cut). By AI agents, Wed Nov 11 2026. No macro, syntax, notation, axiom, sorry.
-/
import Derived.Test.YtaofmiigbhfnbaaDoorChecked
import GoSem.PinnedTables
import GoSem.Claim
import GoSem.ClaimJoined
import GoSem.ClaimMapViews
import Derived.JoinedTies
import Derived.KernelRfl
namespace Go.Proofs.YtaofmiigbhfnbaaDoor
/- THE CELL 'sum', in the pinned program and in every row, IS THE sha256 OF THE DUMP (.gsa) THAT YtaofmiigbhfnbaaDoorProg.lean LOADS. Nothing in Lean hashes anything: it is a label: what it is worth is what the hold of that sum in a sandbox is worth. -/
noncomputable def Tryd.pinned : Pinned := { name := "ytaofmiigbhfnbaadoor", sum := "f6e41d3dd9695cdfb0bf76d5ad7bbe5c2b5e3b60e68a30ab2ff26afc109c3de7", checked := Tryd.checked }
namespace Rows
def none {H : Type} : Left H := { results := [], args := [] }

/- WHAT THE LISTED PACKAGE-LEVEL VARIABLES READ AS WHEN THE CALL BEGINS. Each datum BY PROGRAM (the guide's laid-datum.mjs) off the statement by which the dump's own 'gosem.cut.vars' lays the variable. In a bare row this is a premise. The card (YtaofmiigbhfnbaaDoorCards.lean) ties it to the program's text. -/
def laid_unicode_utf8_acceptRanges {H : Type} : DataW H := .agg [.agg [.lit (.int .u8 128), .lit (.int .u8 191)], .agg [.lit (.int .u8 160), .lit (.int .u8 191)], .agg [.lit (.int .u8 128), .lit (.int .u8 159)], .agg [.lit (.int .u8 144), .lit (.int .u8 191)], .agg [.lit (.int .u8 128), .lit (.int .u8 143)], .agg [.lit (.int .u8 0), .lit (.int .u8 0)], .agg [.lit (.int .u8 0), .lit (.int .u8 0)], .agg [.lit (.int .u8 0), .lit (.int .u8 0)], .agg [.lit (.int .u8 0), .lit (.int .u8 0)], .agg [.lit (.int .u8 0), .lit (.int .u8 0)], .agg [.lit (.int .u8 0), .lit (.int .u8 0)], .agg [.lit (.int .u8 0), .lit (.int .u8 0)], .agg [.lit (.int .u8 0), .lit (.int .u8 0)], .agg [.lit (.int .u8 0), .lit (.int .u8 0)], .agg [.lit (.int .u8 0), .lit (.int .u8 0)], .agg [.lit (.int .u8 0), .lit (.int .u8 0)]]
/-- One of Go's own tables, pinned by name: the form's constant. -/
def laid_unicode_utf8_first : DataW Unit := Go.Pinned.utf8First

/-- 'laws.FnExactDistanceBits': WHATEVER THE INPUT: true; the input reads as it did. -/
def fnExactDistanceBitsSpec : ChangeSpec := { name := "fnExactDistanceBits", fn := fun _ => fun
  | [d1, d2] => { results := [.lit (.bool true)], args := [d1, d2] }
  | _ => none }
def fnExactDistanceBitsRow : OpenClaim := { program := "ytaofmiigbhfnbaadoor", sum := "f6e41d3dd9695cdfb0bf76d5ad7bbe5c2b5e3b60e68a30ab2ff26afc109c3de7", func := "loop.example/g00294/laws.FnExactDistanceBits", spec := "fnExactDistanceBits", inPlace := ["internal/bytealg.IndexByteString", "internal/bytealg.IndexString"], named := ["unicode/utf8.first", "unicode/utf8.acceptRanges", "internal/bytealg.MaxLen"], apart := false, laid := [("unicode/utf8.acceptRanges", laid_unicode_utf8_acceptRanges), ("unicode/utf8.first", laid_unicode_utf8_first)] }
def FnExactDistanceBitsSaid : Prop := fnExactDistanceBitsRow.holds Tryd.pinned (OpenSpec.ofChange fnExactDistanceBitsSpec)

/-- ITS FALSE NEIGHBOUR: 'it returns false'. Refute it at one input. -/
def fnExactDistanceBitsWrong : ChangeSpec := { name := "fnExactDistanceBits", fn := fun _ => fun
  | [d1, d2] => { results := [.lit (.bool false)], args := [d1, d2] }
  | _ => none }
def FnExactDistanceBitsWrongFalsely : Prop := fnExactDistanceBitsRow.holds Tryd.pinned (OpenSpec.ofChange fnExactDistanceBitsWrong)

/-- 'laws.FnExactFlipBits': WHATEVER THE INPUT: true; the input reads as it did. -/
def fnExactFlipBitsSpec : ChangeSpec := { name := "fnExactFlipBits", fn := fun _ => fun
  | [d1, d2] => { results := [.lit (.bool true)], args := [d1, d2] }
  | _ => none }
def fnExactFlipBitsRow : OpenClaim := { program := "ytaofmiigbhfnbaadoor", sum := "f6e41d3dd9695cdfb0bf76d5ad7bbe5c2b5e3b60e68a30ab2ff26afc109c3de7", func := "loop.example/g00294/laws.FnExactFlipBits", spec := "fnExactFlipBits", inPlace := ["internal/bytealg.IndexByteString", "internal/bytealg.IndexString"], named := ["unicode/utf8.first", "unicode/utf8.acceptRanges", "internal/bytealg.MaxLen"], apart := false, laid := [("unicode/utf8.acceptRanges", laid_unicode_utf8_acceptRanges), ("unicode/utf8.first", laid_unicode_utf8_first)] }
def FnExactFlipBitsSaid : Prop := fnExactFlipBitsRow.holds Tryd.pinned (OpenSpec.ofChange fnExactFlipBitsSpec)

/-- ITS FALSE NEIGHBOUR: 'it returns false'. Refute it at one input. -/
def fnExactFlipBitsWrong : ChangeSpec := { name := "fnExactFlipBits", fn := fun _ => fun
  | [d1, d2] => { results := [.lit (.bool false)], args := [d1, d2] }
  | _ => none }
def FnExactFlipBitsWrongFalsely : Prop := fnExactFlipBitsRow.holds Tryd.pinned (OpenSpec.ofChange fnExactFlipBitsWrong)

/-- 'laws.FnExactBestPaths': WHATEVER THE INPUT: true; the input reads as it did. -/
def fnExactBestPathsSpec : ChangeSpec := { name := "fnExactBestPaths", fn := fun _ => fun
  | [d] => { results := [.lit (.bool true)], args := [d] }
  | _ => none }
def fnExactBestPathsRow : OpenClaim := { program := "ytaofmiigbhfnbaadoor", sum := "f6e41d3dd9695cdfb0bf76d5ad7bbe5c2b5e3b60e68a30ab2ff26afc109c3de7", func := "loop.example/g00294/laws.FnExactBestPaths", spec := "fnExactBestPaths", inPlace := ["internal/bytealg.IndexByteString", "internal/bytealg.IndexString"], named := ["unicode/utf8.first", "unicode/utf8.acceptRanges", "internal/bytealg.MaxLen"], apart := false, laid := [("unicode/utf8.acceptRanges", laid_unicode_utf8_acceptRanges), ("unicode/utf8.first", laid_unicode_utf8_first)] }
def FnExactBestPathsSaid : Prop := fnExactBestPathsRow.holds Tryd.pinned (OpenSpec.ofChange fnExactBestPathsSpec)

/-- ITS FALSE NEIGHBOUR: 'it returns false'. Refute it at one input. -/
def fnExactBestPathsWrong : ChangeSpec := { name := "fnExactBestPaths", fn := fun _ => fun
  | [d] => { results := [.lit (.bool false)], args := [d] }
  | _ => none }
def FnExactBestPathsWrongFalsely : Prop := fnExactBestPathsRow.holds Tryd.pinned (OpenSpec.ofChange fnExactBestPathsWrong)

/-- 'laws.FnExactEncodeBits': WHATEVER THE INPUT: true; the input reads as it did. -/
def fnExactEncodeBitsSpec : ChangeSpec := { name := "fnExactEncodeBits", fn := fun _ => fun
  | [d] => { results := [.lit (.bool true)], args := [d] }
  | _ => none }
def fnExactEncodeBitsRow : OpenClaim := { program := "ytaofmiigbhfnbaadoor", sum := "f6e41d3dd9695cdfb0bf76d5ad7bbe5c2b5e3b60e68a30ab2ff26afc109c3de7", func := "loop.example/g00294/laws.FnExactEncodeBits", spec := "fnExactEncodeBits", inPlace := ["internal/bytealg.IndexByteString", "internal/bytealg.IndexString", "internal/abi.NoEscape", "internal/bytealg.MakeNoZero"], named := ["unicode/utf8.first", "unicode/utf8.acceptRanges", "internal/bytealg.MaxLen"], apart := false, laid := [("unicode/utf8.acceptRanges", laid_unicode_utf8_acceptRanges), ("unicode/utf8.first", laid_unicode_utf8_first)] }
def FnExactEncodeBitsSaid : Prop := fnExactEncodeBitsRow.holds Tryd.pinned (OpenSpec.ofChange fnExactEncodeBitsSpec)

/-- ITS FALSE NEIGHBOUR: 'it returns false'. Refute it at one input. -/
def fnExactEncodeBitsWrong : ChangeSpec := { name := "fnExactEncodeBits", fn := fun _ => fun
  | [d] => { results := [.lit (.bool false)], args := [d] }
  | _ => none }
def FnExactEncodeBitsWrongFalsely : Prop := fnExactEncodeBitsRow.holds Tryd.pinned (OpenSpec.ofChange fnExactEncodeBitsWrong)

/-- 'laws.FnExactCostOf': WHATEVER THE INPUT: true; the input reads as it did. -/
def fnExactCostOfSpec : ChangeSpec := { name := "fnExactCostOf", fn := fun _ => fun
  | [d1, d2] => { results := [.lit (.bool true)], args := [d1, d2] }
  | _ => none }
def fnExactCostOfRow : OpenClaim := { program := "ytaofmiigbhfnbaadoor", sum := "f6e41d3dd9695cdfb0bf76d5ad7bbe5c2b5e3b60e68a30ab2ff26afc109c3de7", func := "loop.example/g00294/laws.FnExactCostOf", spec := "fnExactCostOf", inPlace := ["internal/bytealg.IndexByteString", "internal/bytealg.IndexString", "internal/abi.NoEscape", "internal/bytealg.MakeNoZero"], named := ["unicode/utf8.first", "unicode/utf8.acceptRanges", "internal/bytealg.MaxLen"], apart := false, laid := [("unicode/utf8.acceptRanges", laid_unicode_utf8_acceptRanges), ("unicode/utf8.first", laid_unicode_utf8_first)] }
def FnExactCostOfSaid : Prop := fnExactCostOfRow.holds Tryd.pinned (OpenSpec.ofChange fnExactCostOfSpec)

/-- ITS FALSE NEIGHBOUR: 'it returns false'. Refute it at one input. -/
def fnExactCostOfWrong : ChangeSpec := { name := "fnExactCostOf", fn := fun _ => fun
  | [d1, d2] => { results := [.lit (.bool false)], args := [d1, d2] }
  | _ => none }
def FnExactCostOfWrongFalsely : Prop := fnExactCostOfRow.holds Tryd.pinned (OpenSpec.ofChange fnExactCostOfWrong)

/-- 'laws.FnExactDecodeBits': WHATEVER THE INPUT: true; the input reads as it did. -/
def fnExactDecodeBitsSpec : ChangeSpec := { name := "fnExactDecodeBits", fn := fun _ => fun
  | [d] => { results := [.lit (.bool true)], args := [d] }
  | _ => none }
def fnExactDecodeBitsRow : OpenClaim := { program := "ytaofmiigbhfnbaadoor", sum := "f6e41d3dd9695cdfb0bf76d5ad7bbe5c2b5e3b60e68a30ab2ff26afc109c3de7", func := "loop.example/g00294/laws.FnExactDecodeBits", spec := "fnExactDecodeBits", inPlace := ["internal/bytealg.IndexByteString", "internal/bytealg.IndexString", "internal/abi.NoEscape", "internal/bytealg.MakeNoZero"], named := ["unicode/utf8.first", "unicode/utf8.acceptRanges", "internal/bytealg.MaxLen"], apart := false, laid := [("unicode/utf8.acceptRanges", laid_unicode_utf8_acceptRanges), ("unicode/utf8.first", laid_unicode_utf8_first)] }
def FnExactDecodeBitsSaid : Prop := fnExactDecodeBitsRow.holds Tryd.pinned (OpenSpec.ofChange fnExactDecodeBitsSpec)

/-- ITS FALSE NEIGHBOUR: 'it returns false'. Refute it at one input. -/
def fnExactDecodeBitsWrong : ChangeSpec := { name := "fnExactDecodeBits", fn := fun _ => fun
  | [d] => { results := [.lit (.bool false)], args := [d] }
  | _ => none }
def FnExactDecodeBitsWrongFalsely : Prop := fnExactDecodeBitsRow.holds Tryd.pinned (OpenSpec.ofChange fnExactDecodeBitsWrong)

/-- 'laws.FnViterbi': WHATEVER THE INPUT: true; the input reads as it did. -/
def fnViterbiSpec : ChangeSpec := { name := "fnViterbi", fn := fun _ => fun
  | [d1, d2] => { results := [.lit (.bool true)], args := [d1, d2] }
  | _ => none }
def fnViterbiRow : OpenClaim := { program := "ytaofmiigbhfnbaadoor", sum := "f6e41d3dd9695cdfb0bf76d5ad7bbe5c2b5e3b60e68a30ab2ff26afc109c3de7", func := "loop.example/g00294/laws.FnViterbi", spec := "fnViterbi", inPlace := ["internal/bytealg.IndexByteString", "internal/bytealg.IndexString", "internal/abi.NoEscape", "internal/bytealg.MakeNoZero"], named := ["unicode/utf8.first", "unicode/utf8.acceptRanges", "internal/bytealg.MaxLen"], apart := false, laid := [("unicode/utf8.acceptRanges", laid_unicode_utf8_acceptRanges), ("unicode/utf8.first", laid_unicode_utf8_first)] }
def FnViterbiSaid : Prop := fnViterbiRow.holds Tryd.pinned (OpenSpec.ofChange fnViterbiSpec)

/-- ITS FALSE NEIGHBOUR: 'it returns false'. Refute it at one input. -/
def fnViterbiWrong : ChangeSpec := { name := "fnViterbi", fn := fun _ => fun
  | [d1, d2] => { results := [.lit (.bool false)], args := [d1, d2] }
  | _ => none }
def FnViterbiWrongFalsely : Prop := fnViterbiRow.holds Tryd.pinned (OpenSpec.ofChange fnViterbiWrong)

/-- 'laws.FnFree': WHATEVER THE INPUT: true; the input reads as it did. -/
def fnFreeSpec : ChangeSpec := { name := "fnFree", fn := fun _ => fun
  | [d1, d2] => { results := [.lit (.bool true)], args := [d1, d2] }
  | _ => none }
def fnFreeRow : OpenClaim := { program := "ytaofmiigbhfnbaadoor", sum := "f6e41d3dd9695cdfb0bf76d5ad7bbe5c2b5e3b60e68a30ab2ff26afc109c3de7", func := "loop.example/g00294/laws.FnFree", spec := "fnFree", inPlace := ["internal/bytealg.IndexByteString", "internal/bytealg.IndexString", "internal/abi.NoEscape", "internal/bytealg.MakeNoZero"], named := ["unicode/utf8.first", "unicode/utf8.acceptRanges", "internal/bytealg.MaxLen"], apart := false, laid := [("unicode/utf8.acceptRanges", laid_unicode_utf8_acceptRanges), ("unicode/utf8.first", laid_unicode_utf8_first)] }
def FnFreeSaid : Prop := fnFreeRow.holds Tryd.pinned (OpenSpec.ofChange fnFreeSpec)

/-- ITS FALSE NEIGHBOUR: 'it returns false'. Refute it at one input. -/
def fnFreeWrong : ChangeSpec := { name := "fnFree", fn := fun _ => fun
  | [d1, d2] => { results := [.lit (.bool false)], args := [d1, d2] }
  | _ => none }
def FnFreeWrongFalsely : Prop := fnFreeRow.holds Tryd.pinned (OpenSpec.ofChange fnFreeWrong)

/- THE SECOND FORM. 'bulk': how many values and letters a reading holds, each counted each time it is reached (what is shared counts as often as it is met; a slice's spare places count too). A statement '..UptoSaid' is the law's where the arguments, and the package variables that the reading takes, are together of bulk at most 1048576: NARROWER than '..Said'. Prove '..Said' where nothing that the law and all that it calls make is longer than what came in: it says more and counts as full. Else prove '..UptoSaid'. A law counts once. -/
mutual
def uptoBulk {H : Type} : DataW H → Nat
  | .lit (.string bytes) => bytes.length + 1
  | .lit _ => 1
  | .nil => 1
  | .ptr d => uptoBulk d + 1
  | .slice elems spare => uptoBulkAll elems + uptoBulkAll spare + 1
  | .agg parts => uptoBulkAll parts + 1
  | .iface _ d => uptoBulk d + 1
  | .map entries => uptoBulkEntries entries + 1
  | .held _ => 1
def uptoBulkAll {H : Type} : List (DataW H) → Nat
  | [] => 0
  | d :: r => uptoBulk d + uptoBulkAll r
def uptoBulkEntries {H : Type} : List (Lit × DataW H) → Nat
  | [] => 0
  | x :: r => uptoBulkEntry x + uptoBulkEntries r
def uptoBulkEntry {H : Type} : Lit × DataW H → Nat
  | (.string bytes, d) => bytes.length + uptoBulk d + 1
  | (_, d) => uptoBulk d + 1
 end
def uptoSmall : (H : Type) → List (DataW H) → Bool := fun _ ds => decide (uptoBulkAll ds ≤ 1048576)
def OpenSpec.upto (s : _root_.Go.ChangeSpec) : _root_.Go.OpenSpec := { _root_.Go.OpenSpec.ofChange s with cond := some uptoSmall }

/-- 'laws.FnExactDistanceBits', WHERE WHAT IT READS IS OF BULK AT MOST 1048576: true; the input reads as it did. -/
def fnExactDistanceBitsUptoRow : OpenClaim := { program := "ytaofmiigbhfnbaadoor", sum := "f6e41d3dd9695cdfb0bf76d5ad7bbe5c2b5e3b60e68a30ab2ff26afc109c3de7", func := "loop.example/g00294/laws.FnExactDistanceBits", spec := "fnExactDistanceBits", inPlace := ["internal/bytealg.IndexByteString", "internal/bytealg.IndexString"], named := ["unicode/utf8.first", "unicode/utf8.acceptRanges", "internal/bytealg.MaxLen"], apart := false, laid := [("unicode/utf8.acceptRanges", laid_unicode_utf8_acceptRanges), ("unicode/utf8.first", laid_unicode_utf8_first)], narrowed := true }
def FnExactDistanceBitsUptoSaid : Prop := fnExactDistanceBitsUptoRow.holds Tryd.pinned (OpenSpec.upto fnExactDistanceBitsSpec)

/-- 'laws.FnExactFlipBits', WHERE WHAT IT READS IS OF BULK AT MOST 1048576: true; the input reads as it did. -/
def fnExactFlipBitsUptoRow : OpenClaim := { program := "ytaofmiigbhfnbaadoor", sum := "f6e41d3dd9695cdfb0bf76d5ad7bbe5c2b5e3b60e68a30ab2ff26afc109c3de7", func := "loop.example/g00294/laws.FnExactFlipBits", spec := "fnExactFlipBits", inPlace := ["internal/bytealg.IndexByteString", "internal/bytealg.IndexString"], named := ["unicode/utf8.first", "unicode/utf8.acceptRanges", "internal/bytealg.MaxLen"], apart := false, laid := [("unicode/utf8.acceptRanges", laid_unicode_utf8_acceptRanges), ("unicode/utf8.first", laid_unicode_utf8_first)], narrowed := true }
def FnExactFlipBitsUptoSaid : Prop := fnExactFlipBitsUptoRow.holds Tryd.pinned (OpenSpec.upto fnExactFlipBitsSpec)

/-- 'laws.FnExactBestPaths', WHERE WHAT IT READS IS OF BULK AT MOST 1048576: true; the input reads as it did. -/
def fnExactBestPathsUptoRow : OpenClaim := { program := "ytaofmiigbhfnbaadoor", sum := "f6e41d3dd9695cdfb0bf76d5ad7bbe5c2b5e3b60e68a30ab2ff26afc109c3de7", func := "loop.example/g00294/laws.FnExactBestPaths", spec := "fnExactBestPaths", inPlace := ["internal/bytealg.IndexByteString", "internal/bytealg.IndexString"], named := ["unicode/utf8.first", "unicode/utf8.acceptRanges", "internal/bytealg.MaxLen"], apart := false, laid := [("unicode/utf8.acceptRanges", laid_unicode_utf8_acceptRanges), ("unicode/utf8.first", laid_unicode_utf8_first)], narrowed := true }
def FnExactBestPathsUptoSaid : Prop := fnExactBestPathsUptoRow.holds Tryd.pinned (OpenSpec.upto fnExactBestPathsSpec)

/-- 'laws.FnExactEncodeBits', WHERE WHAT IT READS IS OF BULK AT MOST 1048576: true; the input reads as it did. -/
def fnExactEncodeBitsUptoRow : OpenClaim := { program := "ytaofmiigbhfnbaadoor", sum := "f6e41d3dd9695cdfb0bf76d5ad7bbe5c2b5e3b60e68a30ab2ff26afc109c3de7", func := "loop.example/g00294/laws.FnExactEncodeBits", spec := "fnExactEncodeBits", inPlace := ["internal/bytealg.IndexByteString", "internal/bytealg.IndexString", "internal/abi.NoEscape", "internal/bytealg.MakeNoZero"], named := ["unicode/utf8.first", "unicode/utf8.acceptRanges", "internal/bytealg.MaxLen"], apart := false, laid := [("unicode/utf8.acceptRanges", laid_unicode_utf8_acceptRanges), ("unicode/utf8.first", laid_unicode_utf8_first)], narrowed := true }
def FnExactEncodeBitsUptoSaid : Prop := fnExactEncodeBitsUptoRow.holds Tryd.pinned (OpenSpec.upto fnExactEncodeBitsSpec)

/-- 'laws.FnExactCostOf', WHERE WHAT IT READS IS OF BULK AT MOST 1048576: true; the input reads as it did. -/
def fnExactCostOfUptoRow : OpenClaim := { program := "ytaofmiigbhfnbaadoor", sum := "f6e41d3dd9695cdfb0bf76d5ad7bbe5c2b5e3b60e68a30ab2ff26afc109c3de7", func := "loop.example/g00294/laws.FnExactCostOf", spec := "fnExactCostOf", inPlace := ["internal/bytealg.IndexByteString", "internal/bytealg.IndexString", "internal/abi.NoEscape", "internal/bytealg.MakeNoZero"], named := ["unicode/utf8.first", "unicode/utf8.acceptRanges", "internal/bytealg.MaxLen"], apart := false, laid := [("unicode/utf8.acceptRanges", laid_unicode_utf8_acceptRanges), ("unicode/utf8.first", laid_unicode_utf8_first)], narrowed := true }
def FnExactCostOfUptoSaid : Prop := fnExactCostOfUptoRow.holds Tryd.pinned (OpenSpec.upto fnExactCostOfSpec)

/-- 'laws.FnExactDecodeBits', WHERE WHAT IT READS IS OF BULK AT MOST 1048576: true; the input reads as it did. -/
def fnExactDecodeBitsUptoRow : OpenClaim := { program := "ytaofmiigbhfnbaadoor", sum := "f6e41d3dd9695cdfb0bf76d5ad7bbe5c2b5e3b60e68a30ab2ff26afc109c3de7", func := "loop.example/g00294/laws.FnExactDecodeBits", spec := "fnExactDecodeBits", inPlace := ["internal/bytealg.IndexByteString", "internal/bytealg.IndexString", "internal/abi.NoEscape", "internal/bytealg.MakeNoZero"], named := ["unicode/utf8.first", "unicode/utf8.acceptRanges", "internal/bytealg.MaxLen"], apart := false, laid := [("unicode/utf8.acceptRanges", laid_unicode_utf8_acceptRanges), ("unicode/utf8.first", laid_unicode_utf8_first)], narrowed := true }
def FnExactDecodeBitsUptoSaid : Prop := fnExactDecodeBitsUptoRow.holds Tryd.pinned (OpenSpec.upto fnExactDecodeBitsSpec)

/-- 'laws.FnViterbi', WHERE WHAT IT READS IS OF BULK AT MOST 1048576: true; the input reads as it did. -/
def fnViterbiUptoRow : OpenClaim := { program := "ytaofmiigbhfnbaadoor", sum := "f6e41d3dd9695cdfb0bf76d5ad7bbe5c2b5e3b60e68a30ab2ff26afc109c3de7", func := "loop.example/g00294/laws.FnViterbi", spec := "fnViterbi", inPlace := ["internal/bytealg.IndexByteString", "internal/bytealg.IndexString", "internal/abi.NoEscape", "internal/bytealg.MakeNoZero"], named := ["unicode/utf8.first", "unicode/utf8.acceptRanges", "internal/bytealg.MaxLen"], apart := false, laid := [("unicode/utf8.acceptRanges", laid_unicode_utf8_acceptRanges), ("unicode/utf8.first", laid_unicode_utf8_first)], narrowed := true }
def FnViterbiUptoSaid : Prop := fnViterbiUptoRow.holds Tryd.pinned (OpenSpec.upto fnViterbiSpec)

/-- 'laws.FnFree', WHERE WHAT IT READS IS OF BULK AT MOST 1048576: true; the input reads as it did. -/
def fnFreeUptoRow : OpenClaim := { program := "ytaofmiigbhfnbaadoor", sum := "f6e41d3dd9695cdfb0bf76d5ad7bbe5c2b5e3b60e68a30ab2ff26afc109c3de7", func := "loop.example/g00294/laws.FnFree", spec := "fnFree", inPlace := ["internal/bytealg.IndexByteString", "internal/bytealg.IndexString", "internal/abi.NoEscape", "internal/bytealg.MakeNoZero"], named := ["unicode/utf8.first", "unicode/utf8.acceptRanges", "internal/bytealg.MaxLen"], apart := false, laid := [("unicode/utf8.acceptRanges", laid_unicode_utf8_acceptRanges), ("unicode/utf8.first", laid_unicode_utf8_first)], narrowed := true }
def FnFreeUptoSaid : Prop := fnFreeUptoRow.holds Tryd.pinned (OpenSpec.upto fnFreeSpec)

end Rows
end Go.Proofs.YtaofmiigbhfnbaaDoor
