/-
  No cell of these rows narrows 'for every input' (looked for: loops, veiled, ifaces, maps, wideKeys, modest, calm, conditions, laid).
  DERIVED. THE GIVEN ROWS OF THIS SEAT. 12 by the template 'for every input the law returns true; each argument reads behind the call as it read before'; 0 by the template 'total and deterministic' (their statements: YtkpdpblgnhoplaaTotals.lean).
  GIVEN WITH THE SEED: the statements are not yours to turn. If you find one false, say at which input.
  Laid BY PROGRAM, IN A SANDBOX (cutbox-rows.mjs): the forced cells as the released guide's own fill.sh prints them over the translation 5c8c6b11538676ce… (all of the seat's roots in one cut). By AI agents, Wed Nov 11 2026. No macro, syntax, notation, axiom, sorry.
-/
import Derived.Test.YtkpdpblgnhoplaaChecked
import GoSem.Claim
import GoSem.ClaimJoined
import GoSem.ClaimMapViews
import Derived.JoinedTies
import Derived.KernelRfl
namespace Go.Proofs.Ytkpdpblgnhoplaa
/- THE CELL 'sum', in the pinned program and in every row, IS THE sha256 OF THE DUMP (.gsa) THAT YtkpdpblgnhoplaaProg.lean LOADS. Nothing in Lean hashes anything: it is a label: what it is worth is what the hold of that sum in a sandbox is worth. -/
noncomputable def Try.pinned : Pinned := { name := "ytkpdpblgnhoplaa", sum := "5c8c6b11538676cef228ceaedfcc916388e8274993737ea1d65daed5686940ef", checked := Try.checked }
namespace Rows
def none {H : Type} : Left H := { results := [], args := [] }

/-- 'laws.FnExactRotateText': WHATEVER THE INPUT: true; the input reads as it did. -/
def fnExactRotateTextSpec : ChangeSpec := { name := "fnExactRotateText", fn := fun _ => fun
  | [d1, d2] => { results := [.lit (.bool true)], args := [d1, d2] }
  | _ => none }
def fnExactRotateTextRow : OpenClaim := { program := "ytkpdpblgnhoplaa", sum := "5c8c6b11538676cef228ceaedfcc916388e8274993737ea1d65daed5686940ef", func := "loop.example/g00294/laws.FnExactRotateText", spec := "fnExactRotateText", apart := false }
def FnExactRotateTextSaid : Prop := fnExactRotateTextRow.holds Try.pinned (OpenSpec.ofChange fnExactRotateTextSpec)

/-- ITS FALSE NEIGHBOUR: 'it returns false'. Refute it at one input. -/
def fnExactRotateTextWrong : ChangeSpec := { name := "fnExactRotateText", fn := fun _ => fun
  | [d1, d2] => { results := [.lit (.bool false)], args := [d1, d2] }
  | _ => none }
def FnExactRotateTextWrongFalsely : Prop := fnExactRotateTextRow.holds Try.pinned (OpenSpec.ofChange fnExactRotateTextWrong)

/-- 'laws.FnExactRunsIn': WHATEVER THE INPUT: true; the input reads as it did. -/
def fnExactRunsInSpec : ChangeSpec := { name := "fnExactRunsIn", fn := fun _ => fun
  | [d] => { results := [.lit (.bool true)], args := [d] }
  | _ => none }
def fnExactRunsInRow : OpenClaim := { program := "ytkpdpblgnhoplaa", sum := "5c8c6b11538676cef228ceaedfcc916388e8274993737ea1d65daed5686940ef", func := "loop.example/g00294/laws.FnExactRunsIn", spec := "fnExactRunsIn", apart := false }
def FnExactRunsInSaid : Prop := fnExactRunsInRow.holds Try.pinned (OpenSpec.ofChange fnExactRunsInSpec)

/-- ITS FALSE NEIGHBOUR: 'it returns false'. Refute it at one input. -/
def fnExactRunsInWrong : ChangeSpec := { name := "fnExactRunsIn", fn := fun _ => fun
  | [d] => { results := [.lit (.bool false)], args := [d] }
  | _ => none }
def FnExactRunsInWrongFalsely : Prop := fnExactRunsInRow.holds Try.pinned (OpenSpec.ofChange fnExactRunsInWrong)

/-- 'laws.FnExactCountPattern': WHATEVER THE INPUT: true; the input reads as it did. -/
def fnExactCountPatternSpec : ChangeSpec := { name := "fnExactCountPattern", fn := fun _ => fun
  | [d1, d2] => { results := [.lit (.bool true)], args := [d1, d2] }
  | _ => none }
def fnExactCountPatternRow : OpenClaim := { program := "ytkpdpblgnhoplaa", sum := "5c8c6b11538676cef228ceaedfcc916388e8274993737ea1d65daed5686940ef", func := "loop.example/g00294/laws.FnExactCountPattern", spec := "fnExactCountPattern", apart := false }
def FnExactCountPatternSaid : Prop := fnExactCountPatternRow.holds Try.pinned (OpenSpec.ofChange fnExactCountPatternSpec)

/-- ITS FALSE NEIGHBOUR: 'it returns false'. Refute it at one input. -/
def fnExactCountPatternWrong : ChangeSpec := { name := "fnExactCountPattern", fn := fun _ => fun
  | [d1, d2] => { results := [.lit (.bool false)], args := [d1, d2] }
  | _ => none }
def FnExactCountPatternWrongFalsely : Prop := fnExactCountPatternRow.holds Try.pinned (OpenSpec.ofChange fnExactCountPatternWrong)

/-- 'laws.FnExactSmallIn': WHATEVER THE INPUT: true; the input reads as it did. -/
def fnExactSmallInSpec : ChangeSpec := { name := "fnExactSmallIn", fn := fun _ => fun
  | [d1, d2] => { results := [.lit (.bool true)], args := [d1, d2] }
  | _ => none }
def fnExactSmallInRow : OpenClaim := { program := "ytkpdpblgnhoplaa", sum := "5c8c6b11538676cef228ceaedfcc916388e8274993737ea1d65daed5686940ef", func := "loop.example/g00294/laws.FnExactSmallIn", spec := "fnExactSmallIn", apart := false }
def FnExactSmallInSaid : Prop := fnExactSmallInRow.holds Try.pinned (OpenSpec.ofChange fnExactSmallInSpec)

/-- ITS FALSE NEIGHBOUR: 'it returns false'. Refute it at one input. -/
def fnExactSmallInWrong : ChangeSpec := { name := "fnExactSmallIn", fn := fun _ => fun
  | [d1, d2] => { results := [.lit (.bool false)], args := [d1, d2] }
  | _ => none }
def FnExactSmallInWrongFalsely : Prop := fnExactSmallInRow.holds Try.pinned (OpenSpec.ofChange fnExactSmallInWrong)

/-- 'laws.FnExactGoodRuns': WHATEVER THE INPUT: true; the input reads as it did. -/
def fnExactGoodRunsSpec : ChangeSpec := { name := "fnExactGoodRuns", fn := fun _ => fun
  | [d] => { results := [.lit (.bool true)], args := [d] }
  | _ => none }
def fnExactGoodRunsRow : OpenClaim := { program := "ytkpdpblgnhoplaa", sum := "5c8c6b11538676cef228ceaedfcc916388e8274993737ea1d65daed5686940ef", func := "loop.example/g00294/laws.FnExactGoodRuns", spec := "fnExactGoodRuns", apart := false }
def FnExactGoodRunsSaid : Prop := fnExactGoodRunsRow.holds Try.pinned (OpenSpec.ofChange fnExactGoodRunsSpec)

/-- ITS FALSE NEIGHBOUR: 'it returns false'. Refute it at one input. -/
def fnExactGoodRunsWrong : ChangeSpec := { name := "fnExactGoodRuns", fn := fun _ => fun
  | [d] => { results := [.lit (.bool false)], args := [d] }
  | _ => none }
def FnExactGoodRunsWrongFalsely : Prop := fnExactGoodRunsRow.holds Try.pinned (OpenSpec.ofChange fnExactGoodRunsWrong)

/-- 'laws.FnExactMoveBack': WHATEVER THE INPUT: true; the input reads as it did. -/
def fnExactMoveBackSpec : ChangeSpec := { name := "fnExactMoveBack", fn := fun _ => fun
  | [d] => { results := [.lit (.bool true)], args := [d] }
  | _ => none }
def fnExactMoveBackRow : OpenClaim := { program := "ytkpdpblgnhoplaa", sum := "5c8c6b11538676cef228ceaedfcc916388e8274993737ea1d65daed5686940ef", func := "loop.example/g00294/laws.FnExactMoveBack", spec := "fnExactMoveBack", apart := false }
def FnExactMoveBackSaid : Prop := fnExactMoveBackRow.holds Try.pinned (OpenSpec.ofChange fnExactMoveBackSpec)

/-- ITS FALSE NEIGHBOUR: 'it returns false'. Refute it at one input. -/
def fnExactMoveBackWrong : ChangeSpec := { name := "fnExactMoveBack", fn := fun _ => fun
  | [d] => { results := [.lit (.bool false)], args := [d] }
  | _ => none }
def FnExactMoveBackWrongFalsely : Prop := fnExactMoveBackRow.holds Try.pinned (OpenSpec.ofChange fnExactMoveBackWrong)

/-- 'laws.FnExactRunsOf': WHATEVER THE INPUT: true; the input reads as it did. -/
def fnExactRunsOfSpec : ChangeSpec := { name := "fnExactRunsOf", fn := fun _ => fun
  | [d] => { results := [.lit (.bool true)], args := [d] }
  | _ => none }
def fnExactRunsOfRow : OpenClaim := { program := "ytkpdpblgnhoplaa", sum := "5c8c6b11538676cef228ceaedfcc916388e8274993737ea1d65daed5686940ef", func := "loop.example/g00294/laws.FnExactRunsOf", spec := "fnExactRunsOf", apart := false }
def FnExactRunsOfSaid : Prop := fnExactRunsOfRow.holds Try.pinned (OpenSpec.ofChange fnExactRunsOfSpec)

/-- ITS FALSE NEIGHBOUR: 'it returns false'. Refute it at one input. -/
def fnExactRunsOfWrong : ChangeSpec := { name := "fnExactRunsOf", fn := fun _ => fun
  | [d] => { results := [.lit (.bool false)], args := [d] }
  | _ => none }
def FnExactRunsOfWrongFalsely : Prop := fnExactRunsOfRow.holds Try.pinned (OpenSpec.ofChange fnExactRunsOfWrong)

/-- 'laws.FnExactMoveFront': WHATEVER THE INPUT: true; the input reads as it did. -/
def fnExactMoveFrontSpec : ChangeSpec := { name := "fnExactMoveFront", fn := fun _ => fun
  | [d] => { results := [.lit (.bool true)], args := [d] }
  | _ => none }
def fnExactMoveFrontRow : OpenClaim := { program := "ytkpdpblgnhoplaa", sum := "5c8c6b11538676cef228ceaedfcc916388e8274993737ea1d65daed5686940ef", func := "loop.example/g00294/laws.FnExactMoveFront", spec := "fnExactMoveFront", apart := false }
def FnExactMoveFrontSaid : Prop := fnExactMoveFrontRow.holds Try.pinned (OpenSpec.ofChange fnExactMoveFrontSpec)

/-- ITS FALSE NEIGHBOUR: 'it returns false'. Refute it at one input. -/
def fnExactMoveFrontWrong : ChangeSpec := { name := "fnExactMoveFront", fn := fun _ => fun
  | [d] => { results := [.lit (.bool false)], args := [d] }
  | _ => none }
def FnExactMoveFrontWrongFalsely : Prop := fnExactMoveFrontRow.holds Try.pinned (OpenSpec.ofChange fnExactMoveFrontWrong)

/-- 'laws.FnExactPackRuns': WHATEVER THE INPUT: true; the input reads as it did. -/
def fnExactPackRunsSpec : ChangeSpec := { name := "fnExactPackRuns", fn := fun _ => fun
  | [d] => { results := [.lit (.bool true)], args := [d] }
  | _ => none }
def fnExactPackRunsRow : OpenClaim := { program := "ytkpdpblgnhoplaa", sum := "5c8c6b11538676cef228ceaedfcc916388e8274993737ea1d65daed5686940ef", func := "loop.example/g00294/laws.FnExactPackRuns", spec := "fnExactPackRuns", apart := false }
def FnExactPackRunsSaid : Prop := fnExactPackRunsRow.holds Try.pinned (OpenSpec.ofChange fnExactPackRunsSpec)

/-- ITS FALSE NEIGHBOUR: 'it returns false'. Refute it at one input. -/
def fnExactPackRunsWrong : ChangeSpec := { name := "fnExactPackRuns", fn := fun _ => fun
  | [d] => { results := [.lit (.bool false)], args := [d] }
  | _ => none }
def FnExactPackRunsWrongFalsely : Prop := fnExactPackRunsRow.holds Try.pinned (OpenSpec.ofChange fnExactPackRunsWrong)

/-- 'laws.FnExactUnpackRuns': WHATEVER THE INPUT: true; the input reads as it did. -/
def fnExactUnpackRunsSpec : ChangeSpec := { name := "fnExactUnpackRuns", fn := fun _ => fun
  | [d] => { results := [.lit (.bool true)], args := [d] }
  | _ => none }
def fnExactUnpackRunsRow : OpenClaim := { program := "ytkpdpblgnhoplaa", sum := "5c8c6b11538676cef228ceaedfcc916388e8274993737ea1d65daed5686940ef", func := "loop.example/g00294/laws.FnExactUnpackRuns", spec := "fnExactUnpackRuns", apart := false }
def FnExactUnpackRunsSaid : Prop := fnExactUnpackRunsRow.holds Try.pinned (OpenSpec.ofChange fnExactUnpackRunsSpec)

/-- ITS FALSE NEIGHBOUR: 'it returns false'. Refute it at one input. -/
def fnExactUnpackRunsWrong : ChangeSpec := { name := "fnExactUnpackRuns", fn := fun _ => fun
  | [d] => { results := [.lit (.bool false)], args := [d] }
  | _ => none }
def FnExactUnpackRunsWrongFalsely : Prop := fnExactUnpackRunsRow.holds Try.pinned (OpenSpec.ofChange fnExactUnpackRunsWrong)

/-- 'laws.FnMoved': WHATEVER THE INPUT: true; the input reads as it did. -/
def fnMovedSpec : ChangeSpec := { name := "fnMoved", fn := fun _ => fun
  | [d1, d2] => { results := [.lit (.bool true)], args := [d1, d2] }
  | _ => none }
def fnMovedRow : OpenClaim := { program := "ytkpdpblgnhoplaa", sum := "5c8c6b11538676cef228ceaedfcc916388e8274993737ea1d65daed5686940ef", func := "loop.example/g00294/laws.FnMoved", spec := "fnMoved", apart := false }
def FnMovedSaid : Prop := fnMovedRow.holds Try.pinned (OpenSpec.ofChange fnMovedSpec)

/-- ITS FALSE NEIGHBOUR: 'it returns false'. Refute it at one input. -/
def fnMovedWrong : ChangeSpec := { name := "fnMoved", fn := fun _ => fun
  | [d1, d2] => { results := [.lit (.bool false)], args := [d1, d2] }
  | _ => none }
def FnMovedWrongFalsely : Prop := fnMovedRow.holds Try.pinned (OpenSpec.ofChange fnMovedWrong)

/-- 'laws.FnExactTextOf': WHATEVER THE INPUT: true; the input reads as it did. -/
def fnExactTextOfSpec : ChangeSpec := { name := "fnExactTextOf", fn := fun _ => fun
  | [d] => { results := [.lit (.bool true)], args := [d] }
  | _ => none }
def fnExactTextOfRow : OpenClaim := { program := "ytkpdpblgnhoplaa", sum := "5c8c6b11538676cef228ceaedfcc916388e8274993737ea1d65daed5686940ef", func := "loop.example/g00294/laws.FnExactTextOf", spec := "fnExactTextOf", inPlace := ["internal/abi.NoEscape", "internal/bytealg.MakeNoZero"], apart := false }
def FnExactTextOfSaid : Prop := fnExactTextOfRow.holds Try.pinned (OpenSpec.ofChange fnExactTextOfSpec)

/-- ITS FALSE NEIGHBOUR: 'it returns false'. Refute it at one input. -/
def fnExactTextOfWrong : ChangeSpec := { name := "fnExactTextOf", fn := fun _ => fun
  | [d] => { results := [.lit (.bool false)], args := [d] }
  | _ => none }
def FnExactTextOfWrongFalsely : Prop := fnExactTextOfRow.holds Try.pinned (OpenSpec.ofChange fnExactTextOfWrong)

/- THE SECOND FORM. 'bulk': how many values and letters a reading holds, each counted each time it is reached (what is shared counts as often as it is met; a slice's spare places count too). A statement '..UptoSaid' is the law's where the arguments, and the package variables that the reading takes, are together of bulk at most 1048576: NARROWER than '..Said'. Prove '..Said' where nothing that the law and all that it calls make is longer than what came in: it says more and counts as full. Else prove '..UptoSaid'. A law counts once. -/
mutual
def uptoBulk {H : Type} : DataW H → Nat
  | .lit (.string bytes) => bytes.length + 1
  | .lit _ => 1
  | .nil => 1
  | .ptr d => uptoBulk d + 1
  | .slice elems spare => uptoBulkAll elems + uptoBulkAll spare + 1
  | .agg parts => uptoBulkAll parts + 1
  | .iface _ d => uptoBulk d + 1
  | .map entries => uptoBulkEntries entries + 1
  | .held _ => 1
def uptoBulkAll {H : Type} : List (DataW H) → Nat
  | [] => 0
  | d :: r => uptoBulk d + uptoBulkAll r
def uptoBulkEntries {H : Type} : List (Lit × DataW H) → Nat
  | [] => 0
  | x :: r => uptoBulkEntry x + uptoBulkEntries r
def uptoBulkEntry {H : Type} : Lit × DataW H → Nat
  | (.string bytes, d) => bytes.length + uptoBulk d + 1
  | (_, d) => uptoBulk d + 1
 end
def uptoSmall : (H : Type) → List (DataW H) → Bool := fun _ ds => decide (uptoBulkAll ds ≤ 1048576)
def OpenSpec.upto (s : _root_.Go.ChangeSpec) : _root_.Go.OpenSpec := { _root_.Go.OpenSpec.ofChange s with cond := some uptoSmall }

/-- 'laws.FnExactRotateText', WHERE WHAT IT READS IS OF BULK AT MOST 1048576: true; the input reads as it did. -/
def fnExactRotateTextUptoRow : OpenClaim := { program := "ytkpdpblgnhoplaa", sum := "5c8c6b11538676cef228ceaedfcc916388e8274993737ea1d65daed5686940ef", func := "loop.example/g00294/laws.FnExactRotateText", spec := "fnExactRotateText", apart := false, narrowed := true }
def FnExactRotateTextUptoSaid : Prop := fnExactRotateTextUptoRow.holds Try.pinned (OpenSpec.upto fnExactRotateTextSpec)

/-- 'laws.FnExactRunsIn', WHERE WHAT IT READS IS OF BULK AT MOST 1048576: true; the input reads as it did. -/
def fnExactRunsInUptoRow : OpenClaim := { program := "ytkpdpblgnhoplaa", sum := "5c8c6b11538676cef228ceaedfcc916388e8274993737ea1d65daed5686940ef", func := "loop.example/g00294/laws.FnExactRunsIn", spec := "fnExactRunsIn", apart := false, narrowed := true }
def FnExactRunsInUptoSaid : Prop := fnExactRunsInUptoRow.holds Try.pinned (OpenSpec.upto fnExactRunsInSpec)

/-- 'laws.FnExactCountPattern', WHERE WHAT IT READS IS OF BULK AT MOST 1048576: true; the input reads as it did. -/
def fnExactCountPatternUptoRow : OpenClaim := { program := "ytkpdpblgnhoplaa", sum := "5c8c6b11538676cef228ceaedfcc916388e8274993737ea1d65daed5686940ef", func := "loop.example/g00294/laws.FnExactCountPattern", spec := "fnExactCountPattern", apart := false, narrowed := true }
def FnExactCountPatternUptoSaid : Prop := fnExactCountPatternUptoRow.holds Try.pinned (OpenSpec.upto fnExactCountPatternSpec)

/-- 'laws.FnExactSmallIn', WHERE WHAT IT READS IS OF BULK AT MOST 1048576: true; the input reads as it did. -/
def fnExactSmallInUptoRow : OpenClaim := { program := "ytkpdpblgnhoplaa", sum := "5c8c6b11538676cef228ceaedfcc916388e8274993737ea1d65daed5686940ef", func := "loop.example/g00294/laws.FnExactSmallIn", spec := "fnExactSmallIn", apart := false, narrowed := true }
def FnExactSmallInUptoSaid : Prop := fnExactSmallInUptoRow.holds Try.pinned (OpenSpec.upto fnExactSmallInSpec)

/-- 'laws.FnExactGoodRuns', WHERE WHAT IT READS IS OF BULK AT MOST 1048576: true; the input reads as it did. -/
def fnExactGoodRunsUptoRow : OpenClaim := { program := "ytkpdpblgnhoplaa", sum := "5c8c6b11538676cef228ceaedfcc916388e8274993737ea1d65daed5686940ef", func := "loop.example/g00294/laws.FnExactGoodRuns", spec := "fnExactGoodRuns", apart := false, narrowed := true }
def FnExactGoodRunsUptoSaid : Prop := fnExactGoodRunsUptoRow.holds Try.pinned (OpenSpec.upto fnExactGoodRunsSpec)

/-- 'laws.FnExactMoveBack', WHERE WHAT IT READS IS OF BULK AT MOST 1048576: true; the input reads as it did. -/
def fnExactMoveBackUptoRow : OpenClaim := { program := "ytkpdpblgnhoplaa", sum := "5c8c6b11538676cef228ceaedfcc916388e8274993737ea1d65daed5686940ef", func := "loop.example/g00294/laws.FnExactMoveBack", spec := "fnExactMoveBack", apart := false, narrowed := true }
def FnExactMoveBackUptoSaid : Prop := fnExactMoveBackUptoRow.holds Try.pinned (OpenSpec.upto fnExactMoveBackSpec)

/-- 'laws.FnExactRunsOf', WHERE WHAT IT READS IS OF BULK AT MOST 1048576: true; the input reads as it did. -/
def fnExactRunsOfUptoRow : OpenClaim := { program := "ytkpdpblgnhoplaa", sum := "5c8c6b11538676cef228ceaedfcc916388e8274993737ea1d65daed5686940ef", func := "loop.example/g00294/laws.FnExactRunsOf", spec := "fnExactRunsOf", apart := false, narrowed := true }
def FnExactRunsOfUptoSaid : Prop := fnExactRunsOfUptoRow.holds Try.pinned (OpenSpec.upto fnExactRunsOfSpec)

/-- 'laws.FnExactMoveFront', WHERE WHAT IT READS IS OF BULK AT MOST 1048576: true; the input reads as it did. -/
def fnExactMoveFrontUptoRow : OpenClaim := { program := "ytkpdpblgnhoplaa", sum := "5c8c6b11538676cef228ceaedfcc916388e8274993737ea1d65daed5686940ef", func := "loop.example/g00294/laws.FnExactMoveFront", spec := "fnExactMoveFront", apart := false, narrowed := true }
def FnExactMoveFrontUptoSaid : Prop := fnExactMoveFrontUptoRow.holds Try.pinned (OpenSpec.upto fnExactMoveFrontSpec)

/-- 'laws.FnExactPackRuns', WHERE WHAT IT READS IS OF BULK AT MOST 1048576: true; the input reads as it did. -/
def fnExactPackRunsUptoRow : OpenClaim := { program := "ytkpdpblgnhoplaa", sum := "5c8c6b11538676cef228ceaedfcc916388e8274993737ea1d65daed5686940ef", func := "loop.example/g00294/laws.FnExactPackRuns", spec := "fnExactPackRuns", apart := false, narrowed := true }
def FnExactPackRunsUptoSaid : Prop := fnExactPackRunsUptoRow.holds Try.pinned (OpenSpec.upto fnExactPackRunsSpec)

/-- 'laws.FnExactUnpackRuns', WHERE WHAT IT READS IS OF BULK AT MOST 1048576: true; the input reads as it did. -/
def fnExactUnpackRunsUptoRow : OpenClaim := { program := "ytkpdpblgnhoplaa", sum := "5c8c6b11538676cef228ceaedfcc916388e8274993737ea1d65daed5686940ef", func := "loop.example/g00294/laws.FnExactUnpackRuns", spec := "fnExactUnpackRuns", apart := false, narrowed := true }
def FnExactUnpackRunsUptoSaid : Prop := fnExactUnpackRunsUptoRow.holds Try.pinned (OpenSpec.upto fnExactUnpackRunsSpec)

/-- 'laws.FnMoved', WHERE WHAT IT READS IS OF BULK AT MOST 1048576: true; the input reads as it did. -/
def fnMovedUptoRow : OpenClaim := { program := "ytkpdpblgnhoplaa", sum := "5c8c6b11538676cef228ceaedfcc916388e8274993737ea1d65daed5686940ef", func := "loop.example/g00294/laws.FnMoved", spec := "fnMoved", apart := false, narrowed := true }
def FnMovedUptoSaid : Prop := fnMovedUptoRow.holds Try.pinned (OpenSpec.upto fnMovedSpec)

/-- 'laws.FnExactTextOf', WHERE WHAT IT READS IS OF BULK AT MOST 1048576: true; the input reads as it did. -/
def fnExactTextOfUptoRow : OpenClaim := { program := "ytkpdpblgnhoplaa", sum := "5c8c6b11538676cef228ceaedfcc916388e8274993737ea1d65daed5686940ef", func := "loop.example/g00294/laws.FnExactTextOf", spec := "fnExactTextOf", inPlace := ["internal/abi.NoEscape", "internal/bytealg.MakeNoZero"], apart := false, narrowed := true }
def FnExactTextOfUptoSaid : Prop := fnExactTextOfUptoRow.holds Try.pinned (OpenSpec.upto fnExactTextOfSpec)

end Rows
end Go.Proofs.Ytkpdpblgnhoplaa
