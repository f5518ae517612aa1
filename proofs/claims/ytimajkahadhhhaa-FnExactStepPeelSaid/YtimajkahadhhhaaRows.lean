/-
  No cell of these rows narrows 'for every input' (looked for: loops, veiled, ifaces, maps, wideKeys, modest, calm, conditions, laid).
  DERIVED. THE GIVEN ROWS OF THIS SEAT. 7 by the template 'for every input the law returns true; each argument reads behind the call as it read before'; 0 by the template 'total and deterministic' (their statements: YtimajkahadhhhaaTotals.lean).
  GIVEN WITH THE SEED: the statements are not yours to turn. If you find one false, say at which input.
  Laid BY PROGRAM, IN A SANDBOX (cutbox-rows.mjs): the forced cells as the released guide's own fill.sh prints them over the translation 20d786173107dbbf… (all of the seat's roots in one cut). By AI agents, Wed Nov 11 2026. No macro, syntax, notation, axiom, sorry.
-/
import Derived.Test.YtimajkahadhhhaaChecked
import GoSem.Claim
import GoSem.ClaimJoined
import GoSem.ClaimMapViews
import Derived.JoinedTies
import Derived.KernelRfl
namespace Go.Proofs.Ytimajkahadhhhaa
/- THE CELL 'sum', in the pinned program and in every row, IS THE sha256 OF THE DUMP (.gsa) THAT YtimajkahadhhhaaProg.lean LOADS. Nothing in Lean hashes anything: it is a label: what it is worth is what the hold of that sum in a sandbox is worth. -/
noncomputable def Try.pinned : Pinned := { name := "ytimajkahadhhhaa", sum := "20d786173107dbbfc5b3e815abd985ca68312265f45b6ee81f7045bf5aa84b91", checked := Try.checked }
namespace Rows
def none {H : Type} : Left H := { results := [], args := [] }

/-- 'laws.FnExactRankOfDrops': WHATEVER THE INPUT: true; the input reads as it did. -/
def fnExactRankOfDropsSpec : ChangeSpec := { name := "fnExactRankOfDrops", fn := fun _ => fun
  | [d1, d2] => { results := [.lit (.bool true)], args := [d1, d2] }
  | _ => none }
def fnExactRankOfDropsRow : OpenClaim := { program := "ytimajkahadhhhaa", sum := "20d786173107dbbfc5b3e815abd985ca68312265f45b6ee81f7045bf5aa84b91", func := "loop.example/g00294/laws.FnExactRankOfDrops", spec := "fnExactRankOfDrops", unfollowed := true, recurses := true, apart := false }
def FnExactRankOfDropsSaid : Prop := fnExactRankOfDropsRow.holds Try.pinned (OpenSpec.ofChange fnExactRankOfDropsSpec)

/-- ITS FALSE NEIGHBOUR: 'it returns false'. Refute it at one input. -/
def fnExactRankOfDropsWrong : ChangeSpec := { name := "fnExactRankOfDrops", fn := fun _ => fun
  | [d1, d2] => { results := [.lit (.bool false)], args := [d1, d2] }
  | _ => none }
def FnExactRankOfDropsWrongFalsely : Prop := fnExactRankOfDropsRow.holds Try.pinned (OpenSpec.ofChange fnExactRankOfDropsWrong)

/-- 'laws.FnExactStepPeel': WHATEVER THE INPUT: true; the input reads as it did. -/
def fnExactStepPeelSpec : ChangeSpec := { name := "fnExactStepPeel", fn := fun _ => fun
  | [d1, d2] => { results := [.lit (.bool true)], args := [d1, d2] }
  | _ => none }
def fnExactStepPeelRow : OpenClaim := { program := "ytimajkahadhhhaa", sum := "20d786173107dbbfc5b3e815abd985ca68312265f45b6ee81f7045bf5aa84b91", func := "loop.example/g00294/laws.FnExactStepPeel", spec := "fnExactStepPeel", unfollowed := true, recurses := true, apart := false }
def FnExactStepPeelSaid : Prop := fnExactStepPeelRow.holds Try.pinned (OpenSpec.ofChange fnExactStepPeelSpec)

/-- ITS FALSE NEIGHBOUR: 'it returns false'. Refute it at one input. -/
def fnExactStepPeelWrong : ChangeSpec := { name := "fnExactStepPeel", fn := fun _ => fun
  | [d1, d2] => { results := [.lit (.bool false)], args := [d1, d2] }
  | _ => none }
def FnExactStepPeelWrongFalsely : Prop := fnExactStepPeelRow.holds Try.pinned (OpenSpec.ofChange fnExactStepPeelWrong)

/-- 'laws.FnExactSolveDrops': WHATEVER THE INPUT: true; the input reads as it did. -/
def fnExactSolveDropsSpec : ChangeSpec := { name := "fnExactSolveDrops", fn := fun _ => fun
  | [d1, d2] => { results := [.lit (.bool true)], args := [d1, d2] }
  | _ => none }
def fnExactSolveDropsRow : OpenClaim := { program := "ytimajkahadhhhaa", sum := "20d786173107dbbfc5b3e815abd985ca68312265f45b6ee81f7045bf5aa84b91", func := "loop.example/g00294/laws.FnExactSolveDrops", spec := "fnExactSolveDrops", unfollowed := true, recurses := true, apart := false }
def FnExactSolveDropsSaid : Prop := fnExactSolveDropsRow.holds Try.pinned (OpenSpec.ofChange fnExactSolveDropsSpec)

/-- ITS FALSE NEIGHBOUR: 'it returns false'. Refute it at one input. -/
def fnExactSolveDropsWrong : ChangeSpec := { name := "fnExactSolveDrops", fn := fun _ => fun
  | [d1, d2] => { results := [.lit (.bool false)], args := [d1, d2] }
  | _ => none }
def FnExactSolveDropsWrongFalsely : Prop := fnExactSolveDropsRow.holds Try.pinned (OpenSpec.ofChange fnExactSolveDropsWrong)

/-- 'laws.FnExactBlocksOf': WHATEVER THE INPUT: true; the input reads as it did. -/
def fnExactBlocksOfSpec : ChangeSpec := { name := "fnExactBlocksOf", fn := fun _ => fun
  | [d1, d2] => { results := [.lit (.bool true)], args := [d1, d2] }
  | _ => none }
def fnExactBlocksOfRow : OpenClaim := { program := "ytimajkahadhhhaa", sum := "20d786173107dbbfc5b3e815abd985ca68312265f45b6ee81f7045bf5aa84b91", func := "loop.example/g00294/laws.FnExactBlocksOf", spec := "fnExactBlocksOf", unfollowed := true, recurses := true, apart := false }
def FnExactBlocksOfSaid : Prop := fnExactBlocksOfRow.holds Try.pinned (OpenSpec.ofChange fnExactBlocksOfSpec)

/-- ITS FALSE NEIGHBOUR: 'it returns false'. Refute it at one input. -/
def fnExactBlocksOfWrong : ChangeSpec := { name := "fnExactBlocksOf", fn := fun _ => fun
  | [d1, d2] => { results := [.lit (.bool false)], args := [d1, d2] }
  | _ => none }
def FnExactBlocksOfWrongFalsely : Prop := fnExactBlocksOfRow.holds Try.pinned (OpenSpec.ofChange fnExactBlocksOfWrong)

/-- 'laws.FnExactMakeDrop': WHATEVER THE INPUT: true; the input reads as it did. -/
def fnExactMakeDropSpec : ChangeSpec := { name := "fnExactMakeDrop", fn := fun _ => fun
  | [d1, d2] => { results := [.lit (.bool true)], args := [d1, d2] }
  | _ => none }
def fnExactMakeDropRow : OpenClaim := { program := "ytimajkahadhhhaa", sum := "20d786173107dbbfc5b3e815abd985ca68312265f45b6ee81f7045bf5aa84b91", func := "loop.example/g00294/laws.FnExactMakeDrop", spec := "fnExactMakeDrop", unfollowed := true, recurses := true, apart := false }
def FnExactMakeDropSaid : Prop := fnExactMakeDropRow.holds Try.pinned (OpenSpec.ofChange fnExactMakeDropSpec)

/-- ITS FALSE NEIGHBOUR: 'it returns false'. Refute it at one input. -/
def fnExactMakeDropWrong : ChangeSpec := { name := "fnExactMakeDrop", fn := fun _ => fun
  | [d1, d2] => { results := [.lit (.bool false)], args := [d1, d2] }
  | _ => none }
def FnExactMakeDropWrongFalsely : Prop := fnExactMakeDropRow.holds Try.pinned (OpenSpec.ofChange fnExactMakeDropWrong)

/-- 'laws.FnExactIsDrop': WHATEVER THE INPUT: true; the input reads as it did. -/
def fnExactIsDropSpec : ChangeSpec := { name := "fnExactIsDrop", fn := fun _ => fun
  | [d1, d2] => { results := [.lit (.bool true)], args := [d1, d2] }
  | _ => none }
def fnExactIsDropRow : OpenClaim := { program := "ytimajkahadhhhaa", sum := "20d786173107dbbfc5b3e815abd985ca68312265f45b6ee81f7045bf5aa84b91", func := "loop.example/g00294/laws.FnExactIsDrop", spec := "fnExactIsDrop", unfollowed := true, recurses := true, apart := false }
def FnExactIsDropSaid : Prop := fnExactIsDropRow.holds Try.pinned (OpenSpec.ofChange fnExactIsDropSpec)

/-- ITS FALSE NEIGHBOUR: 'it returns false'. Refute it at one input. -/
def fnExactIsDropWrong : ChangeSpec := { name := "fnExactIsDrop", fn := fun _ => fun
  | [d1, d2] => { results := [.lit (.bool false)], args := [d1, d2] }
  | _ => none }
def FnExactIsDropWrongFalsely : Prop := fnExactIsDropRow.holds Try.pinned (OpenSpec.ofChange fnExactIsDropWrong)

/-- 'laws.FnExactPeelDrops': WHATEVER THE INPUT: true; the input reads as it did. -/
def fnExactPeelDropsSpec : ChangeSpec := { name := "fnExactPeelDrops", fn := fun _ => fun
  | [d1, d2] => { results := [.lit (.bool true)], args := [d1, d2] }
  | _ => none }
def fnExactPeelDropsRow : OpenClaim := { program := "ytimajkahadhhhaa", sum := "20d786173107dbbfc5b3e815abd985ca68312265f45b6ee81f7045bf5aa84b91", func := "loop.example/g00294/laws.FnExactPeelDrops", spec := "fnExactPeelDrops", unfollowed := true, recurses := true, apart := false }
def FnExactPeelDropsSaid : Prop := fnExactPeelDropsRow.holds Try.pinned (OpenSpec.ofChange fnExactPeelDropsSpec)

/-- ITS FALSE NEIGHBOUR: 'it returns false'. Refute it at one input. -/
def fnExactPeelDropsWrong : ChangeSpec := { name := "fnExactPeelDrops", fn := fun _ => fun
  | [d1, d2] => { results := [.lit (.bool false)], args := [d1, d2] }
  | _ => none }
def FnExactPeelDropsWrongFalsely : Prop := fnExactPeelDropsRow.holds Try.pinned (OpenSpec.ofChange fnExactPeelDropsWrong)

/- THE SECOND FORM. 'bulk': how many values and letters a reading holds, each counted each time it is reached (what is shared counts as often as it is met; a slice's spare places count too). A statement '..UptoSaid' is the law's where the arguments, and the package variables that the reading takes, are together of bulk at most 1048576: NARROWER than '..Said'. Prove '..Said' where nothing that the law and all that it calls make is longer than what came in: it says more and counts as full. Else prove '..UptoSaid'. A law counts once. -/
mutual
def uptoBulk {H : Type} : DataW H → Nat
  | .lit (.string bytes) => bytes.length + 1
  | .lit _ => 1
  | .nil => 1
  | .ptr d => uptoBulk d + 1
  | .slice elems spare => uptoBulkAll elems + uptoBulkAll spare + 1
  | .agg parts => uptoBulkAll parts + 1
  | .iface _ d => uptoBulk d + 1
  | .map entries => uptoBulkEntries entries + 1
  | .held _ => 1
def uptoBulkAll {H : Type} : List (DataW H) → Nat
  | [] => 0
  | d :: r => uptoBulk d + uptoBulkAll r
def uptoBulkEntries {H : Type} : List (Lit × DataW H) → Nat
  | [] => 0
  | x :: r => uptoBulkEntry x + uptoBulkEntries r
def uptoBulkEntry {H : Type} : Lit × DataW H → Nat
  | (.string bytes, d) => bytes.length + uptoBulk d + 1
  | (_, d) => uptoBulk d + 1
 end
def uptoSmall : (H : Type) → List (DataW H) → Bool := fun _ ds => decide (uptoBulkAll ds ≤ 1048576)
def OpenSpec.upto (s : _root_.Go.ChangeSpec) : _root_.Go.OpenSpec := { _root_.Go.OpenSpec.ofChange s with cond := some uptoSmall }

/-- 'laws.FnExactRankOfDrops', WHERE WHAT IT READS IS OF BULK AT MOST 1048576: true; the input reads as it did. -/
def fnExactRankOfDropsUptoRow : OpenClaim := { program := "ytimajkahadhhhaa", sum := "20d786173107dbbfc5b3e815abd985ca68312265f45b6ee81f7045bf5aa84b91", func := "loop.example/g00294/laws.FnExactRankOfDrops", spec := "fnExactRankOfDrops", unfollowed := true, recurses := true, apart := false, narrowed := true }
def FnExactRankOfDropsUptoSaid : Prop := fnExactRankOfDropsUptoRow.holds Try.pinned (OpenSpec.upto fnExactRankOfDropsSpec)

/-- 'laws.FnExactStepPeel', WHERE WHAT IT READS IS OF BULK AT MOST 1048576: true; the input reads as it did. -/
def fnExactStepPeelUptoRow : OpenClaim := { program := "ytimajkahadhhhaa", sum := "20d786173107dbbfc5b3e815abd985ca68312265f45b6ee81f7045bf5aa84b91", func := "loop.example/g00294/laws.FnExactStepPeel", spec := "fnExactStepPeel", unfollowed := true, recurses := true, apart := false, narrowed := true }
def FnExactStepPeelUptoSaid : Prop := fnExactStepPeelUptoRow.holds Try.pinned (OpenSpec.upto fnExactStepPeelSpec)

/-- 'laws.FnExactSolveDrops', WHERE WHAT IT READS IS OF BULK AT MOST 1048576: true; the input reads as it did. -/
def fnExactSolveDropsUptoRow : OpenClaim := { program := "ytimajkahadhhhaa", sum := "20d786173107dbbfc5b3e815abd985ca68312265f45b6ee81f7045bf5aa84b91", func := "loop.example/g00294/laws.FnExactSolveDrops", spec := "fnExactSolveDrops", unfollowed := true, recurses := true, apart := false, narrowed := true }
def FnExactSolveDropsUptoSaid : Prop := fnExactSolveDropsUptoRow.holds Try.pinned (OpenSpec.upto fnExactSolveDropsSpec)

/-- 'laws.FnExactBlocksOf', WHERE WHAT IT READS IS OF BULK AT MOST 1048576: true; the input reads as it did. -/
def fnExactBlocksOfUptoRow : OpenClaim := { program := "ytimajkahadhhhaa", sum := "20d786173107dbbfc5b3e815abd985ca68312265f45b6ee81f7045bf5aa84b91", func := "loop.example/g00294/laws.FnExactBlocksOf", spec := "fnExactBlocksOf", unfollowed := true, recurses := true, apart := false, narrowed := true }
def FnExactBlocksOfUptoSaid : Prop := fnExactBlocksOfUptoRow.holds Try.pinned (OpenSpec.upto fnExactBlocksOfSpec)

/-- 'laws.FnExactMakeDrop', WHERE WHAT IT READS IS OF BULK AT MOST 1048576: true; the input reads as it did. -/
def fnExactMakeDropUptoRow : OpenClaim := { program := "ytimajkahadhhhaa", sum := "20d786173107dbbfc5b3e815abd985ca68312265f45b6ee81f7045bf5aa84b91", func := "loop.example/g00294/laws.FnExactMakeDrop", spec := "fnExactMakeDrop", unfollowed := true, recurses := true, apart := false, narrowed := true }
def FnExactMakeDropUptoSaid : Prop := fnExactMakeDropUptoRow.holds Try.pinned (OpenSpec.upto fnExactMakeDropSpec)

/-- 'laws.FnExactIsDrop', WHERE WHAT IT READS IS OF BULK AT MOST 1048576: true; the input reads as it did. -/
def fnExactIsDropUptoRow : OpenClaim := { program := "ytimajkahadhhhaa", sum := "20d786173107dbbfc5b3e815abd985ca68312265f45b6ee81f7045bf5aa84b91", func := "loop.example/g00294/laws.FnExactIsDrop", spec := "fnExactIsDrop", unfollowed := true, recurses := true, apart := false, narrowed := true }
def FnExactIsDropUptoSaid : Prop := fnExactIsDropUptoRow.holds Try.pinned (OpenSpec.upto fnExactIsDropSpec)

/-- 'laws.FnExactPeelDrops', WHERE WHAT IT READS IS OF BULK AT MOST 1048576: true; the input reads as it did. -/
def fnExactPeelDropsUptoRow : OpenClaim := { program := "ytimajkahadhhhaa", sum := "20d786173107dbbfc5b3e815abd985ca68312265f45b6ee81f7045bf5aa84b91", func := "loop.example/g00294/laws.FnExactPeelDrops", spec := "fnExactPeelDrops", unfollowed := true, recurses := true, apart := false, narrowed := true }
def FnExactPeelDropsUptoSaid : Prop := fnExactPeelDropsUptoRow.holds Try.pinned (OpenSpec.upto fnExactPeelDropsSpec)

end Rows
end Go.Proofs.Ytimajkahadhhhaa
