/-
  No cell of these rows narrows 'for every input' (looked for: loops, veiled, ifaces, maps, wideKeys, modest, calm, conditions, laid).
  DERIVED. THE GIVEN ROWS OF THIS SEAT. 9 by the template 'for every input the law returns true; each argument reads behind the call as it read before'; 0 by the template 'total and deterministic' (their statements: YtbloniemhkfnlaaTotals.lean).
  GIVEN WITH THE SEED: the statements are not yours to turn. If you find one false, say at which input.
  Laid BY PROGRAM, IN A SANDBOX (cutbox-rows.mjs): the forced cells as the released guide's own fill.sh prints them over the translation ef206ee6fb1122e8… (all of the seat's roots in one cut). By AI agents, Wed Nov 11 2026. No macro, syntax, notation, axiom, sorry.
-/
import Derived.Test.YtbloniemhkfnlaaChecked
import GoSem.Claim
import GoSem.ClaimJoined
import GoSem.ClaimMapViews
import Derived.JoinedTies
import Derived.KernelRfl
namespace Go.Proofs.Ytbloniemhkfnlaa
/- THE CELL 'sum', in the pinned program and in every row, IS THE sha256 OF THE DUMP (.gsa) THAT YtbloniemhkfnlaaProg.lean LOADS. Nothing in Lean hashes anything: it is a label: what it is worth is what the hold of that sum in a sandbox is worth. -/
noncomputable def Try.pinned : Pinned := { name := "ytbloniemhkfnlaa", sum := "ef206ee6fb1122e82a5e978c54d550454fad83dcd3d29ffd8207f563c882d7cb", checked := Try.checked }
namespace Rows
def none {H : Type} : Left H := { results := [], args := [] }

/-- 'laws.FnExactGeneratorOf': WHATEVER THE INPUT: true; the input reads as it did. -/
def fnExactGeneratorOfSpec : ChangeSpec := { name := "fnExactGeneratorOf", fn := fun _ => fun
  | [d] => { results := [.lit (.bool true)], args := [d] }
  | _ => none }
def fnExactGeneratorOfRow : OpenClaim := { program := "ytbloniemhkfnlaa", sum := "ef206ee6fb1122e82a5e978c54d550454fad83dcd3d29ffd8207f563c882d7cb", func := "loop.example/g00294/laws.FnExactGeneratorOf", spec := "fnExactGeneratorOf", apart := false }
def FnExactGeneratorOfSaid : Prop := fnExactGeneratorOfRow.holds Try.pinned (OpenSpec.ofChange fnExactGeneratorOfSpec)

/-- ITS FALSE NEIGHBOUR: 'it returns false'. Refute it at one input. -/
def fnExactGeneratorOfWrong : ChangeSpec := { name := "fnExactGeneratorOf", fn := fun _ => fun
  | [d] => { results := [.lit (.bool false)], args := [d] }
  | _ => none }
def FnExactGeneratorOfWrongFalsely : Prop := fnExactGeneratorOfRow.holds Try.pinned (OpenSpec.ofChange fnExactGeneratorOfWrong)

/-- 'laws.FnExactSyndromesOf': WHATEVER THE INPUT: true; the input reads as it did. -/
def fnExactSyndromesOfSpec : ChangeSpec := { name := "fnExactSyndromesOf", fn := fun _ => fun
  | [d1, d2] => { results := [.lit (.bool true)], args := [d1, d2] }
  | _ => none }
def fnExactSyndromesOfRow : OpenClaim := { program := "ytbloniemhkfnlaa", sum := "ef206ee6fb1122e82a5e978c54d550454fad83dcd3d29ffd8207f563c882d7cb", func := "loop.example/g00294/laws.FnExactSyndromesOf", spec := "fnExactSyndromesOf", apart := false }
def FnExactSyndromesOfSaid : Prop := fnExactSyndromesOfRow.holds Try.pinned (OpenSpec.ofChange fnExactSyndromesOfSpec)

/-- ITS FALSE NEIGHBOUR: 'it returns false'. Refute it at one input. -/
def fnExactSyndromesOfWrong : ChangeSpec := { name := "fnExactSyndromesOf", fn := fun _ => fun
  | [d1, d2] => { results := [.lit (.bool false)], args := [d1, d2] }
  | _ => none }
def FnExactSyndromesOfWrongFalsely : Prop := fnExactSyndromesOfRow.holds Try.pinned (OpenSpec.ofChange fnExactSyndromesOfWrong)

/-- 'laws.FnExactIsWord': WHATEVER THE INPUT: true; the input reads as it did. -/
def fnExactIsWordSpec : ChangeSpec := { name := "fnExactIsWord", fn := fun _ => fun
  | [d1, d2] => { results := [.lit (.bool true)], args := [d1, d2] }
  | _ => none }
def fnExactIsWordRow : OpenClaim := { program := "ytbloniemhkfnlaa", sum := "ef206ee6fb1122e82a5e978c54d550454fad83dcd3d29ffd8207f563c882d7cb", func := "loop.example/g00294/laws.FnExactIsWord", spec := "fnExactIsWord", apart := false }
def FnExactIsWordSaid : Prop := fnExactIsWordRow.holds Try.pinned (OpenSpec.ofChange fnExactIsWordSpec)

/-- ITS FALSE NEIGHBOUR: 'it returns false'. Refute it at one input. -/
def fnExactIsWordWrong : ChangeSpec := { name := "fnExactIsWord", fn := fun _ => fun
  | [d1, d2] => { results := [.lit (.bool false)], args := [d1, d2] }
  | _ => none }
def FnExactIsWordWrongFalsely : Prop := fnExactIsWordRow.holds Try.pinned (OpenSpec.ofChange fnExactIsWordWrong)

/-- 'laws.FnExactEncodeWord': WHATEVER THE INPUT: true; the input reads as it did. -/
def fnExactEncodeWordSpec : ChangeSpec := { name := "fnExactEncodeWord", fn := fun _ => fun
  | [d1, d2] => { results := [.lit (.bool true)], args := [d1, d2] }
  | _ => none }
def fnExactEncodeWordRow : OpenClaim := { program := "ytbloniemhkfnlaa", sum := "ef206ee6fb1122e82a5e978c54d550454fad83dcd3d29ffd8207f563c882d7cb", func := "loop.example/g00294/laws.FnExactEncodeWord", spec := "fnExactEncodeWord", apart := false }
def FnExactEncodeWordSaid : Prop := fnExactEncodeWordRow.holds Try.pinned (OpenSpec.ofChange fnExactEncodeWordSpec)

/-- ITS FALSE NEIGHBOUR: 'it returns false'. Refute it at one input. -/
def fnExactEncodeWordWrong : ChangeSpec := { name := "fnExactEncodeWord", fn := fun _ => fun
  | [d1, d2] => { results := [.lit (.bool false)], args := [d1, d2] }
  | _ => none }
def FnExactEncodeWordWrongFalsely : Prop := fnExactEncodeWordRow.holds Try.pinned (OpenSpec.ofChange fnExactEncodeWordWrong)

/-- 'laws.FnExactDataOf': WHATEVER THE INPUT: true; the input reads as it did. -/
def fnExactDataOfSpec : ChangeSpec := { name := "fnExactDataOf", fn := fun _ => fun
  | [d1, d2] => { results := [.lit (.bool true)], args := [d1, d2] }
  | _ => none }
def fnExactDataOfRow : OpenClaim := { program := "ytbloniemhkfnlaa", sum := "ef206ee6fb1122e82a5e978c54d550454fad83dcd3d29ffd8207f563c882d7cb", func := "loop.example/g00294/laws.FnExactDataOf", spec := "fnExactDataOf", apart := false }
def FnExactDataOfSaid : Prop := fnExactDataOfRow.holds Try.pinned (OpenSpec.ofChange fnExactDataOfSpec)

/-- ITS FALSE NEIGHBOUR: 'it returns false'. Refute it at one input. -/
def fnExactDataOfWrong : ChangeSpec := { name := "fnExactDataOf", fn := fun _ => fun
  | [d1, d2] => { results := [.lit (.bool false)], args := [d1, d2] }
  | _ => none }
def FnExactDataOfWrongFalsely : Prop := fnExactDataOfRow.holds Try.pinned (OpenSpec.ofChange fnExactDataOfWrong)

/-- 'laws.FnExactLocatorOf': WHATEVER THE INPUT: true; the input reads as it did. -/
def fnExactLocatorOfSpec : ChangeSpec := { name := "fnExactLocatorOf", fn := fun _ => fun
  | [d] => { results := [.lit (.bool true)], args := [d] }
  | _ => none }
def fnExactLocatorOfRow : OpenClaim := { program := "ytbloniemhkfnlaa", sum := "ef206ee6fb1122e82a5e978c54d550454fad83dcd3d29ffd8207f563c882d7cb", func := "loop.example/g00294/laws.FnExactLocatorOf", spec := "fnExactLocatorOf", unfollowed := true, recurses := true, apart := false }
def FnExactLocatorOfSaid : Prop := fnExactLocatorOfRow.holds Try.pinned (OpenSpec.ofChange fnExactLocatorOfSpec)

/-- ITS FALSE NEIGHBOUR: 'it returns false'. Refute it at one input. -/
def fnExactLocatorOfWrong : ChangeSpec := { name := "fnExactLocatorOf", fn := fun _ => fun
  | [d] => { results := [.lit (.bool false)], args := [d] }
  | _ => none }
def FnExactLocatorOfWrongFalsely : Prop := fnExactLocatorOfRow.holds Try.pinned (OpenSpec.ofChange fnExactLocatorOfWrong)

/-- 'laws.FnExactCorrectWord': WHATEVER THE INPUT: true; the input reads as it did. -/
def fnExactCorrectWordSpec : ChangeSpec := { name := "fnExactCorrectWord", fn := fun _ => fun
  | [d1, d2] => { results := [.lit (.bool true)], args := [d1, d2] }
  | _ => none }
def fnExactCorrectWordRow : OpenClaim := { program := "ytbloniemhkfnlaa", sum := "ef206ee6fb1122e82a5e978c54d550454fad83dcd3d29ffd8207f563c882d7cb", func := "loop.example/g00294/laws.FnExactCorrectWord", spec := "fnExactCorrectWord", unfollowed := true, recurses := true, apart := false }
def FnExactCorrectWordSaid : Prop := fnExactCorrectWordRow.holds Try.pinned (OpenSpec.ofChange fnExactCorrectWordSpec)

/-- ITS FALSE NEIGHBOUR: 'it returns false'. Refute it at one input. -/
def fnExactCorrectWordWrong : ChangeSpec := { name := "fnExactCorrectWord", fn := fun _ => fun
  | [d1, d2] => { results := [.lit (.bool false)], args := [d1, d2] }
  | _ => none }
def FnExactCorrectWordWrongFalsely : Prop := fnExactCorrectWordRow.holds Try.pinned (OpenSpec.ofChange fnExactCorrectWordWrong)

/-- 'laws.FnSpaced': WHATEVER THE INPUT: true; the input reads as it did. -/
def fnSpacedSpec : ChangeSpec := { name := "fnSpaced", fn := fun _ => fun
  | [d1, d2] => { results := [.lit (.bool true)], args := [d1, d2] }
  | _ => none }
def fnSpacedRow : OpenClaim := { program := "ytbloniemhkfnlaa", sum := "ef206ee6fb1122e82a5e978c54d550454fad83dcd3d29ffd8207f563c882d7cb", func := "loop.example/g00294/laws.FnSpaced", spec := "fnSpaced", unfollowed := true, recurses := true, apart := false }
def FnSpacedSaid : Prop := fnSpacedRow.holds Try.pinned (OpenSpec.ofChange fnSpacedSpec)

/-- ITS FALSE NEIGHBOUR: 'it returns false'. Refute it at one input. -/
def fnSpacedWrong : ChangeSpec := { name := "fnSpaced", fn := fun _ => fun
  | [d1, d2] => { results := [.lit (.bool false)], args := [d1, d2] }
  | _ => none }
def FnSpacedWrongFalsely : Prop := fnSpacedRow.holds Try.pinned (OpenSpec.ofChange fnSpacedWrong)

/-- 'laws.FnCorrected': WHATEVER THE INPUT: true; the input reads as it did. -/
def fnCorrectedSpec : ChangeSpec := { name := "fnCorrected", fn := fun _ => fun
  | [d1, d2] => { results := [.lit (.bool true)], args := [d1, d2] }
  | _ => none }
def fnCorrectedRow : OpenClaim := { program := "ytbloniemhkfnlaa", sum := "ef206ee6fb1122e82a5e978c54d550454fad83dcd3d29ffd8207f563c882d7cb", func := "loop.example/g00294/laws.FnCorrected", spec := "fnCorrected", unfollowed := true, recurses := true, apart := false }
def FnCorrectedSaid : Prop := fnCorrectedRow.holds Try.pinned (OpenSpec.ofChange fnCorrectedSpec)

/-- ITS FALSE NEIGHBOUR: 'it returns false'. Refute it at one input. -/
def fnCorrectedWrong : ChangeSpec := { name := "fnCorrected", fn := fun _ => fun
  | [d1, d2] => { results := [.lit (.bool false)], args := [d1, d2] }
  | _ => none }
def FnCorrectedWrongFalsely : Prop := fnCorrectedRow.holds Try.pinned (OpenSpec.ofChange fnCorrectedWrong)

/- THE SECOND FORM. 'bulk': how many values and letters a reading holds, each counted each time it is reached (what is shared counts as often as it is met; a slice's spare places count too). A statement '..UptoSaid' is the law's where the arguments, and the package variables that the reading takes, are together of bulk at most 1048576: NARROWER than '..Said'. Prove '..Said' where nothing that the law and all that it calls make is longer than what came in: it says more and counts as full. Else prove '..UptoSaid'. A law counts once. -/
mutual
def uptoBulk {H : Type} : DataW H → Nat
  | .lit (.string bytes) => bytes.length + 1
  | .lit _ => 1
  | .nil => 1
  | .ptr d => uptoBulk d + 1
  | .slice elems spare => uptoBulkAll elems + uptoBulkAll spare + 1
  | .agg parts => uptoBulkAll parts + 1
  | .iface _ d => uptoBulk d + 1
  | .map entries => uptoBulkEntries entries + 1
  | .held _ => 1
def uptoBulkAll {H : Type} : List (DataW H) → Nat
  | [] => 0
  | d :: r => uptoBulk d + uptoBulkAll r
def uptoBulkEntries {H : Type} : List (Lit × DataW H) → Nat
  | [] => 0
  | x :: r => uptoBulkEntry x + uptoBulkEntries r
def uptoBulkEntry {H : Type} : Lit × DataW H → Nat
  | (.string bytes, d) => bytes.length + uptoBulk d + 1
  | (_, d) => uptoBulk d + 1
 end
def uptoSmall : (H : Type) → List (DataW H) → Bool := fun _ ds => decide (uptoBulkAll ds ≤ 1048576)
def OpenSpec.upto (s : _root_.Go.ChangeSpec) : _root_.Go.OpenSpec := { _root_.Go.OpenSpec.ofChange s with cond := some uptoSmall }

/-- 'laws.FnExactGeneratorOf', WHERE WHAT IT READS IS OF BULK AT MOST 1048576: true; the input reads as it did. -/
def fnExactGeneratorOfUptoRow : OpenClaim := { program := "ytbloniemhkfnlaa", sum := "ef206ee6fb1122e82a5e978c54d550454fad83dcd3d29ffd8207f563c882d7cb", func := "loop.example/g00294/laws.FnExactGeneratorOf", spec := "fnExactGeneratorOf", apart := false, narrowed := true }
def FnExactGeneratorOfUptoSaid : Prop := fnExactGeneratorOfUptoRow.holds Try.pinned (OpenSpec.upto fnExactGeneratorOfSpec)

/-- 'laws.FnExactSyndromesOf', WHERE WHAT IT READS IS OF BULK AT MOST 1048576: true; the input reads as it did. -/
def fnExactSyndromesOfUptoRow : OpenClaim := { program := "ytbloniemhkfnlaa", sum := "ef206ee6fb1122e82a5e978c54d550454fad83dcd3d29ffd8207f563c882d7cb", func := "loop.example/g00294/laws.FnExactSyndromesOf", spec := "fnExactSyndromesOf", apart := false, narrowed := true }
def FnExactSyndromesOfUptoSaid : Prop := fnExactSyndromesOfUptoRow.holds Try.pinned (OpenSpec.upto fnExactSyndromesOfSpec)

/-- 'laws.FnExactIsWord', WHERE WHAT IT READS IS OF BULK AT MOST 1048576: true; the input reads as it did. -/
def fnExactIsWordUptoRow : OpenClaim := { program := "ytbloniemhkfnlaa", sum := "ef206ee6fb1122e82a5e978c54d550454fad83dcd3d29ffd8207f563c882d7cb", func := "loop.example/g00294/laws.FnExactIsWord", spec := "fnExactIsWord", apart := false, narrowed := true }
def FnExactIsWordUptoSaid : Prop := fnExactIsWordUptoRow.holds Try.pinned (OpenSpec.upto fnExactIsWordSpec)

/-- 'laws.FnExactEncodeWord', WHERE WHAT IT READS IS OF BULK AT MOST 1048576: true; the input reads as it did. -/
def fnExactEncodeWordUptoRow : OpenClaim := { program := "ytbloniemhkfnlaa", sum := "ef206ee6fb1122e82a5e978c54d550454fad83dcd3d29ffd8207f563c882d7cb", func := "loop.example/g00294/laws.FnExactEncodeWord", spec := "fnExactEncodeWord", apart := false, narrowed := true }
def FnExactEncodeWordUptoSaid : Prop := fnExactEncodeWordUptoRow.holds Try.pinned (OpenSpec.upto fnExactEncodeWordSpec)

/-- 'laws.FnExactDataOf', WHERE WHAT IT READS IS OF BULK AT MOST 1048576: true; the input reads as it did. -/
def fnExactDataOfUptoRow : OpenClaim := { program := "ytbloniemhkfnlaa", sum := "ef206ee6fb1122e82a5e978c54d550454fad83dcd3d29ffd8207f563c882d7cb", func := "loop.example/g00294/laws.FnExactDataOf", spec := "fnExactDataOf", apart := false, narrowed := true }
def FnExactDataOfUptoSaid : Prop := fnExactDataOfUptoRow.holds Try.pinned (OpenSpec.upto fnExactDataOfSpec)

/-- 'laws.FnExactLocatorOf', WHERE WHAT IT READS IS OF BULK AT MOST 1048576: true; the input reads as it did. -/
def fnExactLocatorOfUptoRow : OpenClaim := { program := "ytbloniemhkfnlaa", sum := "ef206ee6fb1122e82a5e978c54d550454fad83dcd3d29ffd8207f563c882d7cb", func := "loop.example/g00294/laws.FnExactLocatorOf", spec := "fnExactLocatorOf", unfollowed := true, recurses := true, apart := false, narrowed := true }
def FnExactLocatorOfUptoSaid : Prop := fnExactLocatorOfUptoRow.holds Try.pinned (OpenSpec.upto fnExactLocatorOfSpec)

/-- 'laws.FnExactCorrectWord', WHERE WHAT IT READS IS OF BULK AT MOST 1048576: true; the input reads as it did. -/
def fnExactCorrectWordUptoRow : OpenClaim := { program := "ytbloniemhkfnlaa", sum := "ef206ee6fb1122e82a5e978c54d550454fad83dcd3d29ffd8207f563c882d7cb", func := "loop.example/g00294/laws.FnExactCorrectWord", spec := "fnExactCorrectWord", unfollowed := true, recurses := true, apart := false, narrowed := true }
def FnExactCorrectWordUptoSaid : Prop := fnExactCorrectWordUptoRow.holds Try.pinned (OpenSpec.upto fnExactCorrectWordSpec)

/-- 'laws.FnSpaced', WHERE WHAT IT READS IS OF BULK AT MOST 1048576: true; the input reads as it did. -/
def fnSpacedUptoRow : OpenClaim := { program := "ytbloniemhkfnlaa", sum := "ef206ee6fb1122e82a5e978c54d550454fad83dcd3d29ffd8207f563c882d7cb", func := "loop.example/g00294/laws.FnSpaced", spec := "fnSpaced", unfollowed := true, recurses := true, apart := false, narrowed := true }
def FnSpacedUptoSaid : Prop := fnSpacedUptoRow.holds Try.pinned (OpenSpec.upto fnSpacedSpec)

/-- 'laws.FnCorrected', WHERE WHAT IT READS IS OF BULK AT MOST 1048576: true; the input reads as it did. -/
def fnCorrectedUptoRow : OpenClaim := { program := "ytbloniemhkfnlaa", sum := "ef206ee6fb1122e82a5e978c54d550454fad83dcd3d29ffd8207f563c882d7cb", func := "loop.example/g00294/laws.FnCorrected", spec := "fnCorrected", unfollowed := true, recurses := true, apart := false, narrowed := true }
def FnCorrectedUptoSaid : Prop := fnCorrectedUptoRow.holds Try.pinned (OpenSpec.upto fnCorrectedSpec)

end Rows
end Go.Proofs.Ytbloniemhkfnlaa
