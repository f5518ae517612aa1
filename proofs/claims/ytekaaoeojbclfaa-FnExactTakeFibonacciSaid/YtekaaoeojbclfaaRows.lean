/-
  No cell of these rows narrows 'for every input' (looked for: loops, veiled, ifaces, maps, wideKeys, modest, calm, conditions, laid).
  DERIVED. THE GIVEN ROWS OF THIS SEAT. 12 by the template 'for every input the law returns true; each argument reads behind the call as it read before'; 0 by the template 'total and deterministic' (their statements: YtekaaoeojbclfaaTotals.lean).
  GIVEN WITH THE SEED: the statements are not yours to turn. If you find one false, say at which input.
  Laid BY PROGRAM, IN A SANDBOX (cutbox-rows.mjs): the forced cells as the released guide's own fill.sh prints them over the translation 772167be8f1a290c… (all of the seat's roots in one cut). By AI agents, Wed Nov 11 2026. No macro, syntax, notation, axiom, sorry.
-/
import Derived.Test.YtekaaoeojbclfaaChecked
import GoSem.Claim
import GoSem.ClaimJoined
import GoSem.ClaimMapViews
import Derived.JoinedTies
import Derived.KernelRfl
namespace Go.Proofs.Ytekaaoeojbclfaa
/- THE CELL 'sum', in the pinned program and in every row, IS THE sha256 OF THE DUMP (.gsa) THAT YtekaaoeojbclfaaProg.lean LOADS. Nothing in Lean hashes anything: it is a label: what it is worth is what the hold of that sum in a sandbox is worth. -/
noncomputable def Try.pinned : Pinned := { name := "ytekaaoeojbclfaa", sum := "772167be8f1a290c66d20f3fe0a3e4c8ea171c94a9cd6a8b504ad50b60215fa4", checked := Try.checked }
namespace Rows
def none {H : Type} : Left H := { results := [], args := [] }

/-- 'laws.FnExactOutputsAt': WHATEVER THE INPUT: true; the input reads as it did. -/
def fnExactOutputsAtSpec : ChangeSpec := { name := "fnExactOutputsAt", fn := fun _ => fun
  | [d1, d2] => { results := [.lit (.bool true)], args := [d1, d2] }
  | _ => none }
def fnExactOutputsAtRow : OpenClaim := { program := "ytekaaoeojbclfaa", sum := "772167be8f1a290c66d20f3fe0a3e4c8ea171c94a9cd6a8b504ad50b60215fa4", func := "loop.example/g00294/laws.FnExactOutputsAt", spec := "fnExactOutputsAt", apart := false }
def FnExactOutputsAtSaid : Prop := fnExactOutputsAtRow.holds Try.pinned (OpenSpec.ofChange fnExactOutputsAtSpec)

/-- ITS FALSE NEIGHBOUR: 'it returns false'. Refute it at one input. -/
def fnExactOutputsAtWrong : ChangeSpec := { name := "fnExactOutputsAt", fn := fun _ => fun
  | [d1, d2] => { results := [.lit (.bool false)], args := [d1, d2] }
  | _ => none }
def FnExactOutputsAtWrongFalsely : Prop := fnExactOutputsAtRow.holds Try.pinned (OpenSpec.ofChange fnExactOutputsAtWrong)

/-- 'laws.FnExactDistanceOf': WHATEVER THE INPUT: true; the input reads as it did. -/
def fnExactDistanceOfSpec : ChangeSpec := { name := "fnExactDistanceOf", fn := fun _ => fun
  | [d1, d2] => { results := [.lit (.bool true)], args := [d1, d2] }
  | _ => none }
def fnExactDistanceOfRow : OpenClaim := { program := "ytekaaoeojbclfaa", sum := "772167be8f1a290c66d20f3fe0a3e4c8ea171c94a9cd6a8b504ad50b60215fa4", func := "loop.example/g00294/laws.FnExactDistanceOf", spec := "fnExactDistanceOf", apart := false }
def FnExactDistanceOfSaid : Prop := fnExactDistanceOfRow.holds Try.pinned (OpenSpec.ofChange fnExactDistanceOfSpec)

/-- ITS FALSE NEIGHBOUR: 'it returns false'. Refute it at one input. -/
def fnExactDistanceOfWrong : ChangeSpec := { name := "fnExactDistanceOf", fn := fun _ => fun
  | [d1, d2] => { results := [.lit (.bool false)], args := [d1, d2] }
  | _ => none }
def FnExactDistanceOfWrongFalsely : Prop := fnExactDistanceOfRow.holds Try.pinned (OpenSpec.ofChange fnExactDistanceOfWrong)

/-- 'laws.FnExactSumsOf': WHATEVER THE INPUT: true; the input reads as it did. -/
def fnExactSumsOfSpec : ChangeSpec := { name := "fnExactSumsOf", fn := fun _ => fun
  | [d] => { results := [.lit (.bool true)], args := [d] }
  | _ => none }
def fnExactSumsOfRow : OpenClaim := { program := "ytekaaoeojbclfaa", sum := "772167be8f1a290c66d20f3fe0a3e4c8ea171c94a9cd6a8b504ad50b60215fa4", func := "loop.example/g00294/laws.FnExactSumsOf", spec := "fnExactSumsOf", apart := false }
def FnExactSumsOfSaid : Prop := fnExactSumsOfRow.holds Try.pinned (OpenSpec.ofChange fnExactSumsOfSpec)

/-- ITS FALSE NEIGHBOUR: 'it returns false'. Refute it at one input. -/
def fnExactSumsOfWrong : ChangeSpec := { name := "fnExactSumsOf", fn := fun _ => fun
  | [d] => { results := [.lit (.bool false)], args := [d] }
  | _ => none }
def FnExactSumsOfWrongFalsely : Prop := fnExactSumsOfRow.holds Try.pinned (OpenSpec.ofChange fnExactSumsOfWrong)

/-- 'laws.FnExactFibonacciOf': WHATEVER THE INPUT: true; the input reads as it did. -/
def fnExactFibonacciOfSpec : ChangeSpec := { name := "fnExactFibonacciOf", fn := fun _ => fun
  | [d] => { results := [.lit (.bool true)], args := [d] }
  | _ => none }
def fnExactFibonacciOfRow : OpenClaim := { program := "ytekaaoeojbclfaa", sum := "772167be8f1a290c66d20f3fe0a3e4c8ea171c94a9cd6a8b504ad50b60215fa4", func := "loop.example/g00294/laws.FnExactFibonacciOf", spec := "fnExactFibonacciOf", apart := false }
def FnExactFibonacciOfSaid : Prop := fnExactFibonacciOfRow.holds Try.pinned (OpenSpec.ofChange fnExactFibonacciOfSpec)

/-- ITS FALSE NEIGHBOUR: 'it returns false'. Refute it at one input. -/
def fnExactFibonacciOfWrong : ChangeSpec := { name := "fnExactFibonacciOf", fn := fun _ => fun
  | [d] => { results := [.lit (.bool false)], args := [d] }
  | _ => none }
def FnExactFibonacciOfWrongFalsely : Prop := fnExactFibonacciOfRow.holds Try.pinned (OpenSpec.ofChange fnExactFibonacciOfWrong)

/-- 'laws.FnExactOpenSecret': WHATEVER THE INPUT: true; the input reads as it did. -/
def fnExactOpenSecretSpec : ChangeSpec := { name := "fnExactOpenSecret", fn := fun _ => fun
  | [d1, d2] => { results := [.lit (.bool true)], args := [d1, d2] }
  | _ => none }
def fnExactOpenSecretRow : OpenClaim := { program := "ytekaaoeojbclfaa", sum := "772167be8f1a290c66d20f3fe0a3e4c8ea171c94a9cd6a8b504ad50b60215fa4", func := "loop.example/g00294/laws.FnExactOpenSecret", spec := "fnExactOpenSecret", apart := false }
def FnExactOpenSecretSaid : Prop := fnExactOpenSecretRow.holds Try.pinned (OpenSpec.ofChange fnExactOpenSecretSpec)

/-- ITS FALSE NEIGHBOUR: 'it returns false'. Refute it at one input. -/
def fnExactOpenSecretWrong : ChangeSpec := { name := "fnExactOpenSecret", fn := fun _ => fun
  | [d1, d2] => { results := [.lit (.bool false)], args := [d1, d2] }
  | _ => none }
def FnExactOpenSecretWrongFalsely : Prop := fnExactOpenSecretRow.holds Try.pinned (OpenSpec.ofChange fnExactOpenSecretWrong)

/-- 'laws.FnExactRefreshShares': WHATEVER THE INPUT: true; the input reads as it did. -/
def fnExactRefreshSharesSpec : ChangeSpec := { name := "fnExactRefreshShares", fn := fun _ => fun
  | [d1, d2] => { results := [.lit (.bool true)], args := [d1, d2] }
  | _ => none }
def fnExactRefreshSharesRow : OpenClaim := { program := "ytekaaoeojbclfaa", sum := "772167be8f1a290c66d20f3fe0a3e4c8ea171c94a9cd6a8b504ad50b60215fa4", func := "loop.example/g00294/laws.FnExactRefreshShares", spec := "fnExactRefreshShares", apart := false }
def FnExactRefreshSharesSaid : Prop := fnExactRefreshSharesRow.holds Try.pinned (OpenSpec.ofChange fnExactRefreshSharesSpec)

/-- ITS FALSE NEIGHBOUR: 'it returns false'. Refute it at one input. -/
def fnExactRefreshSharesWrong : ChangeSpec := { name := "fnExactRefreshShares", fn := fun _ => fun
  | [d1, d2] => { results := [.lit (.bool false)], args := [d1, d2] }
  | _ => none }
def FnExactRefreshSharesWrongFalsely : Prop := fnExactRefreshSharesRow.holds Try.pinned (OpenSpec.ofChange fnExactRefreshSharesWrong)

/-- 'laws.FnExactIsShared': WHATEVER THE INPUT: true; the input reads as it did. -/
def fnExactIsSharedSpec : ChangeSpec := { name := "fnExactIsShared", fn := fun _ => fun
  | [d1, d2] => { results := [.lit (.bool true)], args := [d1, d2] }
  | _ => none }
def fnExactIsSharedRow : OpenClaim := { program := "ytekaaoeojbclfaa", sum := "772167be8f1a290c66d20f3fe0a3e4c8ea171c94a9cd6a8b504ad50b60215fa4", func := "loop.example/g00294/laws.FnExactIsShared", spec := "fnExactIsShared", unfollowed := true, recurses := true, apart := false }
def FnExactIsSharedSaid : Prop := fnExactIsSharedRow.holds Try.pinned (OpenSpec.ofChange fnExactIsSharedSpec)

/-- ITS FALSE NEIGHBOUR: 'it returns false'. Refute it at one input. -/
def fnExactIsSharedWrong : ChangeSpec := { name := "fnExactIsShared", fn := fun _ => fun
  | [d1, d2] => { results := [.lit (.bool false)], args := [d1, d2] }
  | _ => none }
def FnExactIsSharedWrongFalsely : Prop := fnExactIsSharedRow.holds Try.pinned (OpenSpec.ofChange fnExactIsSharedWrong)

/-- 'laws.FnExactTakeFibonacci': WHATEVER THE INPUT: true; the input reads as it did. -/
def fnExactTakeFibonacciSpec : ChangeSpec := { name := "fnExactTakeFibonacci", fn := fun _ => fun
  | [d] => { results := [.lit (.bool true)], args := [d] }
  | _ => none }
def fnExactTakeFibonacciRow : OpenClaim := { program := "ytekaaoeojbclfaa", sum := "772167be8f1a290c66d20f3fe0a3e4c8ea171c94a9cd6a8b504ad50b60215fa4", func := "loop.example/g00294/laws.FnExactTakeFibonacci", spec := "fnExactTakeFibonacci", inPlace := ["internal/bytealg.IndexByteString", "internal/bytealg.IndexString"], named := ["internal/bytealg.MaxLen"], apart := false }
def FnExactTakeFibonacciSaid : Prop := fnExactTakeFibonacciRow.holds Try.pinned (OpenSpec.ofChange fnExactTakeFibonacciSpec)

/-- ITS FALSE NEIGHBOUR: 'it returns false'. Refute it at one input. -/
def fnExactTakeFibonacciWrong : ChangeSpec := { name := "fnExactTakeFibonacci", fn := fun _ => fun
  | [d] => { results := [.lit (.bool false)], args := [d] }
  | _ => none }
def FnExactTakeFibonacciWrongFalsely : Prop := fnExactTakeFibonacciRow.holds Try.pinned (OpenSpec.ofChange fnExactTakeFibonacciWrong)

/-- 'laws.FnShamir': WHATEVER THE INPUT: true; the input reads as it did. -/
def fnShamirSpec : ChangeSpec := { name := "fnShamir", fn := fun _ => fun
  | [d1, d2] => { results := [.lit (.bool true)], args := [d1, d2] }
  | _ => none }
def fnShamirRow : OpenClaim := { program := "ytekaaoeojbclfaa", sum := "772167be8f1a290c66d20f3fe0a3e4c8ea171c94a9cd6a8b504ad50b60215fa4", func := "loop.example/g00294/laws.FnShamir", spec := "fnShamir", unfollowed := true, recurses := true, apart := false }
def FnShamirSaid : Prop := fnShamirRow.holds Try.pinned (OpenSpec.ofChange fnShamirSpec)

/-- ITS FALSE NEIGHBOUR: 'it returns false'. Refute it at one input. -/
def fnShamirWrong : ChangeSpec := { name := "fnShamir", fn := fun _ => fun
  | [d1, d2] => { results := [.lit (.bool false)], args := [d1, d2] }
  | _ => none }
def FnShamirWrongFalsely : Prop := fnShamirRow.holds Try.pinned (OpenSpec.ofChange fnShamirWrong)

/-- 'laws.FnShares': WHATEVER THE INPUT: true; the input reads as it did. -/
def fnSharesSpec : ChangeSpec := { name := "fnShares", fn := fun _ => fun
  | [d1, d2] => { results := [.lit (.bool true)], args := [d1, d2] }
  | _ => none }
def fnSharesRow : OpenClaim := { program := "ytekaaoeojbclfaa", sum := "772167be8f1a290c66d20f3fe0a3e4c8ea171c94a9cd6a8b504ad50b60215fa4", func := "loop.example/g00294/laws.FnShares", spec := "fnShares", unfollowed := true, recurses := true, apart := false }
def FnSharesSaid : Prop := fnSharesRow.holds Try.pinned (OpenSpec.ofChange fnSharesSpec)

/-- ITS FALSE NEIGHBOUR: 'it returns false'. Refute it at one input. -/
def fnSharesWrong : ChangeSpec := { name := "fnShares", fn := fun _ => fun
  | [d1, d2] => { results := [.lit (.bool false)], args := [d1, d2] }
  | _ => none }
def FnSharesWrongFalsely : Prop := fnSharesRow.holds Try.pinned (OpenSpec.ofChange fnSharesWrong)

/-- 'laws.FnExactRandomFor': WHATEVER THE INPUT: true; the input reads as it did. -/
def fnExactRandomForSpec : ChangeSpec := { name := "fnExactRandomFor", fn := fun _ => fun
  | [d1, d2] => { results := [.lit (.bool true)], args := [d1, d2] }
  | _ => none }
def fnExactRandomForRow : OpenClaim := { program := "ytekaaoeojbclfaa", sum := "772167be8f1a290c66d20f3fe0a3e4c8ea171c94a9cd6a8b504ad50b60215fa4", func := "loop.example/g00294/laws.FnExactRandomFor", spec := "fnExactRandomFor", unfollowed := true, recurses := true, apart := false }
def FnExactRandomForSaid : Prop := fnExactRandomForRow.holds Try.pinned (OpenSpec.ofChange fnExactRandomForSpec)

/-- ITS FALSE NEIGHBOUR: 'it returns false'. Refute it at one input. -/
def fnExactRandomForWrong : ChangeSpec := { name := "fnExactRandomFor", fn := fun _ => fun
  | [d1, d2] => { results := [.lit (.bool false)], args := [d1, d2] }
  | _ => none }
def FnExactRandomForWrongFalsely : Prop := fnExactRandomForRow.holds Try.pinned (OpenSpec.ofChange fnExactRandomForWrong)

/-- 'laws.FnSecret': WHATEVER THE INPUT: true; the input reads as it did. -/
def fnSecretSpec : ChangeSpec := { name := "fnSecret", fn := fun _ => fun
  | [d1, d2] => { results := [.lit (.bool true)], args := [d1, d2] }
  | _ => none }
def fnSecretRow : OpenClaim := { program := "ytekaaoeojbclfaa", sum := "772167be8f1a290c66d20f3fe0a3e4c8ea171c94a9cd6a8b504ad50b60215fa4", func := "loop.example/g00294/laws.FnSecret", spec := "fnSecret", unfollowed := true, recurses := true, apart := false }
def FnSecretSaid : Prop := fnSecretRow.holds Try.pinned (OpenSpec.ofChange fnSecretSpec)

/-- ITS FALSE NEIGHBOUR: 'it returns false'. Refute it at one input. -/
def fnSecretWrong : ChangeSpec := { name := "fnSecret", fn := fun _ => fun
  | [d1, d2] => { results := [.lit (.bool false)], args := [d1, d2] }
  | _ => none }
def FnSecretWrongFalsely : Prop := fnSecretRow.holds Try.pinned (OpenSpec.ofChange fnSecretWrong)

/- THE SECOND FORM. 'bulk': how many values and letters a reading holds, each counted each time it is reached (what is shared counts as often as it is met; a slice's spare places count too). A statement '..UptoSaid' is the law's where the arguments, and the package variables that the reading takes, are together of bulk at most 1048576: NARROWER than '..Said'. Prove '..Said' where nothing that the law and all that it calls make is longer than what came in: it says more and counts as full. Else prove '..UptoSaid'. A law counts once. -/
mutual
def uptoBulk {H : Type} : DataW H → Nat
  | .lit (.string bytes) => bytes.length + 1
  | .lit _ => 1
  | .nil => 1
  | .ptr d => uptoBulk d + 1
  | .slice elems spare => uptoBulkAll elems + uptoBulkAll spare + 1
  | .agg parts => uptoBulkAll parts + 1
  | .iface _ d => uptoBulk d + 1
  | .map entries => uptoBulkEntries entries + 1
  | .held _ => 1
def uptoBulkAll {H : Type} : List (DataW H) → Nat
  | [] => 0
  | d :: r => uptoBulk d + uptoBulkAll r
def uptoBulkEntries {H : Type} : List (Lit × DataW H) → Nat
  | [] => 0
  | x :: r => uptoBulkEntry x + uptoBulkEntries r
def uptoBulkEntry {H : Type} : Lit × DataW H → Nat
  | (.string bytes, d) => bytes.length + uptoBulk d + 1
  | (_, d) => uptoBulk d + 1
 end
def uptoSmall : (H : Type) → List (DataW H) → Bool := fun _ ds => decide (uptoBulkAll ds ≤ 1048576)
def OpenSpec.upto (s : _root_.Go.ChangeSpec) : _root_.Go.OpenSpec := { _root_.Go.OpenSpec.ofChange s with cond := some uptoSmall }

/-- 'laws.FnExactOutputsAt', WHERE WHAT IT READS IS OF BULK AT MOST 1048576: true; the input reads as it did. -/
def fnExactOutputsAtUptoRow : OpenClaim := { program := "ytekaaoeojbclfaa", sum := "772167be8f1a290c66d20f3fe0a3e4c8ea171c94a9cd6a8b504ad50b60215fa4", func := "loop.example/g00294/laws.FnExactOutputsAt", spec := "fnExactOutputsAt", apart := false, narrowed := true }
def FnExactOutputsAtUptoSaid : Prop := fnExactOutputsAtUptoRow.holds Try.pinned (OpenSpec.upto fnExactOutputsAtSpec)

/-- 'laws.FnExactDistanceOf', WHERE WHAT IT READS IS OF BULK AT MOST 1048576: true; the input reads as it did. -/
def fnExactDistanceOfUptoRow : OpenClaim := { program := "ytekaaoeojbclfaa", sum := "772167be8f1a290c66d20f3fe0a3e4c8ea171c94a9cd6a8b504ad50b60215fa4", func := "loop.example/g00294/laws.FnExactDistanceOf", spec := "fnExactDistanceOf", apart := false, narrowed := true }
def FnExactDistanceOfUptoSaid : Prop := fnExactDistanceOfUptoRow.holds Try.pinned (OpenSpec.upto fnExactDistanceOfSpec)

/-- 'laws.FnExactSumsOf', WHERE WHAT IT READS IS OF BULK AT MOST 1048576: true; the input reads as it did. -/
def fnExactSumsOfUptoRow : OpenClaim := { program := "ytekaaoeojbclfaa", sum := "772167be8f1a290c66d20f3fe0a3e4c8ea171c94a9cd6a8b504ad50b60215fa4", func := "loop.example/g00294/laws.FnExactSumsOf", spec := "fnExactSumsOf", apart := false, narrowed := true }
def FnExactSumsOfUptoSaid : Prop := fnExactSumsOfUptoRow.holds Try.pinned (OpenSpec.upto fnExactSumsOfSpec)

/-- 'laws.FnExactFibonacciOf', WHERE WHAT IT READS IS OF BULK AT MOST 1048576: true; the input reads as it did. -/
def fnExactFibonacciOfUptoRow : OpenClaim := { program := "ytekaaoeojbclfaa", sum := "772167be8f1a290c66d20f3fe0a3e4c8ea171c94a9cd6a8b504ad50b60215fa4", func := "loop.example/g00294/laws.FnExactFibonacciOf", spec := "fnExactFibonacciOf", apart := false, narrowed := true }
def FnExactFibonacciOfUptoSaid : Prop := fnExactFibonacciOfUptoRow.holds Try.pinned (OpenSpec.upto fnExactFibonacciOfSpec)

/-- 'laws.FnExactOpenSecret', WHERE WHAT IT READS IS OF BULK AT MOST 1048576: true; the input reads as it did. -/
def fnExactOpenSecretUptoRow : OpenClaim := { program := "ytekaaoeojbclfaa", sum := "772167be8f1a290c66d20f3fe0a3e4c8ea171c94a9cd6a8b504ad50b60215fa4", func := "loop.example/g00294/laws.FnExactOpenSecret", spec := "fnExactOpenSecret", apart := false, narrowed := true }
def FnExactOpenSecretUptoSaid : Prop := fnExactOpenSecretUptoRow.holds Try.pinned (OpenSpec.upto fnExactOpenSecretSpec)

/-- 'laws.FnExactRefreshShares', WHERE WHAT IT READS IS OF BULK AT MOST 1048576: true; the input reads as it did. -/
def fnExactRefreshSharesUptoRow : OpenClaim := { program := "ytekaaoeojbclfaa", sum := "772167be8f1a290c66d20f3fe0a3e4c8ea171c94a9cd6a8b504ad50b60215fa4", func := "loop.example/g00294/laws.FnExactRefreshShares", spec := "fnExactRefreshShares", apart := false, narrowed := true }
def FnExactRefreshSharesUptoSaid : Prop := fnExactRefreshSharesUptoRow.holds Try.pinned (OpenSpec.upto fnExactRefreshSharesSpec)

/-- 'laws.FnExactIsShared', WHERE WHAT IT READS IS OF BULK AT MOST 1048576: true; the input reads as it did. -/
def fnExactIsSharedUptoRow : OpenClaim := { program := "ytekaaoeojbclfaa", sum := "772167be8f1a290c66d20f3fe0a3e4c8ea171c94a9cd6a8b504ad50b60215fa4", func := "loop.example/g00294/laws.FnExactIsShared", spec := "fnExactIsShared", unfollowed := true, recurses := true, apart := false, narrowed := true }
def FnExactIsSharedUptoSaid : Prop := fnExactIsSharedUptoRow.holds Try.pinned (OpenSpec.upto fnExactIsSharedSpec)

/-- 'laws.FnExactTakeFibonacci', WHERE WHAT IT READS IS OF BULK AT MOST 1048576: true; the input reads as it did. -/
def fnExactTakeFibonacciUptoRow : OpenClaim := { program := "ytekaaoeojbclfaa", sum := "772167be8f1a290c66d20f3fe0a3e4c8ea171c94a9cd6a8b504ad50b60215fa4", func := "loop.example/g00294/laws.FnExactTakeFibonacci", spec := "fnExactTakeFibonacci", inPlace := ["internal/bytealg.IndexByteString", "internal/bytealg.IndexString"], named := ["internal/bytealg.MaxLen"], apart := false, narrowed := true }
def FnExactTakeFibonacciUptoSaid : Prop := fnExactTakeFibonacciUptoRow.holds Try.pinned (OpenSpec.upto fnExactTakeFibonacciSpec)

/-- 'laws.FnShamir', WHERE WHAT IT READS IS OF BULK AT MOST 1048576: true; the input reads as it did. -/
def fnShamirUptoRow : OpenClaim := { program := "ytekaaoeojbclfaa", sum := "772167be8f1a290c66d20f3fe0a3e4c8ea171c94a9cd6a8b504ad50b60215fa4", func := "loop.example/g00294/laws.FnShamir", spec := "fnShamir", unfollowed := true, recurses := true, apart := false, narrowed := true }
def FnShamirUptoSaid : Prop := fnShamirUptoRow.holds Try.pinned (OpenSpec.upto fnShamirSpec)

/-- 'laws.FnShares', WHERE WHAT IT READS IS OF BULK AT MOST 1048576: true; the input reads as it did. -/
def fnSharesUptoRow : OpenClaim := { program := "ytekaaoeojbclfaa", sum := "772167be8f1a290c66d20f3fe0a3e4c8ea171c94a9cd6a8b504ad50b60215fa4", func := "loop.example/g00294/laws.FnShares", spec := "fnShares", unfollowed := true, recurses := true, apart := false, narrowed := true }
def FnSharesUptoSaid : Prop := fnSharesUptoRow.holds Try.pinned (OpenSpec.upto fnSharesSpec)

/-- 'laws.FnExactRandomFor', WHERE WHAT IT READS IS OF BULK AT MOST 1048576: true; the input reads as it did. -/
def fnExactRandomForUptoRow : OpenClaim := { program := "ytekaaoeojbclfaa", sum := "772167be8f1a290c66d20f3fe0a3e4c8ea171c94a9cd6a8b504ad50b60215fa4", func := "loop.example/g00294/laws.FnExactRandomFor", spec := "fnExactRandomFor", unfollowed := true, recurses := true, apart := false, narrowed := true }
def FnExactRandomForUptoSaid : Prop := fnExactRandomForUptoRow.holds Try.pinned (OpenSpec.upto fnExactRandomForSpec)

/-- 'laws.FnSecret', WHERE WHAT IT READS IS OF BULK AT MOST 1048576: true; the input reads as it did. -/
def fnSecretUptoRow : OpenClaim := { program := "ytekaaoeojbclfaa", sum := "772167be8f1a290c66d20f3fe0a3e4c8ea171c94a9cd6a8b504ad50b60215fa4", func := "loop.example/g00294/laws.FnSecret", spec := "fnSecret", unfollowed := true, recurses := true, apart := false, narrowed := true }
def FnSecretUptoSaid : Prop := fnSecretUptoRow.holds Try.pinned (OpenSpec.upto fnSecretSpec)

end Rows
end Go.Proofs.Ytekaaoeojbclfaa
