import Derived.Test.YtbloniemhkfnlaaKKit
set_option linter.unusedVariables false
set_option linter.unusedSimpArgs false
namespace Go.Proofs.Ytbloniemhkfnlaa.K
open Go Go.RowKit Go.Proofs.YtbloniemhkfnlaaW.PrintWords

def ham : List Int → List Int → Nat
  | x :: a, y :: b => (if x = y then 0 else 1) + ham a b
  | _, _ => 0
def outB (s b : Nat) : List Int := [48 + ((b + s / 2 + s % 2) % 2 : Nat), 48 + ((b + s % 2) % 2 : Nat), 48 + ((b + s / 2) % 2 : Nat)]
def nextS (s b : Nat) : Nat := 2 * b + s / 2
def encL : Nat → List Nat → List Int
  | _, [] => []
  | s, b :: l => outB s b ++ encL (nextS s b) l
def Bits (l : List Nat) : Prop := ∀ b ∈ l, b < 2
def val : List Nat → Nat
  | [] => 0
  | b :: l => b * 2 ^ l.length + val l
theorem Bits.append {l m : List Nat} (h : Bits l) (h2 : Bits m) : Bits (l ++ m) := fun x hx => by
  rcases List.mem_append.1 hx with q | q
  · exact h x q
  · exact h2 x q
theorem Bits.left {l m : List Nat} (h : Bits (l ++ m)) : Bits l := fun x hx => h x (List.mem_append.2 (.inl hx))
def cost (R : List Int) (l : List Nat) : Nat := ham (encL 0 l) R
end Go.Proofs.Ytbloniemhkfnlaa.K
