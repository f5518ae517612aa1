/- Strings of bits, how many places two strings differ in; plain Lean. -/
import Derived.Test.YtaofmiigbhfnbaaDoorKKit
set_option linter.unusedVariables false
set_option linter.unusedSimpArgs false
namespace Go.Proofs.YtaofmiigbhfnbaaDoor.K
open Go Go.RowKit Go.Proofs.YtaofmiigbhfnbaaDoorW.PrintWords

/-- In how many places two lists differ. -/
def ham : List Int → List Int → Nat
  | x :: a, y :: b => (if x = y then 0 else 1) + ham a b
  | _, _ => 0
theorem ham_le : ∀ (a b : List Int), ham a b ≤ a.length
  | [], _ => by simp [ham]
  | _ :: _, [] => by simp [ham]
  | x :: a, y :: b => by
    have := ham_le a b
    simp only [ham, List.length_cons]
    split <;> omega
theorem ham_append : ∀ (a b c d : List Int), a.length = b.length → ham (a ++ c) (b ++ d) = ham a b + ham c d
  | [], [], c, d, _ => by simp [ham]
  | x :: a, y :: b, c, d, h => by
    have := ham_append a b c d (by simpa using h)
    simp only [List.cons_append, ham, this]
    omega
  | [], y :: b, _, _, h => by simp at h
  | x :: a, [], _, _, h => by simp at h
/-- Whether a string is one of the digits 0 and 1. -/
def bitsB (s : ByteArray) : Bool := (bytesOf s).all (fun x => x == 48 || x == 49)
theorem bytesOf_get (s : ByteArray) (n : Nat) (h : n < s.size) : bt s (n : Int) = (bytesOf s)[n]'(by rw [bytesOf_length]; exact h) := by
  rw [bt_bytes, List.getD_eq_getElem?_getD, List.getElem?_eq_getElem (by rw [bytesOf_length]; exact h), Option.getD_some]
theorem drop_bytes (s : ByteArray) (n : Nat) (h : n < s.size) : (bytesOf s).drop n = bt s (n : Int) :: (bytesOf s).drop (n + 1) := by
  rw [bytesOf_get s n h]
  exact List.drop_eq_getElem_cons _
end Go.Proofs.YtaofmiigbhfnbaaDoor.K
