/- Numbers out of binary digits: plain Lean, with no program in sight. -/
import Derived.Test.YtaoemgkalmhnbaaDoorKKit
set_option linter.unusedVariables false
set_option linter.unusedSimpArgs false
namespace Go.Proofs.YtaoemgkalmhnbaaDoor.K
open Go Go.RowKit Go.Proofs.YtaoemgkalmhnbaaDoorW.PrintWords
theorem strOf_append (x y : List Int) : strOfNums (x ++ y) = strOfNums x ++ strOfNums y := by
  apply ByteArray.ext
  simp [strOfNums]
/-- The value of binary digits, on from a. -/
def valB (a : Nat) : List Nat → Nat
  | [] => a
  | d :: l => valB (2 * a + d) l
theorem valB_snoc : ∀ (l : List Nat) (a d : Nat), valB a (l ++ [d]) = 2 * valB a l + d
  | [], a, d => rfl
  | x :: l, a, d => valB_snoc l _ d
theorem valB_ge : ∀ (l : List Nat) (a : Nat), a ≤ valB a l
  | [], a => Nat.le_refl _
  | x :: l, a => Nat.le_trans (by omega) (valB_ge l (2 * a + x))
theorem valB_grow : ∀ (l : List Nat) (a : Nat), a * 2 ^ l.length ≤ valB a l
  | [], a => by simp [valB]
  | x :: l, a => by
    have := valB_grow l (2 * a + x)
    rw [List.length_cons, Nat.pow_succ]
    refine Nat.le_trans ?_ this
    rw [Nat.mul_comm (2 ^ l.length) 2, ← Nat.mul_assoc]
    exact Nat.mul_le_mul_right _ (by omega)
theorem valB_lt : ∀ (l : List Nat) (a : Nat), (∀ d ∈ l, d < 2) → valB a l < (a + 1) * 2 ^ l.length
  | [], a, _ => by simp [valB]
  | x :: l, a, h => by
    have := valB_lt l (2 * a + x) (fun d hd => h d (List.mem_cons_of_mem _ hd))
    have hx := h x List.mem_cons_self
    rw [List.length_cons, Nat.pow_succ]
    refine Nat.lt_of_lt_of_le this ?_
    rw [Nat.mul_comm (2 ^ l.length) 2, ← Nat.mul_assoc]
    exact Nat.mul_le_mul_right _ (by omega)
/-- How many of a list's first elements are 48. -/
def lead : List Int → Nat
  | [] => 0
  | x :: l => if x = 48 then lead l + 1 else 0
theorem lead_le : ∀ l, lead l ≤ l.length
  | [] => Nat.le_refl _
  | x :: l => by
    unfold lead
    split
    · have := lead_le l; rw [List.length_cons]; omega
    · omega
theorem lead_at : ∀ (l : List Int) (i : Nat), i < lead l → l[i]? = some 48
  | [], i, h => by simp [lead] at h
  | x :: l, i, h => by
    unfold lead at h
    split at h
    · cases i with
      | zero => simp_all
      | succ i => rw [List.getElem?_cons_succ]; exact lead_at l i (by omega)
    · omega
theorem lead_end : ∀ (l : List Int), l[lead l]? ≠ some 48
  | [] => by simp [lead]
  | x :: l => by
    unfold lead
    split
    · rw [List.getElem?_cons_succ]; exact lead_end l
    · simp_all
end Go.Proofs.YtaoemgkalmhnbaaDoor.K
