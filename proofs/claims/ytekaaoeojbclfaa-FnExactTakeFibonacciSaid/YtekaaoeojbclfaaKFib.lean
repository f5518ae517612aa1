/- The sequence 1, 2, 3, 5, 8 and what is told of it: plain Lean. -/
import Derived.Test.YtekaaoeojbclfaaKKit
namespace Go.Proofs.Ytekaaoeojbclfaa.K
open Go.RowKit Go.Proofs.YtekaaoeojbclfaaW.PrintWords
/-- The sequence 1, 2, 3, 5, 8. -/
def fib0 : Nat → Int
  | 0 => 1
  | 1 => 2
  | n + 2 => fib0 n + fib0 (n + 1)
theorem fib_ex : ∃ f : Nat → Int, f = fib0 := ⟨_, rfl⟩
/-- The same, so that nothing reckons with it by sight. -/
noncomputable def fibL : Nat → Int := Classical.choose fib_ex
theorem fibL_eq : fibL = fib0 := Classical.choose_spec fib_ex
theorem fibL_0 : fibL 0 = 1 := by rw [fibL_eq]; rfl
theorem fibL_1 : fibL 1 = 2 := by rw [fibL_eq]; rfl
theorem fibL_succ (n : Nat) : fibL (n + 2) = fibL n + fibL (n + 1) := by rw [fibL_eq]; rfl
theorem fibL_pos : ∀ n, 1 ≤ fibL n ∧ 1 ≤ fibL (n + 1)
  | 0 => by rw [fibL_0, fibL_1]; decide
  | n + 1 => by
    have := fibL_pos n
    refine ⟨this.2, ?_⟩
    rw [fibL_succ]
    omega
theorem fibL_step (n : Nat) : fibL n < fibL (n + 1) := by
  match n with
  | 0 => rw [fibL_0, fibL_1]; decide
  | n + 1 =>
    rw [fibL_succ]
    have := (fibL_pos n).1
    omega
theorem fibL_mono {a b : Nat} (h : a ≤ b) : fibL a ≤ fibL b := by
  induction h with
  | refl => exact Int.le_refl _
  | step _ ih => exact Int.le_trans ih (Int.le_of_lt (fibL_step _))
theorem fibL_29 : fibL 29 = 1346269 := by rw [fibL_eq]; decide +kernel
theorem fibL_30 : fibL 30 = 2178309 := by rw [fibL_eq]; decide +kernel
theorem fibL_31 : fibL 31 = 3524578 := by rw [fibL_eq]; decide +kernel
theorem fibL_28 : fibL 28 = 832040 := by rw [fibL_eq]; decide +kernel
/-- The first m of them. -/
noncomputable def fibs (m : Nat) : List Int := (List.range m).map fibL
theorem fibs_length (m : Nat) : (fibs m).length = m := by simp [fibs]
theorem fibs_succ (m : Nat) : fibs (m + 1) = fibs m ++ [fibL m] := by simp [fibs, List.range_succ]
theorem rd_fibs {m i : Nat} (h : i < m) : rd (fibs m) (i : Int) = fibL i := by
  rw [rd_nat (by rw [fibs_length]; exact h)]; simp [fibs]
end Go.Proofs.Ytekaaoeojbclfaa.K
