/- Lists of numbers that are sorted: plain Lean, with no program in sight. -/
import Derived.Test.YtimajkahadhhhaaKKit
set_option linter.unusedVariables false
set_option linter.unusedSimpArgs false
namespace Go.Proofs.Ytimajkahadhhhaa.K
open Go Go.RowKit Go.Proofs.YtimajkahadhhhaaW.PrintWords
/-- The places of a list of bools that hold true, from i on. -/
def trues : Nat → List Bool → List Int
  | _, [] => []
  | i, b :: l => if b then (i : Int) :: trues (i + 1) l else trues (i + 1) l
theorem trues_mem : ∀ (l : List Bool) (i : Nat) (x : Int), x ∈ trues i l ↔ ∃ j : Nat, x = ((i + j : Nat) : Int) ∧ l[j]? = some true
  | [], i, x => by simp [trues]
  | b :: l, i, x => by
    have ih := trues_mem l (i + 1) x
    cases b with
    | true =>
      simp only [trues, if_true, List.mem_cons, ih]
      constructor
      · rintro (rfl | ⟨j, rfl, h⟩)
        · exact ⟨0, rfl, rfl⟩
        · exact ⟨j + 1, by omega, by simpa using h⟩
      · rintro ⟨j, rfl, h⟩
        cases j with
        | zero => exact .inl rfl
        | succ j => exact .inr ⟨j, by omega, by simpa using h⟩
    | false =>
      simp only [trues, Bool.false_eq_true, if_false, ih]
      constructor
      · rintro ⟨j, rfl, h⟩
        exact ⟨j + 1, by omega, by simpa using h⟩
      · rintro ⟨j, rfl, h⟩
        cases j with
        | zero => simp at h
        | succ j => exact ⟨j, by omega, by simpa using h⟩
theorem trues_sorted : ∀ (l : List Bool) (i : Nat), (trues i l).Pairwise (· < ·)
  | [], i => List.Pairwise.nil
  | b :: l, i => by
    cases b with
    | true =>
      simp only [trues, if_true]
      refine List.Pairwise.cons (fun x hx => ?_) (trues_sorted l (i + 1))
      obtain ⟨j, rfl, _⟩ := (trues_mem l (i + 1) x).mp hx
      omega
    | false =>
      simp only [trues, Bool.false_eq_true, if_false]
      exact trues_sorted l (i + 1)
theorem nodup_of_lt {l : List Int} (h : l.Pairwise (· < ·)) : l.Nodup := h.imp (fun hab e => by omega)
/-- Two lists without repetition and with the same members: the one that is sorted is the other one, sorted. -/
theorem sort_unique {l m : List Int} (hl : l.Nodup) (hm : m.Pairwise (· < ·)) (h : ∀ x, x ∈ l ↔ x ∈ m) : (l.mergeSort fun x y => decide (x ≤ y)) = m := by
  have h1 : (l.mergeSort fun x y => decide (x ≤ y)).Pairwise (fun a b => a ≤ b) := by
    have := List.pairwise_mergeSort (le := fun x y : Int => decide (x ≤ y)) (fun a b c hab hbc => by simp at *; omega) (fun a b => by simp; omega) l
    exact this.imp (fun h => by simpa using h)
  have h2 : m.Pairwise (fun a b => a ≤ b) := hm.imp (fun h => by omega)
  have h3 : List.Perm (l.mergeSort fun x y => decide (x ≤ y)) m := (List.mergeSort_perm l _).trans ((List.perm_ext_iff_of_nodup hl (nodup_of_lt hm)).mpr h)
  exact List.Perm.eq_of_pairwise (fun a b _ _ hab hba => by omega) h1 h2 h3
end Go.Proofs.Ytimajkahadhhhaa.K
