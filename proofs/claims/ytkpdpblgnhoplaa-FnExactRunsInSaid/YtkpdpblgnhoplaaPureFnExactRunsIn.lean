/- The law FnExactRunsIn answers true for every text: the program counts a text's runs as the reference does. -/
import Derived.Test.YtkpdpblgnhoplaaPFnExactRunsInx1
import Derived.Test.YtkpdpblgnhoplaaKKit
set_option linter.unusedVariables false
set_option linter.unusedSimpArgs false
namespace Go.Proofs.Ytkpdpblgnhoplaa.Pure
open Go Go.RowKit Go.Proofs.Ytkpdpblgnhoplaa Go.Proofs.Ytkpdpblgnhoplaa.PFnExactRunsIn Go.Proofs.YtkpdpblgnhoplaaW.PrintWords Go.Proofs.YtkpdpblgnhoplaaW.PrintLast Go.Proofs.YtkpdpblgnhoplaaW.PrintMore


theorem runs_same (s : ByteArray) (hs : s.size ≤ 1048576) : ∃ r : Int, Ev (fun k => spec_l11Runs.f k s) r ∧ Ev (fun k => impl_RunsIn.l0 k s 0 (s.size : Int) 0) (r, true) := by
  have key : ∀ (d n : Nat) (c : Int), n + d = s.size → 0 ≤ c → c ≤ n → ∃ r : Int, Ev (fun k => spec_l11Runs.l0 k s c (n : Int)) r ∧ Ev (fun k => impl_RunsIn.l0 k s c (s.size : Int) (n : Int)) (r, true) := by
    intro d
    induction d with
    | zero =>
      intro n c h1 h2 h3
      refine ⟨c, ?_, ?_⟩ <;> apply K.Ev.succ
      · simp only [spec_l11Runs.l0, if_neg (show ¬ ((n : Int) < (s.size : Int)) by omega)]; exact Ev.now _
      · simp only [impl_RunsIn.l0, if_neg (show ¬ ((n : Int) < (s.size : Int)) by omega)]; exact Ev.now _
    | succ d ih =>
      intro n c h1 h2 h3
      have a1 : (n : Int) < (s.size : Int) := by omega
      have a0 : (0 : Int) ≤ (n : Int) := by omega
      have wc : wrap64 (c + 1) = c + 1 := K.w64 (by omega) (by omega)
      by_cases hz : n = 0
      · have hz' : (n : Int) = 0 := by omega
        obtain ⟨r, e1, e2⟩ := ih (n + 1) (c + 1) (by omega) (by omega) (by omega)
        refine ⟨r, ?_, ?_⟩ <;> apply K.Ev.succ
        · simp only [spec_l11Runs.l0, if_pos a1, if_pos hz', wc, K.w64s n (show n < 9223372036854775807 by omega)]; exact e1
        · simp only [impl_RunsIn.l0, if_pos a1, if_pos hz', wc, K.w64s n (show n < 9223372036854775807 by omega)]; exact e2
      · have nz : ¬ ((n : Int) = 0) := by omega
        have wp : wrap64 ((n : Int) - 1) = ((n - 1 : Nat) : Int) := by rw [K.w64 (by omega) (by omega)]; omega
        have b0 : (0 : Int) ≤ ((n - 1 : Nat) : Int) := by omega
        have b1 : ((n - 1 : Nat) : Int) < (s.size : Int) := by omega
        by_cases hc : bt s ((n - 1 : Nat) : Int) = bt s (n : Int)
        · obtain ⟨r, e1, e2⟩ := ih (n + 1) c (by omega) (by omega) (by omega)
          refine ⟨r, ?_, ?_⟩ <;> apply K.Ev.succ
          · simp only [spec_l11Runs.l0, if_pos a1, if_neg nz, wp, if_pos b0, if_pos b1, if_pos a0, if_pos hc, K.w64s n (show n < 9223372036854775807 by omega)]; exact e1
          · simp only [impl_RunsIn.l0, if_pos a1, if_neg nz, wp, if_pos b0, if_pos b1, if_pos a0, if_pos hc.symm, K.w64s n (show n < 9223372036854775807 by omega)]; exact e2
        · have hc' : ¬ bt s (n : Int) = bt s ((n - 1 : Nat) : Int) := fun e => hc e.symm
          obtain ⟨r, e1, e2⟩ := ih (n + 1) (c + 1) (by omega) (by omega) (by omega)
          refine ⟨r, ?_, ?_⟩ <;> apply K.Ev.succ
          · simp only [spec_l11Runs.l0, if_pos a1, if_neg nz, wp, if_pos b0, if_pos b1, if_pos a0, if_neg hc, wc, K.w64s n (show n < 9223372036854775807 by omega)]; exact e1
          · simp only [impl_RunsIn.l0, if_pos a1, if_neg nz, wp, if_pos b0, if_pos b1, if_pos a0, if_neg hc', wc, K.w64s n (show n < 9223372036854775807 by omega)]; exact e2
  obtain ⟨r, e1, e2⟩ := key s.size 0 0 (by omega) (by omega) (by omega)
  exact ⟨r, by simp only [spec_l11Runs.f]; exact e1, e2⟩
theorem FnExactRunsIn : laws_FnExactRunsIn.Pure := by
  intro s hs
  refine Ev.rounds (?_ : Ev (fun k => laws_FnExactRunsIn.f k s) true)
  unfold laws_FnExactRunsIn.f
  by_cases h : (s.size : Int) > 1048576
  · simp only [if_pos h]; exact Ev.now _
  simp only [if_neg h]
  obtain ⟨r, e1, e2⟩ := runs_same s (by omega)
  by_cases h120 : (s.size : Int) > 120
  · simp only [spec_RunsIn.f, impl_RunsIn.f, impl_isTurnable.f, if_pos h120, show decide ((s.size : Int) ≤ 120) = false by simp; omega, Option.bind_some]
    exact K.Ev.const (by simp)
  · simp only [spec_RunsIn.f, impl_RunsIn.f, impl_isTurnable.f, if_neg h120, show decide ((s.size : Int) ≤ 120) = true by simp; omega, Option.bind_some, if_true]
    refine Ev.bind (Ev.bind e1 (Ev.now (r, true))) ?_
    refine Ev.bind e2 ?_
    exact K.Ev.const (by simp)

end Go.Proofs.Ytkpdpblgnhoplaa.Pure
