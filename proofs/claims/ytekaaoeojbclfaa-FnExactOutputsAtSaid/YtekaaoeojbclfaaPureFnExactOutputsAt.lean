/- The law FnExactOutputsAt answers true for all numbers: the program's outputs for a state and a bit are the reference's. -/
import Derived.Test.YtekaaoeojbclfaaPFnExactOutputsAtx1
import Derived.Test.YtekaaoeojbclfaaKKit
set_option linter.unusedVariables false
set_option linter.unusedSimpArgs false
namespace Go.Proofs.Ytekaaoeojbclfaa.Pure
open Go Go.RowKit Go.Proofs.Ytekaaoeojbclfaa Go.Proofs.Ytekaaoeojbclfaa.PFnExactOutputsAt Go.Proofs.YtekaaoeojbclfaaW.PrintWords Go.Proofs.YtekaaoeojbclfaaW.PrintLast Go.Proofs.YtekaaoeojbclfaaW.PrintMore


theorem FnExactOutputsAt : laws_FnExactOutputsAt.Pure := by
  intro s b hs hb
  by_cases h : 0 ≤ s ∧ s ≤ 3
  · by_cases h2 : 0 ≤ b ∧ b ≤ 1
    · have e : s = 0 ∨ s = 1 ∨ s = 2 ∨ s = 3 := by omega
      have e2 : b = 0 ∨ b = 1 := by omega
      rcases e with rfl | rfl | rfl | rfl <;> rcases e2 with rfl | rfl <;>
        (unfold laws_FnExactOutputsAt.f; simp only [K.toList_data]; decide +kernel)
    · have q : spec_l1In.f b 0 1 = some false := by
        unfold spec_l1In.f; split
        · simp; omega
        · rfl
      have q2 : impl_within.f b 0 1 = some false := q
      have p : spec_l1In.f s 0 3 = some true := by
        unfold spec_l1In.f; rw [if_pos h.1]; simp [h.2]
      have p2 : impl_within.f s 0 3 = some true := p
      simp [laws_FnExactOutputsAt.f, spec_OutputsAt.f, impl_OutputsAt.f, p, p2, q, q2]
  · have q : spec_l1In.f s 0 3 = some false := by
      unfold spec_l1In.f; split
      · simp; omega
      · rfl
    have q2 : impl_within.f s 0 3 = some false := q
    simp [laws_FnExactOutputsAt.f, spec_OutputsAt.f, impl_OutputsAt.f, q, q2]

end Go.Proofs.Ytekaaoeojbclfaa.Pure
