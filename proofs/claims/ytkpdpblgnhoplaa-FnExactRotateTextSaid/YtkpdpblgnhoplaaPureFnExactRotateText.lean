/- The law FnExactRotateText answers true for every text and every number: the program's rotation of a text is the reference's. -/
import Derived.Test.YtkpdpblgnhoplaaPFnExactRotateTextx1
import Derived.Test.YtkpdpblgnhoplaaKKit
set_option linter.unusedVariables false
set_option linter.unusedSimpArgs false
namespace Go.Proofs.Ytkpdpblgnhoplaa.Pure
open Go Go.RowKit Go.Proofs.Ytkpdpblgnhoplaa Go.Proofs.Ytkpdpblgnhoplaa.PFnExactRotateText Go.Proofs.YtkpdpblgnhoplaaW.PrintWords Go.Proofs.YtkpdpblgnhoplaaW.PrintLast Go.Proofs.YtkpdpblgnhoplaaW.PrintMore


theorem FnExactRotateText : laws_FnExactRotateText.Pure := by
  intro s b hs hb
  obtain ⟨b0, b1⟩ := K.b_i64 hb
  unfold laws_FnExactRotateText.f
  by_cases h : (s.size : Int) > 1048576
  · rw [if_pos h]
  rw [if_neg h]
  have hw : wrap64 ((s.size : Int) - 1) = (s.size : Int) - 1 := K.w64 (by omega) (by omega)
  simp only [spec_RotateText.f, impl_RotateText.f, spec_l1In.f, impl_isTurnable.f, impl_within.f, hw, mx, Option.bind_some]
  by_cases h120 : (s.size : Int) > 120
  · simp [h120, show ¬ ((s.size : Int) ≤ 120) by omega]
  by_cases hz : s.size = 0
  · have e1 : s.toList = [] := (K.toList_nil s).2 hz
    by_cases hb0 : b = 0
    · subst hb0
      simp [hz, e1, h120, spec_l11Turn.f]
    · by_cases hb1 : b ≥ 0
      · simp [hz, e1, h120, hb0, hb1, show ¬ b ≤ -1 by omega, show ¬ b ≤ 0 by omega]
      · simp [hz, e1, h120, hb0, hb1]
  · have e1 : ¬ s.toList = [] := fun h => hz ((K.toList_nil s).1 h)
    have e2 : (if 0 < (s.size : Int) - 1 then (s.size : Int) - 1 else 0) = (s.size : Int) - 1 := by split <;> omega
    have e3 : ((s.extract b.toNat s.size).size + (s.extract 0 b.toNat).size ≤ 9223372036854775807) := by
      simp only [ByteArray.size_extract]; omega
    have h3 : ¬ ((s.size : Int) > 120) := h120
    have h4 : decide ((s.size : Int) ≤ 120) = true := by simp; omega
    simp only [if_neg h3, h4, e2, if_true, e1, if_false]
    by_cases hb1 : b ≥ 0
    · by_cases hb2 : b ≤ (s.size : Int) - 1
      · simp only [if_pos hb1, decide_eq_true hb2, Option.bind_some, if_true, spec_l11Turn.f, if_pos (show 0 ≤ b from hb1), if_pos (show b ≤ (s.size : Int) by omega), if_pos e3]
        simp
      · simp only [if_pos hb1, decide_eq_false hb2, Option.bind_some, Bool.false_eq_true, if_false]
        by_cases hb0 : b = 0 <;> simp [hb0]
    · simp only [if_neg hb1, Option.bind_some, Bool.false_eq_true, if_false]
      by_cases hb0 : b = 0 <;> simp [hb0]

end Go.Proofs.Ytkpdpblgnhoplaa.Pure
