/- The law FnExactCountPattern answers true for every pair of texts: the program counts a pattern just as the reference does. -/
import Derived.Test.YtkpdpblgnhoplaaPFnExactCountPatternx1
import Derived.Test.YtkpdpblgnhoplaaKKit
set_option linter.unusedVariables false
set_option linter.unusedSimpArgs false
namespace Go.Proofs.Ytkpdpblgnhoplaa.Pure
open Go Go.RowKit Go.Proofs.Ytkpdpblgnhoplaa Go.Proofs.Ytkpdpblgnhoplaa.PFnExactCountPattern Go.Proofs.YtkpdpblgnhoplaaW.PrintWords Go.Proofs.YtkpdpblgnhoplaaW.PrintLast Go.Proofs.YtkpdpblgnhoplaaW.PrintMore


theorem prefix_ev (a b : ByteArray) (hb : b.size ≤ a.size) (ha : a.size ≤ 1048576) : strings_HasPrefix.f a b = some ((a.extract 0 b.size).toList == b.toList) := by
  simp only [strings_HasPrefix.f, stringslite_HasPrefix.f, if_pos (show (a.size : Int) ≥ (b.size : Int) by omega), if_pos (show 0 ≤ (b.size : Int) by omega), if_pos (show (b.size : Int) ≤ (a.size : Int) by omega), Option.bind_some, Int.toNat_natCast]
theorem count_same (a b : ByteArray) (ha : a.size ≤ 120) (hb : b.size ≤ a.size) : ∃ r : Int × Bool, Ev (fun k => spec_CountPattern.l0 k a b 0 (a.size : Int) 0) r ∧ Ev (fun k => impl_CountPattern.l0 k a b 0 (a.size : Int) 0) r := by
  have key : ∀ (d n : Nat) (c : Int), n + d = a.size → ∃ r : Int × Bool, Ev (fun k => spec_CountPattern.l0 k a b c (a.size : Int) (n : Int)) r ∧ Ev (fun k => impl_CountPattern.l0 k a b c (a.size : Int) (n : Int)) r := by
    intro d
    induction d with
    | zero =>
      intro n c h
      refine ⟨(c, true), ?_, ?_⟩ <;> apply K.Ev.succ
      · simp only [spec_CountPattern.l0, if_neg (show ¬ ((n : Int) < (a.size : Int)) by omega)]; exact Ev.now _
      · simp only [impl_CountPattern.l0, if_neg (show ¬ ((n : Int) < (a.size : Int)) by omega)]; exact Ev.now _
    | succ d ih =>
      intro n c h
      have c1 : (n : Int) < (a.size : Int) := by omega
      have c2 : 0 ≤ (n : Int) := by omega
      have c3 : (n : Int) ≤ (a.size : Int) := by omega
      have ws := K.w64s n (show n < 9223372036854775807 by omega)
      have hs : (a.extract n a.size).size + (a.extract 0 n).size = a.size := by simp only [ByteArray.size_extract]; omega
      have hs2 : (a.extract n a.size ++ a.extract 0 n).size = a.size := by rw [ByteArray.size_append]; exact hs
      have c4 : (a.extract n a.size).size + (a.extract 0 n).size ≤ 9223372036854775807 := by omega
      have ht : spec_l11Turn.f a (n : Int) = some (a.extract n a.size ++ a.extract 0 n) := by
        simp only [spec_l11Turn.f, if_pos c2, if_pos c3, Int.toNat_natCast, if_pos c4]
      have hp := prefix_ev (a.extract n a.size ++ a.extract 0 n) b (by omega) (by omega)
      by_cases hq : ((a.extract n a.size ++ a.extract 0 n).extract 0 b.size).toList = b.toList
      · have hq' : (((a.extract n a.size ++ a.extract 0 n).extract 0 b.size).toList == b.toList) = true := by simpa using hq
        rw [hq'] at hp
        obtain ⟨r, i1, i2⟩ := ih (n + 1) (wrap64 (c + 1)) (by omega)
        refine ⟨r, ?_, ?_⟩ <;> apply K.Ev.succ
        · simp only [spec_CountPattern.l0, if_pos c1, ht, Option.bind_some, if_pos (show 0 ≤ (b.size : Int) by omega), hs2, if_pos (show (b.size : Int) ≤ (a.size : Int) by omega), Int.toNat_natCast, if_pos hq, ws]; exact i1
        · simp only [impl_CountPattern.l0, if_pos c1, if_pos c2, if_pos c3, Int.toNat_natCast, if_pos c4, hp, Option.bind_some, if_true, ws]; exact i2
      · have hq' : (((a.extract n a.size ++ a.extract 0 n).extract 0 b.size).toList == b.toList) = false := by simpa using hq
        rw [hq'] at hp
        obtain ⟨r, i1, i2⟩ := ih (n + 1) c (by omega)
        refine ⟨r, ?_, ?_⟩ <;> apply K.Ev.succ
        · simp only [spec_CountPattern.l0, if_pos c1, ht, Option.bind_some, if_pos (show 0 ≤ (b.size : Int) by omega), hs2, if_pos (show (b.size : Int) ≤ (a.size : Int) by omega), Int.toNat_natCast, if_neg hq, ws]; exact i1
        · simp only [impl_CountPattern.l0, if_pos c1, if_pos c2, if_pos c3, Int.toNat_natCast, if_pos c4, hp, Option.bind_some, Bool.false_eq_true, if_false, ws]; exact i2
  exact key a.size 0 0 (by omega)
theorem countPattern_eq (a b : ByteArray) (ha : a.size ≤ 1048576) (hb : b.size ≤ 1048576) : ∃ r : Int × Bool, Ev (fun k => spec_CountPattern.f k a b) r ∧ Ev (fun k => impl_CountPattern.f k a b) r := by
  have bad : Ev (fun k => spec_CountPattern.j0 k a b true) (0, false) ∧ Ev (fun k => impl_CountPattern.j0 k a b true) (0, false) := by
    constructor <;> apply K.Ev.succ
    · simp only [spec_CountPattern.j0, if_true]; exact Ev.now _
    · simp only [impl_CountPattern.j0, if_true]; exact Ev.now _
  by_cases h : (a.size : Int) > 120
  · refine ⟨(0, false), ?_, ?_⟩
    · simp only [spec_CountPattern.f, if_pos h]; exact bad.1
    · simp only [impl_CountPattern.f, impl_isTurnable.f, decide_eq_false (show ¬ (a.size : Int) ≤ 120 by omega), Option.bind_some, Bool.false_eq_true, if_false]; exact bad.2
  have hq : ∃ t : Bool, spec_l1In.f (b.size : Int) 1 (a.size : Int) = some t ∧ impl_within.f (b.size : Int) 1 (a.size : Int) = some t ∧ (t = true → b.size ≤ a.size) := by
    by_cases h1 : (b.size : Int) ≥ 1
    · exact ⟨decide ((b.size : Int) ≤ (a.size : Int)), by simp only [spec_l1In.f, if_pos h1], by simp only [impl_within.f, if_pos h1], fun q => by simp at q; omega⟩
    · exact ⟨false, by simp only [spec_l1In.f, if_neg h1], by simp only [impl_within.f, if_neg h1], fun q => by cases q⟩
  obtain ⟨t, q1, q2, q3⟩ := hq
  cases t with
  | false =>
    refine ⟨(0, false), ?_, ?_⟩
    · simp only [spec_CountPattern.f, if_neg h, q1, Option.bind_some, Bool.not_false]; exact bad.1
    · simp only [impl_CountPattern.f, impl_isTurnable.f, decide_eq_true (show (a.size : Int) ≤ 120 by omega), Option.bind_some, if_true, q2, Bool.not_false]; exact bad.2
  | true =>
    obtain ⟨r, i1, i2⟩ := count_same a b (by omega) (q3 rfl)
    refine ⟨r, ?_, ?_⟩
    · simp only [spec_CountPattern.f, if_neg h, q1, Option.bind_some, Bool.not_true]
      apply K.Ev.succ
      simp only [spec_CountPattern.j0, Bool.false_eq_true, if_false]; exact i1
    · simp only [impl_CountPattern.f, impl_isTurnable.f, decide_eq_true (show (a.size : Int) ≤ 120 by omega), Option.bind_some, if_true, q2, Bool.not_true]
      apply K.Ev.succ
      simp only [impl_CountPattern.j0, Bool.false_eq_true, if_false]; exact i2
theorem FnExactCountPattern : laws_FnExactCountPattern.Pure := by
  intro a b _ _
  refine Ev.rounds (?_ : Ev (fun k => laws_FnExactCountPattern.f k a b) true)
  unfold laws_FnExactCountPattern.f
  by_cases ha : (a.size : Int) > 1048576
  · simp only [if_pos ha]; exact Ev.now _
  simp only [if_neg ha]
  by_cases hb : (b.size : Int) > 1048576
  · simp only [if_pos hb]; exact Ev.now _
  simp only [if_neg hb]
  obtain ⟨r, e1, e2⟩ := countPattern_eq a b (by omega) (by omega)
  refine Ev.bind e1 ?_
  refine Ev.bind e2 ?_
  simp only [if_true, bne_self_eq_false, Bool.false_eq_true, if_false]
  exact Ev.now _

end Go.Proofs.Ytkpdpblgnhoplaa.Pure
