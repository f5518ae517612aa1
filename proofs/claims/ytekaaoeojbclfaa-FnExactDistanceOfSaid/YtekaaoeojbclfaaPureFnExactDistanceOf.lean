/- The law FnExactDistanceOf answers true for all slices of bytes: the program counts the places of difference as the reference does, and leaves the slices as they were. -/
import Derived.Test.YtekaaoeojbclfaaPFnExactDistanceOfx2
import Derived.Test.YtekaaoeojbclfaaKKit
set_option linter.unusedVariables false
set_option linter.unusedSimpArgs false
namespace Go.Proofs.Ytekaaoeojbclfaa.Pure
open Go Go.RowKit Go.Proofs.Ytekaaoeojbclfaa Go.Proofs.Ytekaaoeojbclfaa.PFnExactDistanceOf Go.Proofs.YtekaaoeojbclfaaW.PrintWords Go.Proofs.YtekaaoeojbclfaaW.PrintLast Go.Proofs.YtekaaoeojbclfaaW.PrintMore


theorem laws_toByteS_ev (l : List Int) (hl : l.length ≤ 1048576) : Ev (fun k => laws_toByteS.f k l) (l) := by
  have key : ∀ (d n : Nat) (x : List _), n + d = l.length → x.length = l.length → x.take n = (l).take n → Ev (fun k => laws_toByteS.l0 k l x (n : Int)) (l) := by
    intro d
    induction d with
    | zero =>
      intro n x h1 h2 h3
      apply K.Ev.succ
      simp only [laws_toByteS.l0, if_neg (show ¬ ((n : Int) < (l.length : Int)) by omega)]
      have e : x = (l) := by
        rw [List.take_of_length_le (by omega), List.take_of_length_le (by first | omega | (simp; omega))] at h3; exact h3
      rw [e]; exact Ev.now _
    | succ d ih =>
      intro n x h1 h2 h3
      apply K.Ev.succ
      have hn : n < l.length := by omega
      simp only [laws_toByteS.l0, if_pos (show (n : Int) < (l.length : Int) by omega), if_pos (show (0 : Int) ≤ (n : Int) by omega), if_pos (show (n : Int) < (x.length : Int) by omega), Int.toNat_natCast]
      
      rw [K.w64s n (by omega)]
      refine ih (n + 1) _ (by omega) (by simpa using h2) ?_
      rw [K.take_set _ _ _ (by omega), K.take_succ' (l) n (by simpa using hn), h3]
      rw [K.rd_nat hn]
  unfold laws_toByteS.f
  simp only [if_pos (show (0 : Int) ≤ (l.length : Int) by omega), Int.toNat_natCast, if_pos (show l.length ≤ 281474976710656 by omega)]
  exact key l.length 0 _ (by omega) (by simp) (by simp)


theorem laws_eqByteS_self (l : List Int) (hl : l.length ≤ 140737488355328) : Ev (fun k => laws_eqByteS.f k l l) true := by
  have key : ∀ (d n : Nat), n + d = l.length → Ev (fun k => laws_eqByteS.l0 k l l (n : Int)) true := by
    intro d
    induction d with
    | zero =>
      intro n h1
      apply K.Ev.succ
      simp only [laws_eqByteS.l0, if_neg (show ¬ ((n : Int) < (l.length : Int)) by omega)]
      exact Ev.now _
    | succ d ih =>
      intro n h1
      apply K.Ev.succ
      simp only [laws_eqByteS.l0, if_pos (show (n : Int) < (l.length : Int) by omega), if_pos (show (0 : Int) ≤ (n : Int) by omega), if_true]
      rw [K.w64s n (by omega)]
      exact ih (n + 1) (by omega)
  unfold laws_eqByteS.f
  simp only [if_true]
  exact key l.length 0 (by omega)

theorem dist_same (a b : List Int) (hl : a.length ≤ 1048576) (hab : a.length = b.length) : ∃ r : Int, Ev (fun k => spec_DistanceOf.l0 k a b 0 (a.length : Int) 0) (r, true) ∧ Ev (fun k => impl_DistanceOf.l0 k b 0 a (a.length : Int) 0) (r, true) := by
  have key : ∀ (d n : Nat) (c : Int), n + d = a.length → 0 ≤ c → c ≤ n → ∃ r : Int, Ev (fun k => spec_DistanceOf.l0 k a b c (a.length : Int) (n : Int)) (r, true) ∧ Ev (fun k => impl_DistanceOf.l0 k b c a (a.length : Int) (n : Int)) (r, true) := by
    intro d
    induction d with
    | zero =>
      intro n c h1 h2 h3
      refine ⟨c, ?_, ?_⟩ <;> apply K.Ev.succ
      · simp only [spec_DistanceOf.l0, if_neg (show ¬ ((n : Int) < (a.length : Int)) by omega)]; exact Ev.now _
      · simp only [impl_DistanceOf.l0, if_neg (show ¬ ((n : Int) < (a.length : Int)) by omega)]; exact Ev.now _
    | succ d ih =>
      intro n c h1 h2 h3
      have a1 : (n : Int) < (a.length : Int) := by omega
      have b1 : (n : Int) < (b.length : Int) := by omega
      have a0 : (0 : Int) ≤ (n : Int) := by omega
      have wc : wrap64 (c + 1) = c + 1 := K.w64 (by omega) (by omega)
      by_cases hc : rd a (n : Int) = rd b (n : Int)
      · obtain ⟨r, e1, e2⟩ := ih (n + 1) c (by omega) (by omega) (by omega)
        refine ⟨r, ?_, ?_⟩ <;> apply K.Ev.succ
        · simp only [spec_DistanceOf.l0, if_pos a1, if_pos a0, if_pos b1, if_pos hc, K.w64s n (by omega)]; exact e1
        · simp only [impl_DistanceOf.l0, if_pos a1, if_pos a0, if_pos b1, if_pos hc, K.w64s n (by omega)]; exact e2
      · obtain ⟨r, e1, e2⟩ := ih (n + 1) (c + 1) (by omega) (by omega) (by omega)
        refine ⟨r, ?_, ?_⟩ <;> apply K.Ev.succ
        · simp only [spec_DistanceOf.l0, if_pos a1, if_pos a0, if_pos b1, if_neg hc, wc, K.w64s n (by omega)]; exact e1
        · simp only [impl_DistanceOf.l0, if_pos a1, if_pos a0, if_pos b1, if_neg hc, wc, K.w64s n (by omega)]; exact e2
  exact key a.length 0 0 (by omega) (by omega) (by omega)
theorem dist_eq (a b : List Int) (hl : a.length ≤ 1048576) : ∃ r, Ev (fun k => spec_DistanceOf.f k a b) r ∧ Ev (fun k => impl_DistanceOf.f k a b) r := by
  by_cases hab : (a.length : Int) = (b.length : Int)
  · obtain ⟨r, e1, e2⟩ := dist_same a b hl (by omega)
    by_cases h : (a.length : Int) > 24
    · refine ⟨(0, false), ?_, ?_⟩
      · simp only [spec_DistanceOf.f, if_pos hab, decide_eq_true h]; apply K.Ev.succ; simp only [spec_DistanceOf.j0, if_true]; exact Ev.now _
      · simp only [impl_DistanceOf.f, if_pos hab, decide_eq_true h]; apply K.Ev.succ; simp only [impl_DistanceOf.j0, if_true]; exact Ev.now _
    · refine ⟨(r, true), ?_, ?_⟩
      · simp only [spec_DistanceOf.f, if_pos hab, decide_eq_false h]; apply K.Ev.succ; simp only [spec_DistanceOf.j0, Bool.false_eq_true, if_false]; exact e1
      · simp only [impl_DistanceOf.f, if_pos hab, decide_eq_false h]; apply K.Ev.succ; simp only [impl_DistanceOf.j0, Bool.false_eq_true, if_false]; exact e2
  · refine ⟨(0, false), ?_, ?_⟩
    · simp only [spec_DistanceOf.f, if_neg hab]; apply K.Ev.succ; simp only [spec_DistanceOf.j0, if_true]; exact Ev.now _
    · simp only [impl_DistanceOf.f, if_neg hab]; apply K.Ev.succ; simp only [impl_DistanceOf.j0, if_true]; exact Ev.now _
theorem FnExactDistanceOf : laws_FnExactDistanceOf.Pure := by
  intro a b _ ha _ _ hb _
  refine Ev.rounds (?_ : Ev (fun k => laws_FnExactDistanceOf.f k a b) true)
  unfold laws_FnExactDistanceOf.f
  by_cases h : (a.length : Int) > 1048576
  · simp only [if_pos h]; exact Ev.now _
  by_cases h2 : (b.length : Int) > 1048576
  · simp only [if_neg h, if_pos h2]; exact Ev.now _
  simp only [if_neg h, if_neg h2]
  have h' : a.length ≤ 1048576 := by omega
  have h2' : b.length ≤ 1048576 := by omega
  obtain ⟨r, e1, e2⟩ := dist_eq a b h'
  refine Ev.bind (laws_toByteS_ev a h') ?_
  refine Ev.bind (laws_toByteS_ev b h2') ?_
  refine Ev.bind e1 ?_
  refine Ev.bind (laws_toByteS_ev a h') ?_
  refine Ev.bind (laws_toByteS_ev b h2') ?_
  refine Ev.bind e2 ?_
  simp only [if_true, bne_self_eq_false]
  apply K.Ev.succ
  simp only [laws_FnExactDistanceOf.j0, Bool.false_eq_true, if_false]
  refine Ev.bind (laws_toByteS_ev a h') ?_
  refine Ev.bind (laws_eqByteS_self a (by omega)) ?_
  simp only [if_true]
  refine Ev.bind (laws_toByteS_ev b h2') ?_
  refine Ev.bind (laws_eqByteS_self b (by omega)) ?_
  simp only [if_true]
  exact Ev.now _

end Go.Proofs.Ytekaaoeojbclfaa.Pure
