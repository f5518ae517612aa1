/- The law FnExactSmallIn answers true for every slice of bytes and every number: the program counts the small bytes as the reference does, and leaves the slice as it was. -/
import Derived.Test.YtkpdpblgnhoplaaPFnExactSmallInx2
import Derived.Test.YtkpdpblgnhoplaaKKit
set_option linter.unusedVariables false
set_option linter.unusedSimpArgs false
namespace Go.Proofs.Ytkpdpblgnhoplaa.Pure
open Go Go.RowKit Go.Proofs.Ytkpdpblgnhoplaa Go.Proofs.Ytkpdpblgnhoplaa.PFnExactSmallIn Go.Proofs.YtkpdpblgnhoplaaW.PrintWords Go.Proofs.YtkpdpblgnhoplaaW.PrintLast Go.Proofs.YtkpdpblgnhoplaaW.PrintMore


theorem laws_toByteS_ev (l : List Int) (hl : l.length ≤ 1048576) : Ev (fun k => laws_toByteS.f k l) (l) := by
  have key : ∀ (d n : Nat) (x : List _), n + d = l.length → x.length = l.length → x.take n = (l).take n → Ev (fun k => laws_toByteS.l0 k l x (n : Int)) (l) := by
    intro d
    induction d with
    | zero =>
      intro n x h1 h2 h3
      apply K.Ev.succ
      simp only [laws_toByteS.l0, if_neg (show ¬ ((n : Int) < (l.length : Int)) by omega)]
      have e : x = (l) := by
        rw [List.take_of_length_le (by omega), List.take_of_length_le (by first | omega | (simp; omega))] at h3; exact h3
      rw [e]; exact Ev.now _
    | succ d ih =>
      intro n x h1 h2 h3
      apply K.Ev.succ
      have hn : n < l.length := by omega
      simp only [laws_toByteS.l0, if_pos (show (n : Int) < (l.length : Int) by omega), if_pos (show (0 : Int) ≤ (n : Int) by omega), if_pos (show (n : Int) < (x.length : Int) by omega), Int.toNat_natCast]
      
      rw [K.w64s n (by omega)]
      refine ih (n + 1) _ (by omega) (by simpa using h2) ?_
      rw [K.take_set _ _ _ (by omega), K.take_succ' (l) n (by simpa using hn), h3]
      rw [K.rd_nat hn]
  unfold laws_toByteS.f
  simp only [if_pos (show (0 : Int) ≤ (l.length : Int) by omega), Int.toNat_natCast, if_pos (show l.length ≤ 281474976710656 by omega)]
  exact key l.length 0 _ (by omega) (by simp) (by simp)


theorem laws_eqByteS_self (l : List Int) (hl : l.length ≤ 140737488355328) : Ev (fun k => laws_eqByteS.f k l l) true := by
  have key : ∀ (d n : Nat), n + d = l.length → Ev (fun k => laws_eqByteS.l0 k l l (n : Int)) true := by
    intro d
    induction d with
    | zero =>
      intro n h1
      apply K.Ev.succ
      simp only [laws_eqByteS.l0, if_neg (show ¬ ((n : Int) < (l.length : Int)) by omega)]
      exact Ev.now _
    | succ d ih =>
      intro n h1
      apply K.Ev.succ
      simp only [laws_eqByteS.l0, if_pos (show (n : Int) < (l.length : Int) by omega), if_pos (show (0 : Int) ≤ (n : Int) by omega), if_true]
      rw [K.w64s n (by omega)]
      exact ih (n + 1) (by omega)
  unfold laws_eqByteS.f
  simp only [if_true]
  exact key l.length 0 (by omega)

theorem small_same (l : List Int) (b : Int) (hl : l.length ≤ 1048576) (hx : ∀ x ∈ l, 0 ≤ x ∧ x ≤ 255) : ∃ r : Int, Ev (fun k => spec_SmallIn.l0 k b 0 l (l.length : Int) 0) (r, true) ∧ Ev (fun k => impl_SmallIn.l0 k b 0 l (l.length : Int) 0) (r, true) := by
  have key : ∀ (d n : Nat) (c : Int), n + d = l.length → 0 ≤ c → c ≤ n → ∃ r : Int, Ev (fun k => spec_SmallIn.l0 k b c l (l.length : Int) (n : Int)) (r, true) ∧ Ev (fun k => impl_SmallIn.l0 k b c l (l.length : Int) (n : Int)) (r, true) := by
    intro d
    induction d with
    | zero =>
      intro n c h1 h2 h3
      refine ⟨c, ?_, ?_⟩ <;> apply K.Ev.succ
      · simp only [spec_SmallIn.l0, if_neg (show ¬ ((n : Int) < (l.length : Int)) by omega)]; exact Ev.now _
      · simp only [impl_SmallIn.l0, if_neg (show ¬ ((n : Int) < (l.length : Int)) by omega)]; exact Ev.now _
    | succ d ih =>
      intro n c h1 h2 h3
      have hn : n < l.length := by omega
      have a1 : (n : Int) < (l.length : Int) := by omega
      have a0 : (0 : Int) ≤ (n : Int) := by omega
      have wc : wrap64 (c + 1) = c + 1 := K.w64 (by omega) (by omega)
      have hr := hx (l[n]) (List.getElem_mem hn)
      have wr : wrap64 (rd l (n : Int)) = l[n] := by rw [K.rd_nat hn]; exact K.w64 (by omega) (by omega)
      by_cases hc : l[n] < b
      · obtain ⟨r, e1, e2⟩ := ih (n + 1) (c + 1) (by omega) (by omega) (by omega)
        refine ⟨r, ?_, ?_⟩ <;> apply K.Ev.succ
        · simp only [spec_SmallIn.l0, if_pos a1, if_pos a0, wr, if_pos hc, wc, K.w64s n (by omega)]; exact e1
        · simp only [impl_SmallIn.l0, if_pos a1, if_pos a0, wr, if_pos hc, wc, K.w64s n (by omega)]; exact e2
      · obtain ⟨r, e1, e2⟩ := ih (n + 1) c (by omega) (by omega) (by omega)
        refine ⟨r, ?_, ?_⟩ <;> apply K.Ev.succ
        · simp only [spec_SmallIn.l0, if_pos a1, if_pos a0, wr, if_neg hc, K.w64s n (by omega)]; exact e1
        · simp only [impl_SmallIn.l0, if_pos a1, if_pos a0, wr, if_neg hc, K.w64s n (by omega)]; exact e2
  exact key l.length 0 0 (by omega) (by omega) (by omega)
theorem small_eq (l : List Int) (b : Int) (hl : l.length ≤ 1048576) (hx : ∀ x ∈ l, 0 ≤ x ∧ x ≤ 255) : ∃ r, Ev (fun k => spec_SmallIn.f k l b) r ∧ Ev (fun k => impl_SmallIn.f k l b) r := by
  obtain ⟨r, e1, e2⟩ := small_same l b hl hx
  by_cases h : (l.length : Int) > 200
  · refine ⟨(0, false), ?_, ?_⟩
    · simp only [spec_SmallIn.f, if_pos h]; apply K.Ev.succ; simp only [spec_SmallIn.j0, if_true]; exact Ev.now _
    · simp only [impl_SmallIn.f, if_pos h]; apply K.Ev.succ; simp only [impl_SmallIn.j0, if_true]; exact Ev.now _
  by_cases hb : 0 ≤ b ∧ b ≤ 256
  · have q : (if b ≥ 0 then (some (decide (b ≤ 256))) else (some false)) = some true := by rw [if_pos hb.1]; simp [hb.2]
    refine ⟨(r, true), ?_, ?_⟩
    · simp only [spec_SmallIn.f, if_neg h, spec_l1In.f, q, Option.bind_some]; apply K.Ev.succ; simp only [spec_SmallIn.j0, Bool.not_true, Bool.false_eq_true, if_false]; exact e1
    · simp only [impl_SmallIn.f, if_neg h, impl_within.f, q, Option.bind_some]; apply K.Ev.succ; simp only [impl_SmallIn.j0, Bool.not_true, Bool.false_eq_true, if_false]; exact e2
  · have q : (if b ≥ 0 then (some (decide (b ≤ 256))) else (some false)) = some false := by
      split
      · simp; omega
      · rfl
    refine ⟨(0, false), ?_, ?_⟩
    · simp only [spec_SmallIn.f, if_neg h, spec_l1In.f, q, Option.bind_some]; apply K.Ev.succ; simp only [spec_SmallIn.j0, Bool.not_false, if_true]; exact Ev.now _
    · simp only [impl_SmallIn.f, if_neg h, impl_within.f, q, Option.bind_some]; apply K.Ev.succ; simp only [impl_SmallIn.j0, Bool.not_false, if_true]; exact Ev.now _
theorem FnExactSmallIn : laws_FnExactSmallIn.Pure := by
  intro l b _ hl hw hb
  have hx : ∀ x ∈ l, 0 ≤ x ∧ x ≤ 255 := fun x h => K.b_u8 (hw x h)
  refine Ev.rounds (?_ : Ev (fun k => laws_FnExactSmallIn.f k l b) true)
  unfold laws_FnExactSmallIn.f
  by_cases h : (l.length : Int) > 1048576
  · simp only [if_pos h]; exact Ev.now _
  simp only [if_neg h]
  have h' : l.length ≤ 1048576 := by omega
  obtain ⟨r, e1, e2⟩ := small_eq l b h' hx
  refine Ev.bind (laws_toByteS_ev l h') ?_
  refine Ev.bind e1 ?_
  refine Ev.bind (laws_toByteS_ev l h') ?_
  refine Ev.bind e2 ?_
  simp only [if_true, bne_self_eq_false]
  apply K.Ev.succ
  simp only [laws_FnExactSmallIn.j0, Bool.false_eq_true, if_false]
  refine Ev.bind (laws_toByteS_ev l h') ?_
  refine Ev.bind (laws_eqByteS_self l (by omega)) ?_
  simp only [if_true]
  exact Ev.now _

end Go.Proofs.Ytkpdpblgnhoplaa.Pure
