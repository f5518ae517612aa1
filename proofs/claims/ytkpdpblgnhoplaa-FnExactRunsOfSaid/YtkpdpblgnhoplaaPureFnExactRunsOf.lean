/- The law FnExactRunsOf answers true for every text: the program's runs are the reference's, and no later call changes what was handed back. -/
import Derived.Test.YtkpdpblgnhoplaaPFnExactRunsOfx3
import Derived.Test.YtkpdpblgnhoplaaKKit
set_option linter.unusedVariables false
set_option linter.unusedSimpArgs false
namespace Go.Proofs.Ytkpdpblgnhoplaa.Pure
open Go Go.RowKit Go.Proofs.Ytkpdpblgnhoplaa Go.Proofs.Ytkpdpblgnhoplaa.PFnExactRunsOf Go.Proofs.YtkpdpblgnhoplaaW.PrintWords Go.Proofs.YtkpdpblgnhoplaaW.PrintLast Go.Proofs.YtkpdpblgnhoplaaW.PrintMore

theorem laws_eqRunS_self (l : List S56) (hl : l.length ≤ 140737488355328) : Ev (fun k => laws_eqRunS.f k l l) true := by
  have key : ∀ (d n : Nat), n + d = l.length → Ev (fun k => laws_eqRunS.l0 k l l (n : Int)) true := by
    intro d
    induction d with
    | zero =>
      intro n h1
      apply K.Ev.succ
      simp only [laws_eqRunS.l0, if_neg (show ¬ ((n : Int) < (l.length : Int)) by omega)]
      exact Ev.now _
    | succ d ih =>
      intro n h1
      apply K.Ev.succ
      simp only [laws_eqRunS.l0, if_pos (show (n : Int) < (l.length : Int) by omega), if_pos (show (0 : Int) ≤ (n : Int) by omega), laws_eqRun.f, if_true, Option.bind_some]
      rw [K.w64s n (by omega)]
      exact ih (n + 1) (by omega)
  unfold laws_eqRunS.f
  simp only [if_true]
  exact key l.length 0 (by omega)

theorem laws_markRunS_held (l : List S56) (hl : l.length ≤ 140737488355328) : ∃ (m : Int) (g : List S56), Ev (fun k => laws_markRunS.f k l 1) (m, g) ∧ Ev (fun k => laws_heldRunS.f k g 1) m ∧ 0 ≤ m := by
  have key : ∀ (d n : Nat) (x : List S56) (c : Int), n + d = x.length → 0 ≤ c → c + d * 2 ≤ 9000000000000000000 → x.length ≤ 140737488355328 → ∃ (m : Int) (g : List S56), Ev (fun k => laws_markRunS.l0 k x c (n : Int)) (m, g) ∧ g.length = x.length ∧ (∀ j, j < n → g[j]? = x[j]?) ∧ Ev (fun k => laws_heldRunS.l0 k g c (n : Int)) m ∧ 0 ≤ m := by
    intro d
    induction d with
    | zero =>
      intro n x c h1 h2 h3 h4
      refine ⟨c, x, ?_, rfl, fun _ _ => rfl, ?_, h2⟩
      · apply K.Ev.succ
        simp only [laws_markRunS.l0, if_neg (show ¬ ((n : Int) < (x.length : Int)) by omega)]
        exact Ev.now _
      · apply K.Ev.succ
        simp only [laws_heldRunS.l0, if_neg (show ¬ ((n : Int) < (x.length : Int)) by omega)]
        exact Ev.now _
    | succ d ih =>
      intro n x c h1 h2 h3 h4
      have hn : n < x.length := by omega
      have w1 : wrap64 (c + 1) = c + 1 := K.w64 (by omega) (by omega)
      have w2 : wrap64 (c + 1 + 1) = c + 2 := by rw [K.w64 (by omega) (by omega)]; omega
      obtain ⟨m, g, e1, e2, e3, e4, e5⟩ := ih (n + 1) (x.set n ⟨c % 256, c + 1⟩) (c + 2) (by simp; omega) (by omega) (by omega) (by simpa using h4)
      have hg : g[n]? = some ⟨c % 256, c + 1⟩ := by rw [e3 n (by omega)]; simp [hn]
      have hgl : g.length = x.length := by simpa using e2
      refine ⟨m, g, ?_, hgl, ?_, ?_, e5⟩
      · apply K.Ev.succ
        simp only [laws_markRunS.l0, if_pos (show (n : Int) < (x.length : Int) by omega), if_pos (show (0 : Int) ≤ (n : Int) by omega), Int.toNat_natCast, Option.bind_some, w1, w2, K.w64s n (show n < 9223372036854775807 by omega), List.set_set]
        simp only [rd_T56, Int.toNat_natCast, List.getD_eq_getElem?_getD, List.getElem?_set_self hn, Option.getD_some]
        exact e1
      · intro j hj
        rw [e3 j (by omega)]
        rw [List.getElem?_set_ne (by omega)]
      · apply K.Ev.succ
        simp only [laws_heldRunS.l0, if_pos (show (n : Int) < (g.length : Int) by omega), if_pos (show (0 : Int) ≤ (n : Int) by omega), w1, w2, K.w64s n (show n < 9223372036854775807 by omega)]
        simp only [rd_T56, Int.toNat_natCast, List.getD_eq_getElem?_getD, hg, Option.getD_some, if_true]
        exact e4
  obtain ⟨m, g, e1, _, _, e4, e5⟩ := key l.length 0 l 1 (by omega) (by omega) (by omega) hl
  exact ⟨m, g, by simp only [laws_markRunS.f]; exact e1, by simp only [laws_heldRunS.f]; exact e4, e5⟩

theorem runs_of_same (s : ByteArray) (hs : s.size ≤ 200) : ∃ r : List S56, r.length ≤ 200 ∧ Ev (fun k => spec_RunsOf.l0 k s [] 0) (r, true) ∧ Ev (fun k => impl_RunsOf.l0 k s [] (s.size : Int) 0) (r, true) := by
  have key : ∀ (d n : Nat) (x : List S56), n + d = s.size → x.length ≤ n → ∃ r : List S56, r.length ≤ 200 ∧ Ev (fun k => spec_RunsOf.l0 k s x (n : Int)) (r, true) ∧ Ev (fun k => impl_RunsOf.l0 k s x (s.size : Int) (n : Int)) (r, true) := by
    intro d
    induction d with
    | zero =>
      intro n x h1 h2
      refine ⟨x, by omega, ?_, ?_⟩ <;> apply K.Ev.succ
      · simp only [spec_RunsOf.l0, if_neg (show ¬ ((n : Int) < (s.size : Int)) by omega)]; exact Ev.now _
      · simp only [impl_RunsOf.l0, if_neg (show ¬ ((n : Int) < (s.size : Int)) by omega)]; exact Ev.now _
    | succ d ih =>
      intro n x h1 h2
      have a1 : (n : Int) < (s.size : Int) := by omega
      have a0 : (0 : Int) ≤ (n : Int) := by omega
      have lim : x.length < 8796093022208 := by omega
      have wl : wrap64 ((x.length : Int) - 1) = (x.length : Int) - 1 := K.w64 (by omega) (by omega)
      by_cases hz : (x.length : Int) - 1 ≥ 0
      · have b1 : (x.length : Int) - 1 < (x.length : Int) := by omega
        have b0 : 0 ≤ (x.length : Int) - 1 := hz
        by_cases hc : (rd_T56 x ((x.length : Int) - 1)).f0 = bt s (n : Int)
        · obtain ⟨r, e0, e1, e2⟩ := ih (n + 1) (x.set ((x.length : Int) - 1).toNat ⟨(rd_T56 x ((x.length : Int) - 1)).f0, wrap64 ((rd_T56 x ((x.length : Int) - 1)).f1 + 1)⟩) (by omega) (by simp; omega)
          refine ⟨r, e0, ?_, ?_⟩ <;> apply K.Ev.succ
          · simp only [spec_RunsOf.l0, if_pos a1, wl, if_pos hz, if_pos b0, if_pos b1, if_pos a0, if_pos hc, K.w64s n (show n < 9223372036854775807 by omega)]; exact e1
          · simp only [impl_RunsOf.l0, if_pos a1, wl, if_pos hz, if_pos b0, if_pos b1, if_pos a0, if_pos hc, K.w64s n (show n < 9223372036854775807 by omega)]; exact e2
        · obtain ⟨r, e0, e1, e2⟩ := ih (n + 1) (x ++ [⟨bt s (n : Int), 1⟩]) (by omega) (by simp; omega)
          refine ⟨r, e0, ?_, ?_⟩ <;> apply K.Ev.succ
          · simp only [spec_RunsOf.l0, if_pos a1, wl, if_pos hz, if_pos b0, if_pos b1, if_pos a0, if_neg hc, if_pos lim, K.w64s n (show n < 9223372036854775807 by omega)]; exact e1
          · simp only [impl_RunsOf.l0, if_pos a1, wl, if_pos hz, if_pos b0, if_pos b1, if_pos a0, if_neg hc, if_pos lim, K.w64s n (show n < 9223372036854775807 by omega)]; exact e2
      · obtain ⟨r, e0, e1, e2⟩ := ih (n + 1) (x ++ [⟨bt s (n : Int), 1⟩]) (by omega) (by simp; omega)
        refine ⟨r, e0, ?_, ?_⟩ <;> apply K.Ev.succ
        · simp only [spec_RunsOf.l0, if_pos a1, wl, if_neg hz, if_pos a0, if_pos lim, K.w64s n (show n < 9223372036854775807 by omega)]; exact e1
        · simp only [impl_RunsOf.l0, if_pos a1, wl, if_neg hz, if_pos a0, if_pos lim, K.w64s n (show n < 9223372036854775807 by omega)]; exact e2
  exact key s.size 0 [] (by omega) (by simp)
theorem runs_of_eq (s : ByteArray) : ∃ r : List S56 × Bool, r.1.length ≤ 200 ∧ Ev (fun k => spec_RunsOf.f k s) r ∧ Ev (fun k => impl_RunsOf.f k s) r := by
  by_cases h : (s.size : Int) > 200
  · refine ⟨([], false), by simp, ?_, ?_⟩
    · simp only [spec_RunsOf.f, if_pos h]; exact Ev.now _
    · simp only [impl_RunsOf.f, if_pos h]; exact Ev.now _
  · obtain ⟨r, e0, e1, e2⟩ := runs_of_same s (by omega)
    refine ⟨(r, true), e0, ?_, ?_⟩
    · simp only [spec_RunsOf.f, if_neg h]; exact e1
    · simp only [impl_RunsOf.f, if_neg h]; exact e2
theorem FnExactRunsOf : laws_FnExactRunsOf.Pure := by
  intro s hs
  refine Ev.rounds (?_ : Ev (fun k => laws_FnExactRunsOf.f k s) true)
  unfold laws_FnExactRunsOf.f
  by_cases h : (s.size : Int) > 1048576
  · simp only [if_pos h]; exact Ev.now _
  simp only [if_neg h]
  obtain ⟨r, e0, e1, e2⟩ := runs_of_eq s
  obtain ⟨m, g, m1, m2, m3⟩ := laws_markRunS_held r.1 (by omega)
  refine Ev.bind e1 ?_
  refine Ev.bind e2 ?_
  refine Ev.bind (laws_eqRunS_self r.1 (by omega)) ?_
  simp only [if_true, bne_self_eq_false]
  apply K.Ev.succ
  simp only [laws_FnExactRunsOf.j0, Bool.false_eq_true, if_false]
  refine Ev.bind m1 ?_
  refine Ev.bind m2 ?_
  simp only [if_neg (show ¬ m < 0 by omega), if_true]
  refine Ev.bind e2 ?_
  refine Ev.bind (laws_eqRunS_self r.1 (by omega)) ?_
  simp only [if_true, bne_self_eq_false]
  apply K.Ev.succ
  simp only [laws_FnExactRunsOf.j1, Bool.false_eq_true, if_false]
  refine Ev.bind m2 ?_
  simp only [if_neg (show ¬ m < 0 by omega), if_true]
  exact Ev.now _

end Go.Proofs.Ytkpdpblgnhoplaa.Pure
