/- The law FnExactPackRuns answers true for every slice of runs: the program's code of runs is the reference's, and the slice is left as it was. -/
import Derived.Test.YtkpdpblgnhoplaaPFnExactPackRunsx3
import Derived.Test.YtkpdpblgnhoplaaKKit
set_option linter.unusedVariables false
set_option linter.unusedSimpArgs false
namespace Go.Proofs.Ytkpdpblgnhoplaa.Pure
open Go Go.RowKit Go.Proofs.Ytkpdpblgnhoplaa Go.Proofs.Ytkpdpblgnhoplaa.PFnExactPackRuns Go.Proofs.YtkpdpblgnhoplaaW.PrintWords Go.Proofs.YtkpdpblgnhoplaaW.PrintLast Go.Proofs.YtkpdpblgnhoplaaW.PrintMore

theorem szRunS_eq (l : List S58) (hl : l.length ≤ maxLen) : laws_szRunS.f l 1048576 = some (if l.length ≤ 1048576 then 1048576 - (l.length : Int) else -1) := by
  have h : l.length ≤ 9223372036854775807 := hl
  have w : wrap64 (1048576 - (l.length : Int)) = 1048576 - (l.length : Int) := K.w64 (by omega) (by omega)
  simp only [laws_szRunS.f, w]
  by_cases h2 : l.length ≤ 1048576
  · rw [if_neg (by omega), if_pos h2]
  · rw [if_pos (by omega), if_neg h2]

/-- The law's runs as the program's. -/
def runOf (r : S58) : S56 := ⟨r.f0, r.f1⟩
theorem laws_toRunS_ev (l : List S58) (hl : l.length ≤ 1048576) : Ev (fun k => laws_toRunS.f k l) (l.map runOf) := by
  have key : ∀ (d n : Nat) (x : List S56), n + d = l.length → x.length = l.length → x.take n = (l.map runOf).take n → Ev (fun k => laws_toRunS.l0 k l x (n : Int)) (l.map runOf) := by
    intro d
    induction d with
    | zero =>
      intro n x h1 h2 h3
      apply K.Ev.succ
      simp only [laws_toRunS.l0, if_neg (show ¬ ((n : Int) < (l.length : Int)) by omega)]
      have e : x = l.map runOf := by
        rw [List.take_of_length_le (by omega), List.take_of_length_le (by simp; omega)] at h3; exact h3
      rw [e]; exact Ev.now _
    | succ d ih =>
      intro n x h1 h2 h3
      apply K.Ev.succ
      have hn : n < l.length := by omega
      have hr : rd_T58 l (n : Int) = l[n] := by simp [rd_T58, List.getElem?_eq_getElem hn]
      simp only [laws_toRunS.l0, if_pos (show (n : Int) < (l.length : Int) by omega), if_pos (show (0 : Int) ≤ (n : Int) by omega), laws_toRun.f, Option.bind_some, if_pos (show (n : Int) < (x.length : Int) by omega), Int.toNat_natCast, hr]
      rw [K.w64s n (by omega)]
      refine ih (n + 1) _ (by omega) (by simpa using h2) ?_
      rw [K.take_set _ _ _ (by omega), K.take_succ' (l.map runOf) n (by simpa using hn), h3]
      simp [runOf]
  unfold laws_toRunS.f
  simp only [if_pos (show (0 : Int) ≤ (l.length : Int) by omega), Int.toNat_natCast, if_pos (show l.length ≤ 17592186044416 by omega)]
  exact key l.length 0 _ (by omega) (by simp) (by simp)

theorem laws_eqRunS_self (l : List S56) (hl : l.length ≤ 140737488355328) : Ev (fun k => laws_eqRunS.f k l l) true := by
  have key : ∀ (d n : Nat), n + d = l.length → Ev (fun k => laws_eqRunS.l0 k l l (n : Int)) true := by
    intro d
    induction d with
    | zero =>
      intro n h1
      apply K.Ev.succ
      simp only [laws_eqRunS.l0, if_neg (show ¬ ((n : Int) < (l.length : Int)) by omega)]
      exact Ev.now _
    | succ d ih =>
      intro n h1
      apply K.Ev.succ
      simp only [laws_eqRunS.l0, if_pos (show (n : Int) < (l.length : Int) by omega), if_pos (show (0 : Int) ≤ (n : Int) by omega), laws_eqRun.f, if_true, Option.bind_some]
      rw [K.w64s n (by omega)]
      exact ih (n + 1) (by omega)
  unfold laws_eqRunS.f
  simp only [if_true]
  exact key l.length 0 (by omega)

/-- The bytes of a run's code. -/
def packOne (r : S56) : List Int := if r.f1 > 1 then [r.f0, r.f0, (wrap64 (r.f1 - 2)) % 256] else [r.f0]
theorem packOne_len (r : S56) : (packOne r).length ≤ 3 := by unfold packOne; split <;> simp
theorem l12Pack_ev (l : List S56) (hl : l.length ≤ 1048576) : Ev (fun k => spec_l12Pack.f k l) (strOfNums (l.flatMap packOne)) := by
  have key : ∀ (d n : Nat) (acc : List Int), n + d = l.length → acc = (l.take n).flatMap packOne → acc.length ≤ 3 * n → Ev (fun k => spec_l12Pack.l0 k acc l (l.length : Int) (n : Int)) (strOfNums (l.flatMap packOne)) := by
    intro d
    induction d with
    | zero =>
      intro n acc h1 h2 h3
      apply K.Ev.succ
      simp only [spec_l12Pack.l0, if_neg (show ¬ ((n : Int) < (l.length : Int)) by omega)]
      rw [h2, List.take_of_length_le (by omega)]
      exact Ev.now _
    | succ d ih =>
      intro n acc h1 h2 h3
      have hn : n < l.length := by omega
      have hr : rd_T56 l (n : Int) = l[n] := by simp [rd_T56, List.getElem?_eq_getElem hn]
      apply K.Ev.succ
      simp only [spec_l12Pack.l0, if_pos (show (n : Int) < (l.length : Int) by omega), if_pos (show (0 : Int) ≤ (n : Int) by omega), if_pos (show acc.length < 140737488355328 by omega), Option.bind_some, hr, K.w64s n (show n < 9223372036854775807 by omega)]
      by_cases hF : l[n].f1 > 1
      · simp only [if_pos hF, if_pos (show (acc ++ [l[n].f0]).length + [l[n].f0, wrap64 (l[n].f1 - 2) % 256].length < 140737488355328 by simp; omega)]
        refine ih (n + 1) _ (by omega) ?_ (by simp; omega)
        rw [K.take_succ' l n hn, List.flatMap_append, ← h2]
        simp [packOne, hF]
      · simp only [if_neg hF]
        refine ih (n + 1) _ (by omega) ?_ (by simp; omega)
        rw [K.take_succ' l n hn, List.flatMap_append, ← h2]
        simp [packOne, hF]
  simp only [spec_l12Pack.f]; exact key l.length 0 [] (by omega) (by simp) (by simp)

/-- Each run is of 1 to 200 bytes, and its byte is another than the one ahead. -/
def GoodAt (l : List S56) (i : Nat) : Prop := 1 ≤ (rd_T56 l (i : Int)).f1 ∧ (rd_T56 l (i : Int)).f1 ≤ 200 ∧ (0 < i → (rd_T56 l ((i - 1 : Nat) : Int)).f0 ≠ (rd_T56 l (i : Int)).f0)
theorem good_same (l : List S56) (hl : l.length ≤ 140737488355328) : ∃ b : Bool, Ev (fun k => spec_GoodRuns.f k l) b ∧ Ev (fun k => impl_GoodRuns.f k l) b ∧ (b = true → l.length ≤ 200 ∧ ∀ i, i < l.length → GoodAt l i) := by
  have key : ∀ (d n : Nat) (c : Int), n + d = l.length → (n : Int) ≤ c → c ≤ 200 → ∃ b : Bool, Ev (fun k => spec_GoodRuns.l0 k l c l (l.length : Int) (n : Int)) b ∧ Ev (fun k => impl_GoodRuns.l0 k l c l (l.length : Int) (n : Int)) b ∧ (b = true → l.length ≤ 200 ∧ ∀ i, n ≤ i → i < l.length → GoodAt l i) := by
    intro d
    induction d with
    | zero =>
      intro n c h1 h2 h3
      refine ⟨true, ?_, ?_, fun _ => ⟨by omega, fun i hi hi2 => by omega⟩⟩ <;> apply K.Ev.succ
      · simp only [spec_GoodRuns.l0, if_neg (show ¬ ((n : Int) < (l.length : Int)) by omega)]; exact Ev.now _
      · simp only [impl_GoodRuns.l0, if_neg (show ¬ ((n : Int) < (l.length : Int)) by omega)]; exact Ev.now _
    | succ d ih =>
      intro n c h1 h2 h3
      have a1 : (n : Int) < (l.length : Int) := by omega
      have a0 : (0 : Int) ≤ (n : Int) := by omega
      have wm : K.Eqn (wrap64 (200 - c)) (200 - c) := ⟨K.w64 (by omega) (by omega)⟩
      generalize hF : (rd_T56 l (n : Int)).f1 = F
      by_cases hr : 1 ≤ F ∧ F ≤ 200 - c
      · have qs : spec_l1In.f F 1 200 = some true := by unfold spec_l1In.f; rw [if_pos hr.1]; simp; omega
        have qi : impl_within.f F 1 (200 - c) = some true := by unfold impl_within.f; rw [if_pos hr.1]; simp; omega
        have wc : K.Eqn (wrap64 (c + F)) (c + F) := ⟨K.w64 (by omega) (by omega)⟩
        have nb : ¬ (c + F > 200) := by omega
        cases n with
        | zero =>
          obtain ⟨b, e1, e2, e3⟩ := ih 1 (c + F) (by omega) (by omega) (by omega)
          refine ⟨b, ?_, ?_, ?_⟩
          · apply K.Ev.succ
            simp only [spec_GoodRuns.l0, if_pos a1, if_pos a0, hF, qs, Option.bind_some, if_true, show ¬ (((0 : Nat) : Int) > 0) by omega, if_false]
            apply K.Ev.succ
            simp only [spec_GoodRuns.j1, Bool.false_eq_true, if_false, wc.out, if_neg nb, K.w64s 0 (by omega)]; exact e1
          · apply K.Ev.succ
            simp only [impl_GoodRuns.l0, if_pos a1, if_pos a0, hF, wm.out, qi, Option.bind_some, if_true, show ¬ (((0 : Nat) : Int) > 0) by omega, if_false, wc.out, K.w64s 0 (by omega)]; exact e2
          · intro hb
            obtain ⟨g1, g2⟩ := e3 hb
            refine ⟨g1, fun i hi hi2 => ?_⟩
            rcases Nat.eq_zero_or_pos i with rfl | hp
            · exact ⟨by rw [hF]; omega, by rw [hF]; omega, fun h => by omega⟩
            · exact g2 i hp hi2
        | succ n =>
          have np : ((n + 1 : Nat) : Int) > 0 := by omega
          have wp := K.Eqn.mk (K.w64p n (by omega))
          have b0 : (0 : Int) ≤ (n : Int) := by omega
          have b1 : (n : Int) < (l.length : Int) := by omega
          by_cases hc : (rd_T56 l (n : Int)).f0 = (rd_T56 l ((n + 1 : Nat) : Int)).f0
          · refine ⟨false, ?_, ?_, fun h => by cases h⟩
            · apply K.Ev.succ
              simp only [spec_GoodRuns.l0, if_pos a1, if_pos a0, hF, qs, Option.bind_some, if_true, if_pos np, wp.out, if_pos b0, if_pos b1]
              apply K.Ev.succ
              simp only [spec_GoodRuns.j1, hc, beq_self_eq_true, if_true]; exact Ev.now _
            · apply K.Ev.succ
              simp only [impl_GoodRuns.l0, if_pos a1, if_pos a0, hF, wm.out, qi, Option.bind_some, if_true, if_pos np, wp.out, if_pos b0, if_pos b1, if_pos hc.symm]; exact Ev.now _
          · obtain ⟨b, e1, e2, e3⟩ := ih (n + 2) (c + F) (by omega) (by omega) (by omega)
            refine ⟨b, ?_, ?_, ?_⟩
            · apply K.Ev.succ
              simp only [spec_GoodRuns.l0, if_pos a1, if_pos a0, hF, qs, Option.bind_some, if_true, if_pos np, wp.out, if_pos b0, if_pos b1]
              apply K.Ev.succ
              simp only [spec_GoodRuns.j1, beq_eq_false_iff_ne.mpr hc, Bool.false_eq_true, if_false, wc.out, if_neg nb, K.w64s (n + 1) (by omega)]; exact e1
            · apply K.Ev.succ
              simp only [impl_GoodRuns.l0, if_pos a1, if_pos a0, hF, wm.out, qi, Option.bind_some, if_true, if_pos np, wp.out, if_pos b0, if_pos b1, if_neg (fun e => hc (Eq.symm e)), wc.out, K.w64s (n + 1) (by omega)]; exact e2
            · intro hb
              obtain ⟨g1, g2⟩ := e3 hb
              refine ⟨g1, fun i hi hi2 => ?_⟩
              rcases Nat.lt_or_ge (n + 1) i with hp | hp
              · exact g2 i hp hi2
              · obtain rfl : i = n + 1 := by omega
                exact ⟨by rw [hF]; omega, by rw [hF]; omega, fun _ => hc⟩
      · refine ⟨false, ?_, ?_, fun h => by cases h⟩
        · by_cases h200 : 1 ≤ F ∧ F ≤ 200
          · have qs : spec_l1In.f F 1 200 = some true := by unfold spec_l1In.f; rw [if_pos h200.1]; simp; omega
            have wc : K.Eqn (wrap64 (c + F)) (c + F) := ⟨K.w64 (by omega) (by omega)⟩
            have nb : c + F > 200 := by omega
            have fin : ∀ x31 X, Ev (fun k => spec_GoodRuns.j1 k l c l (l.length : Int) (n : Int) x31 X F) false := by
              intro x31 X
              apply K.Ev.succ
              simp only [spec_GoodRuns.j1, wc.out, if_pos nb]
              exact K.Ev.const (by cases x31 <;> rfl)
            apply K.Ev.succ
            simp only [spec_GoodRuns.l0, if_pos a1, if_pos a0, hF, qs, Option.bind_some, if_true]
            cases n with
            | zero => simp only [show ¬ (((0 : Nat) : Int) > 0) by omega, if_false]; exact fin _ _
            | succ n =>
              simp only [if_pos (show ((n + 1 : Nat) : Int) > 0 by omega), K.w64p n (show n < 9223372036854775807 by omega), if_pos (show (0 : Int) ≤ (n : Int) by omega), if_pos (show (n : Int) < (l.length : Int) by omega)]
              exact fin _ _
          · have qs : spec_l1In.f F 1 200 = some false := by
              unfold spec_l1In.f; split
              · simp; omega
              · rfl
            apply K.Ev.succ
            simp only [spec_GoodRuns.l0, if_pos a1, if_pos a0, hF, qs, Option.bind_some, Bool.false_eq_true, if_false]
            apply K.Ev.succ
            simp only [spec_GoodRuns.j1, if_true]; exact Ev.now _
        · have qi : impl_within.f F 1 (200 - c) = some false := by
            unfold impl_within.f; split
            · simp; omega
            · rfl
          apply K.Ev.succ
          simp only [impl_GoodRuns.l0, if_pos a1, if_pos a0, hF, wm.out, qi, Option.bind_some, Bool.false_eq_true, if_false]; exact Ev.now _
  obtain ⟨b, e1, e2, e3⟩ := key l.length 0 0 (by omega) (by omega) (by omega)
  refine ⟨b, by simp only [spec_GoodRuns.f]; exact e1, by simp only [impl_GoodRuns.f]; exact e2, fun hb => ?_⟩
  obtain ⟨g1, g2⟩ := e3 hb
  exact ⟨g1, fun i hi => g2 i (Nat.zero_le _) hi⟩

theorem implPack_ev (l : List S56) (hl : l.length ≤ 1048576) : Ev (fun k => impl_PackRuns.l0 k [] l (l.length : Int) 0) (strOfNums (l.flatMap packOne), true) := by
  have key : ∀ (d n : Nat) (acc : List Int), n + d = l.length → acc = (l.take n).flatMap packOne → acc.length ≤ 3 * n → Ev (fun k => impl_PackRuns.l0 k acc l (l.length : Int) (n : Int)) (strOfNums (l.flatMap packOne), true) := by
    intro d
    induction d with
    | zero =>
      intro n acc h1 h2 h3
      apply K.Ev.succ
      simp only [impl_PackRuns.l0, if_neg (show ¬ ((n : Int) < (l.length : Int)) by omega)]
      rw [h2, List.take_of_length_le (by omega)]
      exact Ev.now _
    | succ d ih =>
      intro n acc h1 h2 h3
      have hn : n < l.length := by omega
      have hr : rd_T56 l (n : Int) = l[n] := by simp [rd_T56, List.getElem?_eq_getElem hn]
      apply K.Ev.succ
      simp only [impl_PackRuns.l0, if_pos (show (n : Int) < (l.length : Int) by omega), if_pos (show (0 : Int) ≤ (n : Int) by omega), if_pos (show acc.length < 140737488355328 by omega), Option.bind_some, hr, K.w64s n (show n < 9223372036854775807 by omega)]
      by_cases hF : l[n].f1 ≥ 2
      · simp only [if_pos hF, if_pos (show (acc ++ [l[n].f0]).length + [l[n].f0, wrap64 (l[n].f1 - 2) % 256].length < 140737488355328 by simp; omega)]
        refine ih (n + 1) _ (by omega) ?_ (by simp; omega)
        rw [K.take_succ' l n hn, List.flatMap_append, ← h2]
        simp [packOne, show l[n].f1 > 1 by omega]
      · simp only [if_neg hF]
        refine ih (n + 1) _ (by omega) ?_ (by simp; omega)
        rw [K.take_succ' l n hn, List.flatMap_append, ← h2]
        simp [packOne, show ¬ l[n].f1 > 1 by omega]
  exact key l.length 0 [] (by omega) (by simp) (by simp)
theorem pack_eq (l : List S56) (hl : l.length ≤ 1048576) : ∃ r : ByteArray × Bool, Ev (fun k => spec_PackRuns.f k l) r ∧ Ev (fun k => impl_PackRuns.f k l) r := by
  obtain ⟨b, e1, e2, _⟩ := good_same l (by omega)
  cases b with
  | true =>
    refine ⟨(strOfNums (l.flatMap packOne), true), ?_, ?_⟩
    · simp only [spec_PackRuns.f]
      refine Ev.bind e1 ?_
      simp only [if_true]
      exact Ev.bind (l12Pack_ev l hl) (Ev.now _)
    · simp only [impl_PackRuns.f]
      refine Ev.bind e2 ?_
      simp only [if_true]
      exact implPack_ev l hl
  | false =>
    refine ⟨((⟨#[]⟩ : ByteArray), false), ?_, ?_⟩
    · simp only [spec_PackRuns.f]
      refine Ev.bind e1 ?_
      simp only [Bool.false_eq_true, if_false]
      exact Ev.now _
    · simp only [impl_PackRuns.f]
      refine Ev.bind e2 ?_
      simp only [Bool.false_eq_true, if_false]
      exact Ev.now _
theorem FnExactPackRuns : ∀ l : List S58, l.length ≤ maxLen → (∀ x ∈ l, (Lit.int .u8 x.f0).wf = true ∧ (Lit.int .i64 x.f1).wf = true) → ∃ k, laws_FnExactPackRuns.f k l = some true := by
  intro l hl _
  refine Ev.rounds (?_ : Ev (fun k => laws_FnExactPackRuns.f k l) true)
  unfold laws_FnExactPackRuns.f
  rw [szRunS_eq l hl]
  simp only [Option.bind_some]
  by_cases h : l.length ≤ 1048576
  · simp only [if_pos h, if_neg (show ¬ (1048576 - (l.length : Int) < 0) by omega)]
    obtain ⟨r, e1, e2⟩ := pack_eq (l.map runOf) (by simpa using h)
    refine Ev.bind (laws_toRunS_ev l h) ?_
    refine Ev.bind e1 ?_
    refine Ev.bind (laws_toRunS_ev l h) ?_
    refine Ev.bind e2 ?_
    simp only [if_true, bne_self_eq_false]
    apply K.Ev.succ
    simp only [laws_FnExactPackRuns.j0, Bool.false_eq_true, if_false]
    refine Ev.bind (laws_toRunS_ev l h) ?_
    refine Ev.bind (laws_eqRunS_self _ (by simp; omega)) ?_
    simp only [if_true]
    exact Ev.now _
  · simp only [if_neg h, if_pos (show (-1 : Int) < 0 by omega)]
    exact Ev.now _

end Go.Proofs.Ytkpdpblgnhoplaa.Pure
