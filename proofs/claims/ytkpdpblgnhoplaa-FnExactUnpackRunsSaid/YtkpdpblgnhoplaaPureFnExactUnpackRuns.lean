/- The law FnExactUnpackRuns answers true for every text: the program reads runs out of their code as the reference does, and no later call changes what was handed back. -/
import Derived.Test.YtkpdpblgnhoplaaPFnExactUnpackRunsx4
import Derived.Test.YtkpdpblgnhoplaaKKit
set_option linter.unusedVariables false
set_option linter.unusedSimpArgs false
namespace Go.Proofs.Ytkpdpblgnhoplaa.Pure
open Go Go.RowKit Go.Proofs.Ytkpdpblgnhoplaa Go.Proofs.Ytkpdpblgnhoplaa.PFnExactUnpackRuns Go.Proofs.YtkpdpblgnhoplaaW.PrintWords Go.Proofs.YtkpdpblgnhoplaaW.PrintLast Go.Proofs.YtkpdpblgnhoplaaW.PrintMore

theorem laws_eqRunS_self (l : List S56) (hl : l.length ≤ 140737488355328) : Ev (fun k => laws_eqRunS.f k l l) true := by
  have key : ∀ (d n : Nat), n + d = l.length → Ev (fun k => laws_eqRunS.l0 k l l (n : Int)) true := by
    intro d
    induction d with
    | zero =>
      intro n h1
      apply K.Ev.succ
      simp only [laws_eqRunS.l0, if_neg (show ¬ ((n : Int) < (l.length : Int)) by omega)]
      exact Ev.now _
    | succ d ih =>
      intro n h1
      apply K.Ev.succ
      simp only [laws_eqRunS.l0, if_pos (show (n : Int) < (l.length : Int) by omega), if_pos (show (0 : Int) ≤ (n : Int) by omega), laws_eqRun.f, if_true, Option.bind_some]
      rw [K.w64s n (by omega)]
      exact ih (n + 1) (by omega)
  unfold laws_eqRunS.f
  simp only [if_true]
  exact key l.length 0 (by omega)

theorem laws_markRunS_held (l : List S56) (hl : l.length ≤ 140737488355328) : ∃ (m : Int) (g : List S56), Ev (fun k => laws_markRunS.f k l 1) (m, g) ∧ Ev (fun k => laws_heldRunS.f k g 1) m ∧ 0 ≤ m := by
  have key : ∀ (d n : Nat) (x : List S56) (c : Int), n + d = x.length → 0 ≤ c → c + d * 2 ≤ 9000000000000000000 → x.length ≤ 140737488355328 → ∃ (m : Int) (g : List S56), Ev (fun k => laws_markRunS.l0 k x c (n : Int)) (m, g) ∧ g.length = x.length ∧ (∀ j, j < n → g[j]? = x[j]?) ∧ Ev (fun k => laws_heldRunS.l0 k g c (n : Int)) m ∧ 0 ≤ m := by
    intro d
    induction d with
    | zero =>
      intro n x c h1 h2 h3 h4
      refine ⟨c, x, ?_, rfl, fun _ _ => rfl, ?_, h2⟩
      · apply K.Ev.succ
        simp only [laws_markRunS.l0, if_neg (show ¬ ((n : Int) < (x.length : Int)) by omega)]
        exact Ev.now _
      · apply K.Ev.succ
        simp only [laws_heldRunS.l0, if_neg (show ¬ ((n : Int) < (x.length : Int)) by omega)]
        exact Ev.now _
    | succ d ih =>
      intro n x c h1 h2 h3 h4
      have hn : n < x.length := by omega
      have w1 : wrap64 (c + 1) = c + 1 := K.w64 (by omega) (by omega)
      have w2 : wrap64 (c + 1 + 1) = c + 2 := by rw [K.w64 (by omega) (by omega)]; omega
      obtain ⟨m, g, e1, e2, e3, e4, e5⟩ := ih (n + 1) (x.set n ⟨c % 256, c + 1⟩) (c + 2) (by simp; omega) (by omega) (by omega) (by simpa using h4)
      have hg : g[n]? = some ⟨c % 256, c + 1⟩ := by rw [e3 n (by omega)]; simp [hn]
      have hgl : g.length = x.length := by simpa using e2
      refine ⟨m, g, ?_, hgl, ?_, ?_, e5⟩
      · apply K.Ev.succ
        simp only [laws_markRunS.l0, if_pos (show (n : Int) < (x.length : Int) by omega), if_pos (show (0 : Int) ≤ (n : Int) by omega), Int.toNat_natCast, Option.bind_some, w1, w2, K.w64s n (show n < 9223372036854775807 by omega), List.set_set]
        simp only [rd_T56, Int.toNat_natCast, List.getD_eq_getElem?_getD, List.getElem?_set_self hn, Option.getD_some]
        exact e1
      · intro j hj
        rw [e3 j (by omega)]
        rw [List.getElem?_set_ne (by omega)]
      · apply K.Ev.succ
        simp only [laws_heldRunS.l0, if_pos (show (n : Int) < (g.length : Int) by omega), if_pos (show (0 : Int) ≤ (n : Int) by omega), w1, w2, K.w64s n (show n < 9223372036854775807 by omega)]
        simp only [rd_T56, Int.toNat_natCast, List.getD_eq_getElem?_getD, hg, Option.getD_some, if_true]
        exact e4
  obtain ⟨m, g, e1, _, _, e4, e5⟩ := key l.length 0 l 1 (by omega) (by omega) (by omega) hl
  exact ⟨m, g, by simp only [laws_markRunS.f]; exact e1, by simp only [laws_heldRunS.f]; exact e4, e5⟩

/-- The bytes of a run's code. -/
def packOne (r : S56) : List Int := if r.f1 > 1 then [r.f0, r.f0, (wrap64 (r.f1 - 2)) % 256] else [r.f0]
theorem packOne_len (r : S56) : (packOne r).length ≤ 3 := by unfold packOne; split <;> simp
theorem l12Pack_ev (l : List S56) (hl : l.length ≤ 1048576) : Ev (fun k => spec_l12Pack.f k l) (strOfNums (l.flatMap packOne)) := by
  have key : ∀ (d n : Nat) (acc : List Int), n + d = l.length → acc = (l.take n).flatMap packOne → acc.length ≤ 3 * n → Ev (fun k => spec_l12Pack.l0 k acc l (l.length : Int) (n : Int)) (strOfNums (l.flatMap packOne)) := by
    intro d
    induction d with
    | zero =>
      intro n acc h1 h2 h3
      apply K.Ev.succ
      simp only [spec_l12Pack.l0, if_neg (show ¬ ((n : Int) < (l.length : Int)) by omega)]
      rw [h2, List.take_of_length_le (by omega)]
      exact Ev.now _
    | succ d ih =>
      intro n acc h1 h2 h3
      have hn : n < l.length := by omega
      have hr : rd_T56 l (n : Int) = l[n] := by simp [rd_T56, List.getElem?_eq_getElem hn]
      apply K.Ev.succ
      simp only [spec_l12Pack.l0, if_pos (show (n : Int) < (l.length : Int) by omega), if_pos (show (0 : Int) ≤ (n : Int) by omega), if_pos (show acc.length < 140737488355328 by omega), Option.bind_some, hr, K.w64s n (show n < 9223372036854775807 by omega)]
      by_cases hF : l[n].f1 > 1
      · simp only [if_pos hF, if_pos (show (acc ++ [l[n].f0]).length + [l[n].f0, wrap64 (l[n].f1 - 2) % 256].length < 140737488355328 by simp; omega)]
        refine ih (n + 1) _ (by omega) ?_ (by simp; omega)
        rw [K.take_succ' l n hn, List.flatMap_append, ← h2]
        simp [packOne, hF]
      · simp only [if_neg hF]
        refine ih (n + 1) _ (by omega) ?_ (by simp; omega)
        rw [K.take_succ' l n hn, List.flatMap_append, ← h2]
        simp [packOne, hF]
  simp only [spec_l12Pack.f]; exact key l.length 0 [] (by omega) (by simp) (by simp)

/-- Each run is of 1 to 200 bytes, and its byte is another than the one ahead. -/
def GoodAt (l : List S56) (i : Nat) : Prop := 1 ≤ (rd_T56 l (i : Int)).f1 ∧ (rd_T56 l (i : Int)).f1 ≤ 200 ∧ (0 < i → (rd_T56 l ((i - 1 : Nat) : Int)).f0 ≠ (rd_T56 l (i : Int)).f0)
theorem good_same (l : List S56) (hl : l.length ≤ 140737488355328) : ∃ b : Bool, Ev (fun k => spec_GoodRuns.f k l) b ∧ Ev (fun k => impl_GoodRuns.f k l) b ∧ (b = true → l.length ≤ 200 ∧ ∀ i, i < l.length → GoodAt l i) := by
  have key : ∀ (d n : Nat) (c : Int), n + d = l.length → (n : Int) ≤ c → c ≤ 200 → ∃ b : Bool, Ev (fun k => spec_GoodRuns.l0 k l c l (l.length : Int) (n : Int)) b ∧ Ev (fun k => impl_GoodRuns.l0 k l c l (l.length : Int) (n : Int)) b ∧ (b = true → l.length ≤ 200 ∧ ∀ i, n ≤ i → i < l.length → GoodAt l i) := by
    intro d
    induction d with
    | zero =>
      intro n c h1 h2 h3
      refine ⟨true, ?_, ?_, fun _ => ⟨by omega, fun i hi hi2 => by omega⟩⟩ <;> apply K.Ev.succ
      · simp only [spec_GoodRuns.l0, if_neg (show ¬ ((n : Int) < (l.length : Int)) by omega)]; exact Ev.now _
      · simp only [impl_GoodRuns.l0, if_neg (show ¬ ((n : Int) < (l.length : Int)) by omega)]; exact Ev.now _
    | succ d ih =>
      intro n c h1 h2 h3
      have a1 : (n : Int) < (l.length : Int) := by omega
      have a0 : (0 : Int) ≤ (n : Int) := by omega
      have wm : K.Eqn (wrap64 (200 - c)) (200 - c) := ⟨K.w64 (by omega) (by omega)⟩
      generalize hF : (rd_T56 l (n : Int)).f1 = F
      by_cases hr : 1 ≤ F ∧ F ≤ 200 - c
      · have qs : spec_l1In.f F 1 200 = some true := by unfold spec_l1In.f; rw [if_pos hr.1]; simp; omega
        have qi : impl_within.f F 1 (200 - c) = some true := by unfold impl_within.f; rw [if_pos hr.1]; simp; omega
        have wc : K.Eqn (wrap64 (c + F)) (c + F) := ⟨K.w64 (by omega) (by omega)⟩
        have nb : ¬ (c + F > 200) := by omega
        cases n with
        | zero =>
          obtain ⟨b, e1, e2, e3⟩ := ih 1 (c + F) (by omega) (by omega) (by omega)
          refine ⟨b, ?_, ?_, ?_⟩
          · apply K.Ev.succ
            simp only [spec_GoodRuns.l0, if_pos a1, if_pos a0, hF, qs, Option.bind_some, if_true, show ¬ (((0 : Nat) : Int) > 0) by omega, if_false]
            apply K.Ev.succ
            simp only [spec_GoodRuns.j1, Bool.false_eq_true, if_false, wc.out, if_neg nb, K.w64s 0 (by omega)]; exact e1
          · apply K.Ev.succ
            simp only [impl_GoodRuns.l0, if_pos a1, if_pos a0, hF, wm.out, qi, Option.bind_some, if_true, show ¬ (((0 : Nat) : Int) > 0) by omega, if_false, wc.out, K.w64s 0 (by omega)]; exact e2
          · intro hb
            obtain ⟨g1, g2⟩ := e3 hb
            refine ⟨g1, fun i hi hi2 => ?_⟩
            rcases Nat.eq_zero_or_pos i with rfl | hp
            · exact ⟨by rw [hF]; omega, by rw [hF]; omega, fun h => by omega⟩
            · exact g2 i hp hi2
        | succ n =>
          have np : ((n + 1 : Nat) : Int) > 0 := by omega
          have wp := K.Eqn.mk (K.w64p n (by omega))
          have b0 : (0 : Int) ≤ (n : Int) := by omega
          have b1 : (n : Int) < (l.length : Int) := by omega
          by_cases hc : (rd_T56 l (n : Int)).f0 = (rd_T56 l ((n + 1 : Nat) : Int)).f0
          · refine ⟨false, ?_, ?_, fun h => by cases h⟩
            · apply K.Ev.succ
              simp only [spec_GoodRuns.l0, if_pos a1, if_pos a0, hF, qs, Option.bind_some, if_true, if_pos np, wp.out, if_pos b0, if_pos b1]
              apply K.Ev.succ
              simp only [spec_GoodRuns.j1, hc, beq_self_eq_true, if_true]; exact Ev.now _
            · apply K.Ev.succ
              simp only [impl_GoodRuns.l0, if_pos a1, if_pos a0, hF, wm.out, qi, Option.bind_some, if_true, if_pos np, wp.out, if_pos b0, if_pos b1, if_pos hc.symm]; exact Ev.now _
          · obtain ⟨b, e1, e2, e3⟩ := ih (n + 2) (c + F) (by omega) (by omega) (by omega)
            refine ⟨b, ?_, ?_, ?_⟩
            · apply K.Ev.succ
              simp only [spec_GoodRuns.l0, if_pos a1, if_pos a0, hF, qs, Option.bind_some, if_true, if_pos np, wp.out, if_pos b0, if_pos b1]
              apply K.Ev.succ
              simp only [spec_GoodRuns.j1, beq_eq_false_iff_ne.mpr hc, Bool.false_eq_true, if_false, wc.out, if_neg nb, K.w64s (n + 1) (by omega)]; exact e1
            · apply K.Ev.succ
              simp only [impl_GoodRuns.l0, if_pos a1, if_pos a0, hF, wm.out, qi, Option.bind_some, if_true, if_pos np, wp.out, if_pos b0, if_pos b1, if_neg (fun e => hc (Eq.symm e)), wc.out, K.w64s (n + 1) (by omega)]; exact e2
            · intro hb
              obtain ⟨g1, g2⟩ := e3 hb
              refine ⟨g1, fun i hi hi2 => ?_⟩
              rcases Nat.lt_or_ge (n + 1) i with hp | hp
              · exact g2 i hp hi2
              · obtain rfl : i = n + 1 := by omega
                exact ⟨by rw [hF]; omega, by rw [hF]; omega, fun _ => hc⟩
      · refine ⟨false, ?_, ?_, fun h => by cases h⟩
        · by_cases h200 : 1 ≤ F ∧ F ≤ 200
          · have qs : spec_l1In.f F 1 200 = some true := by unfold spec_l1In.f; rw [if_pos h200.1]; simp; omega
            have wc : K.Eqn (wrap64 (c + F)) (c + F) := ⟨K.w64 (by omega) (by omega)⟩
            have nb : c + F > 200 := by omega
            have fin : ∀ x31 X, Ev (fun k => spec_GoodRuns.j1 k l c l (l.length : Int) (n : Int) x31 X F) false := by
              intro x31 X
              apply K.Ev.succ
              simp only [spec_GoodRuns.j1, wc.out, if_pos nb]
              exact K.Ev.const (by cases x31 <;> rfl)
            apply K.Ev.succ
            simp only [spec_GoodRuns.l0, if_pos a1, if_pos a0, hF, qs, Option.bind_some, if_true]
            cases n with
            | zero => simp only [show ¬ (((0 : Nat) : Int) > 0) by omega, if_false]; exact fin _ _
            | succ n =>
              simp only [if_pos (show ((n + 1 : Nat) : Int) > 0 by omega), K.w64p n (show n < 9223372036854775807 by omega), if_pos (show (0 : Int) ≤ (n : Int) by omega), if_pos (show (n : Int) < (l.length : Int) by omega)]
              exact fin _ _
          · have qs : spec_l1In.f F 1 200 = some false := by
              unfold spec_l1In.f; split
              · simp; omega
              · rfl
            apply K.Ev.succ
            simp only [spec_GoodRuns.l0, if_pos a1, if_pos a0, hF, qs, Option.bind_some, Bool.false_eq_true, if_false]
            apply K.Ev.succ
            simp only [spec_GoodRuns.j1, if_true]; exact Ev.now _
        · have qi : impl_within.f F 1 (200 - c) = some false := by
            unfold impl_within.f; split
            · simp; omega
            · rfl
          apply K.Ev.succ
          simp only [impl_GoodRuns.l0, if_pos a1, if_pos a0, hF, wm.out, qi, Option.bind_some, Bool.false_eq_true, if_false]; exact Ev.now _
  obtain ⟨b, e1, e2, e3⟩ := key l.length 0 0 (by omega) (by omega) (by omega)
  refine ⟨b, by simp only [spec_GoodRuns.f]; exact e1, by simp only [impl_GoodRuns.f]; exact e2, fun hb => ?_⟩
  obtain ⟨g1, g2⟩ := e3 hb
  exact ⟨g1, fun i hi => g2 i (Nat.zero_le _) hi⟩

theorem impl_long (s : ByteArray) (hs : s.size ≤ 1048576) : ∀ (d n : Nat) (x : List S56), n + d = s.size → x.length ≤ n → 200 < x.length → Ev (fun k => impl_UnpackRuns.l0 k s x (n : Int)) ([], false) := by
  intro d
  induction d using Nat.strongRecOn with
  | _ d ih =>
  intro n x h1 h2 h3
  have endI : Ev (fun k => (impl_GoodRuns.f k x).bind fun t141 => (if t141 = true then (some (x, true)) else (some (([] : List S56), false)))) ([], false) := by
    obtain ⟨b, _, e2, e3⟩ := good_same x (by omega)
    refine Ev.bind e2 ?_
    cases b with
    | true => have := (e3 rfl).1; omega
    | false => simp only [Bool.false_eq_true, if_false]; exact Ev.now _
  rcases Nat.eq_zero_or_pos d with rfl | hd
  · apply K.Ev.succ
    simp only [impl_UnpackRuns.l0, if_neg (show ¬ ((n : Int) < (s.size : Int)) by omega)]
    exact endI
  have a1 : (n : Int) < (s.size : Int) := by omega
  have a0 : (0 : Int) ≤ (n : Int) := by omega
  have lim : x.length < 8796093022208 := by omega
  have ws : K.Eqn (wrap64 ((n : Int) + 1)) (((n + 1 : Nat) : Int)) := ⟨K.w64s n (by omega)⟩
  have single : ∀ y, Ev (fun k => impl_UnpackRuns.j1 k s x ((n + 1 : Nat) : Int) false y 1) ([], false) := by
    intro y
    apply K.Ev.succ
    simp only [impl_UnpackRuns.j1, Bool.false_eq_true, if_false, if_pos lim]
    exact ih (d - 1) (by omega) (n + 1) _ (by omega) (by simp; omega) (by simp; omega)
  apply K.Ev.succ
  simp only [impl_UnpackRuns.l0, if_pos a1, if_pos a0, ws.out]
  by_cases h2' : ((n + 1 : Nat) : Int) < (s.size : Int)
  · simp only [if_pos h2', if_pos (show (0 : Int) ≤ ((n + 1 : Nat) : Int) by omega)]
    by_cases hb : bt s ((n + 1 : Nat) : Int) = bt s (n : Int)
    · have ws2 : wrap64 (((n + 1 : Nat) : Int) + 1) = ((n + 2 : Nat) : Int) := K.w64s (n + 1) (by omega)
      have ws3 : K.Eqn (wrap64 (((n + 1 : Nat) : Int) + 2)) (((n + 3 : Nat) : Int)) := ⟨by rw [K.w64 (by omega) (by omega)]; omega⟩
      apply K.Ev.succ
      simp only [impl_UnpackRuns.j1, beq_iff_eq.mpr hb, if_true, ws2, ws3.out]
      by_cases h3' : ((n + 2 : Nat) : Int) = (s.size : Int)
      · simp only [if_pos h3']; exact Ev.now _
      · simp only [if_neg h3', if_pos (show (0 : Int) ≤ ((n + 2 : Nat) : Int) by omega), if_pos (show ((n + 2 : Nat) : Int) < (s.size : Int) by omega), if_pos lim]
        exact ih (d - 3) (by omega) (n + 3) _ (by omega) (by simp; omega) (by simp; omega)
    · simp only [beq_eq_false_iff_ne.mpr hb]; exact single _
  · simp only [if_neg h2']; exact single _
theorem unpack_same (s : ByteArray) (hs : s.size ≤ 1048576) : ∀ (d n : Nat) (x : List S56), n + d = s.size → x.length ≤ n → x.length ≤ 201 → x.flatMap packOne = (bytesOf s).take n → ∃ r : List S56 × Bool, r.1.length ≤ 200 ∧ Ev (fun k => spec_UnpackRuns.l0 k s x (n : Int)) r ∧ Ev (fun k => impl_UnpackRuns.l0 k s x (n : Int)) r := by
  intro d
  induction d using Nat.strongRecOn with
  | _ d ih =>
  intro n x h1 h2 h201 hp
  have bl := bytesOf_length s
  obtain ⟨b, g1, g2, g3⟩ := good_same x (by omega)
  rcases Nat.eq_zero_or_pos d with rfl | hd
  · -- the end of the text
    have pk : (strOfNums (x.flatMap packOne)).toList = s.toList := by
      rw [hp, List.take_of_length_le (by omega), K.strOf_bytesOf]
    refine ⟨if b then (x, true) else ([], false), ?_, ?_, ?_⟩
    · cases b with
      | true => exact (g3 rfl).1
      | false => simp
    · apply K.Ev.succ
      simp only [spec_UnpackRuns.l0, if_neg (show ¬ ((n : Int) < (s.size : Int)) by omega)]
      apply K.Ev.succ
      simp only [spec_UnpackRuns.j1, Bool.false_eq_true, if_false]
      refine Ev.bind g1 ?_
      cases b with
      | true =>
        simp only [if_true]
        refine Ev.bind (l12Pack_ev x (by omega)) ?_
        simp only [pk, if_true]
        exact Ev.now _
      | false => simp only [Bool.false_eq_true, if_false]; exact Ev.now _
    · apply K.Ev.succ
      simp only [impl_UnpackRuns.l0, if_neg (show ¬ ((n : Int) < (s.size : Int)) by omega)]
      refine Ev.bind g2 ?_
      cases b with
      | true => simp only [if_true]; exact Ev.now _
      | false => simp only [Bool.false_eq_true, if_false]; exact Ev.now _
  have a1 : (n : Int) < (s.size : Int) := by omega
  have a0 : (0 : Int) ≤ (n : Int) := by omega
  by_cases h200 : x.length ≤ 200
  · have lim : x.length < 8796093022208 := by omega
    have ws : K.Eqn (wrap64 ((n : Int) + 1)) (((n + 1 : Nat) : Int)) := ⟨K.w64s n (by omega)⟩
    have dl : decide ((x.length : Int) ≤ 200) = true := by simp; omega
    have bn : ∀ m : Nat, m < s.size → (bytesOf s)[m]? = some (bt s (m : Int)) := by
      intro m hm
      rw [K.bt_bytes, List.getElem?_eq_getElem (by omega)]
      simp [List.getElem?_eq_getElem (show m < (bytesOf s).length by omega)]
    have single : ∀ c : Bool, c = false → ∃ r : List S56 × Bool, r.1.length ≤ 200 ∧ Ev (fun k => spec_UnpackRuns.j2 k s x (n : Int) c (bt s (n : Int)) 1) r ∧ Ev (fun k => impl_UnpackRuns.j1 k s x ((n + 1 : Nat) : Int) c (bt s (n : Int)) 1) r := by
      rintro c rfl
      obtain ⟨r, e0, e1, e2⟩ := ih (d - 1) (by omega) (n + 1) (x ++ [⟨bt s (n : Int), 1⟩]) (by omega) (by simp; omega) (by simp; omega) (by
        rw [List.flatMap_append, hp, List.take_add_one, bn n (by omega)]
        simp [packOne])
      refine ⟨r, e0, ?_, ?_⟩ <;> apply K.Ev.succ
      · simp only [spec_UnpackRuns.j2, Bool.false_eq_true, if_false, if_pos lim, ws.out]; exact e1
      · simp only [impl_UnpackRuns.j1, Bool.false_eq_true, if_false, if_pos lim]; exact e2
    have fin : ∃ r : List S56 × Bool, r.1.length ≤ 200 ∧ Ev (fun k => spec_UnpackRuns.j1 k s x (n : Int) true) r ∧ Ev (fun k => impl_UnpackRuns.l0 k s x (n : Int)) r := by
      by_cases h2' : ((n + 1 : Nat) : Int) < (s.size : Int)
      · by_cases hb : bt s ((n + 1 : Nat) : Int) = bt s (n : Int)
        · have ws2 : wrap64 (((n + 1 : Nat) : Int) + 1) = ((n + 2 : Nat) : Int) := K.w64s (n + 1) (by omega)
          have ws2' : K.Eqn (wrap64 ((n : Int) + 2)) (((n + 2 : Nat) : Int)) := ⟨by rw [K.w64 (by omega) (by omega)]; omega⟩
          have ws3 : K.Eqn (wrap64 (((n + 1 : Nat) : Int) + 2)) (((n + 3 : Nat) : Int)) := ⟨by rw [K.w64 (by omega) (by omega)]; omega⟩
          have ws3' : K.Eqn (wrap64 (((n + 2 : Nat) : Int) + 1)) (((n + 3 : Nat) : Int)) := ⟨K.w64s (n + 2) (by omega)⟩
          have br := bt_range s ((n + 2 : Nat) : Int)
          have wb : K.Eqn (wrap64 (bt s ((n + 2 : Nat) : Int))) (bt s ((n + 2 : Nat) : Int)) := ⟨K.w64 (by omega) (by omega)⟩
          have wb1 : K.Eqn (wrap64 (bt s ((n + 2 : Nat) : Int) + 2)) (bt s ((n + 2 : Nat) : Int) + 2) := ⟨K.w64 (by omega) (by omega)⟩
          have wb2 : K.Eqn (wrap64 (2 + bt s ((n + 2 : Nat) : Int))) (bt s ((n + 2 : Nat) : Int) + 2) := ⟨by rw [K.w64 (by omega) (by omega)]; omega⟩
          by_cases h3' : ((n + 2 : Nat) : Int) < (s.size : Int)
          · obtain ⟨r, e0, e1, e2⟩ := ih (d - 3) (by omega) (n + 3) (x ++ [⟨bt s (n : Int), bt s ((n + 2 : Nat) : Int) + 2⟩]) (by omega) (by simp; omega) (by simp; omega) (by
              have f1 : bt s ((n + 2 : Nat) : Int) + 2 > 1 := by omega
              have f2 : K.Eqn (wrap64 (bt s ((n + 2 : Nat) : Int) + 2 - 2) % 256) (bt s ((n + 2 : Nat) : Int)) := ⟨by rw [K.w64 (by omega) (by omega)]; omega⟩
              rw [List.flatMap_append, hp, List.take_add_one, List.take_add_one, List.take_add_one, bn n (by omega), bn (n + 1) (by omega), bn (n + 2) (by omega)]
              have pk : packOne ⟨bt s (n : Int), bt s ((n + 2 : Nat) : Int) + 2⟩ = [bt s (n : Int), bt s ((n + 1 : Nat) : Int), bt s ((n + 2 : Nat) : Int)] := by
                simp only [packOne, if_pos f1, f2.out, hb]
              simp only [List.flatMap_cons, List.flatMap_nil, List.append_nil, pk, Option.toList_some, List.append_assoc, List.cons_append, List.nil_append])
            refine ⟨r, e0, ?_, ?_⟩ <;> apply K.Ev.succ
            · simp only [spec_UnpackRuns.j1, if_true, if_pos a0, if_pos a1, ws.out, if_pos h2', if_pos (show (0 : Int) ≤ ((n + 1 : Nat) : Int) by omega)]
              apply K.Ev.succ
              simp only [spec_UnpackRuns.j2, beq_iff_eq.mpr hb, if_true, ws2'.out, ws3'.out, if_neg (show ¬ (((n + 2 : Nat) : Int) ≥ (s.size : Int)) by omega), if_pos (show (0 : Int) ≤ ((n + 2 : Nat) : Int) by omega), if_pos h3', if_pos lim, wb.out, wb1.out]
              exact e1
            · simp only [impl_UnpackRuns.l0, if_pos a0, if_pos a1, ws.out, if_pos h2', if_pos (show (0 : Int) ≤ ((n + 1 : Nat) : Int) by omega)]
              apply K.Ev.succ
              simp only [impl_UnpackRuns.j1, beq_iff_eq.mpr hb, if_true, ws2, ws3.out, if_neg (show ¬ (((n + 2 : Nat) : Int) = (s.size : Int)) by omega), if_pos (show (0 : Int) ≤ ((n + 2 : Nat) : Int) by omega), if_pos h3', if_pos lim, wb.out, wb2.out]
              exact e2
          · refine ⟨([], false), by simp, ?_, ?_⟩ <;> apply K.Ev.succ
            · simp only [spec_UnpackRuns.j1, if_true, if_pos a0, if_pos a1, ws.out, if_pos h2', if_pos (show (0 : Int) ≤ ((n + 1 : Nat) : Int) by omega)]
              apply K.Ev.succ
              simp only [spec_UnpackRuns.j2, beq_iff_eq.mpr hb, if_true, ws2'.out, if_pos (show ((n + 2 : Nat) : Int) ≥ (s.size : Int) by omega)]
              exact Ev.now _
            · simp only [impl_UnpackRuns.l0, if_pos a0, if_pos a1, ws.out, if_pos h2', if_pos (show (0 : Int) ≤ ((n + 1 : Nat) : Int) by omega)]
              apply K.Ev.succ
              simp only [impl_UnpackRuns.j1, beq_iff_eq.mpr hb, if_true, ws2, if_pos (show ((n + 2 : Nat) : Int) = (s.size : Int) by omega)]
              exact Ev.now _
        · obtain ⟨r, e0, e1, e2⟩ := single _ (beq_eq_false_iff_ne.mpr hb)
          refine ⟨r, e0, ?_, ?_⟩ <;> apply K.Ev.succ
          · simp only [spec_UnpackRuns.j1, if_true, if_pos a0, if_pos a1, ws.out, if_pos h2', if_pos (show (0 : Int) ≤ ((n + 1 : Nat) : Int) by omega)]; exact e1
          · simp only [impl_UnpackRuns.l0, if_pos a0, if_pos a1, ws.out, if_pos h2', if_pos (show (0 : Int) ≤ ((n + 1 : Nat) : Int) by omega)]; exact e2
      · obtain ⟨r, e0, e1, e2⟩ := single false rfl
        refine ⟨r, e0, ?_, ?_⟩ <;> apply K.Ev.succ
        · simp only [spec_UnpackRuns.j1, if_true, if_pos a0, if_pos a1, ws.out, if_neg h2']; exact e1
        · simp only [impl_UnpackRuns.l0, if_pos a0, if_pos a1, ws.out, if_neg h2']; exact e2
    obtain ⟨r, e0, e1, e2⟩ := fin
    refine ⟨r, e0, ?_, e2⟩
    apply K.Ev.succ
    simp only [spec_UnpackRuns.l0, if_pos a1, dl]
    exact e1
  · refine ⟨([], false), by simp, ?_, impl_long s hs d n x h1 h2 (by omega)⟩
    apply K.Ev.succ
    have dl : decide ((x.length : Int) ≤ 200) = false := by simp; omega
    simp only [spec_UnpackRuns.l0, if_pos a1, dl]
    apply K.Ev.succ
    simp only [spec_UnpackRuns.j1, Bool.false_eq_true, if_false]
    refine Ev.bind g1 ?_
    cases b with
    | true => have := (g3 rfl).1; omega
    | false => simp only [Bool.false_eq_true, if_false]; exact Ev.now _
theorem unpack_eq (s : ByteArray) (hs : s.size ≤ 1048576) : ∃ r : List S56 × Bool, r.1.length ≤ 200 ∧ Ev (fun k => spec_UnpackRuns.f k s) r ∧ Ev (fun k => impl_UnpackRuns.f k s) r := by
  obtain ⟨r, e0, e1, e2⟩ := unpack_same s hs s.size 0 [] (by omega) (by simp) (by simp) (by simp)
  exact ⟨r, e0, by simp only [spec_UnpackRuns.f]; exact e1, by simp only [impl_UnpackRuns.f]; exact e2⟩
theorem FnExactUnpackRuns : laws_FnExactUnpackRuns.Pure := by
  intro s hs
  refine Ev.rounds (?_ : Ev (fun k => laws_FnExactUnpackRuns.f k s) true)
  unfold laws_FnExactUnpackRuns.f
  by_cases h : (s.size : Int) > 1048576
  · simp only [if_pos h]; exact Ev.now _
  simp only [if_neg h]
  obtain ⟨r, e0, e1, e2⟩ := unpack_eq s (by omega)
  obtain ⟨m, g, m1, m2, m3⟩ := laws_markRunS_held r.1 (by omega)
  refine Ev.bind e1 ?_
  refine Ev.bind e2 ?_
  refine Ev.bind (laws_eqRunS_self r.1 (by omega)) ?_
  simp only [if_true, bne_self_eq_false]
  apply K.Ev.succ
  simp only [laws_FnExactUnpackRuns.j0, Bool.false_eq_true, if_false]
  refine Ev.bind m1 ?_
  refine Ev.bind m2 ?_
  simp only [if_neg (show ¬ m < 0 by omega), if_true]
  refine Ev.bind e2 ?_
  refine Ev.bind (laws_eqRunS_self r.1 (by omega)) ?_
  simp only [if_true, bne_self_eq_false]
  apply K.Ev.succ
  simp only [laws_FnExactUnpackRuns.j1, Bool.false_eq_true, if_false]
  refine Ev.bind m2 ?_
  simp only [if_neg (show ¬ m < 0 by omega), if_true]
  exact Ev.now _

end Go.Proofs.Ytkpdpblgnhoplaa.Pure
