/- The law FnExactStepPeel answers true for all drops and states: what the program peels is what the reference peels, the drops and the state stay, and no later call changes what was handed back. -/
import Derived.Test.YtimajkahadhhhaaPFnExactStepPeelx13
import Derived.Test.YtimajkahadhhhaaKKit
import Derived.Test.YtimajkahadhhhaaKSorted
import Derived.Test.YtimajkahadhhhaaKGF
import Derived.Test.YtimajkahadhhhaaKGFL
set_option linter.unusedVariables false
set_option linter.unusedSimpArgs false
namespace Go.Proofs.Ytimajkahadhhhaa.Pure
open Go Go.RowKit Go.Proofs.Ytimajkahadhhhaa Go.Proofs.Ytimajkahadhhhaa.PFnExactStepPeel Go.Proofs.YtimajkahadhhhaaW.PrintWords Go.Proofs.YtimajkahadhhhaaW.PrintLast Go.Proofs.YtimajkahadhhhaaW.PrintMore

/-- The law's drops as the program's. -/
def dropIn (r : S60) : S54 := ⟨r.f0, r.f1⟩
theorem laws_toDropS_ev (l : List S60) (hl : l.length ≤ 1048576) : Ev (fun k => laws_toDropS.f k l) (l.map dropIn) := by
  have key : ∀ (d n : Nat) (x : List S54), n + d = l.length → x.length = l.length → x.take n = (l.map dropIn).take n → Ev (fun k => laws_toDropS.l0 k l x (n : Int)) (l.map dropIn) := by
    intro d
    induction d with
    | zero =>
      intro n x h1 h2 h3
      apply K.Ev.succ
      simp only [laws_toDropS.l0, if_neg (show ¬ ((n : Int) < (l.length : Int)) by omega)]
      have e : x = l.map dropIn := by
        rw [List.take_of_length_le (by omega), List.take_of_length_le (by simp; omega)] at h3; exact h3
      rw [e]; exact Ev.now _
    | succ d ih =>
      intro n x h1 h2 h3
      apply K.Ev.succ
      have hn : n < l.length := by omega
      have hr : rd_T60 l (n : Int) = l[n] := by simp [rd_T60, List.getElem?_eq_getElem hn]
      simp only [laws_toDropS.l0, if_pos (show (n : Int) < (l.length : Int) by omega), if_pos (show (0 : Int) ≤ (n : Int) by omega), laws_toDrop.f, Option.bind_some, if_pos (show (n : Int) < (x.length : Int) by omega), Int.toNat_natCast, hr]
      rw [K.w64s n (by omega)]
      refine ih (n + 1) _ (by omega) (by simpa using h2) ?_
      rw [K.take_set _ _ _ (by omega), K.take_succ' (l.map dropIn) n (by simpa using hn), h3]
      simp [dropIn]
  unfold laws_toDropS.f
  simp only [if_pos (show (0 : Int) ≤ (l.length : Int) by omega), Int.toNat_natCast, if_pos (show l.length ≤ 11728124029610 by omega)]
  exact key l.length 0 _ (by omega) (by simp) (by simp)

theorem laws_eqDropS_self (l : List S54) (hl : l.length ≤ 140737488355328) : Ev (fun k => laws_eqDropS.f k l l) true := by
  have key : ∀ (d n : Nat), n + d = l.length → Ev (fun k => laws_eqDropS.l0 k l l (n : Int)) true := by
    intro d
    induction d with
    | zero =>
      intro n h1
      apply K.Ev.succ
      simp only [laws_eqDropS.l0, if_neg (show ¬ ((n : Int) < (l.length : Int)) by omega)]
      exact Ev.now _
    | succ d ih =>
      intro n h1
      apply K.Ev.succ
      simp only [laws_eqDropS.l0, if_pos (show (n : Int) < (l.length : Int) by omega), if_pos (show (0 : Int) ≤ (n : Int) by omega), laws_eqDrop.f, if_true, Option.bind_some]
      rw [K.w64s n (by omega)]
      exact ih (n + 1) (by omega)
  unfold laws_eqDropS.f
  simp only [if_true]
  exact key l.length 0 (by omega)

theorem szDropS_upto (l : List S60) (hl : l.length ≤ maxLen) (hs : ∀ s ∈ l, s.f1.size ≤ maxLen) : ∃ r : Int, Ev (fun k => laws_szDropS.f k l 1048576) r ∧ r ≤ 1048576 ∧ (0 ≤ r → l.length ≤ 1048576) := by
  have hl' : l.length ≤ 9223372036854775807 := hl
  have hw : wrap64 (1048576 - (l.length : Int)) = 1048576 - (l.length : Int) := K.w64 (by omega) (by omega)
  by_cases hneg : 1048576 - (l.length : Int) < 0
  · refine ⟨-1, ?_, by decide, fun h => absurd h (by decide)⟩
    simp only [laws_szDropS.f, hw, if_pos hneg]
    exact Ev.now _
  · have key : ∀ (d n : Nat) (x : Int), n + d = l.length → 0 ≤ x → x ≤ 1048576 → ∃ r : Int, Ev (fun k => laws_szDropS.l0 k l x (n : Int)) r ∧ r ≤ 1048576 := by
      intro d
      induction d with
      | zero =>
        intro n x h1 h2 h3
        refine ⟨x, ?_, h3⟩
        apply K.Ev.succ
        simp only [laws_szDropS.l0, if_neg (show ¬ ((n : Int) < (l.length : Int)) by omega)]
        exact Ev.now _
      | succ d ih =>
        intro n x h1 h2 h3
        have hn : n < l.length := by omega
        have hr : rd_T60 l (n : Int) = l[n] := by simp [rd_T60, hn]
        have hz : l[n].f1.size ≤ 9223372036854775807 := hs _ (List.getElem_mem hn)
        have hwx : K.Eqn (wrap64 (x - (l[n].f1.size : Int))) (x - (l[n].f1.size : Int)) := ⟨K.w64 (by omega) (by omega)⟩
        have hwn : K.Eqn (wrap64 ((n : Int) + 1)) ((n + 1 : Nat) : Int) := ⟨K.w64s n (by omega)⟩
        by_cases hx : x - (l[n].f1.size : Int) < 0
        · refine ⟨-1, ?_, by decide⟩
          apply K.Ev.succ
          simp only [laws_szDropS.l0, if_pos (show (n : Int) < (l.length : Int) by omega), if_pos (show (0 : Int) ≤ (n : Int) by omega), hr, laws_szDrop.f, hwx.out, if_pos hx, Option.bind_some, if_pos (show (-1 : Int) < 0 by decide)]
          exact Ev.now _
        · obtain ⟨r, e1, e2⟩ := ih (n + 1) (x - (l[n].f1.size : Int)) (by omega) (by omega) (by omega)
          refine ⟨r, ?_, e2⟩
          apply K.Ev.succ
          simp only [laws_szDropS.l0, if_pos (show (n : Int) < (l.length : Int) by omega), if_pos (show (0 : Int) ≤ (n : Int) by omega), hr, laws_szDrop.f, hwx.out, if_neg hx, Option.bind_some, hwn.out]
          exact e1
    obtain ⟨r, e1, e2⟩ := key l.length 0 (1048576 - (l.length : Int)) (by omega) (by omega) (by omega)
    refine ⟨r, ?_, e2, fun _ => by omega⟩
    simp only [laws_szDropS.f, hw, if_neg hneg]
    exact e1
theorem szStringS_upto (l : List ByteArray) (hl : l.length ≤ maxLen) (hs : ∀ s ∈ l, s.size ≤ maxLen) (c : Int) (hc0 : 0 ≤ c) (hc : c ≤ 1048576) : ∃ r : Int, Ev (fun k => laws_szStringS.f k l c) r ∧ r ≤ 1048576 ∧ (0 ≤ r → l.length ≤ 1048576) := by
  have hl' : l.length ≤ 9223372036854775807 := hl
  have hw : wrap64 (c - (l.length : Int)) = c - (l.length : Int) := K.w64 (by omega) (by omega)
  by_cases hneg : c - (l.length : Int) < 0
  · refine ⟨-1, ?_, by decide, fun h => absurd h (by decide)⟩
    simp only [laws_szStringS.f, hw, if_pos hneg]
    exact Ev.now _
  · have key : ∀ (d n : Nat) (x : Int), n + d = l.length → 0 ≤ x → x ≤ 1048576 → ∃ r : Int, Ev (fun k => laws_szStringS.l0 k l x (n : Int)) r ∧ r ≤ 1048576 := by
      intro d
      induction d with
      | zero =>
        intro n x h1 h2 h3
        refine ⟨x, ?_, h3⟩
        apply K.Ev.succ
        simp only [laws_szStringS.l0, if_neg (show ¬ ((n : Int) < (l.length : Int)) by omega)]
        exact Ev.now _
      | succ d ih =>
        intro n x h1 h2 h3
        have hn : n < l.length := by omega
        have hr : rdOf ByteArray.empty l (n : Int) = l[n] := by simp [rdOf, hn]
        have hz : l[n].size ≤ 9223372036854775807 := hs _ (List.getElem_mem hn)
        have hwx : K.Eqn (wrap64 (x - (l[n].size : Int))) (x - (l[n].size : Int)) := ⟨K.w64 (by omega) (by omega)⟩
        have hwn : K.Eqn (wrap64 ((n : Int) + 1)) ((n + 1 : Nat) : Int) := ⟨K.w64s n (by omega)⟩
        by_cases hx : x - (l[n].size : Int) < 0
        · refine ⟨-1, ?_, by decide⟩
          apply K.Ev.succ
          simp only [laws_szStringS.l0, if_pos (show (n : Int) < (l.length : Int) by omega), if_pos (show (0 : Int) ≤ (n : Int) by omega), hr, hwx.out, if_pos hx]
          exact Ev.now _
        · obtain ⟨r, e1, e2⟩ := ih (n + 1) (x - (l[n].size : Int)) (by omega) (by omega) (by omega)
          refine ⟨r, ?_, e2⟩
          apply K.Ev.succ
          simp only [laws_szStringS.l0, if_pos (show (n : Int) < (l.length : Int) by omega), if_pos (show (0 : Int) ≤ (n : Int) by omega), hr, hwx.out, if_neg hx, hwn.out]
          exact e1
    obtain ⟨r, e1, e2⟩ := key l.length 0 (c - (l.length : Int)) (by omega) (by omega) (by omega)
    refine ⟨r, ?_, e2, fun _ => by omega⟩
    simp only [laws_szStringS.f, hw, if_neg hneg]
    exact e1
theorem szPeel_ev (B : List ByteArray) (G : List Bool) (a : Int) (hB : B.length ≤ maxLen) (hs : ∀ s ∈ B, s.size ≤ maxLen) (hG : G.length ≤ maxLen) (c : Int) (hc0 : 0 ≤ c) (hc : c ≤ 1048576) : ∃ r : Int, Ev (fun k => laws_szPeel.f k B G a c) r ∧ (0 ≤ r → B.length ≤ 1048576 ∧ G.length ≤ 1048576) := by
  have hG' : G.length ≤ 9223372036854775807 := hG
  obtain ⟨r, e1, e2, e3⟩ := szStringS_upto B hB hs c hc0 hc
  by_cases hr : r < 0
  · refine ⟨-1, ?_, fun h => absurd h (by decide)⟩
    simp only [laws_szPeel.f]
    refine Ev.bind e1 ?_
    simp only [if_pos hr]
    exact Ev.now _
  · have hw : wrap64 (r - (G.length : Int)) = r - (G.length : Int) := K.w64 (by omega) (by omega)
    by_cases hn : r - (G.length : Int) < 0
    · refine ⟨-1, ?_, fun h => absurd h (by decide)⟩
      simp only [laws_szPeel.f]
      refine Ev.bind e1 ?_
      simp only [if_neg hr, laws_szBoolS.f, hw, if_pos hn, Option.bind_some, if_pos (show (-1 : Int) < 0 by decide)]
      exact Ev.now _
    · refine ⟨r - (G.length : Int), ?_, fun h => ⟨e3 (by omega), by omega⟩⟩
      simp only [laws_szPeel.f]
      refine Ev.bind e1 ?_
      simp only [if_neg hr, laws_szBoolS.f, hw, if_neg hn, Option.bind_some]
      exact Ev.now _

theorem laws_toStringS_ev (l : List ByteArray) (hl : l.length ≤ 1048576) : Ev (fun k => laws_toStringS.f k l) l := by
  have key : ∀ (d n : Nat) (x : List ByteArray), n + d = l.length → x.length = l.length → x.take n = l.take n → Ev (fun k => laws_toStringS.l0 k l x (n : Int)) l := by
    intro d
    induction d with
    | zero =>
      intro n x h1 h2 h3
      apply K.Ev.succ
      simp only [laws_toStringS.l0, if_neg (show ¬ ((n : Int) < (l.length : Int)) by omega)]
      have e : x = l := by
        rw [List.take_of_length_le (by omega), List.take_of_length_le (by omega)] at h3; exact h3
      rw [e]; exact Ev.now _
    | succ d ih =>
      intro n x h1 h2 h3
      apply K.Ev.succ
      have hn : n < l.length := by omega
      have hr : rdOf ByteArray.empty l (n : Int) = l[n] := by simp [rdOf, hn]
      simp only [laws_toStringS.l0, if_pos (show (n : Int) < (l.length : Int) by omega), if_pos (show (0 : Int) ≤ (n : Int) by omega), if_pos (show (n : Int) < (x.length : Int) by omega), Int.toNat_natCast, hr]
      rw [K.w64s n (by omega)]
      refine ih (n + 1) _ (by omega) (by simpa using h2) ?_
      rw [K.take_set _ _ _ (by omega), K.take_succ' l n hn, h3]
  unfold laws_toStringS.f
  simp only [if_pos (show (0 : Int) ≤ (l.length : Int) by omega), Int.toNat_natCast, if_pos (show l.length ≤ 17592186044416 by omega)]
  exact key l.length 0 _ (by omega) (by simp) (by simp)

theorem laws_toBoolS_ev (l : List Bool) (hl : l.length ≤ 1048576) : Ev (fun k => laws_toBoolS.f k l) l := by
  have key : ∀ (d n : Nat) (x : List Bool), n + d = l.length → x.length = l.length → x.take n = l.take n → Ev (fun k => laws_toBoolS.l0 k l x (n : Int)) l := by
    intro d
    induction d with
    | zero =>
      intro n x h1 h2 h3
      apply K.Ev.succ
      simp only [laws_toBoolS.l0, if_neg (show ¬ ((n : Int) < (l.length : Int)) by omega)]
      have e : x = l := by
        rw [List.take_of_length_le (by omega), List.take_of_length_le (by omega)] at h3; exact h3
      rw [e]; exact Ev.now _
    | succ d ih =>
      intro n x h1 h2 h3
      apply K.Ev.succ
      have hn : n < l.length := by omega
      have hr : rdOf false l (n : Int) = l[n] := by simp [rdOf, hn]
      simp only [laws_toBoolS.l0, if_pos (show (n : Int) < (l.length : Int) by omega), if_pos (show (0 : Int) ≤ (n : Int) by omega), if_pos (show (n : Int) < (x.length : Int) by omega), Int.toNat_natCast, hr]
      rw [K.w64s n (by omega)]
      refine ih (n + 1) _ (by omega) (by simpa using h2) ?_
      rw [K.take_set _ _ _ (by omega), K.take_succ' l n hn, h3]
  unfold laws_toBoolS.f
  simp only [if_pos (show (0 : Int) ≤ (l.length : Int) by omega), Int.toNat_natCast, if_pos (show l.length ≤ 281474976710656 by omega)]
  exact key l.length 0 _ (by omega) (by simp) (by simp)

theorem laws_toPeel_ev (B : List ByteArray) (G : List Bool) (a : Int) (hB : B.length ≤ 1048576) (hG : G.length ≤ 1048576) : Ev (fun k => laws_toPeel.f k B G a) (B, G, a) := by
  simp only [laws_toPeel.f]
  refine Ev.bind (laws_toStringS_ev B hB) ?_
  exact Ev.bind (laws_toBoolS_ev G hG) (Ev.now _)

theorem inRd (x lo hi : Int) : spec_l1In.f x lo hi = some (decide (lo ≤ x ∧ x ≤ hi)) := by
  unfold spec_l1In.f
  by_cases h : x ≥ lo
  · rw [if_pos h]; congr 1; rw [decide_eq_decide]; omega
  · rw [if_neg h, decide_eq_false (by omega)]
theorem inId (x lo hi : Int) : impl_within.f x lo hi = some (decide (lo ≤ x ∧ x ≤ hi)) := inRd x lo hi
/-- A state with wrong lengths is not valid. -/
theorem peel_bad (l : List S54) (B : List ByteArray) (G : List Bool) (a : Int) (hG : G.length ≤ 1048576) (hbad : ¬ ((1 ≤ (B.length : Int) ∧ (B.length : Int) ≤ 12) ∧ G.length = B.length)) :
    Ev (fun k => spec_l9Peel.f k l B G a) false ∧ Ev (fun k => impl_isPeel.f k B G a l) false := by
  constructor
  · have key : ∀ (d i : Nat) (c : Int), i + d = G.length → Ev (fun k => spec_l9Peel.l0 k l c G (G.length : Int) (i : Int) B G a) false := by
      intro d
      induction d with
      | zero =>
        intro i c hi
        apply K.Ev.succ
        simp only [spec_l9Peel.l0, if_neg (show ¬ ((i : Int) < (G.length : Int)) by omega), inRd, Option.bind_some]
        by_cases h : 1 ≤ (B.length : Int) ∧ (B.length : Int) ≤ 12
        · simp only [decide_eq_true h, if_true, if_neg (show ¬ ((G.length : Int) = (B.length : Int)) from fun e => hbad ⟨h, by omega⟩)]
          exact Ev.now _
        · simp only [decide_eq_false h, Bool.false_eq_true, if_false]
          exact Ev.now _
      | succ d ih =>
        intro i c hi
        have hw := K.Eqn.mk (K.w64s i (show i < 9223372036854775807 by omega))
        apply K.Ev.succ
        simp only [spec_l9Peel.l0, if_pos (show (i : Int) < (G.length : Int) by omega), if_pos (show (0 : Int) ≤ (i : Int) by omega), hw.out]
        have go : ∀ c : Int, Ev (fun k => spec_l9Peel.l0 k l c G (G.length : Int) ((i + 1 : Nat) : Int) B G a) false := fun c => ih (i + 1) c (by omega)
        by_cases h1 : rdOf false G (i : Int) = true
        · simp only [if_pos h1]
          by_cases h2 : (i : Int) < (B.length : Int)
          · simp only [if_pos h2]
            by_cases h3 : (l.length : Int) > 0
            · simp only [if_pos h3, if_pos (show (0 : Int) < (l.length : Int) from h3)]
              by_cases h4 : ((rdOf ByteArray.empty B (i : Int)).size : Int) = (((rd_T54 l 0).f1).size : Int)
              · simp only [if_pos h4]
                by_cases h5 : ((rdOf ByteArray.empty B (i : Int)).size : Int) > 40
                · simp only [if_pos h5]; exact Ev.now _
                · simp only [if_neg h5]; exact go _
              · simp only [if_neg h4]; exact Ev.now _
            · simp only [if_neg h3]
              by_cases h5 : ((rdOf ByteArray.empty B (i : Int)).size : Int) > 40
              · simp only [if_pos h5]; exact Ev.now _
              · simp only [if_neg h5]; exact go _
          · simp only [if_neg h2]; exact go _
        · simp only [if_neg h1]
          by_cases h2 : (i : Int) < (B.length : Int)
          · simp only [if_pos h2]
            by_cases h4 : (rdOf ByteArray.empty B (i : Int)).toList = ([] : List UInt8)
            · simp only [if_pos h4]
              by_cases h5 : ((rdOf ByteArray.empty B (i : Int)).size : Int) > 40
              · simp only [if_pos h5]; exact Ev.now _
              · simp only [if_neg h5]; exact go _
            · simp only [if_neg h4]; exact Ev.now _
          · simp only [if_neg h2]; exact go _
    simp only [spec_l9Peel.f]
    exact key G.length 0 0 (by omega)
  · simp only [impl_isPeel.f, impl_areBlocks.f, inId, Option.bind_some]
    by_cases h : 1 ≤ (B.length : Int) ∧ (B.length : Int) ≤ 12
    · have e : ((G.length : Int) != (B.length : Int)) = true := by
        rw [bne_iff_ne]
        exact fun e => hbad ⟨h, by omega⟩
      simp only [decide_eq_true h, if_true, e]
      apply K.Ev.succ
      simp only [impl_isPeel.j0, if_true]
      exact Ev.now _
    · simp only [decide_eq_false h, Bool.false_eq_true, if_false]
      apply K.Ev.succ
      simp only [impl_isPeel.j0, if_true]
      exact Ev.now _
/-- A state with the right lengths is judged alike, where there are drops. -/
theorem peel_good (l : List S54) (B : List ByteArray) (G : List Bool) (a : Int) (n : Nat) (hB : B.length = n) (hG : G.length = n) (h1 : 1 ≤ n) (hn : n ≤ 12) (hz : 0 < l.length → (rd_T54 l 0).f1.size ≤ 40) :
    ∃ b b' : Bool, Ev (fun k => spec_l9Peel.f k l B G a) b ∧ Ev (fun k => impl_isPeel.f k B G a l) b' ∧
      (0 < l.length → b = b' ∧ (b = true → ∀ j : Nat, j < n → rdOf false G (j : Int) = true → (rdOf ByteArray.empty B (j : Int)).size = (rd_T54 l 0).f1.size)) := by
  have hin : (1 ≤ (B.length : Int) ∧ (B.length : Int) ≤ 12) := by omega
  have key : ∀ (d i : Nat) (c : Int), i + d = n → ∃ b b' : Bool, Ev (fun k => spec_l9Peel.l0 k l c G (G.length : Int) (i : Int) B G a) b ∧ Ev (fun k => impl_isPeel.l0 k l c B (B.length : Int) (i : Int) B G a) b' ∧
      (0 < l.length → b = b' ∧ (b = true → ∀ j : Nat, i ≤ j → j < n → rdOf false G (j : Int) = true → (rdOf ByteArray.empty B (j : Int)).size = (rd_T54 l 0).f1.size)) := by
    intro d
    induction d with
    | zero =>
      intro i c hi
      refine ⟨(a == c), (a == c), ?_, ?_, fun _ => ⟨rfl, fun _ j h1 h2 => by omega⟩⟩ <;> apply K.Ev.succ
      · simp only [spec_l9Peel.l0, if_neg (show ¬ ((i : Int) < (G.length : Int)) by omega), inRd, Option.bind_some, decide_eq_true hin, if_true, if_pos (show (G.length : Int) = (B.length : Int) by omega)]
        exact Ev.now _
      · simp only [impl_isPeel.l0, if_neg (show ¬ ((i : Int) < (B.length : Int)) by omega)]
        exact Ev.now _
    | succ d ih =>
      intro i c hi
      have hw := K.Eqn.mk (K.w64s i (show i < 9223372036854775807 by omega))
      have g1 : (i : Int) < (G.length : Int) := by omega
      have g2 : (0 : Int) ≤ (i : Int) := by omega
      have g3 : (i : Int) < (B.length : Int) := by omega
      by_cases h1 : rdOf false G (i : Int) = true
      · obtain ⟨b, b', e1, e2, e3⟩ := ih (i + 1) (wrap64 (c + 1)) (by omega)
        by_cases h3 : (l.length : Int) > 0
        · have hl0 : 0 < l.length := by omega
          by_cases h4 : ((rdOf ByteArray.empty B (i : Int)).size : Int) = (((rd_T54 l 0).f1).size : Int)
          · have h5 : ¬ (((rdOf ByteArray.empty B (i : Int)).size : Int) > 40) := by have := hz hl0; omega
            refine ⟨b, b', ?_, ?_, fun h => ⟨(e3 h).1, fun hb j q1 q2 q3 => ?_⟩⟩
            · apply K.Ev.succ
              simp only [spec_l9Peel.l0, if_pos g1, if_pos g2, if_pos h1, if_pos g3, if_pos h3, if_pos (show (0 : Int) < (l.length : Int) from h3), if_pos h4, if_neg h5, hw.out]
              exact e1
            · apply K.Ev.succ
              simp only [impl_isPeel.l0, if_pos g1, if_pos g2, if_pos g3, if_pos h1, if_pos h3, if_pos (show (0 : Int) < (l.length : Int) from h3), h4, bne_self_eq_false]
              apply K.Ev.succ
              simp only [impl_isPeel.j2, Bool.false_eq_true, if_false, if_pos g1, if_pos g2, if_pos h1, hw.out]
              exact e2
            · rcases Nat.lt_or_ge i j with q | q
              · exact (e3 h).2 hb j (by omega) q2 q3
              · obtain rfl : j = i := by omega
                omega
          · refine ⟨false, false, ?_, ?_, fun h => ⟨rfl, fun hb => by cases hb⟩⟩
            · apply K.Ev.succ
              simp only [spec_l9Peel.l0, if_pos g1, if_pos g2, if_pos h1, if_pos g3, if_pos h3, if_pos (show (0 : Int) < (l.length : Int) from h3), if_neg h4]
              exact Ev.now _
            · have e : (((rdOf ByteArray.empty B (i : Int)).size : Int) != (((rd_T54 l 0).f1).size : Int)) = true := by rw [bne_iff_ne]; exact h4
              apply K.Ev.succ
              simp only [impl_isPeel.l0, if_pos g1, if_pos g2, if_pos g3, if_pos h1, if_pos h3, if_pos (show (0 : Int) < (l.length : Int) from h3), e]
              apply K.Ev.succ
              simp only [impl_isPeel.j2, if_true]
              exact Ev.now _
        · have im : Ev (fun k => impl_isPeel.l0 k l c B (B.length : Int) (i : Int) B G a) b' := by
            apply K.Ev.succ
            simp only [impl_isPeel.l0, if_pos g1, if_pos g2, if_pos g3, if_pos h1, if_neg h3]
            apply K.Ev.succ
            simp only [impl_isPeel.j2, Bool.false_eq_true, if_false, if_pos g1, if_pos g2, if_pos h1, hw.out]
            exact e2
          by_cases h5 : ((rdOf ByteArray.empty B (i : Int)).size : Int) > 40
          · refine ⟨false, b', ?_, im, fun h => by omega⟩
            apply K.Ev.succ
            simp only [spec_l9Peel.l0, if_pos g1, if_pos g2, if_pos h1, if_pos g3, if_neg h3, if_pos h5]
            exact Ev.now _
          · refine ⟨b, b', ?_, im, fun h => by omega⟩
            apply K.Ev.succ
            simp only [spec_l9Peel.l0, if_pos g1, if_pos g2, if_pos h1, if_pos g3, if_neg h3, if_neg h5, hw.out]
            exact e1
      · obtain ⟨b, b', e1, e2, e3⟩ := ih (i + 1) c (by omega)
        by_cases h4 : (rdOf ByteArray.empty B (i : Int)).toList = ([] : List UInt8)
        · have h5 : ¬ (((rdOf ByteArray.empty B (i : Int)).size : Int) > 40) := by have := (K.toList_nil _).1 h4; omega
          refine ⟨b, b', ?_, ?_, fun h => ⟨(e3 h).1, fun hb j q1 q2 q3 => ?_⟩⟩
          · apply K.Ev.succ
            simp only [spec_l9Peel.l0, if_pos g1, if_pos g2, if_neg h1, if_pos g3, if_pos h4, if_neg h5, hw.out]
            exact e1
          · apply K.Ev.succ
            simp only [impl_isPeel.l0, if_pos g1, if_pos g2, if_pos g3, if_neg h1, if_pos h4]
            apply K.Ev.succ
            simp only [impl_isPeel.j2, Bool.false_eq_true, if_false, if_pos g1, if_pos g2, if_neg h1, hw.out]
            exact e2
          · rcases Nat.lt_or_ge i j with q | q
            · exact (e3 h).2 hb j (by omega) q2 q3
            · obtain rfl : j = i := by omega
              exact absurd q3 h1
        · refine ⟨false, false, ?_, ?_, fun h => ⟨rfl, fun hb => by cases hb⟩⟩
          · apply K.Ev.succ
            simp only [spec_l9Peel.l0, if_pos g1, if_pos g2, if_neg h1, if_pos g3, if_neg h4]
            exact Ev.now _
          · apply K.Ev.succ
            simp only [impl_isPeel.l0, if_pos g1, if_pos g2, if_pos g3, if_neg h1, if_neg h4]
            apply K.Ev.succ
            simp only [impl_isPeel.j2, if_true]
            exact Ev.now _
  obtain ⟨b, b', e1, e2, e3⟩ := key n 0 0 (by omega)
  refine ⟨b, b', ?_, ?_, fun h => ⟨(e3 h).1, fun hb j q => (e3 h).2 hb j (by omega) q⟩⟩
  · simp only [spec_l9Peel.f]
    exact e1
  · have e : ((G.length : Int) != (B.length : Int)) = false := by
      rw [bne_eq_false_iff_eq]; omega
    simp only [impl_isPeel.f, impl_areBlocks.f, inId, Option.bind_some, decide_eq_true hin, if_true, e]
    apply K.Ev.succ
    simp only [impl_isPeel.j0, Bool.false_eq_true, if_false]
    exact e2

/-- Whether texts have one length, which is not too great. -/
def evenB (l : List ByteArray) : Bool := l.all fun s => decide (s.size = (rdOf ByteArray.empty l 0).size) && decide (s.size ≤ 40)
/-- Whether drops are valid. -/
def dropsB (l : List S54) : Bool := l.all (fun d => decide (0 ≤ d.f0 ∧ d.f0 ≤ 100000)) && (decide (l.length ≤ 40) && evenB (l.map (·.f1)))
theorem areEqual_eq (l : List ByteArray) : impl_areEqual.f l = some (evenB l) := by
  unfold impl_areEqual.f evenB
  congr 1
  rw [List.all_eq_not_any_not]
  congr 1
  refine congrArg (List.any l) (funext fun s => ?_)
  unfold impl_areEqual.bad
  have e1 : decide (40 < s.size) = !decide (s.size ≤ 40) := by rw [← decide_not]; exact decide_eq_decide.mpr (by omega)
  have e2 : decide (s.size ≠ (rdOf ByteArray.empty l 0).size) = !decide (s.size = (rdOf ByteArray.empty l 0).size) := decide_not
  rw [e1, e2]
  cases decide (s.size ≤ 40) <;> cases decide (s.size = (rdOf ByteArray.empty l 0).size) <;> rfl
theorem areDrops_ev (l : List S54) (hl : l.length ≤ 1048576) : Ev (fun k => impl_areDrops.f k l) (dropsB l) := by
  have key : ∀ (d i : Nat), i + d = l.length → Ev (fun k => impl_areDrops.l0 k l ((l.take i).map (·.f1)) l (l.length : Int) (i : Int)) ((l.drop i).all (fun d => decide (0 ≤ d.f0 ∧ d.f0 ≤ 100000)) && (decide (l.length ≤ 40) && evenB (l.map (·.f1)))) := by
    intro d
    induction d with
    | zero =>
      intro i hi
      apply K.Ev.succ
      simp only [impl_areDrops.l0, if_neg (show ¬ ((i : Int) < (l.length : Int)) by omega)]
      rw [List.drop_of_length_le (by omega), List.take_of_length_le (by omega), List.all_nil, Bool.true_and]
      by_cases h : (l.length : Int) ≤ 40
      · simp only [if_pos h, areEqual_eq, Option.bind_some, decide_eq_true (show l.length ≤ 40 by omega), Bool.true_and]
        exact Ev.now _
      · simp only [if_neg h, decide_eq_false (show ¬ l.length ≤ 40 by omega), Bool.false_and]
        exact Ev.now _
    | succ d ih =>
      intro i hi
      have hil : i < l.length := by omega
      have hr : rd_T54 l (i : Int) = l[i] := by simp [rd_T54, hil]
      have ht : ((l.take i).map (·.f1)) ++ [l[i].f1] = (l.take (i + 1)).map (·.f1) := by
        rw [K.take_succ' l i hil, List.map_append]; rfl
      have hlen : ((l.take i).map (·.f1)).length < 8796093022208 := by rw [List.length_map, List.length_take]; omega
      apply K.Ev.succ
      simp only [impl_areDrops.l0, if_pos (show (i : Int) < (l.length : Int) by omega), if_pos (show (0 : Int) ≤ (i : Int) by omega), hr, impl_isSeed.f, inId, Option.bind_some, K.w64s i (show i < 9223372036854775807 by omega), if_pos hlen, ht]
      rw [List.drop_eq_getElem_cons hil, List.all_cons]
      by_cases h : 0 ≤ l[i].f0 ∧ l[i].f0 ≤ 100000
      · simp only [decide_eq_true h, if_true, Bool.true_and]
        exact ih (i + 1) (by omega)
      · simp only [decide_eq_false h, Bool.false_eq_true, if_false, Bool.false_and]
        exact Ev.now _
  simp only [impl_areDrops.f]
  have := key l.length 0 (by omega)
  rw [List.drop_zero, List.take_zero] at this
  exact this
theorem l9Drops_ev (l : List S54) (hl : l.length ≤ 1048576) : Ev (fun k => spec_l9Drops.f k l) (dropsB l) := by
  have key : ∀ (d i : Nat), i + d = l.length → ∃ b : Bool, Ev (fun k => spec_l9Drops.l0 k l l (l.length : Int) (i : Int)) b ∧ b = ((l.drop i).all (fun d => decide (0 ≤ d.f0 ∧ d.f0 ≤ 100000)) && (decide (l.length ≤ 40) && ((l.drop i).map (·.f1)).all fun s => decide (s.size = (rdOf ByteArray.empty (l.map (·.f1)) 0).size) && decide (s.size ≤ 40))) := by
    intro d
    induction d with
    | zero =>
      intro i hi
      refine ⟨decide ((l.length : Int) ≤ 40), ?_, ?_⟩
      · apply K.Ev.succ
        simp only [spec_l9Drops.l0, if_neg (show ¬ ((i : Int) < (l.length : Int)) by omega)]
        exact Ev.now _
      · rw [List.drop_of_length_le (by omega), List.all_nil, List.map_nil, List.all_nil, Bool.true_and, Bool.and_true]
        exact decide_eq_decide.mpr (by omega)
    | succ d ih =>
      intro i hi
      have hil : i < l.length := by omega
      have hr : rd_T54 l (i : Int) = l[i] := by simp [rd_T54, hil]
      have h0 : rdOf ByteArray.empty (l.map (·.f1)) 0 = (rd_T54 l 0).f1 := by
        have : 0 < l.length := by omega
        simp [rdOf, rd_T54, this]
      obtain ⟨b, e1, e2⟩ := ih (i + 1) (by omega)
      rw [List.drop_eq_getElem_cons hil, List.all_cons, List.map_cons, List.all_cons, h0]
      rw [h0] at e2
      by_cases h : 0 ≤ l[i].f0 ∧ l[i].f0 ≤ 100000
      · by_cases h1 : (l[i].f1.size : Int) = ((rd_T54 l 0).f1.size : Int)
        · by_cases h2 : (l[i].f1.size : Int) > 40
          · refine ⟨false, ?_, ?_⟩
            · apply K.Ev.succ
              simp only [spec_l9Drops.l0, if_pos (show (i : Int) < (l.length : Int) by omega), if_pos (show (0 : Int) ≤ (i : Int) by omega), hr, spec_l9Seed.f, inRd, Option.bind_some, decide_eq_true h, if_true, if_pos (show (0 : Int) < (l.length : Int) by omega), if_pos h1, if_pos h2]
              exact Ev.now _
            · rw [decide_eq_false (show ¬ l[i].f1.size ≤ 40 by omega)]; simp
          · refine ⟨b, ?_, ?_⟩
            · apply K.Ev.succ
              simp only [spec_l9Drops.l0, if_pos (show (i : Int) < (l.length : Int) by omega), if_pos (show (0 : Int) ≤ (i : Int) by omega), hr, spec_l9Seed.f, inRd, Option.bind_some, decide_eq_true h, if_true, if_pos (show (0 : Int) < (l.length : Int) by omega), if_pos h1, if_neg h2, K.w64s i (show i < 9223372036854775807 by omega)]
              exact e1
            · rw [decide_eq_true h, decide_eq_true (show l[i].f1.size ≤ 40 by omega), decide_eq_true (show l[i].f1.size = (rd_T54 l 0).f1.size by omega), e2]; simp
        · refine ⟨false, ?_, ?_⟩
          · apply K.Ev.succ
            simp only [spec_l9Drops.l0, if_pos (show (i : Int) < (l.length : Int) by omega), if_pos (show (0 : Int) ≤ (i : Int) by omega), hr, spec_l9Seed.f, inRd, Option.bind_some, decide_eq_true h, if_true, if_pos (show (0 : Int) < (l.length : Int) by omega), if_neg h1]
            exact Ev.now _
          · rw [decide_eq_false (show ¬ l[i].f1.size = (rd_T54 l 0).f1.size by omega)]; simp
      · refine ⟨false, ?_, ?_⟩
        · apply K.Ev.succ
          simp only [spec_l9Drops.l0, if_pos (show (i : Int) < (l.length : Int) by omega), if_pos (show (0 : Int) ≤ (i : Int) by omega), hr, spec_l9Seed.f, inRd, Option.bind_some, decide_eq_false h, Bool.false_eq_true, if_false]
          exact Ev.now _
        · rw [decide_eq_false h]; simp
  simp only [spec_l9Drops.f]
  obtain ⟨b, e1, e2⟩ := key l.length 0 (by omega)
  rw [List.drop_zero] at e2
  subst e2
  exact e1

theorem cloneT_eq (l : List ByteArray) (h : l.length < 8796093022208) : slices_Clone_string_string.f l = some l := by
  simp [slices_Clone_string_string.f, h]

theorem cloneB_eq (l : List Bool) (h : l.length < 140737488355328) : slices_Clone_bool_bool.f l = some l := by
  simp [slices_Clone_bool_bool.f, h]

theorem l9Collect (l : List Bool) (hl : l.length ≤ 1000) : Ev (fun k => spec_l9Blocks.l1 k ([] : List Int) l (l.length : Int) 0) (K.trues 0 l) := by
  have key : ∀ (d i : Nat) (acc : List Int), i + d = l.length → acc.length ≤ i → Ev (fun k => spec_l9Blocks.l1 k acc l (l.length : Int) (i : Int)) (acc ++ K.trues i (l.drop i)) := by
    intro d
    induction d with
    | zero =>
      intro i acc h _
      apply K.Ev.succ
      simp only [spec_l9Blocks.l1, if_neg (show ¬ ((i : Int) < (l.length : Int)) by omega)]
      rw [List.drop_of_length_le (by omega), K.trues, List.append_nil]
      exact Ev.now _
    | succ d ih =>
      intro i acc h ha
      have hi : i < l.length := by omega
      have hr : rdOf false l (i : Int) = l[i] := by simp [rdOf, hi]
      apply K.Ev.succ
      simp only [spec_l9Blocks.l1, if_pos (show (i : Int) < (l.length : Int) by omega), if_pos (show (0 : Int) ≤ (i : Int) by omega), hr, K.w64s i (by omega)]
      rw [List.drop_eq_getElem_cons hi]
      cases hb : l[i] with
      | true =>
        simp only [if_true, if_pos (show acc.length < 17592186044416 by omega), K.trues]
        have := ih (i + 1) (acc ++ [(i : Int)]) (by omega) (by simp; omega)
        rw [List.append_assoc] at this
        exact this
      | false =>
        simp only [Bool.false_eq_true, if_false, K.trues]
        exact ih (i + 1) acc (by omega) (by omega)
  have := key l.length 0 [] (by omega) (by simp)
  rw [List.nil_append, List.drop_zero] at this
  exact this

theorem nxS_eq (s : Int) (h0 : 0 ≤ s) (h1 : s ≤ 100000) : nxS s = (75 * s + 74) % 65537 := by
  unfold nxS
  rw [K.w64 (x := 75 * s) (by omega) (by omega), K.w64 (by omega) (by omega), Int.tmod_eq_emod_of_nonneg (by omega)]
theorem nxS_rng (s : Int) (h0 : 0 ≤ s) (h1 : s ≤ 100000) : 0 ≤ nxS s ∧ nxS s ≤ 65536 := by
  rw [nxS_eq s h0 h1]; omega
theorem tmod_rng (s : Int) (n : Nat) (h0 : 0 ≤ s) (hn : 0 < n) : ∃ j : Nat, Int.tmod s (n : Int) = (j : Int) ∧ j < n := by
  obtain ⟨a, rfl⟩ := Int.eq_ofNat_of_zero_le h0
  refine ⟨a % n, ?_, Nat.mod_lt _ hn⟩
  rw [Int.tmod_eq_emod_of_nonneg (by omega)]; omega
/-- What the two choices of blocks hold alike. -/
structure Same (n : Nat) (out : List Int) (inn : List Bool) : Prop where
  len : inn.length = n
  nodup : out.Nodup
  mem : ∀ j : Nat, (j : Int) ∈ out ↔ inn[j]? = some true
  rng : ∀ x ∈ out, ∃ j : Nat, x = (j : Int) ∧ j < n
/-- Valid shares. -/
structure GoodShares (m : List (Nat × Nat)) : Prop where
  len : m.length ≤ 20
  nz : ∀ p ∈ m, p.1 ≠ 0
  up : (m.map Prod.fst).Pairwise (· < ·)
theorem GoodShares.nodup {m : List (Nat × Nat)} (h : GoodShares m) : (m.map Prod.fst).Nodup := h.up.imp (fun h e => by omega)

theorem Same.end_ {n : Nat} {out : List Int} {inn : List Bool} (h : Same n out inn) : sortI out = K.trues 0 inn := by
  refine K.sort_unique h.nodup (K.trues_sorted inn 0) (fun x => ?_)
  rw [K.trues_mem]
  constructor
  · intro hx
    obtain ⟨j, rfl, hj⟩ := h.rng x hx
    exact ⟨j, by omega, (h.mem j).mp hx⟩
  · rintro ⟨j, rfl, hj⟩
    rw [Nat.zero_add]
    exact (h.mem j).mpr hj
theorem contains_int_ev (l : List Int) (x : Int) (hl : l.length ≤ 140737488355328) : Ev (fun k => slices_Contains_int_int.f k l x) (decide (x ∈ l)) := by
  have key : ∀ (d n : Nat), n + d = l.length → (∀ j, j < n → l[j]? ≠ some x) → ∃ r : Int, Ev (fun k => slices_Index_int_int.l0 k l x (l.length : Int) (n : Int)) r ∧ (r ≥ 0 ↔ x ∈ l) := by
    intro d
    induction d with
    | zero =>
      intro n h1 h2
      refine ⟨-1, ?_, ?_⟩
      · apply K.Ev.succ
        simp only [slices_Index_int_int.l0, if_neg (show ¬ ((n : Int) < (l.length : Int)) by omega)]
        exact Ev.now _
      · refine ⟨fun h => by omega, fun h => ?_⟩
        obtain ⟨j, hj⟩ := List.getElem?_of_mem h
        exact absurd hj (h2 j (by have := (List.getElem?_eq_some_iff.1 hj).1; omega))
    | succ d ih =>
      intro n h1 h2
      have hn : n < l.length := by omega
      by_cases hc : x = l[n]
      · refine ⟨(n : Int), ?_, fun _ => hc ▸ List.getElem_mem hn, fun _ => by omega⟩
        apply K.Ev.succ
        simp only [slices_Index_int_int.l0, if_pos (show (n : Int) < (l.length : Int) by omega), if_pos (show (0 : Int) ≤ (n : Int) by omega), K.rd_nat hn, if_pos hc]
        exact Ev.now _
      · obtain ⟨r, e1, e2⟩ := ih (n + 1) (by omega) (fun j hj => by
          rcases Nat.lt_or_ge j n with q | q
          · exact h2 j q
          · obtain rfl : j = n := by omega
            rw [List.getElem?_eq_getElem hn]; simpa using fun h => hc h.symm)
        refine ⟨r, ?_, e2⟩
        apply K.Ev.succ
        simp only [slices_Index_int_int.l0, if_pos (show (n : Int) < (l.length : Int) by omega), if_pos (show (0 : Int) ≤ (n : Int) by omega), K.rd_nat hn, if_neg hc, K.w64s n (show n < 9223372036854775807 by omega)]
        exact e1
  obtain ⟨r, e1, e2⟩ := key l.length 0 (by omega) (fun j hj => by omega)
  simp only [slices_Contains_int_int.f, slices_Index_int_int.f]
  refine Ev.bind e1 ?_
  rw [decide_eq_decide.mpr e2]
  exact Ev.now _

theorem Same.add {n : Nat} {out : List Int} {inn : List Bool} (h : Same n out inn) (j : Nat) (hj : j < n) (hn : ¬ (j : Int) ∈ out) : Same n (out ++ [(j : Int)]) (inn.set j true) := by
  refine ⟨by simpa using h.len, ?_, ?_, ?_⟩
  · rw [List.nodup_append]
    refine ⟨h.nodup, by simp, ?_⟩
    intro a ha b hb e
    rw [List.mem_singleton] at hb
    subst hb; subst e
    exact hn ha
  · intro i
    rw [List.mem_append, List.mem_singleton, List.getElem?_set]
    by_cases e : j = i
    · subst e
      simp [h.len, hj]
    · simp only [e, if_false]
      rw [← h.mem i]
      constructor
      · rintro (h | h)
        · exact h
        · omega
      · exact .inl
  · intro x hx
    rcases List.mem_append.mp hx with hx | hx
    · exact h.rng x hx
    · exact ⟨j, List.mem_singleton.mp hx, hj⟩
theorem blocks_loop (n : Nat) (hn : 0 < n) (hn2 : n ≤ 12) (c : Nat) (hc : 1 ≤ c) (hc4 : c ≤ 4) : ∀ (d u : Nat) (s : Int) (out : List Int) (inn : List Bool), u + d = 200 → 0 ≤ s → s ≤ 100000 → Same n out inn → out.length ≤ c → (out ≠ [] ∨ 0 < d) →
    ∃ out' inn', Same n out' inn' ∧ out'.length ≤ c ∧ out' ≠ [] ∧ Ev (fun k => impl_blocksOf.l0 k (n : Int) s out (c : Int) (u : Int)) out' ∧ ∀ R, Ev (fun k => spec_l9Blocks.l1 k ([] : List Int) inn' (inn'.length : Int) 0) R → Ev (fun k => spec_l9Blocks.l0 k (n : Int) s (c : Int) inn (out.length : Int) (u : Int)) R := by
  intro d
  induction d with
  | zero =>
    intro u s out inn hu h0 h1 hS hle hne
    obtain rfl : u = 200 := by omega
    refine ⟨out, inn, hS, hle, by rcases hne with h | h; exact h; omega, ?_, fun R hR => ?_⟩
    · apply K.Ev.succ
      simp only [impl_blocksOf.l0, if_neg (show ¬ (((200 : Nat) : Int) < 200) by omega)]
      apply K.Ev.succ
      simp only [impl_blocksOf.j1, Bool.false_eq_true, if_false]
      exact Ev.now _
    · apply K.Ev.succ
      simp only [spec_l9Blocks.l0, if_neg (show ¬ (((200 : Nat) : Int) < 200) by omega)]
      apply K.Ev.succ
      simp only [spec_l9Blocks.j2, Bool.false_eq_true, if_false]
      exact hR
  | succ d ih =>
    intro u s out inn hu h0 h1 hS hle hne
    have hu2 : (u : Int) < 200 := by omega
    by_cases hlt : out.length < c
    · obtain ⟨p0, p1⟩ := nxS_rng s h0 h1
      obtain ⟨j, hj, hjn⟩ := tmod_rng (nxS s) n p0 hn
      have hz : ¬ (n : Int) = 0 := by omega
      have hjl : j < inn.length := by rw [hS.len]; exact hjn
      have hw := K.Eqn.mk (K.w64s u (by omega))
      have hwl := K.Eqn.mk (K.w64s out.length (by omega))
      have hd : decide ((out.length : Int) < (c : Int)) = true := decide_eq_true (by omega)
      have hnx : spec_l9Next.f s = some (nxS s) := rfl
      have hrd : rdOf false inn (j : Int) = inn[j] := by simp [rdOf, hjl]
      have ho : out.length ≤ 140737488355328 := by omega
      by_cases hin : (j : Int) ∈ out
      · obtain ⟨out', inn', q1, q2, q3, q4, q5⟩ := ih (u + 1) (nxS s) out inn (by omega) p0 (by omega) hS hle (by left; intro e; rw [e] at hin; simp at hin)
        refine ⟨out', inn', q1, q2, q3, ?_, fun R hR => ?_⟩
        · apply K.Ev.succ
          simp only [impl_blocksOf.l0, if_pos hu2, hd]
          apply K.Ev.succ
          simp only [impl_blocksOf.j1, if_true, if_neg hz, hj]
          refine Ev.bind (contains_int_ev out (j : Int) ho) ?_
          simp only [decide_eq_true hin, if_true, hw.out]
          exact q4
        · apply K.Ev.succ
          simp only [spec_l9Blocks.l0, if_pos hu2, hd]
          apply K.Ev.succ
          have ht : inn[j] = true := by
            have := (hS.mem j).mp hin
            rw [List.getElem?_eq_getElem hjl] at this
            exact Option.some.inj this
          simp only [spec_l9Blocks.j2, if_true, hnx, Option.bind_some, if_neg hz, hj, if_pos (show (0 : Int) ≤ (j : Int) by omega), if_pos (show (j : Int) < (inn.length : Int) by omega), hrd, ht, hw.out]
          exact q5 R hR
      · have hS' := hS.add j hjn hin
        obtain ⟨out', inn', q1, q2, q3, q4, q5⟩ := ih (u + 1) (nxS s) (out ++ [(j : Int)]) (inn.set j true) (by omega) p0 (by omega) hS' (by simp; omega) (by left; simp)
        refine ⟨out', inn', q1, q2, q3, ?_, fun R hR => ?_⟩
        · apply K.Ev.succ
          simp only [impl_blocksOf.l0, if_pos hu2, hd]
          apply K.Ev.succ
          simp only [impl_blocksOf.j1, if_true, if_neg hz, hj]
          refine Ev.bind (contains_int_ev out (j : Int) ho) ?_
          simp only [decide_eq_false hin, Bool.false_eq_true, if_false, if_pos (show out.length < 17592186044416 by omega), hw.out]
          exact q4
        · apply K.Ev.succ
          simp only [spec_l9Blocks.l0, if_pos hu2, hd]
          apply K.Ev.succ
          have ht : inn[j] = false := by
            cases e : inn[j] with
            | false => rfl
            | true => exact absurd ((hS.mem j).mpr (by rw [List.getElem?_eq_getElem hjl, e])) hin
          simp only [spec_l9Blocks.j2, if_true, hnx, Option.bind_some, if_neg hz, hj, if_pos (show (0 : Int) ≤ (j : Int) by omega), if_pos (show (j : Int) < (inn.length : Int) by omega), hrd, ht, Bool.false_eq_true, if_false, Int.toNat_natCast, hw.out, hwl.out]
          have := q5 R hR
          rw [List.length_append, List.length_singleton] at this
          exact this
    · have hd : decide ((out.length : Int) < (c : Int)) = false := decide_eq_false (by omega)
      refine ⟨out, inn, hS, hle, by intro e; rw [e] at hlt; simp at hlt; omega, ?_, fun R hR => ?_⟩
      · apply K.Ev.succ
        simp only [impl_blocksOf.l0, if_pos hu2, hd]
        apply K.Ev.succ
        simp only [impl_blocksOf.j1, Bool.false_eq_true, if_false]
        exact Ev.now _
      · apply K.Ev.succ
        simp only [spec_l9Blocks.l0, if_pos hu2, hd]
        apply K.Ev.succ
        simp only [spec_l9Blocks.j2, Bool.false_eq_true, if_false]
        exact hR
/-- The blocks of a drop: the program's are the reference's; they are places in the list, increasing, and one to four. -/
theorem blocks_same (a : Int) (n : Nat) (h0 : 0 ≤ a) (h1 : a ≤ 100000) (hn : 1 ≤ n) (hn2 : n ≤ 12) : ∃ L : List Int, Ev (fun k => spec_l9Blocks.f k a (n : Int)) L ∧ Ev (fun k => impl_blocksOf.f k a (n : Int)) L ∧ (∀ x ∈ L, ∃ j : Nat, x = (j : Int) ∧ j < n) ∧ L.Pairwise (· < ·) ∧ 1 ≤ L.length ∧ L.length ≤ 4 := by
  obtain ⟨p0, p1⟩ := nxS_rng a h0 h1
  obtain ⟨m, hm, hm4⟩ := tmod_rng (nxS a) 4 p0 (by omega)
  have hwm : K.Eqn (wrap64 (Int.tmod (nxS a) 4 + 1)) ((m + 1 : Nat) : Int) := ⟨by
    rw [show (4 : Int) = ((4 : Nat) : Int) from rfl, hm]; exact K.w64s m (by omega)⟩
  have hS : Same n ([] : List Int) (List.replicate n false) := ⟨by simp, by simp, fun j => by simp [List.getElem?_replicate], by simp⟩
  have hmn : mn (n : Int) ((m + 1 : Nat) : Int) = ((min n (m + 1) : Nat) : Int) := by
    unfold mn
    split <;> omega
  have hnx : spec_l9Next.f a = some (nxS a) := rfl
  obtain ⟨out, inn, q1, q2, q3, q4, q5⟩ := blocks_loop n hn hn2 (min n (m + 1)) (by omega) (by omega) 200 0 (nxS a) [] (List.replicate n false) (by omega) p0 (by omega) hS (by simp) (.inr (by omega))
  have hL := q1.end_
  have hlen : (sortI out).length = out.length := List.length_mergeSort _
  have hpos : 0 < out.length := List.length_pos_iff.mpr q3
  refine ⟨sortI out, ?_, ?_, ?_, ?_, by omega, by omega⟩
  · have e := q5 _ (l9Collect inn (by rw [q1.len]; omega))
    rw [← hL] at e
    have e2 : Ev (fun k => spec_l9Blocks.j0 k (n : Int) (nxS a) ((min n (m + 1) : Nat) : Int)) (sortI out) := by
      apply K.Ev.succ
      simp only [spec_l9Blocks.j0, if_pos (show (0 : Int) ≤ (n : Int) by omega), Int.toNat_natCast, if_pos (show n ≤ 281474976710656 by omega)]
      exact e
    simp only [spec_l9Blocks.f, hnx, Option.bind_some, hwm.out]
    by_cases h : ((m + 1 : Nat) : Int) > (n : Int)
    · simp only [if_pos h]
      rw [show min n (m + 1) = n by omega] at e2
      exact e2
    · simp only [if_neg h]
      rw [show min n (m + 1) = m + 1 by omega] at e2
      exact e2
  · simp only [impl_blocksOf.f, impl_blocksOf.f0, hwm.out, hmn]
    refine Ev.bind q4 ?_
    simp only [if_pos hpos, if_pos (show out.length ≤ 17592186044416 by omega)]
    exact Ev.now _
  · intro x hx
    exact q1.rng x ((List.mergeSort_perm out _).mem_iff.mp hx)
  · rw [hL]; exact K.trues_sorted inn 0

/-- The last of what is not known. -/
def lastI (u : List Int) : Int := u.getLast?.getD (-1)
theorem l1Times_ev (a b : Nat) (ha : a < 256) (hb : b < 256) : Ev (fun k => spec_l1Times.f k (a : Int) (b : Int)) ((K.gmul a b : Nat) : Int) := by
  have key : ∀ (n x y o : Nat), x < 256 → o < 256 → y < 2 ^ n → n ≤ 8 → Ev (fun k => spec_l1Times.l0 k (o : Int) (x : Int) (y : Int)) ((K.gstep n x y o : Nat) : Int) := by
    intro n
    induction n with
    | zero =>
      intro x y o hx ho hy _
      obtain rfl : y = 0 := by simpa using hy
      apply K.Ev.succ
      simp only [spec_l1Times.l0, show ¬ (((0 : Nat) : Int) > 0) by omega, if_false, K.gstep]
      exact K.Ev.const (by rw [show (o : Int) % 256 = (o : Int) by omega])
    | succ n ih =>
      intro x y o hx ho hy hn
      by_cases h0 : y = 0
      · subst h0
        apply K.Ev.succ
        rw [K.gstep_zero]
        simp only [spec_l1Times.l0, show ¬ (((0 : Nat) : Int) > 0) by omega, if_false]
        exact K.Ev.const (by rw [show (o : Int) % 256 = (o : Int) by omega])
      have hy2 : y < 512 := Nat.lt_of_lt_of_le hy (by
        have : 2 ^ (n + 1) ≤ 2 ^ 9 := Nat.pow_le_pow_right (by omega) (by omega)
        omega)
      have w : K.Eqn (wrap64 ((x : Int) * 2)) ((2 * x : Nat) : Int) := ⟨by rw [K.w64 (by omega) (by omega)]; omega⟩
      have hx2 : (if ((2 * x : Nat) : Int) > 255 then Go.bits .xor .i64 ((2 * x : Nat) : Int) 283 else ((2 * x : Nat) : Int)) = ((K.xt x : Nat) : Int) := by
        unfold K.xt
        by_cases h : 2 * x > 255
        · rw [if_pos (by omega), if_pos h]
          exact K.xor_i64 (b := 283) (by omega) (by omega)
        · rw [if_neg (by omega), if_neg h]
      have hy' : (y : Int) / 2 = ((y / 2 : Nat) : Int) := by omega
      have hnext := ih (K.xt x) (y / 2) (if y % 2 = 1 then o ^^^ x else o) (K.xt_lt hx) (by
        split
        · exact Nat.xor_lt_two_pow (n := 8) ho hx
        · exact ho) (by rw [Nat.pow_succ] at hy; omega) (by omega)
      apply K.Ev.succ
      simp only [spec_l1Times.l0, if_pos (show (y : Int) > 0 by omega), K.and_i64_1 (show y < 1024 by omega), w.out, K.xor_i64 (show o < 1024 by omega) (show x < 1024 by omega), hy']
      by_cases h1 : y % 2 = 1
      · rw [if_pos h1] at hnext
        simp only [h1, show (((1 : Nat) : Int) = 1) = True by simp, if_true, K.gstep]
        by_cases h2 : ((2 * x : Nat) : Int) > 255
        · rw [if_pos h2] at hx2
          simp only [if_pos h2]
          simp only [hx2]
          exact hnext
        · rw [if_neg h2] at hx2
          simp only [if_neg h2]
          simp only [hx2]
          exact hnext
      · rw [if_neg h1] at hnext
        have h1' : ¬ (((y % 2 : Nat) : Int) = 1) := by omega
        simp only [if_neg h1', K.gstep, if_neg h1]
        by_cases h2 : ((2 * x : Nat) : Int) > 255
        · rw [if_pos h2] at hx2
          simp only [if_pos h2]
          simp only [hx2]
          exact hnext
        · rw [if_neg h2] at hx2
          simp only [if_neg h2]
          simp only [hx2]
          exact hnext
  have wa : K.Eqn (wrap64 (a : Int)) (a : Int) := ⟨K.w64 (by omega) (by omega)⟩
  have wb : K.Eqn (wrap64 (b : Int)) (b : Int) := ⟨K.w64 (by omega) (by omega)⟩
  simp only [spec_l1Times.f, wa.out, wb.out]
  exact key 8 a b 0 ha (by omega) (by omega) (by omega)

/-- The sum of two texts, byte for byte. -/
def xorT (x y : ByteArray) : ByteArray := strOfNums (List.zipWith (fun a b => Go.bits .xor .u8 a b) (bytesOf x) (bytesOf y))
theorem l6Plus_ev (x y : ByteArray) (h : x.size = y.size) (hx : x.size ≤ 1048576) : Ev (fun k => spec_l6Plus.f k x 1 y) (xorT x y) := by
  have hbx := bytesOf_length x
  have hby := bytesOf_length y
  have key : ∀ (d i : Nat) (z : List Int), i + d = x.size → z.length = x.size → z.take i = (List.zipWith (fun a b => Go.bits .xor .u8 a b) (bytesOf x) (bytesOf y)).take i → z.drop i = (bytesOf x).drop i → Ev (fun k => spec_l6Plus.l0 k 1 y z ((bytesOf x).length : Int) (i : Int)) (xorT x y) := by
    intro d
    induction d with
    | zero =>
      intro i z hi hz ha _
      rw [List.take_of_length_le (by omega), List.take_of_length_le (by rw [List.length_zipWith]; omega)] at ha
      subst ha
      apply K.Ev.succ
      simp only [spec_l6Plus.l0, if_neg (show ¬ ((i : Int) < ((bytesOf x).length : Int)) by omega)]
      exact Ev.now _
    | succ d ih =>
      intro i z hi hz ha hd
      have hix : i < (bytesOf x).length := by omega
      have hiy : i < (bytesOf y).length := by omega
      obtain ⟨b, hb, hb2⟩ : ∃ b : Nat, bt y (i : Int) = (b : Int) ∧ b < 256 := by
        have := bt_range y (i : Int)
        exact ⟨(bt y (i : Int)).toNat, by omega, by omega⟩
      have hyb : (bytesOf y)[i] = (b : Int) := by
        rw [K.bt_bytes, List.getD_eq_getElem?_getD, List.getElem?_eq_getElem hiy] at hb
        simpa using hb
      have hzi : rd z (i : Int) = (bytesOf x)[i] := by
        rw [K.rd_nat (show i < z.length by omega)]
        have e := congrArg (fun t => t[0]?) hd
        simp only [List.getElem?_drop, Nat.add_zero] at e
        rw [List.getElem?_eq_getElem (show i < z.length by omega), List.getElem?_eq_getElem hix] at e
        exact Option.some.inj e
      apply K.Ev.succ
      simp only [spec_l6Plus.l0, if_pos (show (i : Int) < ((bytesOf x).length : Int) by omega), if_pos (show (0 : Int) ≤ (i : Int) by omega), if_pos (show (i : Int) < (z.length : Int) by omega), if_pos (show (i : Int) < (y.size : Int) by omega), hb]
      refine Ev.bind (l1Times_ev 1 b (by omega) hb2) ?_
      rw [K.one_gmul hb2]
      simp only [K.w64s i (show i < 9223372036854775807 by omega), Int.toNat_natCast, hzi]
      refine ih (i + 1) _ (by omega) (by simpa using hz) ?_ ?_
      · rw [K.take_set _ _ _ (by omega), K.take_succ' _ i (by rw [List.length_zipWith]; omega), ha, List.getElem_zipWith, hyb]
      · rw [List.drop_set_of_lt (by omega)]
        have e := congrArg (List.drop 1) hd
        simpa using e
  unfold spec_l6Plus.f conv_own.f conv_bytes.f
  simp only [if_pos (show x.size ≤ 9223372036854775807 by omega), Option.bind_some]
  exact key x.size 0 _ (by omega) hbx (by simp) rfl

theorem xorT_size (x y : ByteArray) (h : x.size = y.size) : (xorT x y).size = x.size := by
  rw [xorT, strOfNums_size, List.length_zipWith, bytesOf_length, bytesOf_length]; omega
theorem sumOf_ev (x y : ByteArray) (h : x.size = y.size) (hx : x.size ≤ 1048576) : Ev (fun k => impl_sumOf.f k x y) (xorT x y) := by
  have hbx := bytesOf_length x
  have hby := bytesOf_length y
  have key : ∀ (d i : Nat) (acc : List Int), i + d = x.size → acc = (List.zipWith (fun a b => Go.bits .xor .u8 a b) (bytesOf x) (bytesOf y)).take i → Ev (fun k => impl_added.l0 k (bytesOf y) acc (bytesOf x) ((bytesOf x).length : Int) (i : Int)) (List.zipWith (fun a b => Go.bits .xor .u8 a b) (bytesOf x) (bytesOf y)) := by
    intro d
    induction d with
    | zero =>
      intro i acc hi ha
      rw [List.take_of_length_le (by rw [List.length_zipWith]; omega)] at ha
      subst ha
      apply K.Ev.succ
      simp only [impl_added.l0, if_neg (show ¬ ((i : Int) < ((bytesOf x).length : Int)) by omega)]
      exact Ev.now _
    | succ d ih =>
      intro i acc hi ha
      have hal : acc.length ≤ i := by rw [ha, List.length_take]; omega
      apply K.Ev.succ
      simp only [impl_added.l0, if_pos (show (i : Int) < ((bytesOf x).length : Int) by omega), if_pos (show (0 : Int) ≤ (i : Int) by omega), if_pos (show (i : Int) < ((bytesOf y).length : Int) by omega), if_pos (show acc.length < 140737488355328 by omega), K.w64s i (by omega)]
      refine ih (i + 1) _ (by omega) ?_
      rw [K.rd_nat (show i < (bytesOf x).length by omega), K.rd_nat (show i < (bytesOf y).length by omega), K.take_succ' _ i (by rw [List.length_zipWith]; omega), ha, List.getElem_zipWith]
  unfold impl_sumOf.f conv_bytes.f
  simp only [if_pos (show x.size ≤ 9223372036854775807 by omega), if_pos (show y.size ≤ 9223372036854775807 by omega), Option.bind_some, impl_added.f]
  exact Ev.bind (key x.size 0 [] (by omega) (by simp)) (Ev.now _)

theorem lastI_snoc (u : List Int) (x : Int) : lastI (u ++ [x]) = x := by simp [lastI]
theorem peel_inner (l : List S54) (B : List ByteArray) (G : List Bool) (m : Int) (z : Nat) (hz : z ≤ 40) (n : Nat) (hB : B.length = n) (hG : G.length = n) (hn : n ≤ 12)
    (hs : ∀ j : Nat, j < n → rdOf false G (j : Int) = true → (rdOf ByteArray.empty B (j : Int)).size = z) (L : List Int) (hL : ∀ x ∈ L, ∃ j : Nat, x = (j : Int) ∧ j < n) (hLl : L.length ≤ 4) (a b : Int) :
    ∀ (d i : Nat) (u : List Int) (s : ByteArray), i + d = L.length → u.length ≤ i → s.size = z → (∀ x ∈ u, ∃ j : Nat, x = (j : Int) ∧ j < n ∧ rdOf false G (j : Int) = false) →
    ∃ (u' : List Int) (s' : ByteArray), u'.length ≤ L.length ∧ s'.size = z ∧ (∀ x ∈ u', ∃ j : Nat, x = (j : Int) ∧ j < n ∧ rdOf false G (j : Int) = false) ∧
      (∀ R, Ev (fun k => impl_peeled.l1 k u' s' l a b L (L.length : Int) (L.length : Int) B G m) R → Ev (fun k => impl_peeled.l1 k u s l a b L (L.length : Int) (i : Int) B G m) R) ∧
      (∀ R, Ev (fun k => spec_l9Step.l1 k (lastI u') (u'.length : Int) s' l a b L (L.length : Int) (L.length : Int) B G m) R → Ev (fun k => spec_l9Step.l1 k (lastI u) (u.length : Int) s l a b L (L.length : Int) (i : Int) B G m) R) := by
  intro d
  induction d with
  | zero =>
    intro i u s hi hu hsz hm
    obtain rfl : i = L.length := by omega
    exact ⟨u, s, hu, hsz, hm, fun _ h => h, fun _ h => h⟩
  | succ d ih =>
    intro i u s hi hu hsz hm
    have hiL : i < L.length := by omega
    obtain ⟨j, hj, hjn⟩ := hL L[i] (List.getElem_mem hiL)
    have hr : rd L (i : Int) = (j : Int) := by rw [K.rd_nat hiL, hj]
    have hw := K.Eqn.mk (K.w64s i (show i < 9223372036854775807 by omega))
    have c1 : (i : Int) < (L.length : Int) := by omega
    have c2 : (0 : Int) ≤ (i : Int) := by omega
    have c3 : (0 : Int) ≤ (j : Int) := by omega
    have c4 : (j : Int) < (G.length : Int) := by omega
    have c5 : (j : Int) < (B.length : Int) := by omega
    by_cases hk : rdOf false G (j : Int) = true
    · have hsj := hs j hjn hk
      have hx : (xorT s (rdOf ByteArray.empty B (j : Int))).size = z := by rw [xorT_size _ _ (by omega)]; exact hsz
      obtain ⟨u', s', q1, q2, q3, q4, q5⟩ := ih (i + 1) u (xorT s (rdOf ByteArray.empty B (j : Int))) (by omega) (by omega) hx hm
      refine ⟨u', s', q1, q2, q3, fun R hR => ?_, fun R hR => ?_⟩
      · apply K.Ev.succ
        simp only [impl_peeled.l1, if_pos c1, if_pos c2, hr, if_pos c3, if_pos c4, if_pos hk, if_pos c5, hw.out]
        exact Ev.bind (sumOf_ev s _ (by omega) (by omega)) (q4 R hR)
      · apply K.Ev.succ
        simp only [spec_l9Step.l1, if_pos c1, if_pos c2, hr, if_pos c3, if_pos c4, if_pos hk, if_pos c5, hw.out]
        exact Ev.bind (l6Plus_ev s _ (by omega) (by omega)) (q5 R hR)
    · have hlen : (u ++ [(j : Int)]).length = u.length + 1 := by simp
      have hwu := K.Eqn.mk (K.w64s u.length (show u.length < 9223372036854775807 by omega))
      have hf : rdOf false G (j : Int) = false := by rw [Bool.not_eq_true] at hk; exact hk
      obtain ⟨u', s', q1, q2, q3, q4, q5⟩ := ih (i + 1) (u ++ [(j : Int)]) s (by omega) (by omega) hsz (by
        intro x hx
        rcases List.mem_append.1 hx with h | h
        · exact hm x h
        · rw [List.mem_singleton.1 h]; exact ⟨j, rfl, hjn, hf⟩)
      rw [lastI_snoc, hlen] at q5
      refine ⟨u', s', q1, q2, q3, fun R hR => ?_, fun R hR => ?_⟩
      · apply K.Ev.succ
        simp only [impl_peeled.l1, if_pos c1, if_pos c2, hr, if_pos c3, if_pos c4, if_neg hk, if_pos (show u.length < 17592186044416 by omega), hw.out]
        exact q4 R hR
      · apply K.Ev.succ
        simp only [spec_l9Step.l1, if_pos c1, if_pos c2, hr, if_pos c3, if_pos c4, if_neg hk, hw.out, hwu.out]
        exact q5 R hR
theorem step_same (l : List S54) (hl : l.length ≤ 40) (hsd : ∀ d ∈ l, 0 ≤ d.f0 ∧ d.f0 ≤ 100000) (B : List ByteArray) (G : List Bool) (m : Int) (z : Nat) (hz : z ≤ 40) (hd : ∀ d ∈ l, d.f1.size = z) (n : Nat) (hB : B.length = n) (hG : G.length = n) (h1 : 1 ≤ n) (hn : n ≤ 12)
    (hs : ∀ j : Nat, j < n → rdOf false G (j : Int) = true → (rdOf ByteArray.empty B (j : Int)).size = z) :
    (∃ (j : Nat) (s : ByteArray), j < n ∧ rdOf false G (j : Int) = false ∧ s.size = z ∧ Ev (fun k => impl_peeled.f k l B G m) (true, (j : Int), s) ∧ Ev (fun k => spec_l9Step.f k l B G m) (B.set j s, G.set j true, wrap64 (m + 1), true)) ∨
    (Ev (fun k => impl_peeled.f k l B G m) (false, 0, (⟨#[]⟩ : ByteArray)) ∧ Ev (fun k => spec_l9Step.f k l B G m) (([] : List ByteArray), ([] : List Bool), 0, false)) := by
  have key : ∀ (d i : Nat), i + d = l.length →
      (∃ (j : Nat) (s : ByteArray), j < n ∧ rdOf false G (j : Int) = false ∧ s.size = z ∧ Ev (fun k => impl_peeled.l0 k l (l.length : Int) (i : Int) B G m) (true, (j : Int), s) ∧ Ev (fun k => spec_l9Step.l0 k l (l.length : Int) (i : Int) B G m) (B.set j s, G.set j true, wrap64 (m + 1), true)) ∨
      (Ev (fun k => impl_peeled.l0 k l (l.length : Int) (i : Int) B G m) (false, 0, (⟨#[]⟩ : ByteArray)) ∧ Ev (fun k => spec_l9Step.l0 k l (l.length : Int) (i : Int) B G m) (([] : List ByteArray), ([] : List Bool), 0, false)) := by
    intro d
    induction d with
    | zero =>
      intro i hi
      have c1 : ¬ ((i : Int) < (l.length : Int)) := by omega
      refine .inr ⟨?_, ?_⟩ <;> apply K.Ev.succ
      · simp only [impl_peeled.l0, if_neg c1]; exact Ev.now _
      · simp only [spec_l9Step.l0, if_neg c1]; exact Ev.now _
    | succ d ih =>
      intro i hi
      have hil : i < l.length := by omega
      have hr : rd_T54 l (i : Int) = l[i] := by simp [rd_T54, hil]
      have c1 : (i : Int) < (l.length : Int) := by omega
      have c2 : (0 : Int) ≤ (i : Int) := by omega
      have hw := K.Eqn.mk (K.w64s i (show i < 9223372036854775807 by omega))
      have hsd' := hsd _ (List.getElem_mem hil)
      obtain ⟨L, b1, b2, b3, _, _, b6⟩ := blocks_same l[i].f0 n hsd'.1 hsd'.2 h1 hn
      obtain ⟨u, s, q1, q2, q3, q4, q5⟩ := peel_inner l B G m z hz n hB hG hn hs L b3 b6 (l.length : Int) (i : Int) L.length 0 [] l[i].f1 (by omega) (by simp) (hd _ (List.getElem_mem hil)) (by simp)
      have goI : ∀ R, Ev (fun k => impl_peeled.l1 k u s l (l.length : Int) (i : Int) L (L.length : Int) (L.length : Int) B G m) R → Ev (fun k => impl_peeled.l0 k l (l.length : Int) (i : Int) B G m) R := by
        intro R hR
        apply K.Ev.succ
        simp only [impl_peeled.l0, if_pos c1, if_pos c2, hr, hB]
        exact Ev.bind b2 (q4 R hR)
      have goS : ∀ R, Ev (fun k => spec_l9Step.l1 k (lastI u) (u.length : Int) s l (l.length : Int) (i : Int) L (L.length : Int) (L.length : Int) B G m) R → Ev (fun k => spec_l9Step.l0 k l (l.length : Int) (i : Int) B G m) R := by
        intro R hR
        apply K.Ev.succ
        simp only [spec_l9Step.l0, if_pos c1, if_pos c2, hr, hB]
        exact Ev.bind b1 (q5 R hR)
      have c3 : ¬ ((L.length : Int) < (L.length : Int)) := by omega
      by_cases hu : u.length = 1
      · obtain ⟨x, rfl⟩ := List.length_eq_one_iff.mp hu
        obtain ⟨j, rfl, hj, hjf⟩ := q3 x (by simp)
        have c4 : (0 : Int) ≤ (j : Int) := by omega
        have c5 : (j : Int) < (B.length : Int) := by omega
        have c6 : (j : Int) < (G.length : Int) := by omega
        have hr0 : rd [(j : Int)] 0 = (j : Int) := rfl
        have hl1 : lastI [(j : Int)] = (j : Int) := rfl
        refine .inl ⟨j, s, hj, hjf, q2, goI _ ?_, goS _ ?_⟩ <;> apply K.Ev.succ
        · simp only [impl_peeled.l1, if_neg c3, List.length_singleton, hr0, if_pos c4, if_pos c5, if_pos c6, if_pos (show ((1 : Nat) : Int) = 1 by omega), if_pos (show (0 : Int) < ((1 : Nat) : Int) by omega)]
          exact Ev.now _
        · simp only [spec_l9Step.l1, if_neg c3, List.length_singleton, hl1, if_pos c4, if_pos c5, if_pos c6, if_pos (show ((1 : Nat) : Int) = 1 by omega), Option.bind_some, List.length_nil, List.nil_append, Nat.zero_add, if_pos (show B.length < 8796093022208 by omega), if_pos (show G.length < 140737488355328 by omega), Int.toNat_natCast]
          exact Ev.now _
      · have c4 : ¬ ((u.length : Int) = 1) := by omega
        have goI2 : ∀ R, Ev (fun k => impl_peeled.l0 k l (l.length : Int) ((i + 1 : Nat) : Int) B G m) R → Ev (fun k => impl_peeled.l0 k l (l.length : Int) (i : Int) B G m) R := by
          intro R hR
          refine goI R ?_
          apply K.Ev.succ
          simp only [impl_peeled.l1, if_neg c3, if_neg c4, hw.out]
          exact hR
        have goS2 : ∀ R, Ev (fun k => spec_l9Step.l0 k l (l.length : Int) ((i + 1 : Nat) : Int) B G m) R → Ev (fun k => spec_l9Step.l0 k l (l.length : Int) (i : Int) B G m) R := by
          intro R hR
          refine goS R ?_
          apply K.Ev.succ
          simp only [spec_l9Step.l1, if_neg c3, if_neg c4, hw.out]
          exact hR
        rcases ih (i + 1) (by omega) with ⟨j, s', e1, e2, e3, e4, e5⟩ | ⟨e4, e5⟩
        · exact .inl ⟨j, s', e1, e2, e3, goI2 _ e4, goS2 _ e5⟩
        · exact .inr ⟨goI2 _ e4, goS2 _ e5⟩
  exact key l.length 0 (by omega)

theorem stepPeel_same (l : List S54) (hl : l.length ≤ 1048576) (B : List ByteArray) (G : List Bool) (hG : G.length ≤ 1048576) (a : Int) :
    ∃ r : List ByteArray × List Bool × Int × Bool, r.1.length ≤ 1048576 ∧ r.2.1.length ≤ 1048576 ∧ Ev (fun k => spec_StepPeel.f k l B G a) r ∧ Ev (fun k => impl_StepPeel.f k l B G a) r := by
  have d1 := l9Drops_ev l hl
  have d2 := areDrops_ev l hl
  have bad : Ev (fun k => impl_StepPeel.j0 k l true B G a) (([] : List ByteArray), ([] : List Bool), (0 : Int), false) := by
    apply K.Ev.succ
    simp only [impl_StepPeel.j0, if_true]
    exact Ev.now _
  by_cases hb : dropsB l = true
  case neg =>
    rw [Bool.not_eq_true] at hb
    rw [hb] at d1 d2
    refine ⟨([], [], 0, false), by simp, by simp, ?_, ?_⟩
    · simp only [spec_StepPeel.f]
      refine Ev.bind d1 ?_
      simp only [Bool.false_eq_true, if_false]
      exact Ev.now _
    · simp only [impl_StepPeel.f]
      refine Ev.bind d2 ?_
      simp only [Bool.false_eq_true, if_false]
      exact bad
  rw [hb] at d1 d2
  have sBad : Ev (fun k => spec_l9Peel.f k l B G a) false → Ev (fun k => spec_StepPeel.f k l B G a) (([] : List ByteArray), ([] : List Bool), (0 : Int), false) := by
    intro h
    simp only [spec_StepPeel.f]
    refine Ev.bind d1 ?_
    simp only [if_true]
    refine Ev.bind h ?_
    simp only [Bool.false_eq_true, if_false]
    exact Ev.now _
  have iBad : Ev (fun k => impl_isPeel.f k B G a l) false → Ev (fun k => impl_StepPeel.f k l B G a) (([] : List ByteArray), ([] : List Bool), (0 : Int), false) := by
    intro h
    simp only [impl_StepPeel.f]
    refine Ev.bind d2 ?_
    simp only [if_true]
    refine Ev.bind h ?_
    simp only [Bool.not_false]
    exact bad
  have sGo : ∀ r : List ByteArray × List Bool × Int × Bool, Ev (fun k => spec_l9Peel.f k l B G a) true → Ev (fun k => spec_l9Step.f k l B G a) r → Ev (fun k => spec_StepPeel.f k l B G a) r := by
    intro r h hr
    simp only [spec_StepPeel.f]
    refine Ev.bind d1 ?_
    simp only [if_true]
    refine Ev.bind h ?_
    simp only [if_true]
    exact Ev.bind hr (Ev.now _)
  by_cases hlen : (1 ≤ (B.length : Int) ∧ (B.length : Int) ≤ 12) ∧ G.length = B.length
  case neg =>
    obtain ⟨p1, p2⟩ := peel_bad l B G a hG hlen
    exact ⟨([], [], 0, false), by simp, by simp, sBad p1, iBad p2⟩
  obtain ⟨hin, hGB⟩ := hlen
  have iGo : ∀ (q : Bool × Int × ByteArray) (r : List ByteArray × List Bool × Int × Bool), Ev (fun k => impl_isPeel.f k B G a l) true → Ev (fun k => impl_peeled.f k l B G a) q → (if q.1 = true then (if 0 ≤ q.2.1 then (if q.2.1 < (B.length : Int) then (if q.2.1 < (G.length : Int) then (some ((B.set (q.2.1 : Int).toNat q.2.2), (G.set (q.2.1 : Int).toNat true), wrap64 (a + 1), true)) else (none)) else (none)) else (none)) else (some (([] : List ByteArray), ([] : List Bool), 0, false))) = some r → Ev (fun k => impl_StepPeel.f k l B G a) r := by
    intro q r h hq hr
    simp only [impl_StepPeel.f]
    refine Ev.bind d2 ?_
    simp only [if_true]
    refine Ev.bind h ?_
    simp only [Bool.not_true]
    apply K.Ev.succ
    simp only [impl_StepPeel.j0, Bool.false_eq_true, if_false, cloneT_eq B (by omega), cloneB_eq G (by omega), Option.bind_some]
    refine Ev.bind hq ?_
    exact K.Ev.const hr
  have hbb := hb
  unfold dropsB at hbb
  rw [Bool.and_eq_true, List.all_eq_true, Bool.and_eq_true, decide_eq_true_iff] at hbb
  obtain ⟨hsd, hl40, hev⟩ := hbb
  unfold evenB at hev
  rw [List.all_eq_true] at hev
  have h0 : 0 < l.length → rdOf ByteArray.empty (l.map (·.f1)) 0 = (rd_T54 l 0).f1 := by
    intro h
    simp [rdOf, rd_T54, h]
  have hz0 : 0 < l.length → (rd_T54 l 0).f1.size ≤ 40 := by
    intro h
    have e : rd_T54 l 0 = l[0] := by simp [rd_T54, h]
    have := hev l[0].f1 (List.mem_map.2 ⟨l[0], List.getElem_mem h, rfl⟩)
    rw [Bool.and_eq_true, decide_eq_true_iff, decide_eq_true_iff] at this
    rw [e]
    exact this.2
  obtain ⟨b, b', p1, p2, p3⟩ := peel_good l B G a B.length rfl hGB (by omega) (by omega) hz0
  by_cases hl0 : 0 < l.length
  · obtain ⟨q1, q2⟩ := p3 hl0
    subst q1
    cases b with
    | false => exact ⟨([], [], 0, false), by simp, by simp, sBad p1, iBad p2⟩
    | true =>
      have hd : ∀ d ∈ l, d.f1.size = (rd_T54 l 0).f1.size := by
        intro d hd
        have := hev d.f1 (List.mem_map.2 ⟨d, hd, rfl⟩)
        rw [Bool.and_eq_true, decide_eq_true_iff, decide_eq_true_iff, h0 hl0] at this
        exact this.1
      rcases step_same l hl40 (fun d hd => by have := hsd d hd; simpa using this) B G a _ (hz0 hl0) hd B.length rfl hGB (by omega) (by omega) (q2 rfl) with ⟨j, s, hj, _, _, e1, e2⟩ | ⟨e1, e2⟩
      · refine ⟨_, ?_, ?_, sGo _ p1 e2, iGo _ _ p2 e1 ?_⟩
        · simp only [List.length_set]; omega
        · simp only [List.length_set]; omega
        · simp only [if_true, if_pos (show (0 : Int) ≤ (j : Int) by omega), if_pos (show (j : Int) < (B.length : Int) by omega), if_pos (show (j : Int) < (G.length : Int) by omega), Int.toNat_natCast]
      · refine ⟨_, by simp, by simp, sGo _ p1 e2, iGo _ _ p2 e1 ?_⟩
        simp only [Bool.false_eq_true, if_false]
  · obtain rfl : l = [] := List.length_eq_zero_iff.1 (by omega)
    have e1 : Ev (fun k => impl_peeled.f k [] B G a) (false, 0, (⟨#[]⟩ : ByteArray)) := by
      simp only [impl_peeled.f]
      apply K.Ev.succ
      simp only [impl_peeled.l0, List.length_nil, if_neg (show ¬ ((0 : Int) < ((0 : Nat) : Int)) by omega)]
      exact Ev.now _
    have e2 : Ev (fun k => spec_l9Step.f k [] B G a) (([] : List ByteArray), ([] : List Bool), (0 : Int), false) := by
      simp only [spec_l9Step.f]
      apply K.Ev.succ
      simp only [spec_l9Step.l0, List.length_nil, if_neg (show ¬ ((0 : Int) < ((0 : Nat) : Int)) by omega)]
      exact Ev.now _
    refine ⟨([], [], 0, false), by simp, by simp, ?_, ?_⟩
    · cases b with
      | false => exact sBad p1
      | true => exact sGo _ p1 e2
    · cases b' with
      | false => exact iBad p2
      | true => exact iGo _ _ p2 e1 (by simp only [Bool.false_eq_true, if_false])

theorem laws_eqStringS_self (l : List ByteArray) (hl : l.length ≤ 140737488355328) : Ev (fun k => laws_eqStringS.f k l l) true := by
  have key : ∀ (d n : Nat), n + d = l.length → Ev (fun k => laws_eqStringS.l0 k l l (n : Int)) true := by
    intro d
    induction d with
    | zero =>
      intro n h1
      apply K.Ev.succ
      simp only [laws_eqStringS.l0, if_neg (show ¬ ((n : Int) < (l.length : Int)) by omega)]
      exact Ev.now _
    | succ d ih =>
      intro n h1
      apply K.Ev.succ
      simp only [laws_eqStringS.l0, if_pos (show (n : Int) < (l.length : Int) by omega), if_pos (show (0 : Int) ≤ (n : Int) by omega), if_true]
      rw [K.w64s n (by omega)]
      exact ih (n + 1) (by omega)
  unfold laws_eqStringS.f
  simp only [if_true]
  exact key l.length 0 (by omega)

theorem laws_eqBoolS_self (l : List Bool) (hl : l.length ≤ 140737488355328) : Ev (fun k => laws_eqBoolS.f k l l) true := by
  have key : ∀ (d n : Nat), n + d = l.length → Ev (fun k => laws_eqBoolS.l0 k l l (n : Int)) true := by
    intro d
    induction d with
    | zero =>
      intro n h1
      apply K.Ev.succ
      simp only [laws_eqBoolS.l0, if_neg (show ¬ ((n : Int) < (l.length : Int)) by omega)]
      exact Ev.now _
    | succ d ih =>
      intro n h1
      apply K.Ev.succ
      simp only [laws_eqBoolS.l0, if_pos (show (n : Int) < (l.length : Int) by omega), if_pos (show (0 : Int) ≤ (n : Int) by omega), bne_self_eq_false, Bool.false_eq_true, if_false]
      rw [K.w64s n (by omega)]
      exact ih (n + 1) (by omega)
  unfold laws_eqBoolS.f
  simp only [if_true]
  exact key l.length 0 (by omega)

theorem laws_eqPeel_self (B : List ByteArray) (G : List Bool) (m : Int) (hB : B.length ≤ 1048576) (hG : G.length ≤ 1048576) : Ev (fun k => laws_eqPeel.f k B G m B G m) true := by
  simp only [laws_eqPeel.f]
  refine Ev.bind (laws_eqStringS_self B (by omega)) ?_
  simp only [if_true]
  refine Ev.bind (laws_eqBoolS_self G (by omega)) ?_
  simp only [if_true]
  exact Ev.now _

theorem markText_loop : ∀ (m x : Nat) (acc : ByteArray), x ≤ m → x + acc.size ≤ 4000000000000 → ∃ r : ByteArray, Ev (fun k => laws_markText.l0 k (x : Int) acc) r
  | 0, x, acc, hx, hs => by
    obtain rfl : x = 0 := by omega
    refine ⟨(⟨#[109]⟩ : ByteArray) ++ acc, ?_⟩
    apply K.Ev.succ
    simp only [laws_markText.l0, if_neg (show ¬ (((0 : Nat) : Int) > 0) by omega), if_pos (show 1 + acc.size ≤ 9223372036854775807 by omega)]
    exact Ev.now _
  | m + 1, x, acc, hx, hs => by
    by_cases h0 : x = 0
    · exact markText_loop m x acc (by omega) hs
    · have td : K.Eqn (Int.tdiv (x : Int) 10) ((x / 10 : Nat) : Int) := ⟨by rw [Int.tdiv_eq_ediv_of_nonneg (by omega)]; omega⟩
      have wd : K.Eqn (wrap64 ((x / 10 : Nat) : Int)) ((x / 10 : Nat) : Int) := ⟨K.w64 (by omega) (by omega)⟩
      have sz : ∀ c : Int, (strOfNums [c]).size = 1 := fun c => by rw [strOfNums_size]; rfl
      obtain ⟨r, e⟩ := markText_loop m (x / 10) ((strOfNums [(wrap64 (48 + (Int.tmod (x : Int) 10))) % 256]) ++ acc) (by omega) (by rw [ByteArray.size_append, sz]; omega)
      refine ⟨r, ?_⟩
      apply K.Ev.succ
      simp only [laws_markText.l0, if_pos (show (x : Int) > 0 by omega), Option.bind_some, sz, if_pos (show 1 + acc.size ≤ 9223372036854775807 by omega), td.out, wd.out]
      exact e
theorem markText_ok (x : Int) (h0 : 0 ≤ x) (h1 : x ≤ 3000000000000) : ∃ r : ByteArray, Ev (fun k => laws_markText.f k x) r := by
  obtain ⟨n, rfl⟩ := Int.eq_ofNat_of_zero_le h0
  by_cases h : (n : Int) ≤ 0
  · exact ⟨_, by simp only [laws_markText.f, if_pos h]; exact Ev.now _⟩
  · obtain ⟨r, e⟩ := markText_loop n n ByteArray.empty (Nat.le_refl _) (by simp [ByteArray.size]; omega)
    exact ⟨r, by simp only [laws_markText.f, if_neg h]; exact e⟩

theorem laws_markDropS_upto (l : List S54) (hl : l.length ≤ 1048576) : ∃ (m : Int) (g : List S54), Ev (fun k => laws_markDropS.f k l 1) (m, g) ∧ 0 ≤ m ∧ m ≤ 3000000 := by
  have key : ∀ (d n : Nat) (x : List S54) (c : Int), n + d = x.length → 0 ≤ c → c + d * 2 ≤ 1000000000000 → x.length ≤ 1048576 → ∃ (m : Int) (g : List S54), Ev (fun k => laws_markDropS.l0 k x c (n : Int)) (m, g) ∧ 0 ≤ m ∧ m ≤ c + d * 2 := by
    intro d
    induction d with
    | zero =>
      intro n x c h1 h2 h3 h4
      refine ⟨c, x, ?_, h2, by omega⟩
      apply K.Ev.succ
      simp only [laws_markDropS.l0, if_neg (show ¬ ((n : Int) < (x.length : Int)) by omega)]
      exact Ev.now _
    | succ d ih =>
      intro n x c h1 h2 h3 h4
      have hn : n < x.length := by omega
      have w1 : K.Eqn (wrap64 (c + 1)) (c + 1) := ⟨K.w64 (by omega) (by omega)⟩
      have w2 : K.Eqn (wrap64 (c + 1 + 1)) (c + 2) := ⟨by rw [K.w64 (by omega) (by omega)]; omega⟩
      obtain ⟨s, es⟩ := markText_ok (c + 1) (by omega) (by omega)
      obtain ⟨m, g, e1, e5, e6⟩ := ih (n + 1) ((x.set n ⟨c, (rd_T54 x (n : Int)).f1⟩).set n ⟨(rd_T54 (x.set n ⟨c, (rd_T54 x (n : Int)).f1⟩) (n : Int)).f0, s⟩) (c + 2) (by simp; omega) (by omega) (by omega) (by simpa using h4)
      refine ⟨m, g, ?_, e5, by omega⟩
      apply K.Ev.succ
      simp only [laws_markDropS.l0, if_pos (show (n : Int) < (x.length : Int) by omega), if_pos (show (0 : Int) ≤ (n : Int) by omega), Int.toNat_natCast, Option.bind_some, w1.out, w2.out, K.w64s n (show n < 9223372036854775807 by omega)]
      exact Ev.bind es e1
  obtain ⟨m, g, e1, e5, e6⟩ := key l.length 0 l 1 (by omega) (by omega) (by omega) hl
  exact ⟨m, g, by simp only [laws_markDropS.f]; exact e1, e5, by omega⟩

theorem markStringS_from (l : List ByteArray) (hl : l.length ≤ 1048576) (c0 : Int) (h0 : 0 ≤ c0) (hc : c0 ≤ 100000000000) : ∃ (m : Int) (g : List ByteArray), Ev (fun k => laws_markStringS.f k l c0) (m, g) ∧ Ev (fun k => laws_heldStringS.f k g c0) m ∧ g.length = l.length ∧ 0 ≤ m ∧ m ≤ c0 + 1048576 := by
  have key : ∀ (d n : Nat) (x : List ByteArray) (c : Int), n + d = x.length → 0 ≤ c → c + d ≤ 1000000000000 → x.length ≤ 1048576 → ∃ (m : Int) (g : List ByteArray), Ev (fun k => laws_markStringS.l0 k x c (n : Int)) (m, g) ∧ g.length = x.length ∧ (∀ j, j < n → g[j]? = x[j]?) ∧ Ev (fun k => laws_heldStringS.l0 k g c (n : Int)) m ∧ 0 ≤ m ∧ m ≤ c + d := by
    intro d
    induction d with
    | zero =>
      intro n x c h1 h2 h3 h4
      refine ⟨c, x, ?_, rfl, fun _ _ => rfl, ?_, h2, by omega⟩
      · apply K.Ev.succ
        simp only [laws_markStringS.l0, if_neg (show ¬ ((n : Int) < (x.length : Int)) by omega)]
        exact Ev.now _
      · apply K.Ev.succ
        simp only [laws_heldStringS.l0, if_neg (show ¬ ((n : Int) < (x.length : Int)) by omega)]
        exact Ev.now _
    | succ d ih =>
      intro n x c h1 h2 h3 h4
      have hn : n < x.length := by omega
      have w1 : K.Eqn (wrap64 (c + 1)) (c + 1) := ⟨K.w64 (by omega) (by omega)⟩
      obtain ⟨s, es⟩ := markText_ok c (by omega) (by omega)
      obtain ⟨m, g, e1, e2, e3, e4, e5, e6⟩ := ih (n + 1) (x.set n s) (c + 1) (by simp; omega) (by omega) (by omega) (by simpa using h4)
      have hg : g[n]? = some s := by rw [e3 n (by omega)]; simp [hn]
      have hgl : g.length = x.length := by simpa using e2
      refine ⟨m, g, ?_, hgl, ?_, ?_, e5, by omega⟩
      · apply K.Ev.succ
        simp only [laws_markStringS.l0, if_pos (show (n : Int) < (x.length : Int) by omega), if_pos (show (0 : Int) ≤ (n : Int) by omega), Int.toNat_natCast, w1.out, K.w64s n (show n < 9223372036854775807 by omega)]
        exact Ev.bind es e1
      · intro j hj
        rw [e3 j (by omega)]
        rw [List.getElem?_set_ne (by omega)]
      · have hr : rdOf ByteArray.empty g (n : Int) = s := by simp [rdOf, hg]
        apply K.Ev.succ
        simp only [laws_heldStringS.l0, if_pos (show (n : Int) < (g.length : Int) by omega), if_pos (show (0 : Int) ≤ (n : Int) by omega), w1.out, K.w64s n (show n < 9223372036854775807 by omega), hr]
        refine Ev.bind es ?_
        simp only [if_true]
        exact e4
  obtain ⟨m, g, e1, e2, _, e4, e5, e6⟩ := key l.length 0 l c0 (by omega) h0 (by omega) hl
  exact ⟨m, g, by simp only [laws_markStringS.f]; exact e1, by simp only [laws_heldStringS.f]; exact e4, e2, e5, by omega⟩
theorem markBoolS_from (l : List Bool) (hl : l.length ≤ 1048576) (c0 : Int) (h0 : 0 ≤ c0) (hc : c0 ≤ 100000000000) : ∃ (m : Int) (g : List Bool), Ev (fun k => laws_markBoolS.f k l c0) (m, g) ∧ Ev (fun k => laws_heldBoolS.f k g c0) m ∧ g.length = l.length ∧ 0 ≤ m := by
  have key : ∀ (d n : Nat) (x : List Bool) (c : Int), n + d = x.length → 0 ≤ c → c + d ≤ 1000000000000 → x.length ≤ 1048576 → ∃ (m : Int) (g : List Bool), Ev (fun k => laws_markBoolS.l0 k x c (n : Int)) (m, g) ∧ g.length = x.length ∧ (∀ j, j < n → g[j]? = x[j]?) ∧ Ev (fun k => laws_heldBoolS.l0 k g c (n : Int)) m ∧ 0 ≤ m := by
    intro d
    induction d with
    | zero =>
      intro n x c h1 h2 h3 h4
      refine ⟨c, x, ?_, rfl, fun _ _ => rfl, ?_, h2⟩
      · apply K.Ev.succ
        simp only [laws_markBoolS.l0, if_neg (show ¬ ((n : Int) < (x.length : Int)) by omega)]
        exact Ev.now _
      · apply K.Ev.succ
        simp only [laws_heldBoolS.l0, if_neg (show ¬ ((n : Int) < (x.length : Int)) by omega)]
        exact Ev.now _
    | succ d ih =>
      intro n x c h1 h2 h3 h4
      have hn : n < x.length := by omega
      have w1 : K.Eqn (wrap64 (c + 1)) (c + 1) := ⟨K.w64 (by omega) (by omega)⟩
      obtain ⟨m, g, e1, e2, e3, e4, e5⟩ := ih (n + 1) (x.set n (Int.tmod c 3 == 0)) (c + 1) (by simp; omega) (by omega) (by omega) (by simpa using h4)
      have hg : g[n]? = some (Int.tmod c 3 == 0) := by rw [e3 n (by omega)]; simp [hn]
      have hgl : g.length = x.length := by simpa using e2
      refine ⟨m, g, ?_, hgl, ?_, ?_, e5⟩
      · apply K.Ev.succ
        simp only [laws_markBoolS.l0, if_pos (show (n : Int) < (x.length : Int) by omega), if_pos (show (0 : Int) ≤ (n : Int) by omega), Int.toNat_natCast, w1.out, K.w64s n (show n < 9223372036854775807 by omega)]
        exact e1
      · intro j hj
        rw [e3 j (by omega)]
        rw [List.getElem?_set_ne (by omega)]
      · have hr : rdOf false g (n : Int) = (Int.tmod c 3 == 0) := by simp [rdOf, hg]
        apply K.Ev.succ
        simp only [laws_heldBoolS.l0, if_pos (show (n : Int) < (g.length : Int) by omega), if_pos (show (0 : Int) ≤ (n : Int) by omega), w1.out, K.w64s n (show n < 9223372036854775807 by omega), hr, bne_self_eq_false, Bool.false_eq_true, if_false]
        exact e4
  obtain ⟨m, g, e1, e2, _, e4, e5⟩ := key l.length 0 l c0 (by omega) h0 (by omega) hl
  exact ⟨m, g, by simp only [laws_markBoolS.f]; exact e1, by simp only [laws_heldBoolS.f]; exact e4, e2, e5⟩
theorem markPeel_held (B : List ByteArray) (G : List Bool) (a : Int) (hB : B.length ≤ 1048576) (hG : G.length ≤ 1048576) (c0 : Int) (h0 : 0 ≤ c0) (hc : c0 ≤ 10000000) : ∃ (m : Int) (B' : List ByteArray) (G' : List Bool), Ev (fun k => laws_markPeel.f k B G a c0) (m, B', G') ∧ Ev (fun k => laws_heldPeel.f k B' G' a c0) m ∧ 0 ≤ m := by
  obtain ⟨m1, B', e1, e2, _, e4, e5⟩ := markStringS_from B hB c0 h0 (by omega)
  obtain ⟨m2, G', f1, f2, _, f4⟩ := markBoolS_from G hG m1 e4 (by omega)
  refine ⟨m2, B', G', ?_, ?_, f4⟩
  · simp only [laws_markPeel.f]
    refine Ev.bind e1 ?_
    exact Ev.bind f1 (Ev.now _)
  · simp only [laws_heldPeel.f]
    refine Ev.bind e2 ?_
    simp only [if_neg (show ¬ m1 < 0 by omega)]
    refine Ev.bind f2 ?_
    simp only [if_neg (show ¬ m2 < 0 by omega)]
    exact Ev.now _

theorem FnExactStepPeel : ∀ (l : List S60) (B : List ByteArray) (G : List Bool) (a : Int), l.length ≤ maxLen → (∀ x ∈ l, (Lit.int .i64 x.f0).wf = true ∧ x.f1.size ≤ maxLen) → B.length ≤ maxLen → (∀ s ∈ B, s.size ≤ maxLen) → G.length ≤ maxLen → (∀ x ∈ G, True) → (Lit.int .i64 a).wf = true → ∃ k, laws_FnExactStepPeel.f k l B G a = some true := by
  intro l B G a hl hw hB hs hG _ _
  refine Ev.rounds (?_ : Ev (fun k => laws_FnExactStepPeel.f k l B G a) true)
  unfold laws_FnExactStepPeel.f
  obtain ⟨c, c1, c2, c3⟩ := szDropS_upto l hl (fun s hs => (hw s hs).2)
  refine Ev.bind c1 ?_
  by_cases hc : c < 0
  · simp only [if_pos hc]; exact Ev.now _
  simp only [if_neg hc]
  have q1 := c3 (by omega)
  obtain ⟨c', d1, d2⟩ := szPeel_ev B G a hB hs hG c (by omega) c2
  refine Ev.bind d1 ?_
  by_cases hc' : c' < 0
  · simp only [if_pos hc']; exact Ev.now _
  simp only [if_neg hc']
  obtain ⟨qB, qG⟩ := d2 (by omega)
  have ht := laws_toDropS_ev l q1
  have hp := laws_toPeel_ev B G a qB qG
  have hml : (l.map dropIn).length ≤ 1048576 := by rw [List.length_map]; exact q1
  obtain ⟨⟨rB, rG, ra, rb⟩, f1, f2, e1, e2⟩ := stepPeel_same (l.map dropIn) hml B G qG a
  have f1' : rB.length ≤ 1048576 := f1
  have f2' : rG.length ≤ 1048576 := f2
  have hself := laws_eqPeel_self rB rG ra f1' f2'
  have hself0 := laws_eqPeel_self B G a qB qG
  obtain ⟨v, g, v1, v2, v3⟩ := laws_markDropS_upto (l.map dropIn) hml
  obtain ⟨v', gB, gG, w1, _, w3⟩ := markPeel_held B G a qB qG v v2 (by omega)
  obtain ⟨u, hB', hG', u1, u2, u3⟩ := markPeel_held rB rG ra f1' f2' 1 (by omega) (by omega)
  refine Ev.bind ht ?_
  refine Ev.bind hp ?_
  refine Ev.bind e1 ?_
  refine Ev.bind ht ?_
  refine Ev.bind hp ?_
  refine Ev.bind e2 ?_
  refine Ev.bind hself ?_
  simp only [if_true, bne_self_eq_false]
  apply K.Ev.succ
  simp only [laws_FnExactStepPeel.j0, Bool.false_eq_true, if_false]
  refine Ev.bind ht ?_
  refine Ev.bind (laws_eqDropS_self _ (by omega)) ?_
  simp only [if_true]
  refine Ev.bind hp ?_
  refine Ev.bind hself0 ?_
  simp only [if_true]
  refine Ev.bind v1 ?_
  refine Ev.bind w1 ?_
  simp only [if_neg (show ¬ v' < 0 by omega)]
  refine Ev.bind hself ?_
  simp only [if_true, bne_self_eq_false]
  apply K.Ev.succ
  simp only [laws_FnExactStepPeel.j1, Bool.false_eq_true, if_false]
  refine Ev.bind u1 ?_
  refine Ev.bind u2 ?_
  simp only [if_neg (show ¬ u < 0 by omega), if_true]
  refine Ev.bind ht ?_
  refine Ev.bind hp ?_
  refine Ev.bind e2 ?_
  refine Ev.bind hself ?_
  simp only [if_true, bne_self_eq_false]
  apply K.Ev.succ
  simp only [laws_FnExactStepPeel.j2, Bool.false_eq_true, if_false]
  refine Ev.bind u2 ?_
  simp only [if_neg (show ¬ u < 0 by omega), if_true]
  exact Ev.now _

end Go.Proofs.Ytimajkahadhhhaa.Pure
