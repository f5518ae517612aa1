/- The law FnExactMoveBack answers true for every slice of bytes: the program's text of recency ranks is the reference's, and the slice is left as it was. -/
import Derived.Test.YtkpdpblgnhoplaaPFnExactMoveBackx2
import Derived.Test.YtkpdpblgnhoplaaKKit
import Derived.Test.YtkpdpblgnhoplaaKMove
set_option linter.unusedVariables false
set_option linter.unusedSimpArgs false
namespace Go.Proofs.Ytkpdpblgnhoplaa.Pure
open Go Go.RowKit Go.Proofs.Ytkpdpblgnhoplaa Go.Proofs.Ytkpdpblgnhoplaa.PFnExactMoveBack Go.Proofs.YtkpdpblgnhoplaaW.PrintWords Go.Proofs.YtkpdpblgnhoplaaW.PrintLast Go.Proofs.YtkpdpblgnhoplaaW.PrintMore


theorem laws_toByteS_ev (l : List Int) (hl : l.length ≤ 1048576) : Ev (fun k => laws_toByteS.f k l) (l) := by
  have key : ∀ (d n : Nat) (x : List _), n + d = l.length → x.length = l.length → x.take n = (l).take n → Ev (fun k => laws_toByteS.l0 k l x (n : Int)) (l) := by
    intro d
    induction d with
    | zero =>
      intro n x h1 h2 h3
      apply K.Ev.succ
      simp only [laws_toByteS.l0, if_neg (show ¬ ((n : Int) < (l.length : Int)) by omega)]
      have e : x = (l) := by
        rw [List.take_of_length_le (by omega), List.take_of_length_le (by first | omega | (simp; omega))] at h3; exact h3
      rw [e]; exact Ev.now _
    | succ d ih =>
      intro n x h1 h2 h3
      apply K.Ev.succ
      have hn : n < l.length := by omega
      simp only [laws_toByteS.l0, if_pos (show (n : Int) < (l.length : Int) by omega), if_pos (show (0 : Int) ≤ (n : Int) by omega), if_pos (show (n : Int) < (x.length : Int) by omega), Int.toNat_natCast]
      
      rw [K.w64s n (by omega)]
      refine ih (n + 1) _ (by omega) (by simpa using h2) ?_
      rw [K.take_set _ _ _ (by omega), K.take_succ' (l) n (by simpa using hn), h3]
      rw [K.rd_nat hn]
  unfold laws_toByteS.f
  simp only [if_pos (show (0 : Int) ≤ (l.length : Int) by omega), Int.toNat_natCast, if_pos (show l.length ≤ 281474976710656 by omega)]
  exact key l.length 0 _ (by omega) (by simp) (by simp)


theorem laws_eqByteS_self (l : List Int) (hl : l.length ≤ 140737488355328) : Ev (fun k => laws_eqByteS.f k l l) true := by
  have key : ∀ (d n : Nat), n + d = l.length → Ev (fun k => laws_eqByteS.l0 k l l (n : Int)) true := by
    intro d
    induction d with
    | zero =>
      intro n h1
      apply K.Ev.succ
      simp only [laws_eqByteS.l0, if_neg (show ¬ ((n : Int) < (l.length : Int)) by omega)]
      exact Ev.now _
    | succ d ih =>
      intro n h1
      apply K.Ev.succ
      simp only [laws_eqByteS.l0, if_pos (show (n : Int) < (l.length : Int) by omega), if_pos (show (0 : Int) ≤ (n : Int) by omega), if_true]
      rw [K.w64s n (by omega)]
      exact ih (n + 1) (by omega)
  unfold laws_eqByteS.f
  simp only [if_true]
  exact key l.length 0 (by omega)

theorem l12Row_ev : Ev (fun k => spec_l12Row.f k) K.bytesRow := by
  have key : ∀ (d n : Nat), n + d = 256 → Ev (fun k => spec_l12Row.l0 k ((List.range n).map (fun n : Nat => (n : Int))) (n : Int)) K.bytesRow := by
    intro d
    induction d with
    | zero =>
      intro n h
      obtain rfl : n = 256 := by omega
      apply K.Ev.succ
      simp only [spec_l12Row.l0, if_neg (show ¬ (((256 : Nat) : Int) < 256) by omega)]
      exact Ev.now _
    | succ d ih =>
      intro n h
      apply K.Ev.succ
      simp only [spec_l12Row.l0, if_pos (show (n : Int) < 256 by omega), if_pos (show ((List.range n).map (fun n : Nat => (n : Int))).length < 140737488355328 by simp; omega), K.w64s n (show n < 9223372036854775807 by omega), show (n : Int) % 256 = (n : Int) by omega]
      have := ih (n + 1) (by omega)
      simpa only [List.range_succ, List.map_append, List.map_cons, List.map_nil] using this
  simp only [spec_l12Row.f]; exact key 256 0 rfl

theorem l12Front_eq (row : List Int) (k : Nat) (hk : k < row.length) (hl : row.length = 256) : spec_l12Front.f row (k : Int) = some (K.front row k) := by
  have w : K.Eqn (wrap64 ((k : Int) + 1)) ((k + 1 : Nat) : Int) := ⟨K.w64s k (by omega)⟩
  have e1 : ([rd row (k : Int)] : List Int).length + (row.take (k : Int).toNat).length < 140737488355328 := by simp only [List.length_cons, List.length_nil, List.length_take]; omega
  have e2 : (([rd row (k : Int)] : List Int) ++ row.take (k : Int).toNat).length + (row.drop (((k + 1 : Nat) : Int)).toNat).length < 140737488355328 := by simp only [List.length_append, List.length_cons, List.length_nil, List.length_take, List.length_drop]; omega
  simp only [spec_l12Front.f, if_pos (show 0 ≤ (k : Int) by omega), if_pos (show (k : Int) < (row.length : Int) by omega), Option.bind_some, if_pos (show (k : Int) ≤ (row.length : Int) by omega), if_pos e1, w.out, if_pos (show 0 ≤ ((k + 1 : Nat) : Int) by omega), if_pos (show ((k + 1 : Nat) : Int) ≤ (row.length : Int) by omega), if_pos e2]
  simp [K.front, rd]

theorem l12Back_l0 (l : List Int) (hl : l.length ≤ 1048576) (hx : ∀ x ∈ l, 0 ≤ x ∧ x ≤ 255) : ∀ (d n : Nat) (row acc : List Int), n + d = l.length → K.Row row → acc.length = n → Ev (fun k => spec_l12Back.l0 k row acc l (l.length : Int) (n : Int)) (strOfNums (acc ++ K.unrank row (l.drop n))) := by
  intro d
  induction d with
  | zero =>
    intro n row acc h1 h2 h3
    apply K.Ev.succ
    simp only [spec_l12Back.l0, if_neg (show ¬ ((n : Int) < (l.length : Int)) by omega)]
    rw [List.drop_of_length_le (by omega)]
    simp only [K.unrank, List.append_nil]
    exact Ev.now _
  | succ d ih =>
    intro n row acc h1 h2 h3
    have hn : n < l.length := by omega
    obtain ⟨k, hk⟩ := Int.eq_ofNat_of_zero_le (hx l[n] (List.getElem_mem hn)).1
    have hk' := (hx l[n] (List.getElem_mem hn)).2
    have hk256 : k < 256 := by omega
    have hkl : k < row.length := by rw [h2.len]; exact hk256
    have hr : K.Eqn (rd l (n : Int)) (k : Int) := ⟨by rw [K.rd_nat hn, hk]⟩
    have w : K.Eqn (wrap64 (k : Int)) (k : Int) := ⟨K.w64 (by omega) (by omega)⟩
    apply K.Ev.succ
    simp only [spec_l12Back.l0, if_pos (show (n : Int) < (l.length : Int) by omega), if_pos (show 0 ≤ (n : Int) by omega), hr.out, if_pos (show 0 ≤ (k : Int) by omega), if_pos (show (k : Int) < (row.length : Int) by omega), if_pos (show acc.length < 140737488355328 by omega), w.out, l12Front_eq row k hkl h2.len, Option.bind_some, K.w64s n (show n < 9223372036854775807 by omega)]
    have := ih (n + 1) (K.front row k) (acc ++ [rd row (k : Int)]) (by omega) (h2.front hk256) (by simp; omega)
    refine K.Ev.to this ?_
    rw [List.drop_eq_getElem_cons hn, hk]
    simp [K.unrank, rd]
theorem specMoveBack_ev (l : List Int) (hl : l.length ≤ 200) (hx : ∀ x ∈ l, 0 ≤ x ∧ x ≤ 255) : Ev (fun k => spec_MoveBack.f k l) (strOfNums (K.unrank K.bytesRow l), true) := by
  simp only [spec_MoveBack.f, if_neg (show ¬ ((l.length : Int) > 200) by omega), spec_l12Back.f]
  refine Ev.bind (Ev.bind l12Row_ev ?_) (Ev.now _)
  have := l12Back_l0 l (by omega) hx l.length 0 K.bytesRow [] (by omega) K.bytesRow_row rfl
  simpa using this
theorem specMoveBack_no (l : List Int) (hl : ¬ l.length ≤ 200) : Ev (fun k => spec_MoveBack.f k l) ((⟨#[]⟩ : ByteArray), false) := by
  simp only [spec_MoveBack.f, if_pos (show (l.length : Int) > 200 by omega)]
  exact Ev.now _

theorem allBytes_ev : Ev (fun k => impl_allBytes.f k) K.bytesRow := by
  have key : ∀ (d n : Nat), n + d = 256 → Ev (fun k => impl_allBytes.l0 k ((List.range n).map (fun n : Nat => (n : Int))) (n : Int)) K.bytesRow := by
    intro d
    induction d with
    | zero =>
      intro n h
      obtain rfl : n = 256 := by omega
      apply K.Ev.succ
      simp only [impl_allBytes.l0, if_neg (show ¬ (((256 : Nat) : Int) < 256) by omega)]
      exact Ev.now _
    | succ d ih =>
      intro n h
      apply K.Ev.succ
      simp only [impl_allBytes.l0, if_pos (show (n : Int) < 256 by omega), if_pos (show ((List.range n).map (fun n : Nat => (n : Int))).length < 140737488355328 by simp; omega), K.w64s n (show n < 9223372036854775807 by omega), show (n : Int) % 256 = (n : Int) by omega]
      have := ih (n + 1) (by omega)
      simpa only [List.range_succ, List.map_append, List.map_cons, List.map_nil] using this
  simp only [impl_allBytes.f]; exact key 256 0 rfl

theorem toFront_eq (row : List Int) (k : Nat) (hk : k < row.length) : impl_toFront.f row (k : Int) = some (row.getD k 0, K.front row k) := by
  simp only [impl_toFront.f, if_pos (show 0 ≤ (k : Int) by omega), if_pos (show (k : Int) < (row.length : Int) by omega)]
  simp [K.front, rd]

theorem implBack_l0 (l : List Int) (hl : l.length ≤ 1048576) (hx : ∀ x ∈ l, 0 ≤ x ∧ x ≤ 255) : ∀ (d n : Nat) (row acc : List Int), n + d = l.length → K.Row row → acc.length = n → Ev (fun k => impl_MoveBack.l0 k row acc l (l.length : Int) (n : Int)) (strOfNums (acc ++ K.unrank row (l.drop n)), true) := by
  intro d
  induction d with
  | zero =>
    intro n row acc h1 h2 h3
    apply K.Ev.succ
    simp only [impl_MoveBack.l0, if_neg (show ¬ ((n : Int) < (l.length : Int)) by omega)]
    rw [List.drop_of_length_le (by omega)]
    simp only [K.unrank, List.append_nil]
    exact Ev.now _
  | succ d ih =>
    intro n row acc h1 h2 h3
    have hn : n < l.length := by omega
    obtain ⟨k, hk⟩ := Int.eq_ofNat_of_zero_le (hx l[n] (List.getElem_mem hn)).1
    have hk' := (hx l[n] (List.getElem_mem hn)).2
    have hk256 : k < 256 := by omega
    have hkl : k < row.length := by rw [h2.len]; exact hk256
    have hr : K.Eqn (rd l (n : Int)) (k : Int) := ⟨by rw [K.rd_nat hn, hk]⟩
    have w : K.Eqn (wrap64 (k : Int)) (k : Int) := ⟨K.w64 (by omega) (by omega)⟩
    apply K.Ev.succ
    simp only [impl_MoveBack.l0, if_pos (show (n : Int) < (l.length : Int) by omega), if_pos (show 0 ≤ (n : Int) by omega), hr.out, w.out, toFront_eq row k hkl, Option.bind_some, if_pos (show acc.length < 140737488355328 by omega), K.w64s n (show n < 9223372036854775807 by omega)]
    have := ih (n + 1) (K.front row k) (acc ++ [row.getD k 0]) (by omega) (h2.front hk256) (by simp; omega)
    refine K.Ev.to this ?_
    rw [List.drop_eq_getElem_cons hn, hk]
    simp [K.unrank]
theorem implMoveBack_ev (l : List Int) (hl : l.length ≤ 200) (hx : ∀ x ∈ l, 0 ≤ x ∧ x ≤ 255) : Ev (fun k => impl_MoveBack.f k l) (strOfNums (K.unrank K.bytesRow l), true) := by
  simp only [impl_MoveBack.f, if_neg (show ¬ ((l.length : Int) > 200) by omega)]
  refine Ev.bind allBytes_ev ?_
  have := implBack_l0 l (by omega) hx l.length 0 K.bytesRow [] (by omega) K.bytesRow_row rfl
  simpa using this
theorem implMoveBack_no (l : List Int) (hl : ¬ l.length ≤ 200) : Ev (fun k => impl_MoveBack.f k l) ((⟨#[]⟩ : ByteArray), false) := by
  simp only [impl_MoveBack.f, if_pos (show (l.length : Int) > 200 by omega)]
  exact Ev.now _

theorem FnExactMoveBack : laws_FnExactMoveBack.Pure := by
  intro l _ hl hw
  have hx : ∀ x ∈ l, 0 ≤ x ∧ x ≤ 255 := fun x h => K.b_u8 (hw x h)
  refine Ev.rounds (?_ : Ev (fun k => laws_FnExactMoveBack.f k l) true)
  unfold laws_FnExactMoveBack.f
  by_cases h : (l.length : Int) > 1048576
  · simp only [if_pos h]; exact Ev.now _
  simp only [if_neg h]
  have h' : l.length ≤ 1048576 := by omega
  have both : ∃ r, Ev (fun k => spec_MoveBack.f k l) r ∧ Ev (fun k => impl_MoveBack.f k l) r := by
    by_cases h2 : l.length ≤ 200
    · exact ⟨_, specMoveBack_ev l h2 hx, implMoveBack_ev l h2 hx⟩
    · exact ⟨_, specMoveBack_no l h2, implMoveBack_no l h2⟩
  obtain ⟨r, e1, e2⟩ := both
  refine Ev.bind (laws_toByteS_ev l h') ?_
  refine Ev.bind e1 ?_
  refine Ev.bind (laws_toByteS_ev l h') ?_
  refine Ev.bind e2 ?_
  simp only [if_true, bne_self_eq_false]
  apply K.Ev.succ
  simp only [laws_FnExactMoveBack.j0, Bool.false_eq_true, if_false]
  refine Ev.bind (laws_toByteS_ev l h') ?_
  refine Ev.bind (laws_eqByteS_self l (by omega)) ?_
  simp only [if_true]
  exact Ev.now _

end Go.Proofs.Ytkpdpblgnhoplaa.Pure
