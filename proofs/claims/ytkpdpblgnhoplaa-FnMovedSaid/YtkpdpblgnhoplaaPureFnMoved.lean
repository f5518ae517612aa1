/- The law FnMoved answers true for all drawn texts: a text is recovered from its recency ranks, and a repeated byte has rank 0. -/
import Derived.Test.YtkpdpblgnhoplaaPFnMovedx4
import Derived.Test.YtkpdpblgnhoplaaKKit
import Derived.Test.YtkpdpblgnhoplaaKMove
set_option linter.unusedVariables false
set_option linter.unusedSimpArgs false
namespace Go.Proofs.Ytkpdpblgnhoplaa.Pure
open Go Go.RowKit Go.Proofs.Ytkpdpblgnhoplaa Go.Proofs.Ytkpdpblgnhoplaa.PFnMoved Go.Proofs.YtkpdpblgnhoplaaW.PrintWords Go.Proofs.YtkpdpblgnhoplaaW.PrintLast Go.Proofs.YtkpdpblgnhoplaaW.PrintMore

theorem implSmall_ev (l : List Int) (b : Int) (hl : l.length ≤ 200) (hx : ∀ x ∈ l, 0 ≤ x ∧ x ≤ 255) (hb : 0 ≤ b ∧ b ≤ 256) : Ev (fun k => impl_SmallIn.f k l b) ((l.countP (fun x => decide (x < b)) : Int), true) := by
  have key : ∀ (d n : Nat) (c : Int), n + d = l.length → c = ((l.take n).countP (fun x => decide (x < b)) : Int) → Ev (fun k => impl_SmallIn.l0 k b c l (l.length : Int) (n : Int)) ((l.countP (fun x => decide (x < b)) : Int), true) := by
    intro d
    induction d with
    | zero =>
      intro n c h1 h2
      apply K.Ev.succ
      simp only [impl_SmallIn.l0, if_neg (show ¬ ((n : Int) < (l.length : Int)) by omega)]
      rw [h2, List.take_of_length_le (by omega)]
      exact Ev.now _
    | succ d ih =>
      intro n c h1 h2
      have hn : n < l.length := by omega
      have hr := hx (l[n]) (List.getElem_mem hn)
      have wr : K.Eqn (wrap64 (rd l (n : Int))) l[n] := ⟨by rw [K.rd_nat hn]; exact K.w64 (by omega) (by omega)⟩
      have hc : (l.take n).countP (fun x => decide (x < b)) ≤ n := Nat.le_trans List.countP_le_length (by rw [List.length_take]; omega)
      have wc : K.Eqn (wrap64 (c + 1)) (c + 1) := ⟨K.w64 (by omega) (by omega)⟩
      apply K.Ev.succ
      by_cases hF : l[n] < b
      · simp only [impl_SmallIn.l0, if_pos (show (n : Int) < (l.length : Int) by omega), if_pos (show (0 : Int) ≤ (n : Int) by omega), wr.out, if_pos hF, wc.out, K.w64s n (show n < 9223372036854775807 by omega)]
        refine ih (n + 1) _ (by omega) ?_
        rw [K.take_succ' l n hn, List.countP_append, h2]
        simp [hF]
      · simp only [impl_SmallIn.l0, if_pos (show (n : Int) < (l.length : Int) by omega), if_pos (show (0 : Int) ≤ (n : Int) by omega), wr.out, if_neg hF, K.w64s n (show n < 9223372036854775807 by omega)]
        refine ih (n + 1) _ (by omega) ?_
        rw [K.take_succ' l n hn, List.countP_append, h2]
        simp [hF]
  have q : (if b ≥ 0 then (some (decide (b ≤ 256))) else (some false)) = some true := by rw [if_pos hb.1]; simp [hb.2]
  simp only [impl_SmallIn.f, if_neg (show ¬ ((l.length : Int) > 200) by omega), impl_within.f, q, Option.bind_some]
  apply K.Ev.succ
  simp only [impl_SmallIn.j0, Bool.not_true, Bool.false_eq_true, if_false]
  exact key l.length 0 0 (by omega) (by simp)

theorem l12Row_ev : Ev (fun k => spec_l12Row.f k) K.bytesRow := by
  have key : ∀ (d n : Nat), n + d = 256 → Ev (fun k => spec_l12Row.l0 k ((List.range n).map (fun n : Nat => (n : Int))) (n : Int)) K.bytesRow := by
    intro d
    induction d with
    | zero =>
      intro n h
      obtain rfl : n = 256 := by omega
      apply K.Ev.succ
      simp only [spec_l12Row.l0, if_neg (show ¬ (((256 : Nat) : Int) < 256) by omega)]
      exact Ev.now _
    | succ d ih =>
      intro n h
      apply K.Ev.succ
      simp only [spec_l12Row.l0, if_pos (show (n : Int) < 256 by omega), if_pos (show ((List.range n).map (fun n : Nat => (n : Int))).length < 140737488355328 by simp; omega), K.w64s n (show n < 9223372036854775807 by omega), show (n : Int) % 256 = (n : Int) by omega]
      have := ih (n + 1) (by omega)
      simpa only [List.range_succ, List.map_append, List.map_cons, List.map_nil] using this
  simp only [spec_l12Row.f]; exact key 256 0 rfl

theorem l12Front_eq (row : List Int) (k : Nat) (hk : k < row.length) (hl : row.length = 256) : spec_l12Front.f row (k : Int) = some (K.front row k) := by
  have w : K.Eqn (wrap64 ((k : Int) + 1)) ((k + 1 : Nat) : Int) := ⟨K.w64s k (by omega)⟩
  have e1 : ([rd row (k : Int)] : List Int).length + (row.take (k : Int).toNat).length < 140737488355328 := by simp only [List.length_cons, List.length_nil, List.length_take]; omega
  have e2 : (([rd row (k : Int)] : List Int) ++ row.take (k : Int).toNat).length + (row.drop (((k + 1 : Nat) : Int)).toNat).length < 140737488355328 := by simp only [List.length_append, List.length_cons, List.length_nil, List.length_take, List.length_drop]; omega
  simp only [spec_l12Front.f, if_pos (show 0 ≤ (k : Int) by omega), if_pos (show (k : Int) < (row.length : Int) by omega), Option.bind_some, if_pos (show (k : Int) ≤ (row.length : Int) by omega), if_pos e1, w.out, if_pos (show 0 ≤ ((k + 1 : Nat) : Int) by omega), if_pos (show ((k + 1 : Nat) : Int) ≤ (row.length : Int) by omega), if_pos e2]
  simp [K.front, rd]

theorem l12Back_l0 (l : List Int) (hl : l.length ≤ 1048576) (hx : ∀ x ∈ l, 0 ≤ x ∧ x ≤ 255) : ∀ (d n : Nat) (row acc : List Int), n + d = l.length → K.Row row → acc.length = n → Ev (fun k => spec_l12Back.l0 k row acc l (l.length : Int) (n : Int)) (strOfNums (acc ++ K.unrank row (l.drop n))) := by
  intro d
  induction d with
  | zero =>
    intro n row acc h1 h2 h3
    apply K.Ev.succ
    simp only [spec_l12Back.l0, if_neg (show ¬ ((n : Int) < (l.length : Int)) by omega)]
    rw [List.drop_of_length_le (by omega)]
    simp only [K.unrank, List.append_nil]
    exact Ev.now _
  | succ d ih =>
    intro n row acc h1 h2 h3
    have hn : n < l.length := by omega
    obtain ⟨k, hk⟩ := Int.eq_ofNat_of_zero_le (hx l[n] (List.getElem_mem hn)).1
    have hk' := (hx l[n] (List.getElem_mem hn)).2
    have hk256 : k < 256 := by omega
    have hkl : k < row.length := by rw [h2.len]; exact hk256
    have hr : K.Eqn (rd l (n : Int)) (k : Int) := ⟨by rw [K.rd_nat hn, hk]⟩
    have w : K.Eqn (wrap64 (k : Int)) (k : Int) := ⟨K.w64 (by omega) (by omega)⟩
    apply K.Ev.succ
    simp only [spec_l12Back.l0, if_pos (show (n : Int) < (l.length : Int) by omega), if_pos (show 0 ≤ (n : Int) by omega), hr.out, if_pos (show 0 ≤ (k : Int) by omega), if_pos (show (k : Int) < (row.length : Int) by omega), if_pos (show acc.length < 140737488355328 by omega), w.out, l12Front_eq row k hkl h2.len, Option.bind_some, K.w64s n (show n < 9223372036854775807 by omega)]
    have := ih (n + 1) (K.front row k) (acc ++ [rd row (k : Int)]) (by omega) (h2.front hk256) (by simp; omega)
    refine K.Ev.to this ?_
    rw [List.drop_eq_getElem_cons hn, hk]
    simp [K.unrank, rd]
theorem specMoveBack_ev (l : List Int) (hl : l.length ≤ 200) (hx : ∀ x ∈ l, 0 ≤ x ∧ x ≤ 255) : Ev (fun k => spec_MoveBack.f k l) (strOfNums (K.unrank K.bytesRow l), true) := by
  simp only [spec_MoveBack.f, if_neg (show ¬ ((l.length : Int) > 200) by omega), spec_l12Back.f]
  refine Ev.bind (Ev.bind l12Row_ev ?_) (Ev.now _)
  have := l12Back_l0 l (by omega) hx l.length 0 K.bytesRow [] (by omega) K.bytesRow_row rfl
  simpa using this
theorem specMoveBack_no (l : List Int) (hl : ¬ l.length ≤ 200) : Ev (fun k => spec_MoveBack.f k l) ((⟨#[]⟩ : ByteArray), false) := by
  simp only [spec_MoveBack.f, if_pos (show (l.length : Int) > 200 by omega)]
  exact Ev.now _

theorem allBytes_ev : Ev (fun k => impl_allBytes.f k) K.bytesRow := by
  have key : ∀ (d n : Nat), n + d = 256 → Ev (fun k => impl_allBytes.l0 k ((List.range n).map (fun n : Nat => (n : Int))) (n : Int)) K.bytesRow := by
    intro d
    induction d with
    | zero =>
      intro n h
      obtain rfl : n = 256 := by omega
      apply K.Ev.succ
      simp only [impl_allBytes.l0, if_neg (show ¬ (((256 : Nat) : Int) < 256) by omega)]
      exact Ev.now _
    | succ d ih =>
      intro n h
      apply K.Ev.succ
      simp only [impl_allBytes.l0, if_pos (show (n : Int) < 256 by omega), if_pos (show ((List.range n).map (fun n : Nat => (n : Int))).length < 140737488355328 by simp; omega), K.w64s n (show n < 9223372036854775807 by omega), show (n : Int) % 256 = (n : Int) by omega]
      have := ih (n + 1) (by omega)
      simpa only [List.range_succ, List.map_append, List.map_cons, List.map_nil] using this
  simp only [impl_allBytes.f]; exact key 256 0 rfl

theorem toFront_eq (row : List Int) (k : Nat) (hk : k < row.length) : impl_toFront.f row (k : Int) = some (row.getD k 0, K.front row k) := by
  simp only [impl_toFront.f, if_pos (show 0 ≤ (k : Int) by omega), if_pos (show (k : Int) < (row.length : Int) by omega)]
  simp [K.front, rd]

theorem implBack_l0 (l : List Int) (hl : l.length ≤ 1048576) (hx : ∀ x ∈ l, 0 ≤ x ∧ x ≤ 255) : ∀ (d n : Nat) (row acc : List Int), n + d = l.length → K.Row row → acc.length = n → Ev (fun k => impl_MoveBack.l0 k row acc l (l.length : Int) (n : Int)) (strOfNums (acc ++ K.unrank row (l.drop n)), true) := by
  intro d
  induction d with
  | zero =>
    intro n row acc h1 h2 h3
    apply K.Ev.succ
    simp only [impl_MoveBack.l0, if_neg (show ¬ ((n : Int) < (l.length : Int)) by omega)]
    rw [List.drop_of_length_le (by omega)]
    simp only [K.unrank, List.append_nil]
    exact Ev.now _
  | succ d ih =>
    intro n row acc h1 h2 h3
    have hn : n < l.length := by omega
    obtain ⟨k, hk⟩ := Int.eq_ofNat_of_zero_le (hx l[n] (List.getElem_mem hn)).1
    have hk' := (hx l[n] (List.getElem_mem hn)).2
    have hk256 : k < 256 := by omega
    have hkl : k < row.length := by rw [h2.len]; exact hk256
    have hr : K.Eqn (rd l (n : Int)) (k : Int) := ⟨by rw [K.rd_nat hn, hk]⟩
    have w : K.Eqn (wrap64 (k : Int)) (k : Int) := ⟨K.w64 (by omega) (by omega)⟩
    apply K.Ev.succ
    simp only [impl_MoveBack.l0, if_pos (show (n : Int) < (l.length : Int) by omega), if_pos (show 0 ≤ (n : Int) by omega), hr.out, w.out, toFront_eq row k hkl, Option.bind_some, if_pos (show acc.length < 140737488355328 by omega), K.w64s n (show n < 9223372036854775807 by omega)]
    have := ih (n + 1) (K.front row k) (acc ++ [row.getD k 0]) (by omega) (h2.front hk256) (by simp; omega)
    refine K.Ev.to this ?_
    rw [List.drop_eq_getElem_cons hn, hk]
    simp [K.unrank]
theorem implMoveBack_ev (l : List Int) (hl : l.length ≤ 200) (hx : ∀ x ∈ l, 0 ≤ x ∧ x ≤ 255) : Ev (fun k => impl_MoveBack.f k l) (strOfNums (K.unrank K.bytesRow l), true) := by
  simp only [impl_MoveBack.f, if_neg (show ¬ ((l.length : Int) > 200) by omega)]
  refine Ev.bind allBytes_ev ?_
  have := implBack_l0 l (by omega) hx l.length 0 K.bytesRow [] (by omega) K.bytesRow_row rfl
  simpa using this
theorem implMoveBack_no (l : List Int) (hl : ¬ l.length ≤ 200) : Ev (fun k => impl_MoveBack.f k l) ((⟨#[]⟩ : ByteArray), false) := by
  simp only [impl_MoveBack.f, if_pos (show (l.length : Int) > 200 by omega)]
  exact Ev.now _

theorem bytesOf_rng (s : ByteArray) : ∀ x ∈ bytesOf s, 0 ≤ x ∧ x ≤ 255 := by
  intro x hx
  obtain ⟨b, _, rfl⟩ := List.mem_map.1 hx
  have := b.toNat_lt
  omega
theorem bt_drop (s : ByteArray) (n : Nat) (hn : n < s.size) : (bytesOf s).drop n = bt s (n : Int) :: (bytesOf s).drop (n + 1) := by
  have h : n < (bytesOf s).length := by rw [bytesOf_length]; exact hn
  rw [List.drop_eq_getElem_cons h, K.bt_bytes, List.getD_eq_getElem?_getD, List.getElem?_eq_getElem h]
  rfl
theorem l12Move_l0 (s : ByteArray) (hs : s.size ≤ 1048576) : ∀ (d n : Nat) (row acc : List Int), n + d = s.size → K.Row row → acc.length = n → Ev (fun k => spec_l12Move.l0 k s row acc (n : Int)) (acc ++ K.ranks row ((bytesOf s).drop n)) := by
  intro d
  induction d with
  | zero =>
    intro n row acc h1 h2 h3
    apply K.Ev.succ
    simp only [spec_l12Move.l0, if_neg (show ¬ ((n : Int) < (s.size : Int)) by omega)]
    rw [List.drop_of_length_le (by rw [bytesOf_length]; omega)]
    simp only [K.ranks, List.append_nil]
    exact Ev.now _
  | succ d ih =>
    intro n row acc h1 h2 h3
    have hn : n < s.size := by omega
    have hb := bt_range s (n : Int)
    have hm := h2.mem (bt s (n : Int)) hb.1 hb.2
    have hi := List.idxOf_lt_length_of_mem hm
    have hl := h2.len
    have hnext := ih (n + 1) (K.front row (row.idxOf (bt s (n : Int)))) (acc ++ [(row.idxOf (bt s (n : Int)) : Int)]) (by omega) (h2.front (by omega)) (by simp; omega)
    have scan : ∀ (e j : Nat), j + e = row.idxOf (bt s (n : Int)) → Ev (fun k => spec_l12Move.l1 k s row acc (n : Int) (j : Int)) (acc ++ K.ranks row ((bytesOf s).drop n)) := by
      intro e
      induction e with
      | zero =>
        intro j hj
        obtain rfl : j = row.idxOf (bt s (n : Int)) := by omega
        apply K.Ev.succ
        simp only [spec_l12Move.l1, if_pos (show (0 : Int) ≤ ((row.idxOf (bt s (n : Int)) : Nat) : Int) by omega), if_pos (show ((row.idxOf (bt s (n : Int)) : Nat) : Int) < (row.length : Int) by omega), if_pos (show (0 : Int) ≤ (n : Int) by omega), if_pos (show (n : Int) < (s.size : Int) by omega), K.rd_nat hi, List.getElem_idxOf hi, if_true, if_pos (show acc.length < 140737488355328 by omega), l12Front_eq row _ hi hl, Option.bind_some, K.w64s n (show n < 9223372036854775807 by omega), show ((row.idxOf (bt s (n : Int)) : Nat) : Int) % 256 = ((row.idxOf (bt s (n : Int)) : Nat) : Int) by omega]
        refine K.Ev.to hnext ?_
        rw [bt_drop s n hn]
        simp [K.ranks]
      | succ e ihe =>
        intro j hj
        have hjl : j < row.length := by omega
        have hne : ¬ row[j] = bt s (n : Int) := fun e => by
          have := List.not_of_lt_findIdx (p := (· == (bt s (n : Int)))) (xs := row) (i := j) (by show j < row.idxOf (bt s (n : Int)); omega)
          simp [e] at this
        apply K.Ev.succ
        simp only [spec_l12Move.l1, if_pos (show (0 : Int) ≤ (j : Int) by omega), if_pos (show (j : Int) < (row.length : Int) by omega), if_pos (show (0 : Int) ≤ (n : Int) by omega), if_pos (show (n : Int) < (s.size : Int) by omega), K.rd_nat hjl, if_neg hne, K.w64s j (show j < 9223372036854775807 by omega)]
        exact ihe (j + 1) (by omega)
    apply K.Ev.succ
    simp only [spec_l12Move.l0, if_pos (show (n : Int) < (s.size : Int) by omega)]
    exact scan (row.idxOf (bt s (n : Int))) 0 (by omega)
theorem specMoveFront_ev (s : ByteArray) (hs : s.size ≤ 200) : Ev (fun k => spec_MoveFront.f k s) (K.ranks K.bytesRow (bytesOf s), true) := by
  simp only [spec_MoveFront.f, if_neg (show ¬ ((s.size : Int) > 200) by omega), spec_l12Move.f]
  refine Ev.bind (Ev.bind l12Row_ev ?_) (Ev.now _)
  have := l12Move_l0 s (by omega) s.size 0 K.bytesRow [] (by omega) K.bytesRow_row rfl
  simpa using this
theorem specMoveFront_no (s : ByteArray) (hs : ¬ s.size ≤ 200) : Ev (fun k => spec_MoveFront.f k s) ([], false) := by
  simp only [spec_MoveFront.f, if_pos (show (s.size : Int) > 200 by omega)]
  exact Ev.now _

theorem index_byte_ev (l : List Int) (x : Int) (hm : x ∈ l) (hl : l.length ≤ 140737488355328) : Ev (fun k => slices_Index_byte_byte.f k l x) (l.idxOf x : Int) := by
  have hi := List.idxOf_lt_length_of_mem hm
  have key : ∀ (d n : Nat), n + d = l.idxOf x → Ev (fun k => slices_Index_byte_byte.l0 k l x (l.length : Int) (n : Int)) (l.idxOf x : Int) := by
    intro d
    induction d with
    | zero =>
      intro n h1
      obtain rfl : n = l.idxOf x := by omega
      apply K.Ev.succ
      simp only [slices_Index_byte_byte.l0, if_pos (show ((l.idxOf x : Nat) : Int) < (l.length : Int) by omega), if_pos (show (0 : Int) ≤ ((l.idxOf x : Nat) : Int) by omega), K.rd_nat hi, List.getElem_idxOf hi, if_true]
      exact Ev.now _
    | succ d ih =>
      intro n h1
      have hn : n < l.length := by omega
      have hne : ¬ x = l[n] := fun e => by
        have := List.not_of_lt_findIdx (p := (· == x)) (xs := l) (i := n) (by show n < l.idxOf (x); omega)
        simp [e] at this
      apply K.Ev.succ
      simp only [slices_Index_byte_byte.l0, if_pos (show (n : Int) < (l.length : Int) by omega), if_pos (show (0 : Int) ≤ (n : Int) by omega), K.rd_nat hn, if_neg hne, K.w64s n (show n < 9223372036854775807 by omega)]
      exact ih (n + 1) (by omega)
  simp only [slices_Index_byte_byte.f]; exact key (l.idxOf x) 0 (by omega)

theorem implFront_l0 (s : ByteArray) (hs : s.size ≤ 1048576) : ∀ (d n : Nat) (row acc : List Int), n + d = s.size → K.Row row → acc.length = n → Ev (fun k => impl_MoveFront.l0 k s row acc (s.size : Int) (n : Int)) (acc ++ K.ranks row ((bytesOf s).drop n), true) := by
  intro d
  induction d with
  | zero =>
    intro n row acc h1 h2 h3
    apply K.Ev.succ
    simp only [impl_MoveFront.l0, if_neg (show ¬ ((n : Int) < (s.size : Int)) by omega)]
    rw [List.drop_of_length_le (by rw [bytesOf_length]; omega)]
    simp only [K.ranks, List.append_nil]
    exact Ev.now _
  | succ d ih =>
    intro n row acc h1 h2 h3
    have hn : n < s.size := by omega
    have hb := bt_range s (n : Int)
    have hm := h2.mem (bt s (n : Int)) hb.1 hb.2
    have hi := List.idxOf_lt_length_of_mem hm
    have hl := h2.len
    have hnext := ih (n + 1) (K.front row (row.idxOf (bt s (n : Int)))) (acc ++ [(row.idxOf (bt s (n : Int)) : Int)]) (by omega) (h2.front (by omega)) (by simp; omega)
    apply K.Ev.succ
    simp only [impl_MoveFront.l0, if_pos (show (n : Int) < (s.size : Int) by omega), if_pos (show (0 : Int) ≤ (n : Int) by omega)]
    refine Ev.bind (index_byte_ev row (bt s (n : Int)) hm (by omega)) ?_
    simp only [toFront_eq row _ hi, Option.bind_some, if_pos (show acc.length < 140737488355328 by omega), K.w64s n (show n < 9223372036854775807 by omega), show ((row.idxOf (bt s (n : Int)) : Nat) : Int) % 256 = ((row.idxOf (bt s (n : Int)) : Nat) : Int) by omega]
    refine K.Ev.to hnext ?_
    rw [bt_drop s n hn]
    simp [K.ranks]
theorem implMoveFront_ev (s : ByteArray) (hs : s.size ≤ 200) : Ev (fun k => impl_MoveFront.f k s) (K.ranks K.bytesRow (bytesOf s), true) := by
  simp only [impl_MoveFront.f, if_neg (show ¬ ((s.size : Int) > 200) by omega)]
  refine Ev.bind allBytes_ev ?_
  have := implFront_l0 s (by omega) s.size 0 K.bytesRow [] (by omega) K.bytesRow_row rfl
  simpa using this
theorem implMoveFront_no (s : ByteArray) (hs : ¬ s.size ≤ 200) : Ev (fun k => impl_MoveFront.f k s) ([], false) := by
  simp only [impl_MoveFront.f, if_pos (show (s.size : Int) > 200 by omega)]
  exact Ev.now _

theorem next_ok (c : List Int) (hc : K.Code c) (a : Int) (h0 : 0 ≤ a) (h1 : a ≤ 1152921504606846976) (sd : Int) : ∃ v sd', spec_l1Cur_next.f c a sd = some (v, a + 1, sd') ∧ 0 ≤ v ∧ v ≤ 255 := by
  have hl := hc.len
  have w : K.Eqn (wrap64 (a + 1)) (a + 1) := ⟨K.w64 (by omega) (by omega)⟩
  by_cases h : a < (c.length : Int)
  · have hr := hc.rd_rng a
    have wr : K.Eqn (wrap64 (rd c a)) (rd c a) := ⟨K.w64 (by omega) (by omega)⟩
    have h2 : a + 1 ≤ (c.length : Int) := by omega
    simp only [spec_l1Cur_next.f, if_pos h, if_pos h0, w.out, if_pos h2, wr.out]
    exact ⟨_, _, rfl, hr.1, hr.2⟩
  · have h2 : ¬ (a + 1 ≤ (c.length : Int)) := by omega
    have hb : ∀ y : Int, wrap64 (Go.bits .and .u64 y 255) = Go.bits .and .u64 y 255 ∧ 0 ≤ Go.bits .and .u64 y 255 ∧ Go.bits .and .u64 y 255 ≤ 255 := fun y => by
      have := K.u64_and255 y
      exact ⟨K.w64 (by omega) (by omega), this⟩
    simp only [spec_l1Cur_next.f, if_neg h, w.out, if_neg h2, (hb _).1]
    exact ⟨_, _, rfl, (hb _).2.1, (hb _).2.2⟩

theorem pick_ok (c : List Int) (hc : K.Code c) (a : Int) (h0 : 0 ≤ a) (h1 : a ≤ 1000000000000000000) (sd : Int) (n : Int) (hn : n ≤ 1000000) : ∃ v a' sd', spec_l1Cur_pick.f c a sd n = some (v, a', sd') ∧ 0 ≤ v ∧ (v < n ∨ v = 0) ∧ a ≤ a' ∧ a' ≤ a + 2 := by
  by_cases h : n ≤ 1
  · exact ⟨0, a, sd, by simp only [spec_l1Cur_pick.f, if_pos h], by omega, .inr rfl, by omega, by omega⟩
  obtain ⟨v, sd1, e1, v0, v1⟩ := next_ok c hc a h0 (by omega) sd
  have hnz : ¬ n = 0 := by omega
  have tm : ∀ x : Int, 0 ≤ x → 0 ≤ Int.tmod x n ∧ Int.tmod x n < n := fun x hx => by
    rw [Int.tmod_eq_emod_of_nonneg hx]
    exact ⟨Int.emod_nonneg _ (by omega), Int.emod_lt_of_pos _ (by omega)⟩
  by_cases h2 : n > 200
  · obtain ⟨u, sd2, e2, u0, u1⟩ := next_ok c hc (a + 1) (by omega) (by omega) sd1
    have w1 : K.Eqn (wrap64 (v * 256)) (v * 256) := ⟨K.w64 (by omega) (by omega)⟩
    have w2 : K.Eqn (wrap64 (v * 256 + u)) (v * 256 + u) := ⟨K.w64 (by omega) (by omega)⟩
    have t := tm (v * 256 + u) (by omega)
    refine ⟨_, a + 1 + 1, sd2, by simp only [spec_l1Cur_pick.f, if_neg h, e1, Option.bind_some, if_pos h2, e2, if_neg hnz, w1.out, w2.out], t.1, .inl t.2, by omega, by omega⟩
  · have t := tm v v0
    exact ⟨_, a + 1, sd1, by simp only [spec_l1Cur_pick.f, if_neg h, e1, Option.bind_some, if_neg h2, if_neg hnz], t.1, .inl t.2, by omega, by omega⟩

theorem one_ok (c : List Int) (hc : K.Code c) (a : Int) (h0 : 0 ≤ a) (h1 : a ≤ 1000000000000000000) (sd : Int) (n : Int) (hn : n ≤ 1000000) : ∃ (b : Bool) (a' sd' : Int), spec_l1Cur_one.f c a sd n = some (b, a', sd') ∧ a ≤ a' ∧ a' ≤ a + 2 := by
  obtain ⟨v, a', sd', e, _, _, g1, g2⟩ := pick_ok c hc a h0 h1 sd n hn
  exact ⟨v == 0, a', sd', by simp only [spec_l1Cur_one.f, e, Option.bind_some], g1, g2⟩

theorem of_ok (c : List Int) (hc : K.Code c) (a : Int) (h0 : 0 ≤ a) (h1 : a ≤ 1000000000000000000) (sd : Int) (l : List ByteArray) (hl : 0 < l.length) (hl2 : l.length ≤ 1000000) : ∃ (s : ByteArray) (a' sd' : Int), spec_l1Cur_of.f c a sd l = some (s, a', sd') ∧ s ∈ l ∧ a ≤ a' ∧ a' ≤ a + 2 := by
  obtain ⟨v, a', sd', e, v0, v1, g1, g2⟩ := pick_ok c hc a h0 h1 sd (l.length : Int) (by omega)
  have hv : v.toNat < l.length := by omega
  refine ⟨rdOf ByteArray.empty l v, a', sd', by simp only [spec_l1Cur_of.f, e, Option.bind_some, if_pos v0, if_pos (show v < (l.length : Int) by omega)], ?_, g1, g2⟩
  simp only [rdOf, List.getD_eq_getElem?_getD, List.getElem?_eq_getElem hv, Option.getD_some]
  exact List.getElem_mem hv

theorem prose_ok (c : List Int) (hc : K.Code c) (a : Int) (h0 : 0 ≤ a) (h1 : a ≤ 700000000000000000) (sd : Int) : ∃ (s : ByteArray) (a' sd' : Int), Ev (fun k => spec_l1Cur_prose.f k c a sd) (s, a', sd') ∧ s.size ≤ 240 ∧ a ≤ a' ∧ a' ≤ a + 200 := by
  have key : ∀ (d : Nat) (s : ByteArray) (a sd : Int), d ≤ 60 → s.size + 4 * d ≤ 240 → 0 ≤ a → a + 2 * d ≤ 750000000000000000 → ∃ (r : ByteArray) (a' sd' : Int), Ev (fun k => spec_l1Cur_prose.l0 k s (d : Int) c a sd) (r, a', sd') ∧ r.size ≤ 240 ∧ a ≤ a' ∧ a' ≤ a + 2 * d + 2 := by
    intro d
    induction d with
    | zero =>
      intro s a sd _ g1 g2 g3
      by_cases h : (s.size : Int) > 120
      · obtain ⟨b, a1, sd1, e1, b1, b2⟩ := one_ok c hc a g2 (by omega) sd 4 (by omega)
        cases b with
        | true =>
          refine ⟨s, a1, sd1, ?_, by omega, by omega, by omega⟩
          apply K.Ev.succ
          simp only [spec_l1Cur_prose.l0, if_neg (show ¬ (((0 : Nat) : Int) > 0) by omega), if_pos h, e1, Option.bind_some, if_true]
          exact Ev.now _
        | false =>
          refine ⟨s.extract 0 120, a1, sd1, ?_, by rw [ByteArray.size_extract]; omega, by omega, by omega⟩
          apply K.Ev.succ
          simp only [spec_l1Cur_prose.l0, if_neg (show ¬ (((0 : Nat) : Int) > 0) by omega), if_pos h, e1, Option.bind_some, Bool.false_eq_true, if_false, if_pos (show (0 : Int) ≤ 120 by omega), if_pos (show (120 : Int) ≤ (s.size : Int) by omega)]
          exact Ev.now _
      · refine ⟨s, a, sd, ?_, by omega, by omega, by omega⟩
        apply K.Ev.succ
        simp only [spec_l1Cur_prose.l0, if_neg (show ¬ (((0 : Nat) : Int) > 0) by omega), if_neg h]
        exact Ev.now _
    | succ d ih =>
      intro s a sd g0 g1 g2 g3
      obtain ⟨t, a1, sd1, e1, ht, b1, b2⟩ := of_ok c hc a g2 (by omega) sd ([(⟨#[97]⟩ : ByteArray), (⟨#[98]⟩ : ByteArray), (⟨#[110, 97]⟩ : ByteArray), (⟨#[97, 98]⟩ : ByteArray), (⟨#[116, 104, 101, 32]⟩ : ByteArray), (⟨#[97, 97, 97]⟩ : ByteArray), (⟨#[0]⟩ : ByteArray)] : List ByteArray) (by simp) (by simp)
      have hts : t.size ≤ 4 := by
        simp only [List.mem_cons, List.not_mem_nil, or_false] at ht
        rcases ht with rfl | rfl | rfl | rfl | rfl | rfl | rfl <;> decide
      have w : K.Eqn (wrap64 (((d + 1 : Nat) : Int) - 1)) (d : Int) := ⟨K.w64p d (by omega)⟩
      obtain ⟨r, a', sd', e2, r1, b3, b4⟩ := ih (s ++ t) a1 sd1 (by omega) (by rw [ByteArray.size_append]; omega) (by omega) (by omega)
      refine ⟨r, a', sd', ?_, r1, by omega, by omega⟩
      apply K.Ev.succ
      simp only [spec_l1Cur_prose.l0, if_pos (show ((d + 1 : Nat) : Int) > 0 by omega), e1, Option.bind_some, if_pos (show s.size + t.size ≤ 9223372036854775807 by omega), w.out]
      exact e2
  obtain ⟨v, a1, sd1, e1, v0, v1, b1, b2⟩ := pick_ok c hc a h0 (by omega) sd 12 (by omega)
  obtain ⟨b, a2, sd2, e2, b3, b4⟩ := one_ok c hc a1 (by omega) (by omega) sd1 20 (by omega)
  cases b with
  | true =>
    obtain ⟨r, a', sd', e3, r1, b5, b6⟩ := key 60 (⟨#[]⟩ : ByteArray) a2 sd2 (by omega) (by decide) (by omega) (by omega)
    refine ⟨r, a', sd', ?_, r1, by omega, by omega⟩
    simp only [spec_l1Cur_prose.f, e1, Option.bind_some, e2, if_true]
    apply K.Ev.succ
    simp only [spec_l1Cur_prose.j0]
    exact e3
  | false =>
    obtain ⟨m, rfl⟩ := Int.eq_ofNat_of_zero_le v0
    obtain ⟨r, a', sd', e3, r1, b5, b6⟩ := key m (⟨#[]⟩ : ByteArray) a2 sd2 (by omega) (by show 0 + 4 * m ≤ 240; omega) (by omega) (by omega)
    refine ⟨r, a', sd', ?_, r1, by omega, by omega⟩
    simp only [spec_l1Cur_prose.f, e1, Option.bind_some, e2, Bool.false_eq_true, if_false]
    apply K.Ev.succ
    simp only [spec_l1Cur_prose.j0]
    exact e3

theorem moved_ok (c : List Int) (hc : K.Code c) (a : Int) (h0 : 0 ≤ a) (h1 : a ≤ 600000000000000000) (sd : Int) : ∃ (s : ByteArray) (a' sd' : Int), Ev (fun k => spec_l1Cur_moved.f k c a sd) (s, a', sd') ∧ s.size ≤ 400 ∧ a ≤ a' ∧ a' ≤ a + 210 := by
  obtain ⟨s, a1, sd1, e1, s1, b1, b2⟩ := prose_ok c hc a h0 (by omega) sd
  obtain ⟨v, a2, sd2, e2, v0, v1, b3, b4⟩ := pick_ok c hc a1 (by omega) (by omega) sd1 20 (by omega)
  by_cases hv : v = 0
  · have sz : (strOfNums (List.replicate 150 0)).size = 150 := by rw [strOfNums_size]; simp
    refine ⟨s ++ strOfNums (List.replicate 150 0), a2, sd2, ?_, by rw [ByteArray.size_append, sz]; omega, by omega, by omega⟩
    simp only [spec_l1Cur_moved.f]
    refine Ev.bind e1 ?_
    simp only [e2, Option.bind_some, if_pos hv, if_pos (show (150 : Nat) ≤ 281474976710656 by omega), sz, if_pos (show s.size + 150 ≤ 9223372036854775807 by omega)]
    exact Ev.now _
  by_cases hv1 : v = 1
  · obtain ⟨u, a3, sd3, e3, u0, u1, b5, b6⟩ := pick_ok c hc a2 (by omega) (by omega) sd2 2 (by omega)
    have w : K.Eqn (wrap64 (200 + u)) (200 + u) := ⟨K.w64 (by omega) (by omega)⟩
    refine ⟨strOfNums (List.replicate (200 + u).toNat 0), a3, sd3, ?_, by rw [strOfNums_size]; simp only [List.length_replicate]; omega, by omega, by omega⟩
    simp only [spec_l1Cur_moved.f]
    refine Ev.bind e1 ?_
    simp only [e2, Option.bind_some, if_neg hv, if_pos hv1, e3, w.out, if_pos (show 0 ≤ 200 + u by omega), if_pos (show (200 + u).toNat ≤ 281474976710656 by omega)]
    exact Ev.now _
  · refine ⟨s, a2, sd2, ?_, by omega, by omega, by omega⟩
    simp only [spec_l1Cur_moved.f]
    refine Ev.bind e1 ?_
    simp only [e2, Option.bind_some, if_neg hv, if_neg hv1]
    exact Ev.now _

theorem drawMoveFront_ok (c : List Int) (hc : K.Code c) : ∃ s : ByteArray, Ev (fun k => spec_DrawMoveFront.f k c) s ∧ s.size ≤ 400 := by
  obtain ⟨s, a, sd, e, s1, _, _⟩ := moved_ok c hc 0 (by omega) (by omega) 0
  refine ⟨s, ?_, s1⟩
  simp only [spec_DrawMoveFront.f]
  exact Ev.bind e (Ev.now _)

theorem among_ok (c : List Int) (hc : K.Code c) (a : Int) (h0 : 0 ≤ a) (h1 : a ≤ 1000000000000000000) (sd : Int) (l : List Int) (hl : 0 < l.length) (hl2 : l.length ≤ 1000000) : ∃ (x a' sd' : Int), spec_l1Cur_among.f c a sd l = some (x, a', sd') ∧ x ∈ l ∧ a ≤ a' ∧ a' ≤ a + 2 := by
  obtain ⟨v, a', sd', e, v0, v1, g1, g2⟩ := pick_ok c hc a h0 h1 sd (l.length : Int) (by omega)
  have hv : v.toNat < l.length := by omega
  refine ⟨rd l v, a', sd', by simp only [spec_l1Cur_among.f, e, Option.bind_some, if_pos v0, if_pos (show v < (l.length : Int) by omega)], ?_, g1, g2⟩
  simp only [rd, List.getD_eq_getElem?_getD, List.getElem?_eq_getElem hv, Option.getD_some]
  exact List.getElem_mem hv

theorem byte_ok (c : List Int) (hc : K.Code c) (a : Int) (h0 : 0 ≤ a) (h1 : a ≤ 900000000000000000) (sd : Int) : ∃ (x a' sd' : Int), spec_l1Cur_byte.f c a sd = some (x, a', sd') ∧ 0 ≤ x ∧ x ≤ 255 ∧ a ≤ a' ∧ a' ≤ a + 4 := by
  obtain ⟨b, a1, sd1, e1, g1, g2⟩ := one_ok c hc a h0 (by omega) sd 5 (by omega)
  cases b with
  | true =>
    obtain ⟨x, a2, sd2, e2, _, g3, g4⟩ := among_ok c hc a1 (by omega) (by omega) sd1 ([0, 1, 2, 3, 255, 27] : List Int) (by simp) (by simp)
    exact ⟨x % 256, a2, sd2, by simp only [spec_l1Cur_byte.f, e1, Option.bind_some, if_true, e2], by omega, by omega, by omega, by omega⟩
  | false =>
    obtain ⟨x, a2, sd2, e2, _, _, g3, g4⟩ := pick_ok c hc a1 (by omega) (by omega) sd1 256 (by omega)
    exact ⟨x % 256, a2, sd2, by simp only [spec_l1Cur_byte.f, e1, Option.bind_some, Bool.false_eq_true, if_false, e2], by omega, by omega, by omega, by omega⟩

theorem vector_ok (c : List Int) (hc : K.Code c) (n : Nat) (hn : n ≤ 1000) (a : Int) (h0 : 0 ≤ a) (h1 : a ≤ 800000000000000000) (sd : Int) : ∃ (l : List Int) (a' sd' : Int), Ev (fun k => spec_l1Cur_vector.f k c a sd (n : Int)) (l, a', sd') ∧ l.length = n ∧ (∀ x ∈ l, 0 ≤ x ∧ x ≤ 255) ∧ a ≤ a' ∧ a' ≤ a + 4 * n := by
  have key : ∀ (d : Nat) (acc : List Int) (a sd : Int), d ≤ 1000 → acc.length + d ≤ 1000000 → (∀ x ∈ acc, 0 ≤ x ∧ x ≤ 255) → 0 ≤ a → a + 4 * d ≤ 850000000000000000 → ∃ (l : List Int) (a' sd' : Int), Ev (fun k => spec_l1Cur_vector.l0 k (d : Int) acc c a sd) (l, a', sd') ∧ l.length = acc.length + d ∧ (∀ x ∈ l, 0 ≤ x ∧ x ≤ 255) ∧ a ≤ a' ∧ a' ≤ a + 4 * d := by
    intro d
    induction d with
    | zero =>
      intro acc a sd _ g1 g2 g3 g4
      refine ⟨acc, a, sd, ?_, rfl, g2, by omega, by omega⟩
      apply K.Ev.succ
      simp only [spec_l1Cur_vector.l0, if_neg (show ¬ (((0 : Nat) : Int) > 0) by omega)]
      exact Ev.now _
    | succ d ih =>
      intro acc a sd g0 g1 g2 g3 g4
      obtain ⟨x, a1, sd1, e1, x0, x1, b1, b2⟩ := byte_ok c hc a g3 (by omega) sd
      have w : K.Eqn (wrap64 (((d + 1 : Nat) : Int) - 1)) (d : Int) := ⟨K.w64p d (by omega)⟩
      obtain ⟨l, a', sd', e2, l1, l2, b3, b4⟩ := ih (acc ++ [x]) a1 sd1 (by omega) (by
        -- only as many as there are
        have : acc.length + (d + 1) ≤ 1000000 := g1
        simp only [List.length_append, List.length_cons, List.length_nil]
        omega) (fun y hy => by
        rcases List.mem_append.1 hy with h | h
        · exact g2 y h
        · simp only [List.mem_singleton] at h; subst h; exact ⟨x0, x1⟩) (by omega) (by omega)
      refine ⟨l, a', sd', ?_, by rw [l1]; simp; omega, l2, by omega, by omega⟩
      apply K.Ev.succ
      simp only [spec_l1Cur_vector.l0, if_pos (show ((d + 1 : Nat) : Int) > 0 by omega), e1, Option.bind_some, if_pos (show acc.length < 140737488355328 by omega), w.out]
      exact e2
  obtain ⟨l, a', sd', e, l1, l2, b1, b2⟩ := key n [] a sd hn (by simp; omega) (by simp) h0 (by omega)
  exact ⟨l, a', sd', by simp only [spec_l1Cur_vector.f]; exact e, by simpa using l1, l2, b1, b2⟩

theorem drawMoveBack_ok (c : List Int) (hc : K.Code c) : ∃ l : List Int, Ev (fun k => spec_DrawMoveBack.f k c) l ∧ l.length ≤ 400 ∧ ∀ x ∈ l, 0 ≤ x ∧ x ≤ 255 := by
  obtain ⟨v, a1, sd1, e1, v0, v1, b1, b2⟩ := pick_ok c hc 0 (by omega) (by omega) 0 12 (by omega)
  obtain ⟨b, a2, sd2, e2, b3, b4⟩ := one_ok c hc a1 (by omega) (by omega) sd1 20 (by omega)
  cases b with
  | true =>
    obtain ⟨u, a3, sd3, e3, u0, u1, b5, b6⟩ := pick_ok c hc a2 (by omega) (by omega) sd2 2 (by omega)
    have w : K.Eqn (wrap64 (200 + u)) ((200 + u.toNat : Nat) : Int) := ⟨by rw [K.w64 (by omega) (by omega)]; omega⟩
    obtain ⟨l, a4, sd4, e4, l1, l2, _, _⟩ := vector_ok c hc (200 + u.toNat) (by omega) a3 (by omega) (by omega) sd3
    refine ⟨l, ?_, by omega, l2⟩
    simp only [spec_DrawMoveBack.f, e1, Option.bind_some, e2, if_true, e3, w.out]
    exact Ev.bind e4 (Ev.now _)
  | false =>
    obtain ⟨m, rfl⟩ := Int.eq_ofNat_of_zero_le v0
    obtain ⟨l, a4, sd4, e4, l1, l2, _, _⟩ := vector_ok c hc m (by omega) a2 (by omega) (by omega) sd2
    refine ⟨l, ?_, by omega, l2⟩
    simp only [spec_DrawMoveBack.f, e1, Option.bind_some, e2, Bool.false_eq_true, if_false]
    exact Ev.bind e4 (Ev.now _)

theorem sameBytes_self (l : List Int) : laws_sameBytes.f l l = some true := by simp [laws_sameBytes.f]
theorem moved_j5 (m t : List Int) (hm : m.length ≤ 400) (hx : ∀ x ∈ m, 0 ≤ x ∧ x ≤ 255) : ∃ r : ByteArray × Bool, Ev (fun k => impl_MoveBack.f k m) r ∧ Ev (fun k => spec_MoveBack.f k m) r ∧ Ev (fun k => laws_FnMoved.j5 k m r.1 r.2 false) true := by
  by_cases h : m.length ≤ 200
  · refine ⟨_, implMoveBack_ev m h hx, specMoveBack_ev m h hx, ?_⟩
    have ur := K.unrank_rng m hx K.bytesRow K.bytesRow_row
    have sz : (strOfNums (K.unrank K.bytesRow m)).size ≤ 200 := by rw [strOfNums_size, K.unrank_length]; exact h
    apply K.Ev.succ
    simp only [laws_FnMoved.j5, Bool.false_eq_true, if_false, if_true]
    refine Ev.bind (implMoveFront_ev _ sz) ?_
    simp only [if_true, K.bytesOf_strOf _ ur, K.ranks_unrank m hx K.bytesRow K.bytesRow_row, sameBytes_self, Option.bind_some]
    exact Ev.now _
  · refine ⟨_, implMoveBack_no m h, specMoveBack_no m h, ?_⟩
    apply K.Ev.succ
    simp only [laws_FnMoved.j5, Bool.false_eq_true, if_false]
    exact Ev.bind (implMoveFront_ev _ (by decide)) (Ev.now _)
theorem moved_j4 (c : List Int) (hc : K.Code c) : Ev (fun k => laws_FnMoved.j4 k c) true := by
  obtain ⟨m, e1, m1, m2⟩ := drawMoveBack_ok c hc
  obtain ⟨r, e2, e3, e4⟩ := moved_j5 m [] m1 m2
  apply K.Ev.succ
  simp only [laws_FnMoved.j4]
  refine Ev.bind e1 ?_
  refine Ev.bind e2 ?_
  refine Ev.bind e3 ?_
  simp only [bne_self_eq_false, Bool.false_eq_true, if_false]
  exact e4
theorem moved_loop (c : List Int) (hc : K.Code c) (s : ByteArray) (hs : s.size ≤ 200) : Ev (fun k => laws_FnMoved.l0 k c s (K.ranks K.bytesRow (bytesOf s)) 0 ((K.ranks K.bytesRow (bytesOf s)).length : Int) 0) true := by
  have hr := bytesOf_rng s
  have hlen : (K.ranks K.bytesRow (bytesOf s)).length = s.size := by rw [K.ranks_length, bytesOf_length]
  have hrr := K.ranks_rng (bytesOf s) hr K.bytesRow K.bytesRow_row
  have hzz := K.ranks_zero (bytesOf s) K.bytesRow K.bytesRow_row hr
  generalize K.ranks K.bytesRow (bytesOf s) = L at hlen hrr hzz
  have key : ∀ (d n : Nat) (z : Int), n + d = L.length → z = ((L.take n).countP (fun x => decide (x < 1)) : Int) → Ev (fun k => laws_FnMoved.l0 k c s L z (L.length : Int) (n : Int)) true := by
    intro d
    induction d with
    | zero =>
      intro n z h1 h2
      apply K.Ev.succ
      simp only [laws_FnMoved.l0, if_neg (show ¬ ((n : Int) < (L.length : Int)) by omega)]
      refine Ev.bind (implSmall_ev L 1 (by omega) hrr (by omega)) ?_
      refine Ev.bind (implSmall_ev L 256 (by omega) hrr (by omega)) ?_
      have hz : ((L.countP (fun x => decide (x < 1)) : Nat) : Int) = z := by rw [h2, List.take_of_length_le (by omega)]
      have ha : ((L.countP (fun x => decide (x < 256)) : Nat) : Int) = (L.length : Int) := by
        rw [List.countP_eq_length.2 (fun x hx => by have := hrr x hx; simp; omega)]
      simp only [if_true, hz, ha]
      exact moved_j4 c hc
    | succ d ih =>
      intro n z h1 h2
      have hn : n < L.length := by omega
      have hcnt : (L.take n).countP (fun x => decide (x < 1)) ≤ n := Nat.le_trans List.countP_le_length (by rw [List.length_take]; omega)
      have wz : K.Eqn (wrap64 (z + 1)) (z + 1) := ⟨K.w64 (by omega) (by omega)⟩
      have hrn := hrr (L[n]) (List.getElem_mem hn)
      have j3 : Ev (fun k => laws_FnMoved.j3 k c s L z (n : Int) (L.length : Int) (n : Int) false) true := by
        apply K.Ev.succ
        by_cases h0 : L[n] = 0
        · simp only [laws_FnMoved.j3, Bool.false_eq_true, if_false, if_pos (show (0 : Int) ≤ (n : Int) by omega), if_pos (show (n : Int) < (L.length : Int) by omega), K.rd_nat hn, if_pos h0, wz.out, K.w64s n (show n < 9223372036854775807 by omega)]
          refine ih (n + 1) _ (by omega) ?_
          rw [K.take_succ' L n hn, List.countP_append, h2]
          simp [h0]
        · simp only [laws_FnMoved.j3, Bool.false_eq_true, if_false, if_pos (show (0 : Int) ≤ (n : Int) by omega), if_pos (show (n : Int) < (L.length : Int) by omega), K.rd_nat hn, if_neg h0, K.w64s n (show n < 9223372036854775807 by omega)]
          refine ih (n + 1) _ (by omega) ?_
          rw [K.take_succ' L n hn, List.countP_append, h2]
          simp [show ¬ L[n] < 1 by omega]
      apply K.Ev.succ
      by_cases hz : n = 0
      · simp only [laws_FnMoved.l0, if_pos (show (n : Int) < (L.length : Int) by omega), if_neg (show ¬ ((n : Int) > 0) by omega)]
        exact j3
      · have w : K.Eqn (wrap64 ((n : Int) - 1)) ((n - 1 : Nat) : Int) := ⟨by rw [K.w64 (by omega) (by omega)]; omega⟩
        have hq := hzz (n - 1) (by rw [bytesOf_length]; omega)
        rw [show n - 1 + 1 = n by omega] at hq
        have e1 : rd L (n : Int) = L.getD n 0 := by simp [rd]
        have e2 : ((rd L (n : Int) == 0) != (bt s (n : Int) == bt s ((n - 1 : Nat) : Int))) = false := by
          rw [e1, K.bt_bytes, K.bt_bytes]
          by_cases hE : L.getD n 0 = 0
          · rw [beq_iff_eq.mpr hE, beq_iff_eq.mpr (hq.1 hE)]; rfl
          · rw [beq_eq_false_iff_ne.mpr hE, beq_eq_false_iff_ne.mpr (fun h => hE (hq.2 h))]; rfl
        simp only [laws_FnMoved.l0, if_pos (show (n : Int) < (L.length : Int) by omega), if_pos (show (n : Int) > 0 by omega), if_pos (show (0 : Int) ≤ (n : Int) by omega), if_pos (show (n : Int) < (s.size : Int) by omega), w.out, if_pos (show (0 : Int) ≤ ((n - 1 : Nat) : Int) by omega), if_pos (show ((n - 1 : Nat) : Int) < (s.size : Int) by omega), e2]
        exact j3
  exact key L.length 0 0 (by omega) (by simp)
theorem FnMoved : laws_FnMoved.Pure := by
  intro c1 c2 _ hl1 hw1 _ hl2 hw2
  have hc1 : K.Code c1 := ⟨by omega, fun x h => K.b_u8 (hw1 x h)⟩
  have hc2 : K.Code c2 := ⟨by omega, fun x h => K.b_u8 (hw2 x h)⟩
  refine Ev.rounds (?_ : Ev (fun k => laws_FnMoved.f k c1 c2) true)
  unfold laws_FnMoved.f
  by_cases h : (wrap64 ((c1.length : Int) + (c2.length : Int))) > 1048576
  · simp only [if_pos h]; exact Ev.now _
  simp only [if_neg h]
  obtain ⟨s, e1, s1⟩ := drawMoveFront_ok c1 hc1
  refine Ev.bind e1 ?_
  by_cases h2 : s.size ≤ 200
  · refine Ev.bind (implMoveFront_ev s h2) ?_
    refine Ev.bind (specMoveFront_ev s h2) ?_
    simp only [bne_self_eq_false, Bool.false_eq_true, if_false, sameBytes_self, Option.bind_some, Bool.not_true]
    have hr := bytesOf_rng s
    have hlen : (K.ranks K.bytesRow (bytesOf s)).length = s.size := by rw [K.ranks_length, bytesOf_length]
    apply K.Ev.succ
    simp only [laws_FnMoved.j0, Bool.false_eq_true, if_false, if_true]
    refine Ev.bind (implMoveBack_ev _ (by omega) (K.ranks_rng (bytesOf s) hr K.bytesRow K.bytesRow_row)) ?_
    simp only [if_true, K.unrank_ranks (bytesOf s) hr K.bytesRow K.bytesRow_row, K.strOf_bytesOf]
    have hb : (((K.ranks K.bytesRow (bytesOf s)).length : Int) != (s.size : Int)) = false := by rw [hlen]; simp
    simp only [hb]
    apply K.Ev.succ
    simp only [laws_FnMoved.j1, Bool.false_eq_true, if_false]
    exact moved_loop c2 hc2 s h2
  · refine Ev.bind (implMoveFront_no s h2) ?_
    refine Ev.bind (specMoveFront_no s h2) ?_
    simp only [bne_self_eq_false, Bool.false_eq_true, if_false, sameBytes_self, Option.bind_some, Bool.not_true]
    apply K.Ev.succ
    simp only [laws_FnMoved.j0, Bool.false_eq_true, if_false]
    exact moved_j4 c2 hc2

end Go.Proofs.Ytkpdpblgnhoplaa.Pure
