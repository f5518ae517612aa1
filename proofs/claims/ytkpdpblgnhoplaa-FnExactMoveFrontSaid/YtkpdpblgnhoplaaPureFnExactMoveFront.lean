/- The law FnExactMoveFront answers true for every text: the program's recency ranks are the reference's, and no later call changes what was handed back. -/
import Derived.Test.YtkpdpblgnhoplaaPFnExactMoveFrontx2
import Derived.Test.YtkpdpblgnhoplaaKKit
import Derived.Test.YtkpdpblgnhoplaaKMove
set_option linter.unusedVariables false
set_option linter.unusedSimpArgs false
namespace Go.Proofs.Ytkpdpblgnhoplaa.Pure
open Go Go.RowKit Go.Proofs.Ytkpdpblgnhoplaa Go.Proofs.Ytkpdpblgnhoplaa.PFnExactMoveFront Go.Proofs.YtkpdpblgnhoplaaW.PrintWords Go.Proofs.YtkpdpblgnhoplaaW.PrintLast Go.Proofs.YtkpdpblgnhoplaaW.PrintMore


theorem laws_eqByteS_self (l : List Int) (hl : l.length ≤ 140737488355328) : Ev (fun k => laws_eqByteS.f k l l) true := by
  have key : ∀ (d n : Nat), n + d = l.length → Ev (fun k => laws_eqByteS.l0 k l l (n : Int)) true := by
    intro d
    induction d with
    | zero =>
      intro n h1
      apply K.Ev.succ
      simp only [laws_eqByteS.l0, if_neg (show ¬ ((n : Int) < (l.length : Int)) by omega)]
      exact Ev.now _
    | succ d ih =>
      intro n h1
      apply K.Ev.succ
      simp only [laws_eqByteS.l0, if_pos (show (n : Int) < (l.length : Int) by omega), if_pos (show (0 : Int) ≤ (n : Int) by omega), if_true]
      rw [K.w64s n (by omega)]
      exact ih (n + 1) (by omega)
  unfold laws_eqByteS.f
  simp only [if_true]
  exact key l.length 0 (by omega)

theorem l12Row_ev : Ev (fun k => spec_l12Row.f k) K.bytesRow := by
  have key : ∀ (d n : Nat), n + d = 256 → Ev (fun k => spec_l12Row.l0 k ((List.range n).map (fun n : Nat => (n : Int))) (n : Int)) K.bytesRow := by
    intro d
    induction d with
    | zero =>
      intro n h
      obtain rfl : n = 256 := by omega
      apply K.Ev.succ
      simp only [spec_l12Row.l0, if_neg (show ¬ (((256 : Nat) : Int) < 256) by omega)]
      exact Ev.now _
    | succ d ih =>
      intro n h
      apply K.Ev.succ
      simp only [spec_l12Row.l0, if_pos (show (n : Int) < 256 by omega), if_pos (show ((List.range n).map (fun n : Nat => (n : Int))).length < 140737488355328 by simp; omega), K.w64s n (show n < 9223372036854775807 by omega), show (n : Int) % 256 = (n : Int) by omega]
      have := ih (n + 1) (by omega)
      simpa only [List.range_succ, List.map_append, List.map_cons, List.map_nil] using this
  simp only [spec_l12Row.f]; exact key 256 0 rfl

theorem l12Front_eq (row : List Int) (k : Nat) (hk : k < row.length) (hl : row.length = 256) : spec_l12Front.f row (k : Int) = some (K.front row k) := by
  have w : K.Eqn (wrap64 ((k : Int) + 1)) ((k + 1 : Nat) : Int) := ⟨K.w64s k (by omega)⟩
  have e1 : ([rd row (k : Int)] : List Int).length + (row.take (k : Int).toNat).length < 140737488355328 := by simp only [List.length_cons, List.length_nil, List.length_take]; omega
  have e2 : (([rd row (k : Int)] : List Int) ++ row.take (k : Int).toNat).length + (row.drop (((k + 1 : Nat) : Int)).toNat).length < 140737488355328 := by simp only [List.length_append, List.length_cons, List.length_nil, List.length_take, List.length_drop]; omega
  simp only [spec_l12Front.f, if_pos (show 0 ≤ (k : Int) by omega), if_pos (show (k : Int) < (row.length : Int) by omega), Option.bind_some, if_pos (show (k : Int) ≤ (row.length : Int) by omega), if_pos e1, w.out, if_pos (show 0 ≤ ((k + 1 : Nat) : Int) by omega), if_pos (show ((k + 1 : Nat) : Int) ≤ (row.length : Int) by omega), if_pos e2]
  simp [K.front, rd]

theorem bytesOf_rng (s : ByteArray) : ∀ x ∈ bytesOf s, 0 ≤ x ∧ x ≤ 255 := by
  intro x hx
  obtain ⟨b, _, rfl⟩ := List.mem_map.1 hx
  have := b.toNat_lt
  omega
theorem bt_drop (s : ByteArray) (n : Nat) (hn : n < s.size) : (bytesOf s).drop n = bt s (n : Int) :: (bytesOf s).drop (n + 1) := by
  have h : n < (bytesOf s).length := by rw [bytesOf_length]; exact hn
  rw [List.drop_eq_getElem_cons h, K.bt_bytes, List.getD_eq_getElem?_getD, List.getElem?_eq_getElem h]
  rfl
theorem l12Move_l0 (s : ByteArray) (hs : s.size ≤ 1048576) : ∀ (d n : Nat) (row acc : List Int), n + d = s.size → K.Row row → acc.length = n → Ev (fun k => spec_l12Move.l0 k s row acc (n : Int)) (acc ++ K.ranks row ((bytesOf s).drop n)) := by
  intro d
  induction d with
  | zero =>
    intro n row acc h1 h2 h3
    apply K.Ev.succ
    simp only [spec_l12Move.l0, if_neg (show ¬ ((n : Int) < (s.size : Int)) by omega)]
    rw [List.drop_of_length_le (by rw [bytesOf_length]; omega)]
    simp only [K.ranks, List.append_nil]
    exact Ev.now _
  | succ d ih =>
    intro n row acc h1 h2 h3
    have hn : n < s.size := by omega
    have hb := bt_range s (n : Int)
    have hm := h2.mem (bt s (n : Int)) hb.1 hb.2
    have hi := List.idxOf_lt_length_of_mem hm
    have hl := h2.len
    have hnext := ih (n + 1) (K.front row (row.idxOf (bt s (n : Int)))) (acc ++ [(row.idxOf (bt s (n : Int)) : Int)]) (by omega) (h2.front (by omega)) (by simp; omega)
    have scan : ∀ (e j : Nat), j + e = row.idxOf (bt s (n : Int)) → Ev (fun k => spec_l12Move.l1 k s row acc (n : Int) (j : Int)) (acc ++ K.ranks row ((bytesOf s).drop n)) := by
      intro e
      induction e with
      | zero =>
        intro j hj
        obtain rfl : j = row.idxOf (bt s (n : Int)) := by omega
        apply K.Ev.succ
        simp only [spec_l12Move.l1, if_pos (show (0 : Int) ≤ ((row.idxOf (bt s (n : Int)) : Nat) : Int) by omega), if_pos (show ((row.idxOf (bt s (n : Int)) : Nat) : Int) < (row.length : Int) by omega), if_pos (show (0 : Int) ≤ (n : Int) by omega), if_pos (show (n : Int) < (s.size : Int) by omega), K.rd_nat hi, List.getElem_idxOf hi, if_true, if_pos (show acc.length < 140737488355328 by omega), l12Front_eq row _ hi hl, Option.bind_some, K.w64s n (show n < 9223372036854775807 by omega), show ((row.idxOf (bt s (n : Int)) : Nat) : Int) % 256 = ((row.idxOf (bt s (n : Int)) : Nat) : Int) by omega]
        refine K.Ev.to hnext ?_
        rw [bt_drop s n hn]
        simp [K.ranks]
      | succ e ihe =>
        intro j hj
        have hjl : j < row.length := by omega
        have hne : ¬ row[j] = bt s (n : Int) := fun e => by
          have := List.not_of_lt_findIdx (p := (· == (bt s (n : Int)))) (xs := row) (i := j) (by show j < row.idxOf (bt s (n : Int)); omega)
          simp [e] at this
        apply K.Ev.succ
        simp only [spec_l12Move.l1, if_pos (show (0 : Int) ≤ (j : Int) by omega), if_pos (show (j : Int) < (row.length : Int) by omega), if_pos (show (0 : Int) ≤ (n : Int) by omega), if_pos (show (n : Int) < (s.size : Int) by omega), K.rd_nat hjl, if_neg hne, K.w64s j (show j < 9223372036854775807 by omega)]
        exact ihe (j + 1) (by omega)
    apply K.Ev.succ
    simp only [spec_l12Move.l0, if_pos (show (n : Int) < (s.size : Int) by omega)]
    exact scan (row.idxOf (bt s (n : Int))) 0 (by omega)
theorem specMoveFront_ev (s : ByteArray) (hs : s.size ≤ 200) : Ev (fun k => spec_MoveFront.f k s) (K.ranks K.bytesRow (bytesOf s), true) := by
  simp only [spec_MoveFront.f, if_neg (show ¬ ((s.size : Int) > 200) by omega), spec_l12Move.f]
  refine Ev.bind (Ev.bind l12Row_ev ?_) (Ev.now _)
  have := l12Move_l0 s (by omega) s.size 0 K.bytesRow [] (by omega) K.bytesRow_row rfl
  simpa using this
theorem specMoveFront_no (s : ByteArray) (hs : ¬ s.size ≤ 200) : Ev (fun k => spec_MoveFront.f k s) ([], false) := by
  simp only [spec_MoveFront.f, if_pos (show (s.size : Int) > 200 by omega)]
  exact Ev.now _

theorem allBytes_ev : Ev (fun k => impl_allBytes.f k) K.bytesRow := by
  have key : ∀ (d n : Nat), n + d = 256 → Ev (fun k => impl_allBytes.l0 k ((List.range n).map (fun n : Nat => (n : Int))) (n : Int)) K.bytesRow := by
    intro d
    induction d with
    | zero =>
      intro n h
      obtain rfl : n = 256 := by omega
      apply K.Ev.succ
      simp only [impl_allBytes.l0, if_neg (show ¬ (((256 : Nat) : Int) < 256) by omega)]
      exact Ev.now _
    | succ d ih =>
      intro n h
      apply K.Ev.succ
      simp only [impl_allBytes.l0, if_pos (show (n : Int) < 256 by omega), if_pos (show ((List.range n).map (fun n : Nat => (n : Int))).length < 140737488355328 by simp; omega), K.w64s n (show n < 9223372036854775807 by omega), show (n : Int) % 256 = (n : Int) by omega]
      have := ih (n + 1) (by omega)
      simpa only [List.range_succ, List.map_append, List.map_cons, List.map_nil] using this
  simp only [impl_allBytes.f]; exact key 256 0 rfl

theorem toFront_eq (row : List Int) (k : Nat) (hk : k < row.length) : impl_toFront.f row (k : Int) = some (row.getD k 0, K.front row k) := by
  simp only [impl_toFront.f, if_pos (show 0 ≤ (k : Int) by omega), if_pos (show (k : Int) < (row.length : Int) by omega)]
  simp [K.front, rd]

theorem index_byte_ev (l : List Int) (x : Int) (hm : x ∈ l) (hl : l.length ≤ 140737488355328) : Ev (fun k => slices_Index_byte_byte.f k l x) (l.idxOf x : Int) := by
  have hi := List.idxOf_lt_length_of_mem hm
  have key : ∀ (d n : Nat), n + d = l.idxOf x → Ev (fun k => slices_Index_byte_byte.l0 k l x (l.length : Int) (n : Int)) (l.idxOf x : Int) := by
    intro d
    induction d with
    | zero =>
      intro n h1
      obtain rfl : n = l.idxOf x := by omega
      apply K.Ev.succ
      simp only [slices_Index_byte_byte.l0, if_pos (show ((l.idxOf x : Nat) : Int) < (l.length : Int) by omega), if_pos (show (0 : Int) ≤ ((l.idxOf x : Nat) : Int) by omega), K.rd_nat hi, List.getElem_idxOf hi, if_true]
      exact Ev.now _
    | succ d ih =>
      intro n h1
      have hn : n < l.length := by omega
      have hne : ¬ x = l[n] := fun e => by
        have := List.not_of_lt_findIdx (p := (· == x)) (xs := l) (i := n) (by show n < l.idxOf (x); omega)
        simp [e] at this
      apply K.Ev.succ
      simp only [slices_Index_byte_byte.l0, if_pos (show (n : Int) < (l.length : Int) by omega), if_pos (show (0 : Int) ≤ (n : Int) by omega), K.rd_nat hn, if_neg hne, K.w64s n (show n < 9223372036854775807 by omega)]
      exact ih (n + 1) (by omega)
  simp only [slices_Index_byte_byte.f]; exact key (l.idxOf x) 0 (by omega)

theorem implFront_l0 (s : ByteArray) (hs : s.size ≤ 1048576) : ∀ (d n : Nat) (row acc : List Int), n + d = s.size → K.Row row → acc.length = n → Ev (fun k => impl_MoveFront.l0 k s row acc (s.size : Int) (n : Int)) (acc ++ K.ranks row ((bytesOf s).drop n), true) := by
  intro d
  induction d with
  | zero =>
    intro n row acc h1 h2 h3
    apply K.Ev.succ
    simp only [impl_MoveFront.l0, if_neg (show ¬ ((n : Int) < (s.size : Int)) by omega)]
    rw [List.drop_of_length_le (by rw [bytesOf_length]; omega)]
    simp only [K.ranks, List.append_nil]
    exact Ev.now _
  | succ d ih =>
    intro n row acc h1 h2 h3
    have hn : n < s.size := by omega
    have hb := bt_range s (n : Int)
    have hm := h2.mem (bt s (n : Int)) hb.1 hb.2
    have hi := List.idxOf_lt_length_of_mem hm
    have hl := h2.len
    have hnext := ih (n + 1) (K.front row (row.idxOf (bt s (n : Int)))) (acc ++ [(row.idxOf (bt s (n : Int)) : Int)]) (by omega) (h2.front (by omega)) (by simp; omega)
    apply K.Ev.succ
    simp only [impl_MoveFront.l0, if_pos (show (n : Int) < (s.size : Int) by omega), if_pos (show (0 : Int) ≤ (n : Int) by omega)]
    refine Ev.bind (index_byte_ev row (bt s (n : Int)) hm (by omega)) ?_
    simp only [toFront_eq row _ hi, Option.bind_some, if_pos (show acc.length < 140737488355328 by omega), K.w64s n (show n < 9223372036854775807 by omega), show ((row.idxOf (bt s (n : Int)) : Nat) : Int) % 256 = ((row.idxOf (bt s (n : Int)) : Nat) : Int) by omega]
    refine K.Ev.to hnext ?_
    rw [bt_drop s n hn]
    simp [K.ranks]
theorem implMoveFront_ev (s : ByteArray) (hs : s.size ≤ 200) : Ev (fun k => impl_MoveFront.f k s) (K.ranks K.bytesRow (bytesOf s), true) := by
  simp only [impl_MoveFront.f, if_neg (show ¬ ((s.size : Int) > 200) by omega)]
  refine Ev.bind allBytes_ev ?_
  have := implFront_l0 s (by omega) s.size 0 K.bytesRow [] (by omega) K.bytesRow_row rfl
  simpa using this
theorem implMoveFront_no (s : ByteArray) (hs : ¬ s.size ≤ 200) : Ev (fun k => impl_MoveFront.f k s) ([], false) := by
  simp only [impl_MoveFront.f, if_pos (show (s.size : Int) > 200 by omega)]
  exact Ev.now _


theorem laws_markByteS_held (l : List Int) (hl : l.length ≤ 140737488355328) : ∃ (m : Int) (g : List Int), Ev (fun k => laws_markByteS.f k l 1) (m, g) ∧ Ev (fun k => laws_heldByteS.f k g 1) m ∧ 0 ≤ m := by
  have key : ∀ (d n : Nat) (x : List Int) (c : Int), n + d = x.length → 0 ≤ c → c + d * 1 ≤ 9000000000000000000 → x.length ≤ 140737488355328 → ∃ (m : Int) (g : List Int), Ev (fun k => laws_markByteS.l0 k x c (n : Int)) (m, g) ∧ g.length = x.length ∧ (∀ j, j < n → g[j]? = x[j]?) ∧ Ev (fun k => laws_heldByteS.l0 k g c (n : Int)) m ∧ 0 ≤ m := by
    intro d
    induction d with
    | zero =>
      intro n x c h1 h2 h3 h4
      refine ⟨c, x, ?_, rfl, fun _ _ => rfl, ?_, h2⟩
      · apply K.Ev.succ
        simp only [laws_markByteS.l0, if_neg (show ¬ ((n : Int) < (x.length : Int)) by omega)]
        exact Ev.now _
      · apply K.Ev.succ
        simp only [laws_heldByteS.l0, if_neg (show ¬ ((n : Int) < (x.length : Int)) by omega)]
        exact Ev.now _
    | succ d ih =>
      intro n x c h1 h2 h3 h4
      have hn : n < x.length := by omega
      obtain ⟨m, g, e1, e2, e3, e4, e5⟩ := ih (n + 1) (x.set n (c % 256)) (c + 1) (by simp; omega) (by omega) (by omega) (by simpa using h4)
      have hg : g[n]? = some (c % 256) := by rw [e3 n (by omega)]; simp [hn]
      have hgl : g.length = x.length := by simpa using e2
      refine ⟨m, g, ?_, hgl, ?_, ?_, e5⟩
      · apply K.Ev.succ
        simp only [laws_markByteS.l0, if_pos (show (n : Int) < (x.length : Int) by omega), if_pos (show (0 : Int) ≤ (n : Int) by omega), Int.toNat_natCast]
        
        rw [K.w64s n (by omega), K.w64 (x := c + 1) (by omega) (by omega)]
        exact e1
      · intro j hj
        rw [e3 j (by omega)]
        rw [List.getElem?_set_ne (by omega)]
      · apply K.Ev.succ
        simp only [laws_heldByteS.l0, if_pos (show (n : Int) < (g.length : Int) by omega), if_pos (show (0 : Int) ≤ (n : Int) by omega)]
        simp only [show rd g (n : Int) = c % 256 by simp [rd, hg], if_true]
        rw [K.w64s n (by omega), K.w64 (x := c + 1) (by omega) (by omega)]
        exact e4
  obtain ⟨m, g, e1, _, _, e4, e5⟩ := key l.length 0 l 1 (by omega) (by omega) (by omega) hl
  exact ⟨m, g, by simp only [laws_markByteS.f]; exact e1, by simp only [laws_heldByteS.f]; exact e4, e5⟩

theorem FnExactMoveFront : laws_FnExactMoveFront.Pure := by
  intro s hs
  refine Ev.rounds (?_ : Ev (fun k => laws_FnExactMoveFront.f k s) true)
  unfold laws_FnExactMoveFront.f
  by_cases h : (s.size : Int) > 1048576
  · simp only [if_pos h]; exact Ev.now _
  simp only [if_neg h]
  have both : ∃ r : List Int × Bool, r.1.length ≤ 200 ∧ Ev (fun k => spec_MoveFront.f k s) r ∧ Ev (fun k => impl_MoveFront.f k s) r := by
    by_cases h2 : s.size ≤ 200
    · exact ⟨_, by simp only [K.ranks_length, bytesOf_length]; exact h2, specMoveFront_ev s h2, implMoveFront_ev s h2⟩
    · exact ⟨_, by simp, specMoveFront_no s h2, implMoveFront_no s h2⟩
  obtain ⟨r, e0, e1, e2⟩ := both
  obtain ⟨m, g, m1, m2, m3⟩ := laws_markByteS_held r.1 (by omega)
  refine Ev.bind e1 ?_
  refine Ev.bind e2 ?_
  refine Ev.bind (laws_eqByteS_self r.1 (by omega)) ?_
  simp only [if_true, bne_self_eq_false]
  apply K.Ev.succ
  simp only [laws_FnExactMoveFront.j0, Bool.false_eq_true, if_false]
  refine Ev.bind m1 ?_
  refine Ev.bind m2 ?_
  simp only [if_neg (show ¬ m < 0 by omega), if_true]
  refine Ev.bind e2 ?_
  refine Ev.bind (laws_eqByteS_self r.1 (by omega)) ?_
  simp only [if_true, bne_self_eq_false]
  apply K.Ev.succ
  simp only [laws_FnExactMoveFront.j1, Bool.false_eq_true, if_false]
  refine Ev.bind m2 ?_
  simp only [if_neg (show ¬ m < 0 by omega), if_true]
  exact Ev.now _

end Go.Proofs.Ytkpdpblgnhoplaa.Pure
