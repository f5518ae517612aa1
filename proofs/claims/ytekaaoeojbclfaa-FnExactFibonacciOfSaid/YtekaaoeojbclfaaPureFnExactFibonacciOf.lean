/- The law FnExactFibonacciOf answers true for every number: the program's Fibonacci code is the reference's. -/
import Derived.Test.YtekaaoeojbclfaaPFnExactFibonacciOfx3
import Derived.Test.YtekaaoeojbclfaaKKit
import Derived.Test.YtekaaoeojbclfaaKFib
set_option linter.unusedVariables false
set_option linter.unusedSimpArgs false
namespace Go.Proofs.Ytekaaoeojbclfaa.Pure
open Go Go.RowKit Go.Proofs.Ytekaaoeojbclfaa Go.Proofs.Ytekaaoeojbclfaa.PFnExactFibonacciOf Go.Proofs.YtekaaoeojbclfaaW.PrintWords Go.Proofs.YtekaaoeojbclfaaW.PrintLast Go.Proofs.YtekaaoeojbclfaaW.PrintMore

theorem l13Row_ev (n : Int) (hn : n < 3524578) : ∃ m : Nat, m ≤ 31 ∧ (∀ i, i < m → K.fibL i ≤ n) ∧ n < K.fibL m ∧ Ev (fun k => spec_l13Row.f k n) (K.fibs m) := by
  have key : ∀ (d i : Nat), i + d = 31 → (∀ j, j < i → K.fibL j ≤ n) → ∃ m : Nat, m ≤ 31 ∧ (∀ i, i < m → K.fibL i ≤ n) ∧ n < K.fibL m ∧ Ev (fun k => spec_l13Row.l0 k n (K.fibs i) (K.fibL i) (K.fibL (i + 1))) (K.fibs m) := by
    intro d
    induction d with
    | zero =>
      intro i h1 h2
      obtain rfl : i = 31 := by omega
      have h31 := K.fibL_31
      refine ⟨31, by omega, h2, by omega, ?_⟩
      apply K.Ev.succ
      simp only [spec_l13Row.l0, if_neg (show ¬ (K.fibL 31 ≤ n) by omega)]
      exact Ev.now _
    | succ d ih =>
      intro i h1 h2
      by_cases h : K.fibL i ≤ n
      · obtain ⟨m, m1, m2, m3, m4⟩ := ih (i + 1) (by omega) (fun j hj => by
          rcases Nat.lt_or_ge j i with q | q
          · exact h2 j q
          · obtain rfl : j = i := by omega
            exact h)
        refine ⟨m, m1, m2, m3, ?_⟩
        have b1 : K.fibL (i + 1) ≤ K.fibL 31 := K.fibL_mono (by omega)
        have h31 := K.fibL_31
        have p1 := K.fibL_pos i
        have w : wrap64 (K.fibL i + K.fibL (i + 1)) = K.fibL (i + 2) := by rw [K.fibL_succ]; exact K.w64 (by omega) (by omega)
        apply K.Ev.succ
        simp only [spec_l13Row.l0, if_pos h, K.fibs_length, if_pos (show i < 17592186044416 by omega), w]
        rw [K.fibs_succ] at m4
        exact m4
      · refine ⟨i, by omega, h2, by omega, ?_⟩
        apply K.Ev.succ
        simp only [spec_l13Row.l0, if_neg h]
        exact Ev.now _
  obtain ⟨m, m1, m2, m3, m4⟩ := key 31 0 (by omega) (fun j hj => by omega)
  refine ⟨m, m1, m2, m3, ?_⟩
  simp only [spec_l13Row.f]
  rw [K.fibL_0, K.fibL_1] at m4
  exact m4

theorem l1Has_ev (l : List Int) (x : Int) (hl : l.length ≤ 140737488355328) : Ev (fun k => spec_l1Has.f k l x) (decide (x ∈ l)) := by
  have key : ∀ (d n : Nat), n + d = l.length → (∀ j, j < n → l[j]? ≠ some x) → Ev (fun k => spec_l1Has.l0 k x l (l.length : Int) (n : Int)) (decide (x ∈ l)) := by
    intro d
    induction d with
    | zero =>
      intro n h1 h2
      apply K.Ev.succ
      simp only [spec_l1Has.l0, if_neg (show ¬ ((n : Int) < (l.length : Int)) by omega)]
      have : ¬ x ∈ l := fun h => by
        obtain ⟨j, hj⟩ := List.getElem?_of_mem h
        exact h2 j (by have := (List.getElem?_eq_some_iff.1 hj).1; omega) hj
      rw [decide_eq_false this]; exact Ev.now _
    | succ d ih =>
      intro n h1 h2
      have hn : n < l.length := by omega
      apply K.Ev.succ
      simp only [spec_l1Has.l0, if_pos (show (n : Int) < (l.length : Int) by omega), if_pos (show (0 : Int) ≤ (n : Int) by omega), K.rd_nat hn, K.w64s n (show n < 9223372036854775807 by omega)]
      by_cases hc : l[n] = x
      · simp only [if_pos hc]
        have : x ∈ l := hc ▸ List.getElem_mem hn
        rw [decide_eq_true this]; exact Ev.now _
      · simp only [if_neg hc]
        refine ih (n + 1) (by omega) (fun j hj => ?_)
        rcases Nat.lt_or_ge j n with q | q
        · exact h2 j q
        · obtain rfl : j = n := by omega
          rw [List.getElem?_eq_getElem hn]; simpa using hc
  simp only [spec_l1Has.f]; exact key l.length 0 (by omega) (fun j hj => by omega)

theorem sequence_ev : Ev (fun k => impl_sequence.f k) (K.fibs 29) := Ev.of impl_sequence.mono (k := 40) (by unfold K.fibs; rw [K.fibL_eq]; decide +kernel)

theorem reverse_int_l0 : ∀ (d : Nat) (a m c : List Int), m.length = d → (a ++ m ++ c).length ≤ 140737488355328 → ∀ i j : Int, i = (a.length : Int) → j = (a.length : Int) + (m.length : Int) - 1 → Ev (fun k => slices_Reverse_int_int.l0 k (a ++ m ++ c) i j) (a ++ m.reverse ++ c) := by
  intro d
  induction d using Nat.strongRecOn with
  | _ d ih =>
  intro a m c hd hl i j hi hj
  apply K.Ev.succ
  rcases Nat.lt_or_ge 1 d with h | h
  · obtain ⟨p, m1, rfl⟩ : ∃ p m1, m = p :: m1 := by cases m with | nil => simp at hd; omega | cons p m1 => exact ⟨p, m1, rfl⟩
    obtain ⟨m2, q, rfl⟩ : ∃ m2 q, m1 = m2 ++ [q] := by
      rcases List.eq_nil_or_concat m1 with rfl | ⟨m2, q, rfl⟩
      · simp at hd; omega
      · exact ⟨m2, q, by simp⟩
    simp only [List.length_append, List.length_cons, List.length_nil] at hd hl hj
    have e1 : rd (a ++ p :: (m2 ++ [q]) ++ c) i = p := by
      subst hi; simp [rd, List.getElem?_append]
    have jt : j.toNat = a.length + m2.length + 1 := by omega
    have e2 : rd (a ++ p :: (m2 ++ [q]) ++ c) j = q := by
      simp only [rd, jt, List.getD_eq_getElem?_getD]
      rw [List.getElem?_append_left (by simp; omega), List.getElem?_append_right (by omega), show a.length + m2.length + 1 - a.length = m2.length + 1 by omega]
      simp
    have s1 : ((a ++ p :: (m2 ++ [q]) ++ c).set i.toNat q).set j.toNat p = (a ++ [q]) ++ m2 ++ (p :: c) := by
      subst hi
      rw [jt, Int.toNat_natCast]
      rw [List.append_assoc, List.set_append_right _ _ (by omega), List.set_append_right _ _ (by omega)]
      rw [show a.length - a.length = 0 by omega, show a.length + m2.length + 1 - a.length = m2.length + 1 by omega]
      simp [List.set_append_right]
    have w1 : wrap64 (i + 1) = i + 1 := K.w64 (by omega) (by omega)
    have w2 : wrap64 (j - 1) = j - 1 := K.w64 (by omega) (by omega)
    simp only [slices_Reverse_int_int.l0, if_pos (show i < j by omega), if_pos (show 0 ≤ j by omega), if_pos (show j < (((a ++ p :: (m2 ++ [q]) ++ c).length : Nat) : Int) by simp; omega), if_pos (show 0 ≤ i by omega), if_pos (show i < (((a ++ p :: (m2 ++ [q]) ++ c).length : Nat) : Int) by simp; omega), e1, e2, s1, w1, w2]
    have := ih (d - 2) (by omega) (a ++ [q]) m2 (p :: c) (by omega) (by simp; omega) (i + 1) (j - 1) (by simp; omega) (by simp; omega)
    refine K.Ev.to this ?_
    simp
  · simp only [slices_Reverse_int_int.l0, if_neg (show ¬ (i < j) by omega)]
    have : m.reverse = m := by
      match m, hd with
      | [], _ => rfl
      | [_], _ => rfl
      | _ :: _ :: _, hd => simp at hd; omega
    rw [this]; exact Ev.now _
theorem reverse_int_ev (l : List Int) (hl : l.length ≤ 140737488355328) : Ev (fun k => slices_Reverse_int_int.f k l) l.reverse := by
  have w : wrap64 ((l.length : Int) - 1) = (l.length : Int) - 1 := K.w64 (by omega) (by omega)
  have := reverse_int_l0 l.length [] l [] rfl (by simpa using hl) 0 ((l.length : Int) - 1) (by simp) (by simp)
  simp only [slices_Reverse_int_int.f, w]
  simpa using this

/-- Both sums are the same list; it isn't empty, and each of its elements is one of the sequence. -/
theorem sums_same (n : Int) (h0 : 1 ≤ n) (h1 : n ≤ 1000000) : ∃ r : List Int, Ev (fun k => spec_l13Sums.f k n) r ∧ Ev (fun k => impl_sumsOf.f k n) r ∧ r ≠ [] ∧ r.length ≤ 29 ∧ ∀ x ∈ r, ∃ i, i < 29 ∧ x = K.fibL i := by
  obtain ⟨m, _, m2, m3, m4⟩ := l13Row_ev n (by omega)
  have h29 := K.fibL_29
  have hm29 : m ≤ 29 := by
    rcases Nat.lt_or_ge 29 m with q | q
    · have := m2 29 q; omega
    · exact q
  have hm0 : 0 < m := by
    rcases Nat.eq_zero_or_pos m with rfl | q
    · have : K.fibL 0 = 1 := K.fibL_0
      omega
    · exact q
  -- the part that both go through
  have key : ∀ (i : Nat) (c : Int) (out : List Int), i ≤ m → 0 ≤ c → c ≤ 1000000 → out.length + i ≤ m → (∀ x ∈ out, ∃ i, i < 29 ∧ x = K.fibL i) → ∃ r : List Int, Ev (fun k => spec_l13Sums.l0 k c (K.fibs m) out ((i : Int) - 1)) r ∧ Ev (fun k => impl_sumsOf.l0 k c (K.fibs 29) out.reverse ((i : Int) - 1)) r ∧ r.length ≤ 29 ∧ (∀ x ∈ r, ∃ i, i < 29 ∧ x = K.fibL i) ∧ (out ≠ [] → r ≠ []) ∧ (0 < i → K.fibL (i - 1) ≤ c → r ≠ []) := by
    intro i
    induction i with
    | zero =>
      intro c out g1 g2 g3 g4 g5
      refine ⟨out, ?_, ?_, by omega, g5, fun h => h, fun h => by omega⟩ <;> apply K.Ev.succ
      · simp only [spec_l13Sums.l0, show ¬ (((0 : Nat) : Int) - 1 ≥ 0) by omega, if_false]
        exact Ev.now _
      · simp only [impl_sumsOf.l0, show ¬ (((0 : Nat) : Int) - 1 ≥ 0) by omega, if_false]
        refine Ev.bind (reverse_int_ev out.reverse (by simp; omega)) ?_
        simp only [List.reverse_reverse]
        exact Ev.now _
    | succ i ih =>
      intro c out g1 g2 g3 g4 g5
      have e : (((i + 1 : Nat) : Int) - 1) = (i : Int) := by omega
      have w : wrap64 ((i : Int) - 1) = (i : Int) - 1 := K.w64 (by omega) (by omega)
      have p := (K.fibL_pos i).1
      have r1 := K.rd_fibs (show i < m by omega)
      have r2 := K.rd_fibs (show i < 29 by omega)
      by_cases hc : K.fibL i ≤ c
      · have wc : wrap64 (c - K.fibL i) = c - K.fibL i := K.w64 (by omega) (by omega)
        obtain ⟨r, e1, e2, e3, e4, e5, e6⟩ := ih (c - K.fibL i) (K.fibL i :: out) (by omega) (by omega) (by omega) (by simp; omega) (fun x hx => by
          rcases List.mem_cons.1 hx with rfl | hx
          · exact ⟨i, by omega, rfl⟩
          · exact g5 x hx)
        refine ⟨r, ?_, ?_, e3, e4, fun _ => e5 (by simp), fun _ _ => e5 (by simp)⟩ <;> apply K.Ev.succ
        · simp only [spec_l13Sums.l0, e, if_pos (show (i : Int) ≥ 0 by omega), if_pos (show 0 ≤ (i : Int) by omega), K.fibs_length, if_pos (show (i : Int) < (m : Int) by omega), r1, if_pos hc, Option.bind_some, if_pos (show [K.fibL i].length + out.length < 17592186044416 by simp; omega), wc, w]
          exact e1
        · simp only [impl_sumsOf.l0, e, if_pos (show (i : Int) ≥ 0 by omega), if_pos (show 0 ≤ (i : Int) by omega), K.fibs_length, if_pos (show (i : Int) < ((29 : Nat) : Int) by omega), r2, if_pos hc, if_pos (show out.reverse.length < 17592186044416 by simp; omega), wc, w]
          simpa using e2
      · obtain ⟨r, e1, e2, e3, e4, e5, e6⟩ := ih c out (by omega) g2 g3 (by omega) g5
        refine ⟨r, ?_, ?_, e3, e4, e5, fun _ h => absurd h (by simpa using hc)⟩ <;> apply K.Ev.succ
        · simp only [spec_l13Sums.l0, e, if_pos (show (i : Int) ≥ 0 by omega), if_pos (show 0 ≤ (i : Int) by omega), K.fibs_length, if_pos (show (i : Int) < (m : Int) by omega), r1, if_neg hc, w]
          exact e1
        · simp only [impl_sumsOf.l0, e, if_pos (show (i : Int) ≥ 0 by omega), if_pos (show 0 ≤ (i : Int) by omega), K.fibs_length, if_pos (show (i : Int) < ((29 : Nat) : Int) by omega), r2, if_neg hc, w]
          exact e2
  obtain ⟨r, e1, e2, e3, e4, e5, e6⟩ := key m n [] (by omega) (by omega) h1 (by simp) (by simp)
  -- what is greater than the number is passed by
  have skip : ∀ (d i : Nat), i = m + d → i ≤ 29 → Ev (fun k => impl_sumsOf.l0 k n (K.fibs 29) [] ((i : Int) - 1)) r := by
    intro d
    induction d with
    | zero => rintro i rfl _; simpa using e2
    | succ d ih =>
      rintro i rfl h
      have e : (((m + (d + 1) : Nat) : Int) - 1) = ((m + d : Nat) : Int) := by omega
      have w : wrap64 (((m + d : Nat) : Int) - 1) = ((m + d : Nat) : Int) - 1 := K.w64 (by omega) (by omega)
      have r2 := K.rd_fibs (show m + d < 29 by omega)
      have big : K.fibL m ≤ K.fibL (m + d) := K.fibL_mono (by omega)
      apply K.Ev.succ
      simp only [impl_sumsOf.l0, e, if_pos (show ((m + d : Nat) : Int) ≥ 0 by omega), if_pos (show 0 ≤ ((m + d : Nat) : Int) by omega), K.fibs_length, if_pos (show ((m + d : Nat) : Int) < ((29 : Nat) : Int) by omega), r2, if_neg (show ¬ (K.fibL (m + d) ≤ n) by omega), w]
      exact ih (m + d) rfl (by omega)
  refine ⟨r, ?_, ?_, e6 hm0 (m2 (m - 1) (by omega)), e3, e4⟩
  · simp only [spec_l13Sums.f]
    refine Ev.bind m4 ?_
    simp only [K.fibs_length, show wrap64 ((m : Int) - 1) = (m : Int) - 1 from K.w64 (by omega) (by omega)]
    exact e1
  · simp only [impl_sumsOf.f]
    refine Ev.bind sequence_ev ?_
    simp only [K.fibs_length, show wrap64 (((29 : Nat) : Int) - 1) = ((29 : Nat) : Int) - 1 from K.w64 (by omega) (by omega)]
    exact skip (29 - m) 29 (by omega) (by omega)
theorem number_in (n : Int) : spec_l13Number.f n = some (decide (1 ≤ n ∧ n ≤ 1000000)) ∧ impl_isNumber.f n = some (decide (1 ≤ n ∧ n ≤ 1000000)) := by
  by_cases h : n ≥ 1
  · simp [spec_l13Number.f, spec_l1In.f, impl_isNumber.f, impl_within.f, h, show 1 ≤ n from h]
  · simp [spec_l13Number.f, spec_l1In.f, impl_isNumber.f, impl_within.f, h, show ¬ 1 ≤ n from h]

theorem contains_int_ev (l : List Int) (x : Int) (hl : l.length ≤ 140737488355328) : Ev (fun k => slices_Contains_int_int.f k l x) (decide (x ∈ l)) := by
  have key : ∀ (d n : Nat), n + d = l.length → (∀ j, j < n → l[j]? ≠ some x) → ∃ r : Int, Ev (fun k => slices_Index_int_int.l0 k l x (l.length : Int) (n : Int)) r ∧ (r ≥ 0 ↔ x ∈ l) := by
    intro d
    induction d with
    | zero =>
      intro n h1 h2
      refine ⟨-1, ?_, ?_⟩
      · apply K.Ev.succ
        simp only [slices_Index_int_int.l0, if_neg (show ¬ ((n : Int) < (l.length : Int)) by omega)]
        exact Ev.now _
      · refine ⟨fun h => by omega, fun h => ?_⟩
        obtain ⟨j, hj⟩ := List.getElem?_of_mem h
        exact absurd hj (h2 j (by have := (List.getElem?_eq_some_iff.1 hj).1; omega))
    | succ d ih =>
      intro n h1 h2
      have hn : n < l.length := by omega
      by_cases hc : x = l[n]
      · refine ⟨(n : Int), ?_, fun _ => hc ▸ List.getElem_mem hn, fun _ => by omega⟩
        apply K.Ev.succ
        simp only [slices_Index_int_int.l0, if_pos (show (n : Int) < (l.length : Int) by omega), if_pos (show (0 : Int) ≤ (n : Int) by omega), K.rd_nat hn, if_pos hc]
        exact Ev.now _
      · obtain ⟨r, e1, e2⟩ := ih (n + 1) (by omega) (fun j hj => by
          rcases Nat.lt_or_ge j n with q | q
          · exact h2 j q
          · obtain rfl : j = n := by omega
            rw [List.getElem?_eq_getElem hn]; simpa using fun h => hc h.symm)
        refine ⟨r, ?_, e2⟩
        apply K.Ev.succ
        simp only [slices_Index_int_int.l0, if_pos (show (n : Int) < (l.length : Int) by omega), if_pos (show (0 : Int) ≤ (n : Int) by omega), K.rd_nat hn, if_neg hc, K.w64s n (show n < 9223372036854775807 by omega)]
        exact e1
  obtain ⟨r, e1, e2⟩ := key l.length 0 (by omega) (fun j hj => by omega)
  simp only [slices_Contains_int_int.f, slices_Index_int_int.f]
  refine Ev.bind e1 ?_
  rw [decide_eq_decide.mpr e2]
  exact Ev.now _

theorem fibonacci_same (n : Int) (h0 : 1 ≤ n) (h1 : n ≤ 1000000) : ∃ r : ByteArray, r.size ≤ 30 ∧ Ev (fun k => spec_l13Fibonacci.f k n) r ∧ Ev (fun k => impl_fibonacci.f k n) r := by
  obtain ⟨s, s1, s2, s3, s4, s5⟩ := sums_same n h0 h1
  have hs : 0 < s.length := List.length_pos_iff.mpr s3
  have wl : wrap64 ((s.length : Int) - 1) = ((s.length - 1 : Nat) : Int) := by rw [K.w64 (by omega) (by omega)]; omega
  have rl : rd s ((s.length - 1 : Nat) : Int) = s[s.length - 1] := K.rd_nat (by omega)
  obtain ⟨q, hq, eq⟩ := s5 s[s.length - 1] (List.getElem_mem _)
  have q28 : K.fibL q ≤ K.fibL 28 := K.fibL_mono (by omega)
  have h28 := K.fibL_28
  obtain ⟨m, _, m2, m3, m4⟩ := l13Row_ev (K.fibL q) (by omega)
  have h29 := K.fibL_29
  have hm29 : m ≤ 29 := by
    rcases Nat.lt_or_ge 29 m with w | w
    · have := m2 29 w; omega
    · exact w
  clear h28 h29 q28
  have key : ∀ (d i : Nat) (t : ByteArray), i + d = m → t.size ≤ i → ∃ r : ByteArray, r.size ≤ 30 ∧ Ev (fun k => spec_l13Fibonacci.l0 k s t (K.fibs m) (m : Int) (i : Int)) r ∧ Ev (fun k => impl_fibonacci.l0 k s t (K.fibs 29) ((29 : Nat) : Int) (i : Int)) r := by
    intro d
    induction d with
    | zero =>
      intro i t g1 g2
      have lim : t.size + 1 ≤ 9223372036854775807 := by omega
      refine ⟨t ++ (⟨#[49]⟩ : ByteArray), by rw [ByteArray.size_append, K.size1]; omega, ?_, ?_⟩ <;> apply K.Ev.succ
      · simp only [spec_l13Fibonacci.l0, if_neg (show ¬ ((i : Int) < (m : Int)) by omega), if_pos lim]
        exact Ev.now _
      · by_cases h29' : i < 29
        · have big : K.fibL m ≤ K.fibL i := K.fibL_mono (by omega)
          simp only [impl_fibonacci.l0, if_pos (show (i : Int) < ((29 : Nat) : Int) by omega), if_pos (show 0 ≤ (i : Int) by omega), K.fibs_length, wl, if_pos (show 0 ≤ ((s.length - 1 : Nat) : Int) by omega), if_pos (show ((s.length - 1 : Nat) : Int) < (s.length : Int) by omega), K.rd_fibs h29', rl, eq, if_pos (show K.fibL i > K.fibL q by omega), if_pos lim]
          exact Ev.now _
        · simp only [impl_fibonacci.l0, if_neg (show ¬ ((i : Int) < ((29 : Nat) : Int)) by omega), if_pos lim]
          exact Ev.now _
    | succ d ih =>
      intro i t g1 g2
      have lim : t.size + 1 ≤ 9223372036854775807 := by omega
      have le := m2 i (by omega)
      have c1 := l1Has_ev s (K.fibL i) (by omega)
      have c2 := contains_int_ev s (K.fibL i) (by omega)
      by_cases hc : K.fibL i ∈ s
      · rw [decide_eq_true hc] at c1 c2
        obtain ⟨r, e0, e1, e2⟩ := ih (i + 1) (t ++ (⟨#[49]⟩ : ByteArray)) (by omega) (by rw [ByteArray.size_append, K.size1]; omega)
        refine ⟨r, e0, ?_, ?_⟩ <;> apply K.Ev.succ
        · simp only [spec_l13Fibonacci.l0, if_pos (show (i : Int) < (m : Int) by omega), if_pos (show 0 ≤ (i : Int) by omega), K.fibs_length, K.rd_fibs (show i < m by omega)]
          refine Ev.bind c1 ?_
          simp only [if_true, if_pos lim, K.w64s i (show i < 9223372036854775807 by omega)]
          exact e1
        · simp only [impl_fibonacci.l0, if_pos (show (i : Int) < ((29 : Nat) : Int) by omega), if_pos (show 0 ≤ (i : Int) by omega), K.fibs_length, wl, if_pos (show 0 ≤ ((s.length - 1 : Nat) : Int) by omega), if_pos (show ((s.length - 1 : Nat) : Int) < (s.length : Int) by omega), K.rd_fibs (show i < 29 by omega), rl, eq, if_neg (show ¬ (K.fibL i > K.fibL q) by omega)]
          refine Ev.bind c2 ?_
          simp only [if_true, if_pos lim, K.w64s i (show i < 9223372036854775807 by omega)]
          exact e2
      · rw [decide_eq_false hc] at c1 c2
        obtain ⟨r, e0, e1, e2⟩ := ih (i + 1) (t ++ (⟨#[48]⟩ : ByteArray)) (by omega) (by rw [ByteArray.size_append, K.size1]; omega)
        refine ⟨r, e0, ?_, ?_⟩ <;> apply K.Ev.succ
        · simp only [spec_l13Fibonacci.l0, if_pos (show (i : Int) < (m : Int) by omega), if_pos (show 0 ≤ (i : Int) by omega), K.fibs_length, K.rd_fibs (show i < m by omega)]
          refine Ev.bind c1 ?_
          simp only [Bool.false_eq_true, if_false, if_pos lim, K.w64s i (show i < 9223372036854775807 by omega)]
          exact e1
        · simp only [impl_fibonacci.l0, if_pos (show (i : Int) < ((29 : Nat) : Int) by omega), if_pos (show 0 ≤ (i : Int) by omega), K.fibs_length, wl, if_pos (show 0 ≤ ((s.length - 1 : Nat) : Int) by omega), if_pos (show ((s.length - 1 : Nat) : Int) < (s.length : Int) by omega), K.rd_fibs (show i < 29 by omega), rl, eq, if_neg (show ¬ (K.fibL i > K.fibL q) by omega)]
          refine Ev.bind c2 ?_
          simp only [Bool.false_eq_true, if_false, if_pos lim, K.w64s i (show i < 9223372036854775807 by omega)]
          exact e2
  obtain ⟨r, e0, e1, e2⟩ := key m 0 (⟨#[]⟩ : ByteArray) (by omega) (by show 0 ≤ 0; omega)
  refine ⟨r, e0, ?_, ?_⟩
  · simp only [spec_l13Fibonacci.f]
    refine Ev.bind s1 ?_
    simp only [wl, if_pos (show 0 ≤ ((s.length - 1 : Nat) : Int) by omega), if_pos (show ((s.length - 1 : Nat) : Int) < (s.length : Int) by omega), rl, eq]
    refine Ev.bind m4 ?_
    simp only [K.fibs_length]
    exact e1
  · simp only [impl_fibonacci.f]
    refine Ev.bind s2 ?_
    refine Ev.bind sequence_ev ?_
    simp only [K.fibs_length]
    exact e2

theorem fibonacciOf_eq (n : Int) : ∃ r : ByteArray × Bool, Ev (fun k => spec_FibonacciOf.f k n) r ∧ Ev (fun k => impl_FibonacciOf.f k n) r := by
  obtain ⟨q1, q2⟩ := number_in n
  by_cases h : 1 ≤ n ∧ n ≤ 1000000
  · obtain ⟨r, _, e1, e2⟩ := fibonacci_same n h.1 h.2
    refine ⟨(r, true), ?_, ?_⟩
    · simp only [spec_FibonacciOf.f, q1, decide_eq_true h, Option.bind_some, if_true]
      exact Ev.bind e1 (Ev.now _)
    · simp only [impl_FibonacciOf.f, q2, decide_eq_true h, Option.bind_some, if_true]
      exact Ev.bind e2 (Ev.now _)
  · refine ⟨((⟨#[]⟩ : ByteArray), false), ?_, ?_⟩
    · simp only [spec_FibonacciOf.f, q1, decide_eq_false h, Option.bind_some, Bool.false_eq_true, if_false]
      exact Ev.now _
    · simp only [impl_FibonacciOf.f, q2, decide_eq_false h, Option.bind_some, Bool.false_eq_true, if_false]
      exact Ev.now _
theorem FnExactFibonacciOf : laws_FnExactFibonacciOf.Pure := by
  intro n _
  refine Ev.rounds (?_ : Ev (fun k => laws_FnExactFibonacciOf.f k n) true)
  unfold laws_FnExactFibonacciOf.f
  obtain ⟨r, e1, e2⟩ := fibonacciOf_eq n
  refine Ev.bind e1 ?_
  refine Ev.bind e2 ?_
  simp only [if_true, bne_self_eq_false, Bool.false_eq_true, if_false]
  exact Ev.now _

end Go.Proofs.Ytekaaoeojbclfaa.Pure
