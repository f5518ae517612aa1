/- The law FnExactTakeFibonacci answers true for every text: the number whose Fibonacci code stands at the beginning is the reference's. -/
import Derived.Test.YtekaaoeojbclfaaPFnExactTakeFibonaccix3
import Derived.Test.YtekaaoeojbclfaaKKit
import Derived.Test.YtekaaoeojbclfaaKFib
import Derived.Test.YtekaaoeojbclfaaKZeck
set_option linter.unusedVariables false
set_option linter.unusedSimpArgs false
namespace Go.Proofs.Ytekaaoeojbclfaa.Pure
open Go Go.RowKit Go.Proofs.Ytekaaoeojbclfaa Go.Proofs.Ytekaaoeojbclfaa.PFnExactTakeFibonacci Go.Proofs.YtekaaoeojbclfaaW.PrintWords Go.Proofs.YtekaaoeojbclfaaW.PrintLast Go.Proofs.YtekaaoeojbclfaaW.PrintMore

theorem l13Row_ev (n : Int) (hn : n < 3524578) : ∃ m : Nat, m ≤ 31 ∧ (∀ i, i < m → K.fibL i ≤ n) ∧ n < K.fibL m ∧ Ev (fun k => spec_l13Row.f k n) (K.fibs m) := by
  have key : ∀ (d i : Nat), i + d = 31 → (∀ j, j < i → K.fibL j ≤ n) → ∃ m : Nat, m ≤ 31 ∧ (∀ i, i < m → K.fibL i ≤ n) ∧ n < K.fibL m ∧ Ev (fun k => spec_l13Row.l0 k n (K.fibs i) (K.fibL i) (K.fibL (i + 1))) (K.fibs m) := by
    intro d
    induction d with
    | zero =>
      intro i h1 h2
      obtain rfl : i = 31 := by omega
      have h31 := K.fibL_31
      refine ⟨31, by omega, h2, by omega, ?_⟩
      apply K.Ev.succ
      simp only [spec_l13Row.l0, if_neg (show ¬ (K.fibL 31 ≤ n) by omega)]
      exact Ev.now _
    | succ d ih =>
      intro i h1 h2
      by_cases h : K.fibL i ≤ n
      · obtain ⟨m, m1, m2, m3, m4⟩ := ih (i + 1) (by omega) (fun j hj => by
          rcases Nat.lt_or_ge j i with q | q
          · exact h2 j q
          · obtain rfl : j = i := by omega
            exact h)
        refine ⟨m, m1, m2, m3, ?_⟩
        have b1 : K.fibL (i + 1) ≤ K.fibL 31 := K.fibL_mono (by omega)
        have h31 := K.fibL_31
        have p1 := K.fibL_pos i
        have w : wrap64 (K.fibL i + K.fibL (i + 1)) = K.fibL (i + 2) := by rw [K.fibL_succ]; exact K.w64 (by omega) (by omega)
        apply K.Ev.succ
        simp only [spec_l13Row.l0, if_pos h, K.fibs_length, if_pos (show i < 17592186044416 by omega), w]
        rw [K.fibs_succ] at m4
        exact m4
      · refine ⟨i, by omega, h2, by omega, ?_⟩
        apply K.Ev.succ
        simp only [spec_l13Row.l0, if_neg h]
        exact Ev.now _
  obtain ⟨m, m1, m2, m3, m4⟩ := key 31 0 (by omega) (fun j hj => by omega)
  refine ⟨m, m1, m2, m3, ?_⟩
  simp only [spec_l13Row.f]
  rw [K.fibL_0, K.fibL_1] at m4
  exact m4

theorem sequence_ev : Ev (fun k => impl_sequence.f k) (K.fibs 29) := Ev.of impl_sequence.mono (k := 40) (by unfold K.fibs; rw [K.fibL_eq]; decide +kernel)

theorem reverse_int_l0 : ∀ (d : Nat) (a m c : List Int), m.length = d → (a ++ m ++ c).length ≤ 140737488355328 → ∀ i j : Int, i = (a.length : Int) → j = (a.length : Int) + (m.length : Int) - 1 → Ev (fun k => slices_Reverse_int_int.l0 k (a ++ m ++ c) i j) (a ++ m.reverse ++ c) := by
  intro d
  induction d using Nat.strongRecOn with
  | _ d ih =>
  intro a m c hd hl i j hi hj
  apply K.Ev.succ
  rcases Nat.lt_or_ge 1 d with h | h
  · obtain ⟨p, m1, rfl⟩ : ∃ p m1, m = p :: m1 := by cases m with | nil => simp at hd; omega | cons p m1 => exact ⟨p, m1, rfl⟩
    obtain ⟨m2, q, rfl⟩ : ∃ m2 q, m1 = m2 ++ [q] := by
      rcases List.eq_nil_or_concat m1 with rfl | ⟨m2, q, rfl⟩
      · simp at hd; omega
      · exact ⟨m2, q, by simp⟩
    simp only [List.length_append, List.length_cons, List.length_nil] at hd hl hj
    have e1 : rd (a ++ p :: (m2 ++ [q]) ++ c) i = p := by
      subst hi; simp [rd, List.getElem?_append]
    have jt : j.toNat = a.length + m2.length + 1 := by omega
    have e2 : rd (a ++ p :: (m2 ++ [q]) ++ c) j = q := by
      simp only [rd, jt, List.getD_eq_getElem?_getD]
      rw [List.getElem?_append_left (by simp; omega), List.getElem?_append_right (by omega), show a.length + m2.length + 1 - a.length = m2.length + 1 by omega]
      simp
    have s1 : ((a ++ p :: (m2 ++ [q]) ++ c).set i.toNat q).set j.toNat p = (a ++ [q]) ++ m2 ++ (p :: c) := by
      subst hi
      rw [jt, Int.toNat_natCast]
      rw [List.append_assoc, List.set_append_right _ _ (by omega), List.set_append_right _ _ (by omega)]
      rw [show a.length - a.length = 0 by omega, show a.length + m2.length + 1 - a.length = m2.length + 1 by omega]
      simp [List.set_append_right]
    have w1 : wrap64 (i + 1) = i + 1 := K.w64 (by omega) (by omega)
    have w2 : wrap64 (j - 1) = j - 1 := K.w64 (by omega) (by omega)
    simp only [slices_Reverse_int_int.l0, if_pos (show i < j by omega), if_pos (show 0 ≤ j by omega), if_pos (show j < (((a ++ p :: (m2 ++ [q]) ++ c).length : Nat) : Int) by simp; omega), if_pos (show 0 ≤ i by omega), if_pos (show i < (((a ++ p :: (m2 ++ [q]) ++ c).length : Nat) : Int) by simp; omega), e1, e2, s1, w1, w2]
    have := ih (d - 2) (by omega) (a ++ [q]) m2 (p :: c) (by omega) (by simp; omega) (i + 1) (j - 1) (by simp; omega) (by simp; omega)
    refine K.Ev.to this ?_
    simp
  · simp only [slices_Reverse_int_int.l0, if_neg (show ¬ (i < j) by omega)]
    have : m.reverse = m := by
      match m, hd with
      | [], _ => rfl
      | [_], _ => rfl
      | _ :: _ :: _, hd => simp at hd; omega
    rw [this]; exact Ev.now _
theorem reverse_int_ev (l : List Int) (hl : l.length ≤ 140737488355328) : Ev (fun k => slices_Reverse_int_int.f k l) l.reverse := by
  have w : wrap64 ((l.length : Int) - 1) = (l.length : Int) - 1 := K.w64 (by omega) (by omega)
  have := reverse_int_l0 l.length [] l [] rfl (by simpa using hl) 0 ((l.length : Int) - 1) (by simp) (by simp)
  simp only [slices_Reverse_int_int.f, w]
  simpa using this

theorem number_in (n : Int) : spec_l13Number.f n = some (decide (1 ≤ n ∧ n ≤ 1000000)) ∧ impl_isNumber.f n = some (decide (1 ≤ n ∧ n ≤ 1000000)) := by
  by_cases h : n ≥ 1
  · simp [spec_l13Number.f, spec_l1In.f, impl_isNumber.f, impl_within.f, h, show 1 ≤ n from h]
  · simp [spec_l13Number.f, spec_l1In.f, impl_isNumber.f, impl_within.f, h, show ¬ 1 ≤ n from h]

theorem contains_int_ev (l : List Int) (x : Int) (hl : l.length ≤ 140737488355328) : Ev (fun k => slices_Contains_int_int.f k l x) (decide (x ∈ l)) := by
  have key : ∀ (d n : Nat), n + d = l.length → (∀ j, j < n → l[j]? ≠ some x) → ∃ r : Int, Ev (fun k => slices_Index_int_int.l0 k l x (l.length : Int) (n : Int)) r ∧ (r ≥ 0 ↔ x ∈ l) := by
    intro d
    induction d with
    | zero =>
      intro n h1 h2
      refine ⟨-1, ?_, ?_⟩
      · apply K.Ev.succ
        simp only [slices_Index_int_int.l0, if_neg (show ¬ ((n : Int) < (l.length : Int)) by omega)]
        exact Ev.now _
      · refine ⟨fun h => by omega, fun h => ?_⟩
        obtain ⟨j, hj⟩ := List.getElem?_of_mem h
        exact absurd hj (h2 j (by have := (List.getElem?_eq_some_iff.1 hj).1; omega))
    | succ d ih =>
      intro n h1 h2
      have hn : n < l.length := by omega
      by_cases hc : x = l[n]
      · refine ⟨(n : Int), ?_, fun _ => hc ▸ List.getElem_mem hn, fun _ => by omega⟩
        apply K.Ev.succ
        simp only [slices_Index_int_int.l0, if_pos (show (n : Int) < (l.length : Int) by omega), if_pos (show (0 : Int) ≤ (n : Int) by omega), K.rd_nat hn, if_pos hc]
        exact Ev.now _
      · obtain ⟨r, e1, e2⟩ := ih (n + 1) (by omega) (fun j hj => by
          rcases Nat.lt_or_ge j n with q | q
          · exact h2 j q
          · obtain rfl : j = n := by omega
            rw [List.getElem?_eq_getElem hn]; simpa using fun h => hc h.symm)
        refine ⟨r, ?_, e2⟩
        apply K.Ev.succ
        simp only [slices_Index_int_int.l0, if_pos (show (n : Int) < (l.length : Int) by omega), if_pos (show (0 : Int) ≤ (n : Int) by omega), K.rd_nat hn, if_neg hc, K.w64s n (show n < 9223372036854775807 by omega)]
        exact e1
  obtain ⟨r, e1, e2⟩ := key l.length 0 (by omega) (fun j hj => by omega)
  simp only [slices_Contains_int_int.f, slices_Index_int_int.f]
  refine Ev.bind e1 ?_
  rw [decide_eq_decide.mpr e2]
  exact Ev.now _

theorem zsums_ev (b : Nat → Bool) (hb : K.Sep b 29) (hs : K.sumT b 29 ≤ 1000000) : Ev (fun k => impl_sumsOf.f k (K.sumT b 29)) (K.tk b 29) := by
  have h29 := K.fibL_29
  have key : ∀ (i : Nat) (up : List Int), i ≤ 29 → up.length + i ≤ 29 → (i = 29 ∨ K.sumT b i ≤ 1346269) → Ev (fun k => impl_sumsOf.l0 k (K.sumT b i) (K.fibs 29) up.reverse ((i : Int) - 1)) (K.tk b i ++ up) := by
    intro i
    induction i with
    | zero =>
      intro up h1 h2 _
      apply K.Ev.succ
      simp only [impl_sumsOf.l0, if_neg (show ¬ (((0 : Nat) : Int) - 1 ≥ 0) by omega)]
      refine Ev.bind (reverse_int_ev up.reverse (by simp; omega)) ?_
      simp only [List.reverse_reverse]
      exact Ev.now _
    | succ i ih =>
      intro up h1 h2 h3
      have e : (((i + 1 : Nat) : Int) - 1) = (i : Int) := by omega
      have w : wrap64 ((i : Int) - 1) = (i : Int) - 1 := K.w64 (by omega) (by omega)
      have r := K.rd_fibs (show i < 29 by omega)
      have st := K.sumT_step b i (hb.less (by omega))
      have lt := (K.sumT_lt b i (hb.less (by omega))).1
      have m29 := K.fibL_mono (show i ≤ 29 by omega)
      have e2 : K.sumT b (i + 1) = K.sumT b i + (if b i = true then K.fibL i else 0) := rfl
      have e3 : K.tk b (i + 1) = K.tk b i ++ (if b i = true then [K.fibL i] else []) := rfl
      have p := (K.fibL_pos i).1
      have hi := ih
      apply K.Ev.succ
      by_cases q : b i = true
      · rw [if_pos q] at e2 e3
        have wc : K.Eqn (wrap64 (K.sumT b (i + 1) - K.fibL i)) (K.sumT b i) := ⟨by rw [e2, show K.sumT b i + K.fibL i - K.fibL i = K.sumT b i by omega]; exact K.w64 (by omega) (by omega)⟩
        have hx := hi (K.fibL i :: up) (by omega) (by simp; omega) (Or.inr (by omega))
        simp only [impl_sumsOf.l0, e, if_pos (show (i : Int) ≥ 0 by omega), if_pos (show 0 ≤ (i : Int) by omega), K.fibs_length, if_pos (show (i : Int) < ((29 : Nat) : Int) by omega), r, if_pos (st.2 q), if_pos (show up.reverse.length < 17592186044416 by rw [List.length_reverse]; omega), wc.out, w]
        rw [e3, List.append_assoc]
        simpa using hx
      · have q' : ¬ K.fibL i ≤ K.sumT b (i + 1) := fun h => q (st.1 h)
        rw [if_neg q] at e2 e3
        rw [Int.add_zero] at e2
        have hx := hi up (by omega) (by omega) (Or.inr (by omega))
        simp only [impl_sumsOf.l0, e, if_pos (show (i : Int) ≥ 0 by omega), if_pos (show 0 ≤ (i : Int) by omega), K.fibs_length, if_pos (show (i : Int) < ((29 : Nat) : Int) by omega), r, if_neg q', w]
        rw [e3, List.append_nil, e2]
        exact hx
  have := key 29 [] (by omega) (by simp) (Or.inl rfl)
  rw [List.append_nil] at this
  simp only [impl_sumsOf.f]
  refine Ev.bind sequence_ev ?_
  simp only [K.fibs_length]
  rw [show wrap64 (((29 : Nat) : Int) - 1) = ((29 : Nat) : Int) - 1 from K.w64 (by omega) (by omega)]
  exact this
theorem strOf_snoc (a : List Int) (c : UInt8) (v : Int) (h : UInt8.ofNat v.toNat = c) : strOfNums a ++ (⟨#[c]⟩ : ByteArray) = strOfNums (a ++ [v]) := by
  subst h
  apply ByteArray.ext
  simp [strOfNums, ByteArray.data_append]
/-- The code of a sum of such ones, of which the last is the e-th. -/
theorem zfib_ev (b : Nat → Bool) (e : Nat) (he : e ≤ 28) (hb : K.Sep b 29) (hbe : b e = true) (ha : ∀ j, e < j → b j = false) (hs : K.sumT b 29 ≤ 1000000) : Ev (fun k => impl_fibonacci.f k (K.sumT b 29)) (strOfNums (K.digB b (e + 1) ++ [49])) := by
  have hl : K.tk b 29 = K.tk b e ++ [K.fibL e] := by
    have := K.tk_above ha (28 - e)
    rw [show e + 1 + (28 - e) = 29 by omega] at this
    rw [this]
    show K.tk b e ++ _ = _
    rw [if_pos hbe]
  have tl := K.tk_len b 29
  have tl2 : (K.tk b 29).length = (K.tk b e).length + 1 := by rw [hl]; simp
  have wl : wrap64 (((K.tk b 29).length : Int) - 1) = (((K.tk b e).length : Nat) : Int) := by rw [K.w64 (by omega) (by omega)]; omega
  have rl : rd (K.tk b 29) (((K.tk b e).length : Nat) : Int) = K.fibL e := by
    rw [K.rd_nat (by omega)]
    simp [hl]
  have key : ∀ (d i : Nat), i + d = e + 1 → Ev (fun k => impl_fibonacci.l0 k (K.tk b 29) (strOfNums (K.digB b i)) (K.fibs 29) ((29 : Nat) : Int) (i : Int)) (strOfNums (K.digB b (e + 1) ++ [49])) := by
    intro d
    induction d with
    | zero =>
      intro i hi
      obtain rfl : i = e + 1 := by omega
      have lim : (strOfNums (K.digB b (e + 1))).size + 1 ≤ 9223372036854775807 := by rw [strOfNums_size, K.digB_len]; omega
      apply K.Ev.succ
      by_cases q : e + 1 < 29
      · have big := K.fibL_step e
        simp only [impl_fibonacci.l0, if_pos (show ((e + 1 : Nat) : Int) < ((29 : Nat) : Int) by omega), if_pos (show 0 ≤ ((e + 1 : Nat) : Int) by omega), K.fibs_length, wl, if_pos (show 0 ≤ (((K.tk b e).length : Nat) : Int) by omega), if_pos (show (((K.tk b e).length : Nat) : Int) < ((K.tk b 29).length : Int) by omega), K.rd_fibs q, rl, if_pos (show K.fibL (e + 1) > K.fibL e from big), if_pos lim, strOf_snoc _ 49 49 rfl]
        exact Ev.now _
      · simp only [impl_fibonacci.l0, if_neg (show ¬ ((e + 1 : Nat) : Int) < ((29 : Nat) : Int) by omega), if_pos lim, strOf_snoc _ 49 49 rfl]
        exact Ev.now _
    | succ d ih =>
      intro i hi
      have lim : (strOfNums (K.digB b i)).size + 1 ≤ 9223372036854775807 := by rw [strOfNums_size, K.digB_len]; omega
      have le := K.fibL_mono (show i ≤ e by omega)
      have c2 := contains_int_ev (K.tk b 29) (K.fibL i) (by omega)
      have hm := K.tk_mem b i 29
      have hx := ih (i + 1) (by omega)
      rw [K.digB_succ] at hx
      apply K.Ev.succ
      simp only [impl_fibonacci.l0, if_pos (show (i : Int) < ((29 : Nat) : Int) by omega), if_pos (show 0 ≤ (i : Int) by omega), K.fibs_length, wl, if_pos (show 0 ≤ (((K.tk b e).length : Nat) : Int) by omega), if_pos (show (((K.tk b e).length : Nat) : Int) < ((K.tk b 29).length : Int) by omega), K.rd_fibs (show i < 29 by omega), rl, if_neg (show ¬ K.fibL i > K.fibL e by omega)]
      by_cases q : b i = true
      · rw [decide_eq_true (hm.2 ⟨by omega, q⟩)] at c2
        rw [if_pos q, ← strOf_snoc _ 49 49 rfl] at hx
        refine Ev.bind c2 ?_
        simp only [if_true, if_pos lim, K.w64s i (show i < 9223372036854775807 by omega)]
        exact hx
      · rw [decide_eq_false (fun h => q (hm.1 h).2)] at c2
        rw [if_neg q, ← strOf_snoc _ 48 48 rfl] at hx
        refine Ev.bind c2 ?_
        simp only [Bool.false_eq_true, if_false, if_pos lim, K.w64s i (show i < 9223372036854775807 by omega)]
        exact hx
  have := key (e + 1) 0 (by omega)
  simp only [impl_fibonacci.f]
  refine Ev.bind (zsums_ev b hb hs) ?_
  refine Ev.bind sequence_ev ?_
  simp only [K.fibs_length]
  exact this
/-! ### Where 11 stands -/
def pairAt (s : ByteArray) (j : Nat) : Prop := j + 1 < s.size ∧ bt s (j : Int) = 49 ∧ bt s ((j + 1 : Nat) : Int) = 49
theorem bt_byte (s : ByteArray) (j : Nat) (h : j < s.data.toList.length) : bt s (j : Int) = ((s.data.toList[j].toNat : Nat) : Int) := by
  rw [K.bt_nat (by rw [data_length] at h; exact h)]; rfl
theorem byte49 (x : UInt8) : ((49 : UInt8) == x) = true ↔ ((x.toNat : Nat) : Int) = 49 := by
  constructor
  · intro h
    have := beq_iff_eq.1 h
    subst this
    rfl
  · intro h
    have h2 : x.toNat = 49 := by omega
    exact beq_iff_eq.2 (UInt8.toNat_inj.1 (by rw [h2]; rfl))
theorem occ_iff (s : ByteArray) (j : Nat) : Lib.occAt s.data.toList [49, 49] j = true ↔ pairAt s j := by
  have dl := data_length s
  unfold Lib.occAt pairAt
  by_cases h : j + 1 < s.data.toList.length
  · rw [bt_byte s j (by omega), bt_byte s (j + 1) h, List.drop_eq_getElem_cons (show j < s.data.toList.length by omega), List.drop_eq_getElem_cons h]
    simp only [List.isPrefixOf, Bool.and_true, Bool.and_eq_true, byte49]
    constructor
    · rintro ⟨h1, h2⟩; exact ⟨by omega, h1, h2⟩
    · rintro ⟨_, h1, h2⟩; exact ⟨h1, h2⟩
  · constructor
    · intro hp
      have := (List.isPrefixOf_iff_prefix.1 hp).length_le
      rw [List.length_drop] at this
      simp at this
      omega
    · rintro ⟨h1, _⟩; omega
theorem index_at (s : ByteArray) (e : Nat) (h : pairAt s e) (hn : ∀ j, j < e → ¬ pairAt s j) : Lib.index s.data.toList [49, 49] = (e : Int) := by
  have dl := data_length s
  exact Lib.index_first (by have := h.1; omega) ((occ_iff s e).2 h) (fun j hj => Bool.eq_false_iff.2 (fun q => hn j hj ((occ_iff s j).1 q)))
theorem index_no (s : ByteArray) (hn : ∀ j, ¬ pairAt s j) : Lib.index s.data.toList [49, 49] = -1 :=
  Lib.index_none (fun j _ => Bool.eq_false_iff.2 (fun q => hn j ((occ_iff s j).1 q)))
theorem pair_least (s : ByteArray) : ∀ m, (∃ e, e < m ∧ pairAt s e ∧ ∀ j, j < e → ¬ pairAt s j) ∨ ∀ j, j < m → ¬ pairAt s j
  | 0 => Or.inr (fun j h => by omega)
  | m + 1 => by
    rcases pair_least s m with ⟨e, h1, h2⟩ | h
    · exact Or.inl ⟨e, by omega, h2⟩
    · by_cases q : pairAt s m
      · exact Or.inl ⟨m, by omega, q, h⟩
      · refine Or.inr (fun j hj => ?_)
        rcases Nat.lt_or_ge j m with u | u
        · exact h j u
        · rw [show j = m by omega]; exact q

def bitAt (s : ByteArray) (j : Nat) : Prop := bt s (j : Int) = 48 ∨ bt s (j : Int) = 49
/-- What the places of a text choose. -/
def oneAt (s : ByteArray) (j : Nat) : Bool := decide (bt s (j : Int) = 49)
theorem row30 : Ev (fun k => spec_l13Row.f k 2000000) (K.fibs 30) := by
  obtain ⟨m, m1, m2, m3, m4⟩ := l13Row_ev 2000000 (by omega)
  have h29 := K.fibL_29
  have h30 := K.fibL_30
  have : m = 30 := by
    rcases Nat.lt_trichotomy m 30 with q | q | q
    · have := K.fibL_mono (show m ≤ 29 by omega); omega
    · exact q
    · have := m2 30 q; omega
  rw [this] at m4
  exact m4
/-- How the reference comes to an end, from place i on. -/
theorem spec_ends (s : ByteArray) (hsz : s.size ≤ 1048576) : ∀ (d i : Nat), i + d = min s.size 30 → (∀ j, j < i → bitAt s j) → (∀ j, j + 1 < i → ¬ pairAt s j) →
    (∃ u, u < min s.size 30 ∧ (∀ j, j + 1 < u → ¬ pairAt s j) ∧ ¬ bitAt s u ∧ Ev (fun k => spec_TakeFibonacci.l0 k s (K.fibs 30) (K.sumT (oneAt s) i) (i : Int)) (0, 0, false)) ∨
    (∃ u, u + 1 < min s.size 30 ∧ (∀ j, j < u + 2 → bitAt s j) ∧ pairAt s u ∧ (∀ j, j < u → ¬ pairAt s j) ∧ Ev (fun k => spec_TakeFibonacci.l0 k s (K.fibs 30) (K.sumT (oneAt s) i) (i : Int)) (if 1 ≤ K.sumT (oneAt s) (u + 1) ∧ K.sumT (oneAt s) (u + 1) ≤ 1000000 then (K.sumT (oneAt s) (u + 1), ((u + 2 : Nat) : Int), true) else (0, 0, false))) ∨
    ((∀ j, j + 1 < min s.size 30 → ¬ pairAt s j) ∧ Ev (fun k => spec_TakeFibonacci.l0 k s (K.fibs 30) (K.sumT (oneAt s) i) (i : Int)) (0, 0, false)) := by
  have h30 := K.fibL_30
  intro d
  induction d with
  | zero =>
    intro i hi hb hp
    refine Or.inr (Or.inr ⟨by rw [← hi]; exact hp, ?_⟩)
    have fin : ∀ n, Ev (fun k => spec_TakeFibonacci.j1 k s (K.fibs 30) n (i : Int) false) (0, 0, false) := by
      intro n
      apply K.Ev.succ
      simp only [spec_TakeFibonacci.j1, Bool.false_eq_true, if_false]
      exact Ev.now _
    apply K.Ev.succ
    by_cases q : (i : Int) < (s.size : Int)
    · simp only [spec_TakeFibonacci.l0, if_pos q, K.fibs_length, decide_eq_false (show ¬ (i : Int) < ((30 : Nat) : Int) by omega)]
      exact fin _
    · simp only [spec_TakeFibonacci.l0, if_neg q]
      exact fin _
  | succ d ih =>
    intro i hi hb hp
    have hsi : i < s.size := by omega
    have h30i : i < 30 := by omega
    have sep : K.Sep (oneAt s) i := fun j hj h => hp j hj ⟨by omega, of_decide_eq_true h.1, of_decide_eq_true h.2⟩
    have lt := (K.sumT_lt (oneAt s) i sep).1
    have m30 := K.fibL_mono (show i ≤ 30 by omega)
    have enter : ∀ X, Ev (fun k => spec_TakeFibonacci.j1 k s (K.fibs 30) (K.sumT (oneAt s) i) (i : Int) true) X → Ev (fun k => spec_TakeFibonacci.l0 k s (K.fibs 30) (K.sumT (oneAt s) i) (i : Int)) X := by
      intro X hX
      apply K.Ev.succ
      simp only [spec_TakeFibonacci.l0, if_pos (show (i : Int) < (s.size : Int) by omega), K.fibs_length, decide_eq_true (show (i : Int) < ((30 : Nat) : Int) by omega)]
      exact hX
    by_cases bi : bitAt s i
    case neg =>
      have n48 : ¬ bt s (i : Int) = 48 := fun h => bi (Or.inl h)
      have n49 : ¬ bt s (i : Int) = 49 := fun h => bi (Or.inr h)
      refine Or.inl ⟨i, by omega, hp, bi, enter _ ?_⟩
      apply K.Ev.succ
      simp only [spec_TakeFibonacci.j1, if_true, if_pos (show (0 : Int) ≤ (i : Int) by omega), if_pos (show (i : Int) < (s.size : Int) by omega), if_neg n48, bne_iff_ne.2 n49]
      apply K.Ev.succ
      simp only [spec_TakeFibonacci.j2, if_true]
      exact Ev.now _
    have enter2 : ∀ X, Ev (fun k => spec_TakeFibonacci.j2 k s (K.fibs 30) (K.sumT (oneAt s) i) (i : Int) false) X → Ev (fun k => spec_TakeFibonacci.l0 k s (K.fibs 30) (K.sumT (oneAt s) i) (i : Int)) X := by
      intro X hX
      refine enter X ?_
      apply K.Ev.succ
      rcases bi with h | h
      · simp only [spec_TakeFibonacci.j1, if_true, if_pos (show (0 : Int) ≤ (i : Int) by omega), if_pos (show (i : Int) < (s.size : Int) by omega), if_pos h]
        exact hX
      · simp only [spec_TakeFibonacci.j1, if_true, if_pos (show (0 : Int) ≤ (i : Int) by omega), if_pos (show (i : Int) < (s.size : Int) by omega), h, if_neg (show ¬ (49 : Int) = 48 by decide), bne_self_eq_false]
        exact hX
    -- a pair ends here
    by_cases pr : 0 < i ∧ pairAt s (i - 1)
    · obtain ⟨i0, pr⟩ := pr
      obtain ⟨u, rfl⟩ : ∃ u, i = u + 1 := ⟨i - 1, by omega⟩
      rw [show u + 1 - 1 = u by omega] at pr
      refine Or.inr (Or.inl ⟨u, by omega, fun j hj => ?_, pr, fun j hj => hp j (by omega), enter2 _ ?_⟩)
      · rcases Nat.lt_or_ge j (u + 1) with q | q
        · exact hb j q
        · rw [show j = u + 1 by omega]; exact bi
      apply K.Ev.succ
      have wp := K.w64p u (show u < 9223372036854775807 by omega)
      simp only [spec_TakeFibonacci.j2, Bool.false_eq_true, if_false, if_pos (show (0 : Int) ≤ ((u + 1 : Nat) : Int) by omega), if_pos (show ((u + 1 : Nat) : Int) < (s.size : Int) by omega), if_pos pr.2.2, if_pos (show ((u + 1 : Nat) : Int) > 0 by omega), wp, if_pos (show (0 : Int) ≤ (u : Int) by omega), if_pos (show (u : Int) < (s.size : Int) by omega), pr.2.1, beq_self_eq_true]
      apply K.Ev.succ
      simp only [spec_TakeFibonacci.j3, if_true, (number_in (K.sumT (oneAt s) (u + 1))).1, Option.bind_some]
      by_cases q : 1 ≤ K.sumT (oneAt s) (u + 1) ∧ K.sumT (oneAt s) (u + 1) ≤ 1000000
      · rw [if_pos q]
        simp only [decide_eq_true q, if_true, K.w64s (u + 1) (show u + 1 < 9223372036854775807 by omega)]
        exact Ev.now _
      · rw [if_neg q]
        simp only [decide_eq_false q, Bool.false_eq_true, if_false]
        exact Ev.now _
    · have hp2 : ∀ j, j + 1 < i + 1 → ¬ pairAt s j := by
        intro j hj h
        rcases Nat.lt_or_ge (j + 1) i with q | q
        · exact hp j q h
        · exact pr ⟨by omega, by rw [show i - 1 = j by omega]; exact h⟩
      have hb2 : ∀ j, j < i + 1 → bitAt s j := by
        intro j hj
        rcases Nat.lt_or_ge j i with q | q
        · exact hb j q
        · rw [show j = i by omega]; exact bi
      have on : ∀ X, Ev (fun k => spec_TakeFibonacci.l0 k s (K.fibs 30) (K.sumT (oneAt s) (i + 1)) ((i + 1 : Nat) : Int)) X → Ev (fun k => spec_TakeFibonacci.l0 k s (K.fibs 30) (K.sumT (oneAt s) i) (i : Int)) X := by
        intro X hX
        have e : K.sumT (oneAt s) (i + 1) = K.sumT (oneAt s) i + (if oneAt s i = true then K.fibL i else 0) := rfl
        have j3 : Ev (fun k => spec_TakeFibonacci.j3 k s (K.fibs 30) (K.sumT (oneAt s) i) (i : Int) false) X := by
          apply K.Ev.succ
          by_cases h : bt s (i : Int) = 49
          · have w : K.Eqn (wrap64 (K.sumT (oneAt s) i + K.fibL i)) (K.sumT (oneAt s) (i + 1)) := ⟨by
              rw [e, if_pos (by unfold oneAt; exact decide_eq_true h)]
              have := (K.fibL_pos i).1
              exact K.w64 (by omega) (by omega)⟩
            simp only [spec_TakeFibonacci.j3, Bool.false_eq_true, if_false, if_pos (show (0 : Int) ≤ (i : Int) by omega), if_pos (show (i : Int) < (s.size : Int) by omega), if_pos h, K.fibs_length, if_pos (show (i : Int) < ((30 : Nat) : Int) by omega), K.rd_fibs h30i, w.out, K.w64s i (show i < 9223372036854775807 by omega)]
            exact hX
          · rw [if_neg (by unfold oneAt; rw [decide_eq_false h]; decide), Int.add_zero] at e
            rw [e] at hX
            simp only [spec_TakeFibonacci.j3, Bool.false_eq_true, if_false, if_pos (show (0 : Int) ≤ (i : Int) by omega), if_pos (show (i : Int) < (s.size : Int) by omega), if_neg h, K.w64s i (show i < 9223372036854775807 by omega)]
            exact hX
        refine enter2 X ?_
        apply K.Ev.succ
        by_cases h : bt s (i : Int) = 49
        · by_cases i0 : (i : Int) > 0
          · obtain ⟨u, rfl⟩ : ∃ u, i = u + 1 := ⟨i - 1, by omega⟩
            have wp := K.w64p u (show u < 9223372036854775807 by omega)
            have ne : ¬ bt s (u : Int) = 49 := fun q => pr ⟨by omega, by rw [show u + 1 - 1 = u by omega]; exact ⟨by omega, q, h⟩⟩
            simp only [spec_TakeFibonacci.j2, Bool.false_eq_true, if_false, if_pos (show (0 : Int) ≤ ((u + 1 : Nat) : Int) by omega), if_pos (show ((u + 1 : Nat) : Int) < (s.size : Int) by omega), if_pos h, if_pos i0, wp, if_pos (show (0 : Int) ≤ (u : Int) by omega), if_pos (show (u : Int) < (s.size : Int) by omega), beq_eq_false_iff_ne.2 ne]
            exact j3
          · simp only [spec_TakeFibonacci.j2, Bool.false_eq_true, if_false, if_pos (show (0 : Int) ≤ (i : Int) by omega), if_pos (show (i : Int) < (s.size : Int) by omega), if_pos h, if_neg i0]
            exact j3
        · simp only [spec_TakeFibonacci.j2, Bool.false_eq_true, if_false, if_pos (show (0 : Int) ≤ (i : Int) by omega), if_pos (show (i : Int) < (s.size : Int) by omega), if_neg h]
          exact j3
      rcases ih (i + 1) (by omega) hb2 hp2 with ⟨u, u1, u2, u3, u4⟩ | ⟨u, u1, u2, u3, u4, u5⟩ | ⟨u1, u2⟩
      · exact Or.inl ⟨u, u1, u2, u3, on _ u4⟩
      · exact Or.inr (Or.inl ⟨u, u1, u2, u3, u4, on _ u5⟩)
      · exact Or.inr (Or.inr ⟨u1, on _ u2⟩)
/-- What the program answers where 11 stands first at e. -/
theorem impl_at (s : ByteArray) (hsz : s.size ≤ 1048576) (e : Nat) (he : e ≤ 28) (pr : pairAt s e) (hn : ∀ j, j < e → ¬ pairAt s j) :
    ((∀ j, j < e + 2 → bitAt s j) → Ev (fun k => impl_TakeFibonacci.l0 k s (e : Int) (K.fibs 29) 0 ((e + 1 : Nat) : Int) 0) (if 1 ≤ K.sumT (oneAt s) (e + 1) ∧ K.sumT (oneAt s) (e + 1) ≤ 1000000 then (K.sumT (oneAt s) (e + 1), ((e + 2 : Nat) : Int), true) else (0, 0, false))) ∧
    ((∃ j, j < e + 2 ∧ ¬ bitAt s j) → Ev (fun k => impl_TakeFibonacci.l0 k s (e : Int) (K.fibs 29) 0 ((e + 1 : Nat) : Int) 0) (0, 0, false)) := by
  let b : Nat → Bool := fun j => decide (j ≤ e) && oneAt s j
  have bl : ∀ j, j ≤ e → b j = oneAt s j := fun j hj => by show (decide (j ≤ e) && oneAt s j) = _; rw [decide_eq_true hj, Bool.true_and]
  have ba : ∀ j, e < j → b j = false := fun j hj => by show (decide (j ≤ e) && oneAt s j) = _; rw [decide_eq_false (by omega), Bool.false_and]
  have one_e : oneAt s e = true := decide_eq_true pr.2.1
  have sep : K.Sep b 29 := fun j hj h => by
    rcases Nat.lt_or_ge e (j + 1) with q | q
    · have := ba (j + 1) q
      rw [this] at h
      exact absurd h.2 (by decide)
    · rw [bl j (by omega), bl (j + 1) q] at h
      exact hn j (by omega) ⟨by have := pr.1; omega, of_decide_eq_true h.1, of_decide_eq_true h.2⟩
  have h29 := K.fibL_29
  have es : ∀ i, i ≤ e + 1 → K.sumT b i = K.sumT (oneAt s) i := fun i hi => K.sumT_same i (fun j hj => bl j (by omega))
  have et : K.sumT b 29 = K.sumT (oneAt s) (e + 1) := by
    have := K.sumT_above ba (28 - e)
    rw [show e + 1 + (28 - e) = 29 by omega] at this
    rw [this, es _ (Nat.le_refl _)]
  have hpr := pr.1
  have loop : ∀ X, Ev (fun k => impl_TakeFibonacci.l0 k s (e : Int) (K.fibs 29) (K.sumT (oneAt s) (e + 1)) ((e + 1 : Nat) : Int) ((e + 1 : Nat) : Int)) X → Ev (fun k => impl_TakeFibonacci.l0 k s (e : Int) (K.fibs 29) 0 ((e + 1 : Nat) : Int) 0) X := by
    intro X hX
    have key : ∀ (d i : Nat), i + d = e + 1 → Ev (fun k => impl_TakeFibonacci.l0 k s (e : Int) (K.fibs 29) (K.sumT (oneAt s) i) ((e + 1 : Nat) : Int) (i : Int)) X := by
      intro d
      induction d with
      | zero =>
        intro i hi
        obtain rfl : i = e + 1 := by omega
        exact hX
      | succ d ih =>
        intro i hi
        have lt := (K.sumT_lt b i (sep.less (by omega))).1
        rw [es i (by omega)] at lt
        have m29 := K.fibL_mono (show i ≤ 29 by omega)
        have p := (K.fibL_pos i).1
        have hx := ih (i + 1) (by omega)
        have e2 : K.sumT (oneAt s) (i + 1) = K.sumT (oneAt s) i + (if oneAt s i = true then K.fibL i else 0) := rfl
        apply K.Ev.succ
        by_cases h : bt s (i : Int) = 49
        · rw [if_pos (by unfold oneAt; exact decide_eq_true h)] at e2
          have w : K.Eqn (wrap64 (K.sumT (oneAt s) i + K.fibL i)) (K.sumT (oneAt s) (i + 1)) := ⟨by rw [e2]; exact K.w64 (by omega) (by omega)⟩
          simp only [impl_TakeFibonacci.l0, if_pos (show (i : Int) < ((e + 1 : Nat) : Int) by omega), if_pos (show (0 : Int) ≤ (i : Int) by omega), if_pos (show (i : Int) < (s.size : Int) by omega), if_pos h, K.fibs_length, if_pos (show (i : Int) < ((29 : Nat) : Int) by omega), K.rd_fibs (show i < 29 by omega), w.out, K.w64s i (show i < 9223372036854775807 by omega)]
          exact hx
        · rw [if_neg (by unfold oneAt; rw [decide_eq_false h]; decide), Int.add_zero] at e2
          rw [e2] at hx
          simp only [impl_TakeFibonacci.l0, if_pos (show (i : Int) < ((e + 1 : Nat) : Int) by omega), if_pos (show (0 : Int) ≤ (i : Int) by omega), if_pos (show (i : Int) < (s.size : Int) by omega), if_neg h, K.w64s i (show i < 9223372036854775807 by omega)]
          exact hx
    exact key (e + 1) 0 (by omega)
  have we : K.Eqn (wrap64 ((e : Int) + 2)) ((e + 2 : Nat) : Int) := ⟨by rw [K.w64 (by omega) (by omega)]; omega⟩
  have dl : (K.digB b (e + 1) ++ [49]).length = e + 2 := by rw [List.length_append, K.digB_len]; rfl
  have xs : (s.extract 0 (e + 2)).size = e + 2 := by rw [ByteArray.size_extract]; omega
  have xb : ∀ j, j < e + 2 → (bytesOf (s.extract 0 (e + 2)))[j]? = some (bt s (j : Int)) := by
    intro j hj
    have h1 : bytesOf (s.extract 0 (e + 2)) = (bytesOf s).take (e + 2) := by simp [bytesOf, ByteArray.data_extract]
    have h2 := bytesOf_length s
    rw [h1, List.getElem?_take, if_pos hj, K.bt_bytes, List.getD_eq_getElem?_getD, List.getElem?_eq_getElem (show j < (bytesOf s).length by omega)]
    rfl
  have db : ∀ j, j < e + 2 → (K.digB b (e + 1) ++ [49])[j]? = some (if bt s (j : Int) = 49 then 49 else 48) := by
    intro j hj
    rcases Nat.lt_or_ge j (e + 1) with q | q
    · rw [List.getElem?_append_left (by rw [K.digB_len]; exact q)]
      have : b j = oneAt s j := bl j (by omega)
      simp only [K.digB, List.getElem?_map, List.getElem?_range q, Option.map_some, this]
      unfold oneAt
      by_cases h : bt s (j : Int) = 49 <;> simp [h]
    · obtain rfl : j = e + 1 := by omega
      rw [List.getElem?_append_right (by rw [K.digB_len]; omega), K.digB_len, Nat.sub_self, if_pos pr.2.2]
      rfl
  have rng : ∀ x ∈ K.digB b (e + 1) ++ [49], 0 ≤ x ∧ x ≤ 255 := by
    intro x hx
    obtain ⟨j, hj, rfl⟩ := List.mem_iff_getElem.1 hx
    have := db j (by omega)
    rw [List.getElem?_eq_getElem hj] at this
    rw [Option.some.inj this]
    split <;> decide
  have bs : bytesOf (strOfNums (K.digB b (e + 1) ++ [49])) = K.digB b (e + 1) ++ [49] := K.bytesOf_strOf _ rng
  constructor
  · intro hb
    refine loop _ ?_
    apply K.Ev.succ
    simp only [impl_TakeFibonacci.l0, if_neg (show ¬ ((e + 1 : Nat) : Int) < ((e + 1 : Nat) : Int) by omega), (number_in (K.sumT (oneAt s) (e + 1))).2, Option.bind_some]
    by_cases q : 1 ≤ K.sumT (oneAt s) (e + 1) ∧ K.sumT (oneAt s) (e + 1) ≤ 1000000
    · rw [if_pos q]
      simp only [decide_eq_true q, if_true]
      have zf := zfib_ev b e he sep (by rw [bl e (Nat.le_refl _)]; exact one_e) ba (by rw [et]; exact q.2)
      rw [et] at zf
      refine Ev.bind zf ?_
      have same : strOfNums (K.digB b (e + 1) ++ [49]) = s.extract 0 (e + 2) := by
        rw [← K.strOf_bytesOf (s.extract 0 (e + 2))]
        congr 1
        apply List.ext_getElem?
        intro j
        rcases Nat.lt_or_ge j (e + 2) with u | u
        · rw [db j u, xb j u]
          rcases hb j u with h | h <;> rw [h] <;> rfl
        · rw [List.getElem?_eq_none (by omega), List.getElem?_eq_none (by rw [bytesOf_length]; omega)]
      simp only [we.out, if_pos (show (0 : Int) ≤ ((e + 2 : Nat) : Int) by omega), if_pos (show ((e + 2 : Nat) : Int) ≤ (s.size : Int) by omega), Int.toNat_natCast, same, if_true]
      exact Ev.now _
    · rw [if_neg q]
      simp only [decide_eq_false q, Bool.false_eq_true, if_false]
      exact Ev.now _
  · rintro ⟨j, hj, hbj⟩
    refine loop _ ?_
    apply K.Ev.succ
    simp only [impl_TakeFibonacci.l0, if_neg (show ¬ ((e + 1 : Nat) : Int) < ((e + 1 : Nat) : Int) by omega), (number_in (K.sumT (oneAt s) (e + 1))).2, Option.bind_some]
    by_cases q : 1 ≤ K.sumT (oneAt s) (e + 1) ∧ K.sumT (oneAt s) (e + 1) ≤ 1000000
    · simp only [decide_eq_true q, if_true]
      have zf := zfib_ev b e he sep (by rw [bl e (Nat.le_refl _)]; exact one_e) ba (by rw [et]; exact q.2)
      rw [et] at zf
      refine Ev.bind zf ?_
      have other : ¬ (strOfNums (K.digB b (e + 1) ++ [49])).toList = (s.extract 0 (e + 2)).toList := by
        intro h
        rw [K.toList_data, K.toList_data] at h
        have h2 : bytesOf (strOfNums (K.digB b (e + 1) ++ [49])) = bytesOf (s.extract 0 (e + 2)) := by unfold bytesOf; rw [h]
        rw [bs] at h2
        have h3 := db j hj
        rw [h2, xb j hj] at h3
        have h4 := Option.some.inj h3
        apply hbj
        by_cases u : bt s (j : Int) = 49
        · exact Or.inr u
        · rw [if_neg u] at h4; exact Or.inl h4
      simp only [we.out, if_pos (show (0 : Int) ≤ ((e + 2 : Nat) : Int) by omega), if_pos (show ((e + 2 : Nat) : Int) ≤ (s.size : Int) by omega), Int.toNat_natCast, if_neg other]
      exact Ev.now _
    · simp only [decide_eq_false q, Bool.false_eq_true, if_false]
      exact Ev.now _
theorem take_same (s : ByteArray) (hsz : s.size ≤ 1048576) : ∃ r : Int × Int × Bool, Ev (fun k => spec_TakeFibonacci.f k s) r ∧ Ev (fun k => impl_TakeFibonacci.f k s) r := by
  have sp : ∀ X, Ev (fun k => spec_TakeFibonacci.l0 k s (K.fibs 30) (K.sumT (oneAt s) 0) ((0 : Nat) : Int)) X → Ev (fun k => spec_TakeFibonacci.f k s) X := by
    intro X hX
    simp only [spec_TakeFibonacci.f]
    exact Ev.bind row30 hX
  have two : (⟨#[49, 49]⟩ : ByteArray).data.toList = [49, 49] := rfl
  have no : ∀ i : Int, Lib.index s.data.toList [49, 49] = i → (i < 0 ∨ 29 ≤ i) → Ev (fun k => impl_TakeFibonacci.f k s) (0, 0, false) := by
    intro i hi h
    have j0 : Ev (fun k => impl_TakeFibonacci.j0 k s i (K.fibs 29) true) (0, 0, false) := by
      apply K.Ev.succ
      simp only [impl_TakeFibonacci.j0, if_true]
      exact Ev.now _
    simp only [impl_TakeFibonacci.f, strings_Index.f, if_pos (show s.size < 4294967281 by omega), two, hi, Option.bind_some]
    refine Ev.bind sequence_ev ?_
    by_cases q : i < 0
    · simp only [if_pos q]; exact j0
    · simp only [if_neg q, K.fibs_length, decide_eq_true (show i ≥ ((29 : Nat) : Int) by omega)]; exact j0
  have yes : ∀ e : Nat, Lib.index s.data.toList [49, 49] = (e : Int) → e ≤ 28 → ∀ X, Ev (fun k => impl_TakeFibonacci.l0 k s (e : Int) (K.fibs 29) 0 ((e + 1 : Nat) : Int) 0) X → Ev (fun k => impl_TakeFibonacci.f k s) X := by
    intro e hi h X hX
    simp only [impl_TakeFibonacci.f, strings_Index.f, if_pos (show s.size < 4294967281 by omega), two, hi, Option.bind_some]
    refine Ev.bind sequence_ev ?_
    simp only [if_neg (show ¬ (e : Int) < 0 by omega), K.fibs_length, decide_eq_false (show ¬ (e : Int) ≥ ((29 : Nat) : Int) by omega)]
    apply K.Ev.succ
    simp only [impl_TakeFibonacci.j0, Bool.false_eq_true, if_false, K.w64s e (show e < 9223372036854775807 by omega)]
    exact hX
  rcases pair_least s s.size with ⟨e, _, pr, hn⟩ | none_
  · have ix := index_at s e pr hn
    have hpr := pr.1
    rcases spec_ends s hsz (min s.size 30) 0 (by omega) (fun j hj => by omega) (fun j hj => by omega) with ⟨u, u1, u2, u3, u4⟩ | ⟨u, u1, u2, u3, u4, u5⟩ | ⟨u1, u2⟩
    · refine ⟨_, sp _ u4, ?_⟩
      by_cases he : e ≤ 28
      · refine yes e ix he _ ((impl_at s hsz e he pr hn).2 ⟨u, ?_, u3⟩)
        rcases Nat.lt_or_ge u (e + 2) with q | q
        · exact q
        · exact absurd pr (u2 e (by omega))
      · exact no e ix (Or.inr (by omega))
    · have : e = u := by
        rcases Nat.lt_trichotomy e u with q | q | q
        · exact absurd pr (u4 e q)
        · exact q
        · exact absurd u3 (hn u q)
      subst this
      exact ⟨_, sp _ u5, yes e ix (by omega) _ ((impl_at s hsz e (by omega) pr hn).1 u2)⟩
    · refine ⟨_, sp _ u2, ?_⟩
      refine no e ix (Or.inr ?_)
      rcases Nat.lt_or_ge (e + 1) (min s.size 30) with q | q
      · exact absurd pr (u1 e q)
      · omega
  · have none2 : ∀ j, ¬ pairAt s j := fun j h => none_ j (by have := h.1; omega) h
    have ix := index_no s none2
    rcases spec_ends s hsz (min s.size 30) 0 (by omega) (fun j hj => by omega) (fun j hj => by omega) with ⟨u, u1, u2, u3, u4⟩ | ⟨u, u1, u2, u3, u4, u5⟩ | ⟨u1, u2⟩
    · exact ⟨_, sp _ u4, no _ ix (Or.inl (by omega))⟩
    · exact absurd u3 (none2 u)
    · exact ⟨_, sp _ u2, no _ ix (Or.inl (by omega))⟩
theorem FnExactTakeFibonacci : laws_FnExactTakeFibonacci.Pure := by
  intro s hs
  refine Ev.rounds (?_ : Ev (fun k => laws_FnExactTakeFibonacci.f k s) true)
  unfold laws_FnExactTakeFibonacci.f
  by_cases h : (s.size : Int) > 1048576
  · simp only [if_pos h]; exact Ev.now _
  simp only [if_neg h]
  obtain ⟨r, e1, e2⟩ := take_same s (by omega)
  refine Ev.bind e1 ?_
  refine Ev.bind e2 ?_
  simp only [if_true, bne_self_eq_false, Bool.false_eq_true, if_false]
  exact Ev.now _

end Go.Proofs.Ytekaaoeojbclfaa.Pure
