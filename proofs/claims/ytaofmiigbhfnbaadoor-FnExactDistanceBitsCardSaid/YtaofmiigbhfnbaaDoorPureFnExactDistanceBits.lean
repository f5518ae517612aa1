/- The law FnExactDistanceBits answers true for every two strings: the program counts the unlike bits just as the reference does. -/
import Derived.Test.YtaofmiigbhfnbaaDoorPFnExactDistanceBitsx1
import Derived.Test.YtaofmiigbhfnbaaDoorKKit
import Derived.Test.YtaofmiigbhfnbaaDoorKVit
set_option linter.unusedVariables false
set_option linter.unusedSimpArgs false
namespace Go.Proofs.YtaofmiigbhfnbaaDoor.Pure
open Go Go.RowKit Go.Proofs.YtaofmiigbhfnbaaDoor Go.Proofs.YtaofmiigbhfnbaaDoor.PFnExactDistanceBits Go.Proofs.YtaofmiigbhfnbaaDoorW.PrintWords Go.Proofs.YtaofmiigbhfnbaaDoorW.PrintLast Go.Proofs.YtaofmiigbhfnbaaDoorW.PrintMore

theorem l10Bits_ev (s : ByteArray) (hs : s.size ≤ 140737488351232) (m : Int) : Ev (fun k => spec_l10Bits.f k s m) (K.bitsB s && decide ((s.size : Int) ≤ m)) := by
  have key : ∀ (d n : Nat), n + d = s.size → Ev (fun k => spec_l10Bits.l0 k s m (n : Int)) (((bytesOf s).drop n).all (fun x => x == 48 || x == 49) && decide ((s.size : Int) ≤ m)) := by
    intro d
    induction d with
    | zero =>
      intro n h
      apply K.Ev.succ
      simp only [spec_l10Bits.l0, if_neg (show ¬ ((n : Int) < (s.size : Int)) by omega)]
      rw [List.drop_of_length_le (by rw [bytesOf_length]; omega), List.all_nil, Bool.true_and]
      exact Ev.now _
    | succ d ih =>
      intro n h
      have hn : n < s.size := by omega
      have r := ih (n + 1) (by omega)
      have ws := K.w64s n (show n < 9223372036854775807 by omega)
      rw [K.drop_bytes s n hn, List.all_cons]
      apply K.Ev.succ
      by_cases h0 : bt s (n : Int) = 48
      · have e : (bt s (n : Int) == 48 || bt s (n : Int) == 49) = true := by simp [h0]
        rw [e, Bool.true_and]
        simp only [spec_l10Bits.l0, if_pos (show (n : Int) < (s.size : Int) by omega), if_pos (show (0 : Int) ≤ (n : Int) by omega), if_pos h0, ws]; exact r
      · by_cases h1 : bt s (n : Int) = 49
        · have e : (bt s (n : Int) == 48 || bt s (n : Int) == 49) = true := by simp [h1]
          rw [e, Bool.true_and]
          simp only [spec_l10Bits.l0, if_pos (show (n : Int) < (s.size : Int) by omega), if_pos (show (0 : Int) ≤ (n : Int) by omega), if_neg h0, if_pos h1, ws]; exact r
        · have e : (bt s (n : Int) == 48 || bt s (n : Int) == 49) = false := by simp [h0, h1]
          rw [e, Bool.false_and, Bool.false_and]
          simp only [spec_l10Bits.l0, if_pos (show (n : Int) < (s.size : Int) by omega), if_pos (show (0 : Int) ≤ (n : Int) by omega), if_neg h0, if_neg h1]; exact Ev.now _
  have := key s.size 0 (by omega)
  rw [List.drop_zero] at this
  simp only [spec_l10Bits.f]
  exact this

theorem l10Unlike_ev (a b : ByteArray) (ha : a.size ≤ 140737488351232) (h : a.size ≤ b.size) : Ev (fun k => spec_l10Unlike.f k a b) ((K.ham (bytesOf a) (bytesOf b) : Nat) : Int) := by
  have key : ∀ (d n c : Nat), n + d = a.size → c ≤ n → Ev (fun k => spec_l10Unlike.l0 k a b (c : Int) (n : Int)) ((c + K.ham ((bytesOf a).drop n) ((bytesOf b).drop n) : Nat) : Int) := by
    intro d
    induction d with
    | zero =>
      intro n c h1 h2
      apply K.Ev.succ
      simp only [spec_l10Unlike.l0, if_neg (show ¬ ((n : Int) < (a.size : Int)) by omega)]
      rw [List.drop_of_length_le (show (bytesOf a).length ≤ n by rw [bytesOf_length]; omega)]
      exact Ev.now _
    | succ d ih =>
      intro n c h1 h2
      have hn : n < a.size := by omega
      have hn2 : n < b.size := by omega
      have ws := K.w64s n (show n < 9223372036854775807 by omega)
      have wc := K.w64s c (show c < 9223372036854775807 by omega)
      have c1 : (n : Int) < (a.size : Int) := by omega
      have c2 : (0 : Int) ≤ (n : Int) := by omega
      have c3 : (n : Int) < (b.size : Int) := by omega
      rw [K.drop_bytes a n hn, K.drop_bytes b n hn2]
      apply K.Ev.succ
      by_cases he : bt a (n : Int) = bt b (n : Int)
      · have r := ih (n + 1) c (by omega) (by omega)
        simp only [spec_l10Unlike.l0, if_pos c1, if_pos c2, if_pos c3, if_pos he, ws, K.ham, Nat.zero_add]; exact r
      · have r := ih (n + 1) (c + 1) (by omega) (by omega)
        simp only [spec_l10Unlike.l0, if_pos c1, if_pos c2, if_pos c3, if_neg he, ws, wc, K.ham, ← Nat.add_assoc]; exact r
  have := key a.size 0 0 (by omega) (by omega)
  simp only [List.drop_zero, Nat.zero_add] at this
  simp only [spec_l10Unlike.f]
  exact this

theorem dropWhile_nil {p : UInt8 → Bool} : ∀ l : List UInt8, l.dropWhile p = [] ↔ l.all p = true
  | [] => by simp
  | b :: l => by
    rw [List.dropWhile_cons, List.all_cons]
    by_cases h : p b = true
    · rw [if_pos h, h, Bool.true_and]; exact dropWhile_nil l
    · rw [if_neg h]
      have : p b = false := by simpa using h
      simp [this]
theorem trimS_nil (l cs : List UInt8) : Lib.trimS l cs = [] ↔ l.all (cs.contains ·) = true := by
  unfold Lib.trimS Lib.trimLeftS Lib.trimRightS
  rw [dropWhile_nil, List.all_reverse]
  constructor
  · intro h
    have : (l.reverse.dropWhile (cs.contains ·)) = [] := by
      cases hd : l.reverse.dropWhile (cs.contains ·) with
      | nil => rfl
      | cons b r =>
        have h1 : cs.contains b = true := by rw [hd, List.all_cons, Bool.and_eq_true] at h; exact h.1
        have h2 := List.head?_dropWhile_not (cs.contains ·) l.reverse
        rw [hd] at h2
        simp only [List.head?_cons] at h2
        rw [h1] at h2
        exact absurd h2 (by simp)
    rw [dropWhile_nil, List.all_reverse] at this
    exact this
  · intro h
    have : (l.reverse.dropWhile (cs.contains ·)) = [] := by rw [dropWhile_nil, List.all_reverse]; exact h
    rw [this]; rfl
theorem areBits_eq (s : ByteArray) (hs : s.size ≤ 140737488351232) (m : Int) : impl_areBits.f s m = some (K.bitsB s && decide ((s.size : Int) ≤ m)) := by
  unfold impl_areBits.f
  by_cases h : (s.size : Int) ≤ m
  · rw [if_pos h, decide_eq_true h, Bool.and_true]
    have c2 : (⟨#[48, 49]⟩ : ByteArray).data.toList.all (fun b => decide (b.toNat < 128)) = true := by decide
    have c3 : (⟨#[48, 49]⟩ : ByteArray).size < 4294967281 := by decide
    simp only [strings_Trim.f, if_pos (show s.size ≤ 9223372036854775807 by omega), if_pos c2, if_pos c3, Option.bind_some, K.toList_data]
    congr 1
    rw [Bool.eq_iff_iff, beq_iff_eq]
    show Lib.trimS s.data.toList [48, 49] = [] ↔ _
    rw [trimS_nil]
    unfold K.bitsB bytesOf
    rw [List.all_map]
    have e : ∀ b : UInt8, ([48, 49] : List UInt8).contains b = ((fun x : Int => x == 48 || x == 49) ∘ fun b : UInt8 => (b.toNat : Int)) b := by
      intro b
      have hb : b = UInt8.ofNat b.toNat := by simp
      have h : ∀ n : Fin 256, ([48, 49] : List UInt8).contains (UInt8.ofNat n.val) = ((((UInt8.ofNat n.val).toNat : Int) == 48) || (((UInt8.ofNat n.val).toNat : Int) == 49)) := by decide +kernel
      rw [hb]
      exact h ⟨b.toNat, b.toNat_lt⟩
    simp only [e]
  · rw [if_neg h, decide_eq_false h, Bool.and_false]

theorem distance_ev (a b : ByteArray) (ha : a.size ≤ 140737488351232) (h : a.size ≤ b.size) : Ev (fun k => impl_distance.f k a b) ((K.ham (bytesOf a) (bytesOf b) : Nat) : Int) := by
  have key : ∀ (d n c : Nat), n + d = a.size → c ≤ n → Ev (fun k => impl_distance.l0 k a b (c : Int) (a.size : Int) (n : Int)) ((c + K.ham ((bytesOf a).drop n) ((bytesOf b).drop n) : Nat) : Int) := by
    intro d
    induction d with
    | zero =>
      intro n c h1 h2
      apply K.Ev.succ
      simp only [impl_distance.l0, if_neg (show ¬ ((n : Int) < (a.size : Int)) by omega)]
      rw [List.drop_of_length_le (show (bytesOf a).length ≤ n by rw [bytesOf_length]; omega)]
      exact Ev.now _
    | succ d ih =>
      intro n c h1 h2
      have hn : n < a.size := by omega
      have hn2 : n < b.size := by omega
      have ws := K.w64s n (show n < 9223372036854775807 by omega)
      have wc := K.w64s c (show c < 9223372036854775807 by omega)
      have c1 : (n : Int) < (a.size : Int) := by omega
      have c2 : (0 : Int) ≤ (n : Int) := by omega
      have c3 : (n : Int) < (b.size : Int) := by omega
      rw [K.drop_bytes a n hn, K.drop_bytes b n hn2]
      apply K.Ev.succ
      by_cases he : bt a (n : Int) = bt b (n : Int)
      · have r := ih (n + 1) c (by omega) (by omega)
        simp only [impl_distance.l0, if_pos c1, if_pos c2, if_pos c3, if_pos he, ws, K.ham, Nat.zero_add]; exact r
      · have r := ih (n + 1) (c + 1) (by omega) (by omega)
        simp only [impl_distance.l0, if_pos c1, if_pos c2, if_pos c3, if_neg he, ws, wc, K.ham, ← Nat.add_assoc]; exact r
  have := key a.size 0 0 (by omega) (by omega)
  simp only [List.drop_zero, Nat.zero_add] at this
  simp only [impl_distance.f]
  exact this

theorem FnExactDistanceBits : laws_FnExactDistanceBits.Pure := by
  intro a b ha hb
  refine Ev.rounds (?_ : Ev (fun k => laws_FnExactDistanceBits.f k a b) true)
  unfold laws_FnExactDistanceBits.f
  by_cases h1 : (a.size : Int) > 1048576
  · simp only [if_pos h1]; exact Ev.now _
  by_cases h2 : (b.size : Int) > 1048576
  · simp only [if_neg h1, if_pos h2]; exact Ev.now _
  simp only [if_neg h1, if_neg h2]
  have : ∃ r : Int × Bool, Ev (fun k => spec_DistanceBits.f k a b) r ∧ Ev (fun k => impl_DistanceBits.f k a b) r := by
    have s1 := l10Bits_ev a ha 96
    have s2 := l10Bits_ev b hb 96
    have i1 := areBits_eq a ha 96
    have i2 := areBits_eq b hb 96
    generalize (K.bitsB a && decide ((a.size : Int) ≤ 96)) = p at s1 i1
    generalize (K.bitsB b && decide ((b.size : Int) ≤ 96)) = q at s2 i2
    cases p with
    | false =>
      refine ⟨(0, false), ?_, ?_⟩
      · simp only [spec_DistanceBits.f]; refine Ev.bind s1 ?_; simp only [Bool.false_eq_true, if_false]; exact Ev.now _
      · simp only [impl_DistanceBits.f, i1, Option.bind_some, Bool.false_eq_true, if_false]; exact Ev.now _
    | true =>
      cases q with
      | false =>
        refine ⟨(0, false), ?_, ?_⟩
        · simp only [spec_DistanceBits.f]; refine Ev.bind s1 ?_; simp only [if_true]; refine Ev.bind s2 ?_; simp only [Bool.false_eq_true, if_false]; exact Ev.now _
        · simp only [impl_DistanceBits.f, i1, i2, Option.bind_some, Bool.false_eq_true, if_false, if_true]; exact Ev.now _
      | true =>
        by_cases hl : (a.size : Int) = (b.size : Int)
        · refine ⟨(((K.ham (bytesOf a) (bytesOf b) : Nat) : Int), true), ?_, ?_⟩
          · simp only [spec_DistanceBits.f]; refine Ev.bind s1 ?_; simp only [if_true]; refine Ev.bind s2 ?_; simp only [if_true, if_pos hl]
            exact Ev.bind (l10Unlike_ev a b ha (by omega)) (Ev.now _)
          · simp only [impl_DistanceBits.f, i1, i2, Option.bind_some, if_true, if_pos hl]
            exact Ev.bind (distance_ev a b ha (by omega)) (Ev.now _)
        · refine ⟨(0, false), ?_, ?_⟩
          · simp only [spec_DistanceBits.f]; refine Ev.bind s1 ?_; simp only [if_true]; refine Ev.bind s2 ?_; simp only [if_true, if_neg hl]; exact Ev.now _
          · simp only [impl_DistanceBits.f, i1, i2, Option.bind_some, if_true, if_neg hl]; exact Ev.now _
  obtain ⟨r, e1, e2⟩ := this
  refine Ev.bind e1 ?_
  refine Ev.bind e2 ?_
  simp only [if_true, bne_self_eq_false, Bool.false_eq_true, if_false]
  exact Ev.now _

end Go.Proofs.YtaofmiigbhfnbaaDoor.Pure
