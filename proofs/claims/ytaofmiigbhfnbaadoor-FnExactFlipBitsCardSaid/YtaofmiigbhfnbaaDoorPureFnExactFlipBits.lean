/- The law FnExactFlipBits answers true for every string and every slice of places: the program flips bits just as the reference does, and the slice stays. -/
import Derived.Test.YtaofmiigbhfnbaaDoorPFnExactFlipBitsx2
import Derived.Test.YtaofmiigbhfnbaaDoorKKit
import Derived.Test.YtaofmiigbhfnbaaDoorKVit
set_option linter.unusedVariables false
set_option linter.unusedSimpArgs false
namespace Go.Proofs.YtaofmiigbhfnbaaDoor.Pure
open Go Go.RowKit Go.Proofs.YtaofmiigbhfnbaaDoor Go.Proofs.YtaofmiigbhfnbaaDoor.PFnExactFlipBits Go.Proofs.YtaofmiigbhfnbaaDoorW.PrintWords Go.Proofs.YtaofmiigbhfnbaaDoorW.PrintLast Go.Proofs.YtaofmiigbhfnbaaDoorW.PrintMore

theorem l10Bits_ev (s : ByteArray) (hs : s.size ≤ 140737488351232) (m : Int) : Ev (fun k => spec_l10Bits.f k s m) (K.bitsB s && decide ((s.size : Int) ≤ m)) := by
  have key : ∀ (d n : Nat), n + d = s.size → Ev (fun k => spec_l10Bits.l0 k s m (n : Int)) (((bytesOf s).drop n).all (fun x => x == 48 || x == 49) && decide ((s.size : Int) ≤ m)) := by
    intro d
    induction d with
    | zero =>
      intro n h
      apply K.Ev.succ
      simp only [spec_l10Bits.l0, if_neg (show ¬ ((n : Int) < (s.size : Int)) by omega)]
      rw [List.drop_of_length_le (by rw [bytesOf_length]; omega), List.all_nil, Bool.true_and]
      exact Ev.now _
    | succ d ih =>
      intro n h
      have hn : n < s.size := by omega
      have r := ih (n + 1) (by omega)
      have ws := K.w64s n (show n < 9223372036854775807 by omega)
      rw [K.drop_bytes s n hn, List.all_cons]
      apply K.Ev.succ
      by_cases h0 : bt s (n : Int) = 48
      · have e : (bt s (n : Int) == 48 || bt s (n : Int) == 49) = true := by simp [h0]
        rw [e, Bool.true_and]
        simp only [spec_l10Bits.l0, if_pos (show (n : Int) < (s.size : Int) by omega), if_pos (show (0 : Int) ≤ (n : Int) by omega), if_pos h0, ws]; exact r
      · by_cases h1 : bt s (n : Int) = 49
        · have e : (bt s (n : Int) == 48 || bt s (n : Int) == 49) = true := by simp [h1]
          rw [e, Bool.true_and]
          simp only [spec_l10Bits.l0, if_pos (show (n : Int) < (s.size : Int) by omega), if_pos (show (0 : Int) ≤ (n : Int) by omega), if_neg h0, if_pos h1, ws]; exact r
        · have e : (bt s (n : Int) == 48 || bt s (n : Int) == 49) = false := by simp [h0, h1]
          rw [e, Bool.false_and, Bool.false_and]
          simp only [spec_l10Bits.l0, if_pos (show (n : Int) < (s.size : Int) by omega), if_pos (show (0 : Int) ≤ (n : Int) by omega), if_neg h0, if_neg h1]; exact Ev.now _
  have := key s.size 0 (by omega)
  rw [List.drop_zero] at this
  simp only [spec_l10Bits.f]
  exact this


theorem laws_toIntS_ev (l : List Int) (hl : l.length ≤ 1048576) : Ev (fun k => laws_toIntS.f k l) (l) := by
  have key : ∀ (d n : Nat) (x : List _), n + d = l.length → x.length = l.length → x.take n = (l).take n → Ev (fun k => laws_toIntS.l0 k l x (n : Int)) (l) := by
    intro d
    induction d with
    | zero =>
      intro n x h1 h2 h3
      apply K.Ev.succ
      simp only [laws_toIntS.l0, if_neg (show ¬ ((n : Int) < (l.length : Int)) by omega)]
      have e : x = (l) := by
        rw [List.take_of_length_le (by omega), List.take_of_length_le (by first | omega | (simp; omega))] at h3; exact h3
      rw [e]; exact Ev.now _
    | succ d ih =>
      intro n x h1 h2 h3
      apply K.Ev.succ
      have hn : n < l.length := by omega
      simp only [laws_toIntS.l0, if_pos (show (n : Int) < (l.length : Int) by omega), if_pos (show (0 : Int) ≤ (n : Int) by omega), if_pos (show (n : Int) < (x.length : Int) by omega), Int.toNat_natCast]
      
      rw [K.w64s n (by omega)]
      refine ih (n + 1) _ (by omega) (by simpa using h2) ?_
      rw [K.take_set _ _ _ (by omega), K.take_succ' (l) n (by simpa using hn), h3]
      rw [K.rd_nat hn]
  unfold laws_toIntS.f
  have z1 : (l.length ≤ 281474976710656) = True := eq_true (by omega)
  have z2 : (l.length ≤ 35184372088832) = True := eq_true (by omega)
  simp only [if_pos (show (0 : Int) ≤ (l.length : Int) by omega), Int.toNat_natCast, z1, z2, if_true]
  exact key l.length 0 _ (by omega) (by simp) (by simp)

theorem dropWhile_nil {p : UInt8 → Bool} : ∀ l : List UInt8, l.dropWhile p = [] ↔ l.all p = true
  | [] => by simp
  | b :: l => by
    rw [List.dropWhile_cons, List.all_cons]
    by_cases h : p b = true
    · rw [if_pos h, h, Bool.true_and]; exact dropWhile_nil l
    · rw [if_neg h]
      have : p b = false := by simpa using h
      simp [this]
theorem trimS_nil (l cs : List UInt8) : Lib.trimS l cs = [] ↔ l.all (cs.contains ·) = true := by
  unfold Lib.trimS Lib.trimLeftS Lib.trimRightS
  rw [dropWhile_nil, List.all_reverse]
  constructor
  · intro h
    have : (l.reverse.dropWhile (cs.contains ·)) = [] := by
      cases hd : l.reverse.dropWhile (cs.contains ·) with
      | nil => rfl
      | cons b r =>
        have h1 : cs.contains b = true := by rw [hd, List.all_cons, Bool.and_eq_true] at h; exact h.1
        have h2 := List.head?_dropWhile_not (cs.contains ·) l.reverse
        rw [hd] at h2
        simp only [List.head?_cons] at h2
        rw [h1] at h2
        exact absurd h2 (by simp)
    rw [dropWhile_nil, List.all_reverse] at this
    exact this
  · intro h
    have : (l.reverse.dropWhile (cs.contains ·)) = [] := by rw [dropWhile_nil, List.all_reverse]; exact h
    rw [this]; rfl
theorem areBits_eq (s : ByteArray) (hs : s.size ≤ 140737488351232) (m : Int) : impl_areBits.f s m = some (K.bitsB s && decide ((s.size : Int) ≤ m)) := by
  unfold impl_areBits.f
  by_cases h : (s.size : Int) ≤ m
  · rw [if_pos h, decide_eq_true h, Bool.and_true]
    have c2 : (⟨#[48, 49]⟩ : ByteArray).data.toList.all (fun b => decide (b.toNat < 128)) = true := by decide
    have c3 : (⟨#[48, 49]⟩ : ByteArray).size < 4294967281 := by decide
    simp only [strings_Trim.f, if_pos (show s.size ≤ 9223372036854775807 by omega), if_pos c2, if_pos c3, Option.bind_some, K.toList_data]
    congr 1
    rw [Bool.eq_iff_iff, beq_iff_eq]
    show Lib.trimS s.data.toList [48, 49] = [] ↔ _
    rw [trimS_nil]
    unfold K.bitsB bytesOf
    rw [List.all_map]
    have e : ∀ b : UInt8, ([48, 49] : List UInt8).contains b = ((fun x : Int => x == 48 || x == 49) ∘ fun b : UInt8 => (b.toNat : Int)) b := by
      intro b
      have hb : b = UInt8.ofNat b.toNat := by simp
      have h : ∀ n : Fin 256, ([48, 49] : List UInt8).contains (UInt8.ofNat n.val) = ((((UInt8.ofNat n.val).toNat : Int) == 48) || (((UInt8.ofNat n.val).toNat : Int) == 49)) := by decide +kernel
      rw [hb]
      exact h ⟨b.toNat, b.toNat_lt⟩
    simp only [e]
  · rw [if_neg h, decide_eq_false h, Bool.and_false]

/-- Numbers that rise, from 0 on, below another one. -/
def Inc (l : List Int) (n : Nat) : Prop := ∀ i (hi : i < l.length), (0 ≤ l[i] ∧ l[i] ≤ (n : Int) - 1) ∧ (0 < i → l[i - 1]'(by omega) < l[i])
theorem incr_ev (l : List Int) (n : Nat) (hl : l.length ≤ 1048576) (hn : n ≤ 140737488351232) : ∃ b : Bool, Ev (fun k => spec_l1Some.f k l (n : Int)) b ∧ Ev (fun k => impl_isIncreasing.f k l (n : Int)) b ∧ (b = true ↔ Inc l n) := by
  have w : K.Eqn (wrap64 ((n : Int) - 1)) ((n : Int) - 1) := ⟨K.w64 (by omega) (by omega)⟩
  have key : ∀ (d j : Nat), j + d = l.length → ∃ b : Bool, Ev (fun k => spec_l1Some.l0 k l (n : Int) l (l.length : Int) (j : Int)) b ∧ Ev (fun k => impl_isIncreasing.l0 k l (n : Int) l (l.length : Int) (j : Int)) b ∧ (b = true ↔ ∀ i (hi : i < l.length), j ≤ i → (0 ≤ l[i] ∧ l[i] ≤ (n : Int) - 1) ∧ (0 < i → l[i - 1]'(by omega) < l[i])) := by
    intro d
    induction d with
    | zero =>
      intro j h1
      refine ⟨true, ?_, ?_, ⟨fun _ i hi hj => by omega, fun _ => rfl⟩⟩ <;> apply K.Ev.succ
      · simp only [spec_l1Some.l0, if_neg (show ¬ ((j : Int) < (l.length : Int)) by omega)]; exact Ev.now _
      · simp only [impl_isIncreasing.l0, if_neg (show ¬ ((j : Int) < (l.length : Int)) by omega)]; exact Ev.now _
    | succ d ih =>
      intro j h1
      have hj : j < l.length := by omega
      have c1 : (j : Int) < (l.length : Int) := by omega
      have c2 : (0 : Int) ≤ (j : Int) := by omega
      have ws : K.Eqn (wrap64 ((j : Int) + 1)) ((j + 1 : Nat) : Int) := ⟨K.w64s j (by omega)⟩
      have hrd := K.rd_nat hj
      obtain ⟨b, i1, i2, i3⟩ := ih (j + 1) (by omega)
      by_cases hr : 0 ≤ l[j] ∧ l[j] ≤ (n : Int) - 1
      · have q : spec_l1In.f l[j] 0 ((n : Int) - 1) = some true := by unfold spec_l1In.f; rw [if_pos hr.1]; simp [hr.2]
        have q2 : impl_within.f l[j] 0 ((n : Int) - 1) = some true := q
        by_cases hz : j = 0
        · have c3 : ¬ (j : Int) > 0 := by omega
          refine ⟨b, ?_, ?_, ?_⟩
          · apply K.Ev.succ
            simp only [spec_l1Some.l0, if_pos c1, if_pos c2, hrd, w.out, q, Option.bind_some, if_true, if_neg c3, ws.out]; exact i1
          · apply K.Ev.succ
            simp only [impl_isIncreasing.l0, if_pos c1, if_pos c2, hrd, w.out, q2, Option.bind_some, if_true, if_neg c3, ws.out]; exact i2
          · rw [i3]
            refine ⟨fun h i hi hji => ?_, fun h i hi hji => h i hi (by omega)⟩
            by_cases e : i = j
            · subst e; exact ⟨hr, fun h => by omega⟩
            · exact h i hi (by omega)
        · have c3 : (j : Int) > 0 := by omega
          have hj1 : j - 1 < l.length := by omega
          have w1 : K.Eqn (wrap64 ((j : Int) - 1)) ((j - 1 : Nat) : Int) := ⟨by rw [K.w64 (by omega) (by omega)]; omega⟩
          have c4 : (0 : Int) ≤ ((j - 1 : Nat) : Int) := by omega
          have c5 : ((j - 1 : Nat) : Int) < (l.length : Int) := by omega
          have hrd1 := K.rd_nat hj1
          by_cases hlt : l[j - 1] < l[j]
          · have n1 : ¬ l[j - 1] ≥ l[j] := by omega
            have n2 : ¬ l[j] ≤ l[j - 1] := by omega
            refine ⟨b, ?_, ?_, ?_⟩
            · apply K.Ev.succ
              simp only [spec_l1Some.l0, if_pos c1, if_pos c2, hrd, w.out, q, Option.bind_some, if_true, if_pos c3, w1.out, if_pos c4, if_pos c5, hrd1, if_neg n1, ws.out]; exact i1
            · apply K.Ev.succ
              simp only [impl_isIncreasing.l0, if_pos c1, if_pos c2, hrd, w.out, q2, Option.bind_some, if_true, if_pos c3, w1.out, if_pos c4, if_pos c5, hrd1, if_neg n2, ws.out]; exact i2
            · rw [i3]
              refine ⟨fun h i hi hji => ?_, fun h i hi hji => h i hi (by omega)⟩
              by_cases e : i = j
              · subst e; exact ⟨hr, fun _ => hlt⟩
              · exact h i hi (by omega)
          · have n1 : l[j - 1] ≥ l[j] := by omega
            have n2 : l[j] ≤ l[j - 1] := by omega
            refine ⟨false, ?_, ?_, ⟨fun h => (by cases h), fun h => absurd ((h j hj (Nat.le_refl _)).2 (by omega)) hlt⟩⟩ <;> apply K.Ev.succ
            · simp only [spec_l1Some.l0, if_pos c1, if_pos c2, hrd, w.out, q, Option.bind_some, if_true, if_pos c3, w1.out, if_pos c4, if_pos c5, hrd1, if_pos n1]; exact Ev.now _
            · simp only [impl_isIncreasing.l0, if_pos c1, if_pos c2, hrd, w.out, q2, Option.bind_some, if_true, if_pos c3, w1.out, if_pos c4, if_pos c5, hrd1, if_pos n2]; exact Ev.now _
      · have q : spec_l1In.f l[j] 0 ((n : Int) - 1) = some false := by
          unfold spec_l1In.f; split
          · simp; omega
          · rfl
        have q2 : impl_within.f l[j] 0 ((n : Int) - 1) = some false := q
        refine ⟨false, ?_, ?_, ⟨fun h => (by cases h), fun h => absurd (h j hj (Nat.le_refl _)).1 hr⟩⟩ <;> apply K.Ev.succ
        · simp only [spec_l1Some.l0, if_pos c1, if_pos c2, hrd, w.out, q, Option.bind_some, Bool.false_eq_true, if_false]; exact Ev.now _
        · simp only [impl_isIncreasing.l0, if_pos c1, if_pos c2, hrd, w.out, q2, Option.bind_some, Bool.false_eq_true, if_false]; exact Ev.now _
  obtain ⟨b, i1, i2, i3⟩ := key l.length 0 (by omega)
  refine ⟨b, by simp only [spec_l1Some.f]; exact i1, by simp only [impl_isIncreasing.f]; exact i2, ?_⟩
  rw [i3]
  exact ⟨fun h i hi => h i hi (by omega), fun h i hi _ => h i hi⟩

/-- Digits with some flipped. -/
def flipL (x : List Int) (l : List Int) : List Int := l.foldl (fun x p => x.set p.toNat (Go.bits .xor .u8 (rd x p) 1)) x
theorem flipL_length : ∀ (l x : List Int), (flipL x l).length = x.length
  | [], _ => rfl
  | p :: l, x => by
    show (flipL (x.set p.toNat _) l).length = x.length
    rw [flipL_length l, List.length_set]
theorem flip_loops (l : List Int) (hl : l.length ≤ 1048576) (n : Nat) (hi : ∀ x ∈ l, 0 ≤ x ∧ x ≤ (n : Int) - 1) : ∀ (d j : Nat) (x : List Int), j + d = l.length → x.length = n → Ev (fun k => spec_FlipBits.l0 k x l (l.length : Int) (j : Int)) (strOfNums (flipL x (l.drop j)), true) ∧ Ev (fun k => impl_FlipBits.l0 k x l (l.length : Int) (j : Int)) (strOfNums (flipL x (l.drop j)), true) := by
  intro d
  induction d with
  | zero =>
    intro j x h1 h2
    rw [List.drop_of_length_le (by omega)]
    constructor <;> apply K.Ev.succ
    · simp only [spec_FlipBits.l0, if_neg (show ¬ ((j : Int) < (l.length : Int)) by omega)]; exact Ev.now _
    · simp only [impl_FlipBits.l0, if_neg (show ¬ ((j : Int) < (l.length : Int)) by omega)]; exact Ev.now _
  | succ d ih =>
    intro j x h1 h2
    have hj : j < l.length := by omega
    have hp := hi l[j] (List.getElem_mem hj)
    have c1 : (j : Int) < (l.length : Int) := by omega
    have c2 : (0 : Int) ≤ (j : Int) := by omega
    have c3 : l[j] < (x.length : Int) := by omega
    have ws : K.Eqn (wrap64 ((j : Int) + 1)) ((j + 1 : Nat) : Int) := ⟨K.w64s j (by omega)⟩
    have hrd := K.rd_nat hj
    obtain ⟨r1, r2⟩ := ih (j + 1) (x.set l[j].toNat (Go.bits .xor .u8 (rd x l[j]) 1)) (by omega) (by rw [List.length_set]; exact h2)
    rw [List.drop_eq_getElem_cons hj]
    constructor <;> apply K.Ev.succ
    · simp only [spec_FlipBits.l0, if_pos c1, if_pos c2, hrd, if_pos hp.1, if_pos c3, ws.out]; exact r1
    · simp only [impl_FlipBits.l0, if_pos c1, if_pos c2, hrd, if_pos hp.1, if_pos c3, ws.out]; exact r2
/-- What both flips answer. -/
theorem flip_ev (s : ByteArray) (hs : s.size ≤ 140737488351232) (l : List Int) (hl : l.length ≤ 1048576) : ∃ r : ByteArray × Bool, Ev (fun k => spec_FlipBits.f k s l) r ∧ Ev (fun k => impl_FlipBits.f k s l) r ∧ ((K.bitsB s = true ∧ s.size ≤ 96 ∧ Inc l s.size ∧ r = (strOfNums (flipL (bytesOf s) l), true)) ∨ (¬ (K.bitsB s = true ∧ s.size ≤ 96 ∧ Inc l s.size) ∧ r = (⟨#[]⟩, false))) := by
  have s1 := l10Bits_ev s hs 96
  have i1 := areBits_eq s hs 96
  have e : decide ((s.size : Int) ≤ 96) = decide (s.size ≤ 96) := by rw [decide_eq_decide]; omega
  rw [e] at s1 i1
  have bad : Ev (fun k => spec_FlipBits.j0 k s l true) (⟨#[]⟩, false) ∧ Ev (fun k => impl_FlipBits.j0 k s l true) (⟨#[]⟩, false) := by
    constructor <;> apply K.Ev.succ
    · simp only [spec_FlipBits.j0, if_true]; exact Ev.now _
    · simp only [impl_FlipBits.j0, if_true]; exact Ev.now _
  by_cases hb : (K.bitsB s && decide (s.size ≤ 96)) = true
  · rw [hb] at s1 i1
    rw [Bool.and_eq_true, decide_eq_true_eq] at hb
    obtain ⟨b, e1, e2, e3⟩ := incr_ev l s.size hl hs
    cases b with
    | true =>
      have hinc := e3.1 rfl
      have hall : ∀ x ∈ l, 0 ≤ x ∧ x ≤ (s.size : Int) - 1 := fun x hx => by
        obtain ⟨i, hi, rfl⟩ := List.getElem_of_mem hx
        exact (hinc i hi).1
      obtain ⟨r1, r2⟩ := flip_loops l hl s.size hall l.length 0 (bytesOf s) (by omega) (bytesOf_length s)
      rw [List.drop_zero] at r1 r2
      refine ⟨(strOfNums (flipL (bytesOf s) l), true), ?_, ?_, .inl ⟨hb.1, hb.2, hinc, rfl⟩⟩
      · simp only [spec_FlipBits.f]
        refine Ev.bind s1 ?_
        simp only [if_true]
        refine Ev.bind e1 ?_
        simp only [Bool.not_true]
        apply K.Ev.succ
        simp only [spec_FlipBits.j0, Bool.false_eq_true, if_false, conv_bytes.f, if_pos (show s.size ≤ 9223372036854775807 by omega), Option.bind_some]
        exact r1
      · simp only [impl_FlipBits.f, i1, Option.bind_some, if_true]
        refine Ev.bind e2 ?_
        simp only [Bool.not_true]
        apply K.Ev.succ
        simp only [impl_FlipBits.j0, Bool.false_eq_true, if_false, conv_bytes.f, if_pos (show s.size ≤ 9223372036854775807 by omega), Option.bind_some]
        exact r2
    | false =>
      refine ⟨(⟨#[]⟩, false), ?_, ?_, .inr ⟨(fun h => by have := e3.2 h.2.2; cases this), rfl⟩⟩
      · simp only [spec_FlipBits.f]
        refine Ev.bind s1 ?_
        simp only [if_true]
        refine Ev.bind e1 ?_
        simp only [Bool.not_false]
        exact bad.1
      · simp only [impl_FlipBits.f, i1, Option.bind_some, if_true]
        refine Ev.bind e2 ?_
        simp only [Bool.not_false]
        exact bad.2
  · have hb' : (K.bitsB s && decide (s.size ≤ 96)) = false := by simpa using hb
    rw [hb'] at s1 i1
    refine ⟨(⟨#[]⟩, false), ?_, ?_, .inr ⟨fun h => hb (by rw [h.1, decide_eq_true h.2.1]; rfl), rfl⟩⟩
    · simp only [spec_FlipBits.f]
      refine Ev.bind s1 ?_
      simp only [Bool.false_eq_true, if_false]
      exact bad.1
    · simp only [impl_FlipBits.f, i1, Option.bind_some, Bool.false_eq_true, if_false]
      exact bad.2


theorem laws_eqIntS_self (l : List Int) (hl : l.length ≤ 140737488355328) : Ev (fun k => laws_eqIntS.f k l l) true := by
  have key : ∀ (d n : Nat), n + d = l.length → Ev (fun k => laws_eqIntS.l0 k l l (n : Int)) true := by
    intro d
    induction d with
    | zero =>
      intro n h1
      apply K.Ev.succ
      simp only [laws_eqIntS.l0, if_neg (show ¬ ((n : Int) < (l.length : Int)) by omega)]
      exact Ev.now _
    | succ d ih =>
      intro n h1
      apply K.Ev.succ
      simp only [laws_eqIntS.l0, if_pos (show (n : Int) < (l.length : Int) by omega), if_pos (show (0 : Int) ≤ (n : Int) by omega), if_true]
      rw [K.w64s n (by omega)]
      exact ih (n + 1) (by omega)
  unfold laws_eqIntS.f
  simp only [if_true]
  exact key l.length 0 (by omega)

theorem FnExactFlipBits : laws_FnExactFlipBits.Pure := by
  intro s l hs _ hl hw
  refine Ev.rounds (?_ : Ev (fun k => laws_FnExactFlipBits.f k s l) true)
  unfold laws_FnExactFlipBits.f
  by_cases h1 : (s.size : Int) > 1048576
  · simp only [if_pos h1]; exact Ev.now _
  by_cases h2 : (l.length : Int) > 1048576
  · simp only [if_neg h1, if_pos h2]; exact Ev.now _
  simp only [if_neg h1, if_neg h2]
  have ht := laws_toIntS_ev l (by omega)
  obtain ⟨r, e1, e2, _⟩ := flip_ev s hs l (by omega)
  refine Ev.bind ht ?_
  refine Ev.bind e1 ?_
  refine Ev.bind ht ?_
  refine Ev.bind e2 ?_
  simp only [if_true, bne_self_eq_false]
  apply K.Ev.succ
  simp only [laws_FnExactFlipBits.j0, Bool.false_eq_true, if_false]
  refine Ev.bind ht ?_
  refine Ev.bind (laws_eqIntS_self l (by omega)) ?_
  simp only [if_true]
  exact Ev.now _

end Go.Proofs.YtaofmiigbhfnbaaDoor.Pure
