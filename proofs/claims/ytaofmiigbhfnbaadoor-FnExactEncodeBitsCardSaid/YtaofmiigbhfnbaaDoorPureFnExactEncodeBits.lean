/- The law FnExactEncodeBits answers true for every string: the program encodes bits just as the reference does. -/
import Derived.Test.YtaofmiigbhfnbaaDoorPFnExactEncodeBitsx1
import Derived.Test.YtaofmiigbhfnbaaDoorKKit
import Derived.Test.YtaofmiigbhfnbaaDoorKVit
set_option linter.unusedVariables false
set_option linter.unusedSimpArgs false
namespace Go.Proofs.YtaofmiigbhfnbaaDoor.Pure
open Go Go.RowKit Go.Proofs.YtaofmiigbhfnbaaDoor Go.Proofs.YtaofmiigbhfnbaaDoor.PFnExactEncodeBits Go.Proofs.YtaofmiigbhfnbaaDoorW.PrintWords Go.Proofs.YtaofmiigbhfnbaaDoorW.PrintLast Go.Proofs.YtaofmiigbhfnbaaDoorW.PrintMore

theorem l10Bits_ev (s : ByteArray) (hs : s.size ≤ 140737488351232) (m : Int) : Ev (fun k => spec_l10Bits.f k s m) (K.bitsB s && decide ((s.size : Int) ≤ m)) := by
  have key : ∀ (d n : Nat), n + d = s.size → Ev (fun k => spec_l10Bits.l0 k s m (n : Int)) (((bytesOf s).drop n).all (fun x => x == 48 || x == 49) && decide ((s.size : Int) ≤ m)) := by
    intro d
    induction d with
    | zero =>
      intro n h
      apply K.Ev.succ
      simp only [spec_l10Bits.l0, if_neg (show ¬ ((n : Int) < (s.size : Int)) by omega)]
      rw [List.drop_of_length_le (by rw [bytesOf_length]; omega), List.all_nil, Bool.true_and]
      exact Ev.now _
    | succ d ih =>
      intro n h
      have hn : n < s.size := by omega
      have r := ih (n + 1) (by omega)
      have ws := K.w64s n (show n < 9223372036854775807 by omega)
      rw [K.drop_bytes s n hn, List.all_cons]
      apply K.Ev.succ
      by_cases h0 : bt s (n : Int) = 48
      · have e : (bt s (n : Int) == 48 || bt s (n : Int) == 49) = true := by simp [h0]
        rw [e, Bool.true_and]
        simp only [spec_l10Bits.l0, if_pos (show (n : Int) < (s.size : Int) by omega), if_pos (show (0 : Int) ≤ (n : Int) by omega), if_pos h0, ws]; exact r
      · by_cases h1 : bt s (n : Int) = 49
        · have e : (bt s (n : Int) == 48 || bt s (n : Int) == 49) = true := by simp [h1]
          rw [e, Bool.true_and]
          simp only [spec_l10Bits.l0, if_pos (show (n : Int) < (s.size : Int) by omega), if_pos (show (0 : Int) ≤ (n : Int) by omega), if_neg h0, if_pos h1, ws]; exact r
        · have e : (bt s (n : Int) == 48 || bt s (n : Int) == 49) = false := by simp [h0, h1]
          rw [e, Bool.false_and, Bool.false_and]
          simp only [spec_l10Bits.l0, if_pos (show (n : Int) < (s.size : Int) by omega), if_pos (show (0 : Int) ≤ (n : Int) by omega), if_neg h0, if_neg h1]; exact Ev.now _
  have := key s.size 0 (by omega)
  rw [List.drop_zero] at this
  simp only [spec_l10Bits.f]
  exact this

theorem l10Out_eq (s b : Nat) (hs : s < 4) (hb : b < 2) : spec_l10Out.f (s : Int) (b : Int) = some (strOfNums (K.outB s b), ((K.nextS s b : Nat) : Int)) := by
  have : ∀ (s : Fin 4) (b : Fin 2), spec_l10Out.f (s.val : Int) (b.val : Int) = some (strOfNums (K.outB s.val b.val), ((K.nextS s.val b.val : Nat) : Int)) := by decide +kernel
  exact this ⟨s, hs⟩ ⟨b, hb⟩

theorem l10Run_ev (x : ByteArray) (l : List Nat) (hx : bytesOf x = K.digs l) (hl : K.Bits l) (hs : l.length ≤ 1048576) : Ev (fun k => spec_l10Run.f k x) (strOfNums (K.encL 0 l)) := by
  have hsz : x.size = l.length := by rw [← bytesOf_length, hx, K.digs_length]
  have key : ∀ (d n : Nat) (acc : List Int) (st : Nat), n + d = l.length → acc.length = 3 * n → st < 4 → Ev (fun k => spec_l10Run.l0 k x (strOfNums acc) (st : Int) (n : Int)) (strOfNums (acc ++ K.encL st (l.drop n))) := by
    intro d
    induction d with
    | zero =>
      intro n acc st h1 h2 h3
      rw [List.drop_of_length_le (by omega)]
      apply K.Ev.succ
      simp only [spec_l10Run.l0, if_neg (show ¬ ((n : Int) < (x.size : Int)) by omega), K.encL, List.append_nil]
      exact Ev.now _
    | succ d ih =>
      intro n acc st h1 h2 h3
      have hn : n < l.length := by omega
      have hb := hl l[n] (List.getElem_mem hn)
      have hbt : bt x (n : Int) = ((48 + l[n] : Nat) : Int) := by
        rw [K.bytesOf_get x n (by omega)]
        simp only [hx, K.digs, List.getElem_map]
      have e : (bt x (n : Int) - 48) % 256 = ((l[n] : Nat) : Int) := by rw [hbt]; omega
      have hz : (strOfNums acc).size + (strOfNums (K.outB st l[n])).size ≤ 9223372036854775807 := by
        rw [strOfNums_size, strOfNums_size, K.outB_length]; omega
      have r := ih (n + 1) (acc ++ K.outB st l[n]) (K.nextS st l[n]) (by omega) (by simp only [List.length_append, K.outB_length]; omega) (K.nextS_lt h3 hb)
      rw [List.drop_eq_getElem_cons hn, K.encL, ← List.append_assoc]
      rw [K.strOf_append acc] at r
      have c1 : (n : Int) < (x.size : Int) := by omega
      have c2 : (0 : Int) ≤ (n : Int) := by omega
      have ws := K.w64s n (show n < 9223372036854775807 by omega)
      apply K.Ev.succ
      simp only [spec_l10Run.l0, if_pos c1, if_pos c2, e, l10Out_eq st l[n] h3 hb, Option.bind_some, if_pos hz, ws]
      exact r
  have := key l.length 0 [] 0 (by omega) (by simp) (by omega)
  rw [List.drop_zero, List.nil_append] at this
  simp only [spec_l10Run.f]
  exact this

theorem specEncode_no (x : ByteArray) (hs : x.size ≤ 140737488351232) (h : (K.bitsB x && decide ((x.size : Int) ≤ 30)) = false) : Ev (fun k => spec_EncodeBits.f k x) (⟨#[]⟩, false) := by
  have s1 := l10Bits_ev x hs 30
  rw [h] at s1
  simp only [spec_EncodeBits.f]; refine Ev.bind s1 ?_; simp only [Bool.false_eq_true, if_false]; exact Ev.now _
theorem specEncode_ev (x : ByteArray) (l : List Nat) (hx : bytesOf x = K.digs l) (hl : K.Bits l) (h30 : l.length ≤ 30) : Ev (fun k => spec_EncodeBits.f k x) (strOfNums (K.encL 0 (l ++ [0, 0])), true) := by
  have hsz : x.size = l.length := by rw [← bytesOf_length, hx, K.digs_length]
  have s1 := l10Bits_ev x (by omega) 30
  have hb : K.bitsB x = true := by rw [K.str_of_bytes hx]; exact K.bits_digs hl
  rw [hb, decide_eq_true (show (x.size : Int) ≤ 30 by omega), Bool.and_true] at s1
  have hb2 : bytesOf (x ++ ⟨#[48, 48]⟩) = K.digs (l ++ [0, 0]) := by
    rw [K.bytesOf_append, hx, K.digs_append, K.two_zeros]
  have hbits : K.Bits (l ++ [0, 0]) := fun b hb => by
    rcases List.mem_append.1 hb with h | h
    · exact hl b h
    · simp only [List.mem_cons, List.not_mem_nil, or_false] at h; omega
  simp only [spec_EncodeBits.f]; refine Ev.bind s1 ?_; simp only [if_true, if_pos (show x.size + 2 ≤ 9223372036854775807 by omega)]
  exact Ev.bind (l10Run_ev _ _ hb2 hbits (by simp; omega)) (Ev.now _)

theorem dropWhile_nil {p : UInt8 → Bool} : ∀ l : List UInt8, l.dropWhile p = [] ↔ l.all p = true
  | [] => by simp
  | b :: l => by
    rw [List.dropWhile_cons, List.all_cons]
    by_cases h : p b = true
    · rw [if_pos h, h, Bool.true_and]; exact dropWhile_nil l
    · rw [if_neg h]
      have : p b = false := by simpa using h
      simp [this]
theorem trimS_nil (l cs : List UInt8) : Lib.trimS l cs = [] ↔ l.all (cs.contains ·) = true := by
  unfold Lib.trimS Lib.trimLeftS Lib.trimRightS
  rw [dropWhile_nil, List.all_reverse]
  constructor
  · intro h
    have : (l.reverse.dropWhile (cs.contains ·)) = [] := by
      cases hd : l.reverse.dropWhile (cs.contains ·) with
      | nil => rfl
      | cons b r =>
        have h1 : cs.contains b = true := by rw [hd, List.all_cons, Bool.and_eq_true] at h; exact h.1
        have h2 := List.head?_dropWhile_not (cs.contains ·) l.reverse
        rw [hd] at h2
        simp only [List.head?_cons] at h2
        rw [h1] at h2
        exact absurd h2 (by simp)
    rw [dropWhile_nil, List.all_reverse] at this
    exact this
  · intro h
    have : (l.reverse.dropWhile (cs.contains ·)) = [] := by rw [dropWhile_nil, List.all_reverse]; exact h
    rw [this]; rfl
theorem areBits_eq (s : ByteArray) (hs : s.size ≤ 140737488351232) (m : Int) : impl_areBits.f s m = some (K.bitsB s && decide ((s.size : Int) ≤ m)) := by
  unfold impl_areBits.f
  by_cases h : (s.size : Int) ≤ m
  · rw [if_pos h, decide_eq_true h, Bool.and_true]
    have c2 : (⟨#[48, 49]⟩ : ByteArray).data.toList.all (fun b => decide (b.toNat < 128)) = true := by decide
    have c3 : (⟨#[48, 49]⟩ : ByteArray).size < 4294967281 := by decide
    simp only [strings_Trim.f, if_pos (show s.size ≤ 9223372036854775807 by omega), if_pos c2, if_pos c3, Option.bind_some, K.toList_data]
    congr 1
    rw [Bool.eq_iff_iff, beq_iff_eq]
    show Lib.trimS s.data.toList [48, 49] = [] ↔ _
    rw [trimS_nil]
    unfold K.bitsB bytesOf
    rw [List.all_map]
    have e : ∀ b : UInt8, ([48, 49] : List UInt8).contains b = ((fun x : Int => x == 48 || x == 49) ∘ fun b : UInt8 => (b.toNat : Int)) b := by
      intro b
      have hb : b = UInt8.ofNat b.toNat := by simp
      have h : ∀ n : Fin 256, ([48, 49] : List UInt8).contains (UInt8.ofNat n.val) = ((((UInt8.ofNat n.val).toNat : Int) == 48) || (((UInt8.ofNat n.val).toNat : Int) == 49)) := by decide +kernel
      rw [hb]
      exact h ⟨b.toNat, b.toNat_lt⟩
    simp only [e]
  · rw [if_neg h, decide_eq_false h, Bool.and_false]

theorem outputs_eq (s b : Nat) (hs : s < 4) (hb : b < 2) : impl_outputs.f (s : Int) (b : Int) = some (strOfNums (K.outB s b), ((K.nextS s b : Nat) : Int)) := by
  have : ∀ (s : Fin 4) (b : Fin 2), impl_outputs.f (s.val : Int) (b.val : Int) = some (strOfNums (K.outB s.val b.val), ((K.nextS s.val b.val : Nat) : Int)) := by decide +kernel
  exact this ⟨s, hs⟩ ⟨b, hb⟩

theorem encodedBits_ev (x : ByteArray) (l : List Nat) (hx : bytesOf x = K.digs l) (hl : K.Bits l) (hs : l.length ≤ 1048576) : Ev (fun k => impl_encodedBits.f k x) (strOfNums (K.encL 0 (l ++ [0, 0]))) := by
  have hsz : x.size = l.length := by rw [← bytesOf_length, hx, K.digs_length]
  have key : ∀ (L : List Nat), K.Bits L → L.length ≤ 1048580 → ∀ (d n : Nat) (acc : List Int) (st : Nat), n + d = L.length → acc.length = 3 * n → st < 4 → Ev (fun k => impl_encodedBits.l0 k (strOfNums acc) (st : Int) (K.digs L) (L.length : Int) (n : Int)) (strOfNums (acc ++ K.encL st (L.drop n))) := by
    intro L hL hLs d
    induction d with
    | zero =>
      intro n acc st h1 h2 h3
      rw [List.drop_of_length_le (by omega)]
      apply K.Ev.succ
      simp only [impl_encodedBits.l0, if_neg (show ¬ ((n : Int) < (L.length : Int)) by omega), K.encL, List.append_nil]
      exact Ev.now _
    | succ d ih =>
      intro n acc st h1 h2 h3
      have hn : n < L.length := by omega
      have hb := hL L[n] (List.getElem_mem hn)
      have hrd : rd (K.digs L) (n : Int) = ((48 + L[n] : Nat) : Int) := by
        rw [K.rd_nat (by rw [K.digs_length]; exact hn)]
        simp only [K.digs, List.getElem_map]
      have e : (rd (K.digs L) (n : Int) - 48) % 256 = ((L[n] : Nat) : Int) := by rw [hrd]; omega
      have hz : (strOfNums acc).size + (strOfNums (K.outB st L[n])).size ≤ 9223372036854775807 := by
        rw [strOfNums_size, strOfNums_size, K.outB_length]; omega
      have r := ih (n + 1) (acc ++ K.outB st L[n]) (K.nextS st L[n]) (by omega) (by simp only [List.length_append, K.outB_length]; omega) (K.nextS_lt h3 hb)
      rw [List.drop_eq_getElem_cons hn, K.encL, ← List.append_assoc]
      rw [K.strOf_append acc] at r
      have c1 : (n : Int) < (L.length : Int) := by omega
      have c2 : (0 : Int) ≤ (n : Int) := by omega
      have ws := K.w64s n (show n < 9223372036854775807 by omega)
      apply K.Ev.succ
      simp only [impl_encodedBits.l0, if_pos c1, if_pos c2, K.digs_length, e, outputs_eq st L[n] h3 hb, Option.bind_some, if_pos hz, ws]
      exact r
  have hR : strings_Repeat.f (⟨#[48]⟩ : ByteArray) 2 = some ⟨#[48, 48]⟩ := by
    unfold strings_Repeat.f
    have e : (⟨#[48]⟩ : ByteArray).size * (2 : Int).toNat ≤ 140737488355328 := by
      show 1 * 2 ≤ 140737488355328
      omega
    rw [if_pos (by omega), if_pos (by omega), if_pos e]
    rfl
  have hb2 : bytesOf (x ++ ⟨#[48, 48]⟩) = K.digs (l ++ [0, 0]) := by
    rw [K.bytesOf_append, hx, K.digs_append, K.two_zeros]
  have hbits : K.Bits (l ++ [0, 0]) := fun b hb => by
    rcases List.mem_append.1 hb with h | h
    · exact hl b h
    · simp only [List.mem_cons, List.not_mem_nil, or_false] at h; omega
  have hz2 : x.size + (⟨#[48, 48]⟩ : ByteArray).size ≤ 9223372036854775807 := by
    have : (⟨#[48, 48]⟩ : ByteArray).size = 2 := rfl
    omega
  have hz3 : (x ++ ⟨#[48, 48]⟩ : ByteArray).size ≤ 9223372036854775807 := by rw [ByteArray.size_append]; exact hz2
  simp only [impl_encodedBits.f, hR, Option.bind_some, if_pos hz2, conv_bytes.f, if_pos hz3, hb2, K.digs_length]
  have := key (l ++ [0, 0]) hbits (by simp; omega) (l ++ [0, 0]).length 0 [] 0 (by omega) (by simp) (by omega)
  rw [List.drop_zero, List.nil_append] at this
  exact this

theorem FnExactEncodeBits : laws_FnExactEncodeBits.Pure := by
  intro x hx
  refine Ev.rounds (?_ : Ev (fun k => laws_FnExactEncodeBits.f k x) true)
  unfold laws_FnExactEncodeBits.f
  by_cases h1 : (x.size : Int) > 1048576
  · simp only [if_pos h1]; exact Ev.now _
  simp only [if_neg h1]
  have : ∃ r : ByteArray × Bool, Ev (fun k => spec_EncodeBits.f k x) r ∧ Ev (fun k => impl_EncodeBits.f k x) r := by
    have i1 := areBits_eq x hx 30
    by_cases h : (K.bitsB x && decide ((x.size : Int) ≤ 30)) = true
    · rw [h] at i1
      rw [Bool.and_eq_true] at h
      obtain ⟨l, e, hl, hn⟩ := K.bits_of h.1
      have h30 := of_decide_eq_true h.2
      refine ⟨_, specEncode_ev x l e hl (by omega), ?_⟩
      simp only [impl_EncodeBits.f, i1, Option.bind_some, if_true]
      exact Ev.bind (encodedBits_ev x l e hl (by omega)) (Ev.now _)
    · have h' : (K.bitsB x && decide ((x.size : Int) ≤ 30)) = false := by simpa using h
      rw [h'] at i1
      refine ⟨_, specEncode_no x hx h', ?_⟩
      simp only [impl_EncodeBits.f, i1, Option.bind_some, Bool.false_eq_true, if_false]
      exact Ev.now _
  obtain ⟨r, e1, e2⟩ := this
  refine Ev.bind e1 ?_
  refine Ev.bind e2 ?_
  simp only [if_true, bne_self_eq_false, Bool.false_eq_true, if_false]
  exact Ev.now _

end Go.Proofs.YtaofmiigbhfnbaaDoor.Pure
