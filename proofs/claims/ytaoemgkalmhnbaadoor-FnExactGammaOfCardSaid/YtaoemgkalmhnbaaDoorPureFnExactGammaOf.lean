/- The law FnExactGammaOf answers true for all numbers: the program's gamma code of a number is the reference's. -/
import Derived.Test.YtaoemgkalmhnbaaDoorPFnExactGammaOfx1
import Derived.Test.YtaoemgkalmhnbaaDoorKKit
import Derived.Test.YtaoemgkalmhnbaaDoorKBin
set_option linter.unusedVariables false
set_option linter.unusedSimpArgs false
namespace Go.Proofs.YtaoemgkalmhnbaaDoor.Pure
open Go Go.RowKit Go.Proofs.YtaoemgkalmhnbaaDoor Go.Proofs.YtaoemgkalmhnbaaDoor.PFnExactGammaOf Go.Proofs.YtaoemgkalmhnbaaDoorW.PrintWords Go.Proofs.YtaoemgkalmhnbaaDoorW.PrintLast Go.Proofs.YtaoemgkalmhnbaaDoorW.PrintMore

theorem l10Bit_dig (b : Nat) (hb : b < 2) : spec_l10Bit.f (b : Int) = some (strOfNums [((48 + b : Nat) : Int)]) := by
  unfold spec_l10Bit.f
  have w : wrap64 (48 + (b : Int)) = ((48 + b : Nat) : Int) := by rw [K.w64 (by omega) (by omega)]; omega
  rw [w]
  have e : ((48 + b : Nat) : Int) % 256 = ((48 + b : Nat) : Int) := by omega
  rw [e]
/-- A number's binary digits as a text. -/
def digB (n : Nat) : ByteArray := strOfNums ((binL n).map fun d => ((48 + d : Nat) : Int))
theorem binL_len (n : Nat) : 1 ≤ (binL n).length ∧ (∀ j, 1 ≤ j → n < 2 ^ j → (binL n).length ≤ j) ∧ ∀ d ∈ binL n, d < 2 := by
  induction n using Nat.strongRecOn with
  | _ n ih =>
    by_cases h : n < 2
    · rw [binL, if_pos h]
      exact ⟨Nat.le_refl _, fun j hj _ => hj, fun d hd => by rw [List.mem_singleton.mp hd]; exact h⟩
    · obtain ⟨h1, h2, h3⟩ := ih (n / 2) (by omega)
      rw [binL, if_neg h, List.length_append, List.length_singleton]
      refine ⟨by omega, fun j hj hn => ?_, fun d hd => ?_⟩
      · have : j ≠ 1 := by rintro rfl; omega
        obtain ⟨i, rfl⟩ : ∃ i, j = i + 1 := ⟨j - 1, by omega⟩
        have := h2 i (by omega) (by rw [Nat.pow_succ] at hn; omega)
        omega
      · rcases List.mem_append.mp hd with hd | hd
        · exact h3 d hd
        · rw [List.mem_singleton.mp hd]; exact Nat.mod_lt _ (by decide)
theorem digB_size (n : Nat) : (digB n).size = (binL n).length := by rw [digB, strOfNums_size, List.length_map]
theorem digB_le {n : Nat} (h : n ≤ 1000000) : (digB n).size ≤ 20 := by
  rw [digB_size]
  exact (binL_len n).2.1 20 (by omega) (Nat.lt_of_le_of_lt h (by decide))
theorem digB_pos (n : Nat) : 1 ≤ (digB n).size := by
  rw [digB_size]
  exact (binL_len n).1
theorem binary_ev (n : Nat) (hn : n ≤ 1000000) : Ev (fun k => spec_l13Binary.f k (n : Int)) (digB n) := by
  induction n using Nat.strongRecOn with
  | _ n ih =>
    apply K.Ev.succ
    by_cases h : n < 2
    · simp only [spec_l13Binary.f, if_pos (show (n : Int) < 2 by omega), l10Bit_dig n h, Option.bind_some]
      rw [digB, binL, if_pos h]
      exact Ev.now _
    · have e : wrap64 (Int.tdiv (n : Int) 2) = ((n / 2 : Nat) : Int) := by
        rw [Int.tdiv_eq_ediv_of_nonneg (by omega), K.w64 (by omega) (by omega)]; omega
      have e2 : Int.tmod (n : Int) 2 = ((n % 2 : Nat) : Int) := by
        rw [Int.tmod_eq_emod_of_nonneg (by omega)]; omega
      simp only [spec_l13Binary.f, if_neg (show ¬ (n : Int) < 2 by omega), e, e2, l10Bit_dig (n % 2) (Nat.mod_lt _ (by decide)), Option.bind_some]
      refine Ev.bind (ih (n / 2) (by omega) (by omega)) ?_
      have hz := digB_le (n := n / 2) (by omega)
      have hs : (strOfNums [((48 + n % 2 : Nat) : Int)]).size = 1 := by rw [strOfNums_size]; rfl
      rw [if_pos (by rw [hs]; omega)]
      have : digB n = digB (n / 2) ++ strOfNums [((48 + n % 2 : Nat) : Int)] := by
        rw [digB, binL, if_neg h, List.map_append, K.strOf_append]; rfl
      rw [this]
      exact Ev.now _
theorem w_pred (s : ByteArray) (h1 : 1 ≤ s.size) (h2 : s.size ≤ 20) : wrap64 ((s.size : Int) - 1) = ((s.size - 1 : Nat) : Int) := by
  rw [K.w64 (by omega) (by omega)]; omega

theorem many_ev (n : Nat) (b : Nat) (hn : n ≤ 10000000) (hb : b < 256) : Ev (fun k => spec_l13Many.f k (n : Int) (b : Int)) (strOfNums (List.replicate n (b : Int))) := by
  have key : ∀ (d i : Nat) (x : List Int), i + d = n → x.length = n → x.take i = List.replicate i (b : Int) → Ev (fun k => spec_l13Many.l0 k (b : Int) x (n : Int) (i : Int)) (strOfNums (List.replicate n (b : Int))) := by
    intro d
    induction d with
    | zero =>
      intro i x h1 h2 h3
      obtain rfl : i = n := by omega
      rw [List.take_of_length_le (by omega)] at h3
      rw [h3]
      apply K.Ev.succ
      simp only [spec_l13Many.l0, if_neg (show ¬ ((i : Int) < (i : Int)) by omega)]
      exact Ev.now _
    | succ d ih =>
      intro i x h1 h2 h3
      have r := ih (i + 1) (x.set i (b : Int)) (by omega) (by simpa using h2) (by
        rw [K.take_set _ _ _ (by omega), h3, List.replicate_succ'])
      apply K.Ev.succ
      simp only [spec_l13Many.l0, if_pos (show (i : Int) < (n : Int) by omega), if_pos (show (0 : Int) ≤ (i : Int) by omega), if_pos (show (i : Int) < (x.length : Int) by omega), Int.toNat_natCast, K.w64s i (show i < 9223372036854775807 by omega)]
      exact r
  simp only [spec_l13Many.f, if_pos (show (0 : Int) ≤ (n : Int) by omega), Int.toNat_natCast, if_pos (show n ≤ 281474976710656 by omega), Option.bind_some, List.length_replicate]
  exact key n 0 _ (by omega) (by simp) (by simp)

theorem specGamma_ev (n : Nat) (hn : n ≤ 1000000) : Ev (fun k => spec_l13Gamma.f k (n : Int)) (strOfNums (List.replicate ((digB n).size - 1) ((48 : Nat) : Int)) ++ digB n) := by
  have h1 := digB_pos n
  have h2 := digB_le hn
  simp only [spec_l13Gamma.f]
  refine Ev.bind (binary_ev n hn) ?_
  simp only [w_pred _ h1 h2]
  refine Ev.bind (many_ev _ 48 (by omega) (by omega)) ?_
  rw [if_pos (by rw [strOfNums_size, List.length_replicate]; omega)]
  exact Ev.now _

theorem repeatL_one (c : UInt8) : ∀ n, Lib.repeatL [c] n = List.replicate n c
  | 0 => rfl
  | n + 1 => by rw [Lib.repeatL, repeatL_one c n, List.replicate_succ]; rfl
theorem repeat_eq (b : Nat) (hb : b < 256) (n : Nat) (hn : n ≤ 100000000) : strings_Repeat.f (⟨#[UInt8.ofNat b]⟩ : ByteArray) (n : Int) = some (strOfNums (List.replicate n (b : Int))) := by
  unfold strings_Repeat.f
  have e : (⟨#[UInt8.ofNat b]⟩ : ByteArray).size * ((n : Int)).toNat ≤ 140737488355328 := by
    show 1 * ((n : Int)).toNat ≤ 140737488355328
    omega
  rw [if_pos (by omega), if_pos (by omega), if_pos e]
  congr 1
  show (⟨(Lib.repeatL [UInt8.ofNat b] ((n : Int)).toNat).toArray⟩ : ByteArray) = _
  rw [repeatL_one, Int.toNat_natCast]
  apply ByteArray.ext
  simp [strOfNums]

/-- A number's binary digits as a text. -/
def digC (n : Nat) : ByteArray := strOfNums ((binL n).map fun d => ((48 + d : Nat) : Int))
theorem binC_len (n : Nat) : 1 ≤ (binL n).length ∧ (∀ j, 1 ≤ j → n < 2 ^ j → (binL n).length ≤ j) ∧ ∀ d ∈ binL n, d < 2 := by
  induction n using Nat.strongRecOn with
  | _ n ih =>
    by_cases h : n < 2
    · rw [binL, if_pos h]
      exact ⟨Nat.le_refl _, fun j hj _ => hj, fun d hd => by rw [List.mem_singleton.mp hd]; exact h⟩
    · obtain ⟨h1, h2, h3⟩ := ih (n / 2) (by omega)
      rw [binL, if_neg h, List.length_append, List.length_singleton]
      refine ⟨by omega, fun j hj hn => ?_, fun d hd => ?_⟩
      · have : j ≠ 1 := by rintro rfl; omega
        obtain ⟨i, rfl⟩ : ∃ i, j = i + 1 := ⟨j - 1, by omega⟩
        have := h2 i (by omega) (by rw [Nat.pow_succ] at hn; omega)
        omega
      · rcases List.mem_append.mp hd with hd | hd
        · exact h3 d hd
        · rw [List.mem_singleton.mp hd]; exact Nat.mod_lt _ (by decide)
theorem digC_size (n : Nat) : (digC n).size = (binL n).length := by rw [digC, strOfNums_size, List.length_map]
theorem digC_le {n : Nat} (h : n ≤ 1000000) : (digC n).size ≤ 20 := by
  rw [digC_size]
  exact (binC_len n).2.1 20 (by omega) (Nat.lt_of_le_of_lt h (by decide))
theorem digC_pos (n : Nat) : 1 ≤ (digC n).size := by
  rw [digC_size]
  exact (binC_len n).1
/-- A number's gamma code. -/
def gamC (n : Nat) : ByteArray := strOfNums (List.replicate ((digC n).size - 1) ((48 : Nat) : Int)) ++ digC n
theorem gamC_le {n : Nat} (h : n ≤ 1000000) : (gamC n).size ≤ 39 := by
  have := digC_le h
  rw [gamC, ByteArray.size_append, strOfNums_size, List.length_replicate]
  omega
theorem wC_pred (s : ByteArray) (h1 : 1 ≤ s.size) (h2 : s.size ≤ 20) : wrap64 ((s.size : Int) - 1) = ((s.size - 1 : Nat) : Int) := by
  rw [K.w64 (by omega) (by omega)]; omega
theorem gamma_eq (n : Nat) (hn : n ≤ 1000000) : impl_gamma.f (n : Int) = some (gamC n) := by
  have h1 := digC_pos n
  have h2 := digC_le hn
  have hr : strings_Repeat.f (⟨#[48]⟩ : ByteArray) (((digC n).size - 1 : Nat) : Int) = some (strOfNums (List.replicate ((digC n).size - 1) ((48 : Nat) : Int))) := repeat_eq 48 (by omega) _ (by omega)
  have hd : impl_digits.f (n : Int) = some (digC n) := by
    unfold impl_digits.f strconv_FormatInt.f
    rw [if_pos rfl, if_pos (by omega), if_pos (by omega)]
    rfl
  simp only [impl_gamma.f, hd, Option.bind_some, wC_pred _ h1 h2, hr]
  rw [if_pos (by rw [strOfNums_size, List.length_replicate]; omega)]
  rfl

theorem gamma_same (a : Int) : ∃ r, Ev (fun k => spec_GammaOf.f k a) r ∧ impl_GammaOf.f a = some r := by
  by_cases ha : 1 ≤ a ∧ a ≤ 1000000
  · have q : spec_l1In.f a 1 1000000 = some true := by unfold spec_l1In.f; rw [if_pos ha.1]; simp [ha.2]
    have q2 : impl_within.f a 1 1000000 = some true := q
    obtain ⟨n, rfl⟩ := Int.eq_ofNat_of_zero_le (show 0 ≤ a by omega)
    refine ⟨(gamC n, true), ?_, ?_⟩
    · simp only [spec_GammaOf.f, spec_l13Number.f, q, Option.bind_some, if_true]
      exact Ev.bind (specGamma_ev n (by omega)) (Ev.now _)
    · simp only [impl_GammaOf.f, impl_isNumber.f, q2, Option.bind_some, if_true, gamma_eq n (by omega)]
  · have q : spec_l1In.f a 1 1000000 = some false := by
      unfold spec_l1In.f; split
      · simp; omega
      · rfl
    have q2 : impl_within.f a 1 1000000 = some false := q
    refine ⟨(⟨#[]⟩, false), ?_, ?_⟩
    · simp only [spec_GammaOf.f, spec_l13Number.f, q, Option.bind_some, Bool.false_eq_true, if_false]; exact Ev.now _
    · simp only [impl_GammaOf.f, impl_isNumber.f, q2, Option.bind_some, Bool.false_eq_true, if_false]
theorem FnExactGammaOf : laws_FnExactGammaOf.Pure := by
  intro a ha
  refine Ev.rounds (?_ : Ev (fun k => laws_FnExactGammaOf.f k a) true)
  obtain ⟨r, e1, e2⟩ := gamma_same a
  simp only [laws_FnExactGammaOf.f, e2, Option.bind_some]
  refine Ev.bind e1 ?_
  simp only [if_true, bne_self_eq_false, Bool.false_eq_true, if_false]
  exact Ev.now _

end Go.Proofs.YtaoemgkalmhnbaaDoor.Pure
