/- The law FnExactRiceOf answers true for all numbers: the program's Rice code of a number is the reference's. -/
import Derived.Test.YtaoemgkalmhnbaaDoorPFnExactRiceOfx1
import Derived.Test.YtaoemgkalmhnbaaDoorKKit
import Derived.Test.YtaoemgkalmhnbaaDoorKGF
set_option linter.unusedVariables false
set_option linter.unusedSimpArgs false
namespace Go.Proofs.YtaoemgkalmhnbaaDoor.Pure
open Go Go.RowKit Go.Proofs.YtaoemgkalmhnbaaDoor Go.Proofs.YtaoemgkalmhnbaaDoor.PFnExactRiceOf Go.Proofs.YtaoemgkalmhnbaaDoorW.PrintWords Go.Proofs.YtaoemgkalmhnbaaDoorW.PrintLast Go.Proofs.YtaoemgkalmhnbaaDoorW.PrintMore

theorem many_ev (n : Nat) (b : Nat) (hn : n ≤ 10000000) (hb : b < 256) : Ev (fun k => spec_l13Many.f k (n : Int) (b : Int)) (strOfNums (List.replicate n (b : Int))) := by
  have key : ∀ (d i : Nat) (x : List Int), i + d = n → x.length = n → x.take i = List.replicate i (b : Int) → Ev (fun k => spec_l13Many.l0 k (b : Int) x (n : Int) (i : Int)) (strOfNums (List.replicate n (b : Int))) := by
    intro d
    induction d with
    | zero =>
      intro i x h1 h2 h3
      obtain rfl : i = n := by omega
      rw [List.take_of_length_le (by omega)] at h3
      rw [h3]
      apply K.Ev.succ
      simp only [spec_l13Many.l0, if_neg (show ¬ ((i : Int) < (i : Int)) by omega)]
      exact Ev.now _
    | succ d ih =>
      intro i x h1 h2 h3
      have r := ih (i + 1) (x.set i (b : Int)) (by omega) (by simpa using h2) (by
        rw [K.take_set _ _ _ (by omega), h3, List.replicate_succ'])
      apply K.Ev.succ
      simp only [spec_l13Many.l0, if_pos (show (i : Int) < (n : Int) by omega), if_pos (show (0 : Int) ≤ (i : Int) by omega), if_pos (show (i : Int) < (x.length : Int) by omega), Int.toNat_natCast, K.w64s i (show i < 9223372036854775807 by omega)]
      exact r
  simp only [spec_l13Many.f, if_pos (show (0 : Int) ≤ (n : Int) by omega), Int.toNat_natCast, if_pos (show n ≤ 281474976710656 by omega), Option.bind_some, List.length_replicate]
  exact key n 0 _ (by omega) (by simp) (by simp)

theorem repeatL_one (c : UInt8) : ∀ n, Lib.repeatL [c] n = List.replicate n c
  | 0 => rfl
  | n + 1 => by rw [Lib.repeatL, repeatL_one c n, List.replicate_succ]; rfl
theorem repeat_eq (b : Nat) (hb : b < 256) (n : Nat) (hn : n ≤ 100000000) : strings_Repeat.f (⟨#[UInt8.ofNat b]⟩ : ByteArray) (n : Int) = some (strOfNums (List.replicate n (b : Int))) := by
  unfold strings_Repeat.f
  have e : (⟨#[UInt8.ofNat b]⟩ : ByteArray).size * ((n : Int)).toNat ≤ 140737488355328 := by
    show 1 * ((n : Int)).toNat ≤ 140737488355328
    omega
  rw [if_pos (by omega), if_pos (by omega), if_pos e]
  congr 1
  show (⟨(Lib.repeatL [UInt8.ofNat b] ((n : Int)).toNat).toArray⟩ : ByteArray) = _
  rw [repeatL_one, Int.toNat_natCast]
  apply ByteArray.ext
  simp [strOfNums]

theorem itoa_eq (b : Nat) (hb : b < 2) : strconv_Itoa.f (b : Int) = some (strOfNums [((48 + b : Nat) : Int)]) := by
  unfold strconv_Itoa.f
  rw [if_pos (by omega), if_pos (by omega), Int.toNat_natCast]
  have e : b = 0 ∨ b = 1 := by omega
  rcases e with rfl | rfl
  · have h : Lib.decDigits 0 = [48] := by decide +kernel
    rw [h]; rfl
  · have h : Lib.decDigits 1 = [49] := by decide +kernel
    rw [h]; rfl

theorem shr_i64 (x j : Nat) (hj : j ≤ 64) : shr .i64 (x : Int) (j : Int) = ((x / 2 ^ j : Nat) : Int) := by
  simp only [shr, IntKind.bits, Int.toNat_natCast, Nat.min_eq_left hj]
  simp
theorem wraps20 (n : Int) (h0 : 0 ≤ n) (h1 : n < 2 ^ 30) : IntKind.i64.wrap n = n := by rw [IntKind.wrap_i64]; omega
theorem and_one {a : Nat} (ha : a < 2 ^ 30) : Go.bits .and .i64 (a : Int) 1 = ((a % 2 : Nat) : Int) := by
  have h := (bits_nat .i64 30 (by decide) wraps20 a 1 ha (by decide)).1
  rw [Nat.and_one_is_mod] at h
  exact h
theorem u64_small (j : Nat) (hj : j ≤ 100) : IntKind.u64.wrap (j : Int) = (j : Int) := by
  simp [IntKind.wrap, IntKind.bits, IntKind.signed]
  omega
theorem l10Bit_eq (b : Nat) (hb : b < 2) : spec_l10Bit.f (b : Int) = some (strOfNums [((48 + b : Nat) : Int)]) := by
  unfold spec_l10Bit.f
  have w : wrap64 (48 + (b : Int)) = ((48 + b : Nat) : Int) := by rw [K.w64 (by omega) (by omega)]; omega
  rw [w]
  have e : ((48 + b : Nat) : Int) % 256 = ((48 + b : Nat) : Int) := by omega
  rw [e]
theorem rice_loops (m : Nat) (hm : m < 2 ^ 30) : ∀ (j : Nat) (acc : ByteArray), j ≤ 10 → acc.size + j ≤ 100000000 → ∃ r, Ev (fun k => spec_RiceOf.l0 k (m : Int) acc ((j : Int) - 1)) r ∧ Ev (fun k => impl_rice.l0 k (m : Int) acc ((j : Int) - 1)) r := by
  intro j
  induction j with
  | zero =>
    intro acc _ _
    refine ⟨(acc, true), ?_, ?_⟩ <;> apply K.Ev.succ
    · simp only [spec_RiceOf.l0, show ¬ (((0 : Nat) : Int) - 1 ≥ 0) by omega, if_false]; exact Ev.now _
    · simp only [impl_rice.l0, show ¬ (((0 : Nat) : Int) - 1 ≥ 0) by omega, if_false]; exact Ev.now _
  | succ j ih =>
    intro acc hj hs
    have hb : m / 2 ^ j % 2 < 2 := Nat.mod_lt _ (by omega)
    have hq : m / 2 ^ j < 2 ^ 30 := Nat.lt_of_le_of_lt (Nat.div_le_self _ _) hm
    have hz : (strOfNums [((48 + m / 2 ^ j % 2 : Nat) : Int)]).size = 1 := by rw [strOfNums_size]; rfl
    obtain ⟨r, r1, r2⟩ := ih (acc ++ strOfNums [((48 + m / 2 ^ j % 2 : Nat) : Int)]) (by omega) (by rw [ByteArray.size_append, hz]; omega)
    have e : (((j + 1 : Nat) : Int) - 1) = (j : Int) := by omega
    have w : K.Eqn (wrap64 ((j : Int) - 1)) ((j : Int) - 1) := ⟨K.w64 (by omega) (by omega)⟩
    have c1 : (j : Int) ≥ 0 := by omega
    have c0 : (0 : Int) ≤ (j : Int) := by omega
    have c2 : acc.size + (strOfNums [((48 + m / 2 ^ j % 2 : Nat) : Int)]).size ≤ 9223372036854775807 := by rw [hz]; omega
    refine ⟨r, ?_, ?_⟩ <;> rw [e] <;> apply K.Ev.succ
    · simp only [spec_RiceOf.l0, if_pos c1, u64_small j (by omega), if_pos c0, shr_i64 m j (by omega), and_one hq, l10Bit_eq _ hb, Option.bind_some, if_pos c2, w.out]; exact r1
    · simp only [impl_rice.l0, if_pos c1, if_pos c0, shr_i64 m j (by omega), and_one hq, itoa_eq _ hb, Option.bind_some, if_pos c2, w.out]; exact r2
theorem rice_same (a b : Int) : ∃ r, Ev (fun k => spec_RiceOf.f k a b) r ∧ Ev (fun k => impl_RiceOf.f k a b) r := by
  have bad : Ev (fun k => spec_RiceOf.j0 k a b true) (⟨#[]⟩, false) := by
    apply K.Ev.succ
    simp only [spec_RiceOf.j0, if_true]; exact Ev.now _
  by_cases ha : 1 ≤ a ∧ a ≤ 1000000
  case neg =>
    have q : spec_l1In.f a 1 1000000 = some false := by
      unfold spec_l1In.f; split
      · simp; omega
      · rfl
    have q2 : impl_within.f a 1 1000000 = some false := q
    refine ⟨(⟨#[]⟩, false), ?_, ?_⟩
    · simp only [spec_RiceOf.f, spec_l13Number.f, q, Option.bind_some, Bool.false_eq_true, if_false]; exact bad
    · simp only [impl_RiceOf.f, impl_isNumber.f, q2, Option.bind_some, Bool.false_eq_true, if_false]; exact Ev.now _
  have q : spec_l1In.f a 1 1000000 = some true := by unfold spec_l1In.f; rw [if_pos ha.1]; simp [ha.2]
  have q2 : impl_within.f a 1 1000000 = some true := q
  by_cases hb : 0 ≤ b ∧ b ≤ 10
  case neg =>
    have p : spec_l1In.f b 0 10 = some false := by
      unfold spec_l1In.f; split
      · simp; omega
      · rfl
    have p2 : impl_within.f b 0 10 = some false := p
    refine ⟨(⟨#[]⟩, false), ?_, ?_⟩
    · simp only [spec_RiceOf.f, spec_l13Number.f, q, p, Option.bind_some, if_true, Bool.not_false]; exact bad
    · simp only [impl_RiceOf.f, impl_isNumber.f, q2, p2, Option.bind_some, if_true, Bool.false_eq_true, if_false]; exact Ev.now _
  have p : spec_l1In.f b 0 10 = some true := by unfold spec_l1In.f; rw [if_pos hb.1]; simp [hb.2]
  have p2 : impl_within.f b 0 10 = some true := p
  obtain ⟨j, rfl⟩ := Int.eq_ofNat_of_zero_le hb.1
  obtain ⟨m, hm⟩ := Int.eq_ofNat_of_zero_le (show 0 ≤ a - 1 by omega)
  have w : K.Eqn (wrap64 (a - 1)) (m : Int) := ⟨by rw [K.w64 (by omega) (by omega), hm]⟩
  have hq : m / 2 ^ j ≤ m := Nat.div_le_self _ _
  have hsh := shr_i64 m j (by omega)
  generalize m / 2 ^ j = Q at hq hsh
  have w2 : K.Eqn (wrap64 (wrap64 ((Q : Int) + 1) + (j : Int))) ((Q + 1 + j : Nat) : Int) := ⟨by rw [K.w64 (x := (Q : Int) + 1) (by omega) (by omega), K.w64 (by omega) (by omega)]; omega⟩
  have wj : K.Eqn (wrap64 ((j : Int) - 1)) ((j : Int) - 1) := ⟨K.w64 (by omega) (by omega)⟩
  have c0 : (0 : Int) ≤ (j : Int) := by omega
  by_cases hc : ((Q + 1 + j : Nat) : Int) > 2000
  · refine ⟨(⟨#[]⟩, false), ?_, ?_⟩
    · simp only [spec_RiceOf.f, spec_l13Number.f, q, p, Option.bind_some, if_true, Bool.not_true]
      apply K.Ev.succ
      simp only [spec_RiceOf.j0, Bool.false_eq_true, if_false, u64_small j (by omega), if_pos c0, w.out, hsh, w2.out, if_pos hc]; exact Ev.now _
    · simp only [impl_RiceOf.f, impl_isNumber.f, q2, p2, Option.bind_some, if_true, impl_rice.f, if_pos c0, w.out, hsh, w2.out, if_pos hc]; exact Ev.now _
  · have hq2 : Q ≤ 2000 := by omega
    have hz : (strOfNums (List.replicate Q ((49 : Nat) : Int))).size = Q := by rw [strOfNums_size]; simp
    have c1 : (strOfNums (List.replicate Q ((49 : Nat) : Int))).size + 1 ≤ 9223372036854775807 := by rw [hz]; omega
    obtain ⟨r, r1, r2⟩ := rice_loops m (by omega) j (strOfNums (List.replicate Q ((49 : Nat) : Int)) ++ ⟨#[48]⟩) (by omega) (by
      rw [ByteArray.size_append, hz]
      have : (⟨#[48]⟩ : ByteArray).size = 1 := rfl
      omega)
    refine ⟨r, ?_, ?_⟩
    · simp only [spec_RiceOf.f, spec_l13Number.f, q, p, Option.bind_some, if_true, Bool.not_true]
      apply K.Ev.succ
      simp only [spec_RiceOf.j0, Bool.false_eq_true, if_false, u64_small j (by omega), if_pos c0, w.out, hsh, w2.out, if_neg hc, wj.out]
      refine Ev.bind (many_ev Q 49 (by omega) (by omega)) ?_
      simp only [if_pos c1]
      exact r1
    · have hrep : strings_Repeat.f (⟨#[49]⟩ : ByteArray) (Q : Int) = some (strOfNums (List.replicate Q ((49 : Nat) : Int))) := repeat_eq 49 (by omega) Q (by omega)
      simp only [impl_RiceOf.f, impl_isNumber.f, q2, p2, Option.bind_some, if_true, impl_rice.f, if_pos c0, w.out, hsh, w2.out, if_neg hc, wj.out, hrep, if_pos c1]
      exact Ev.bind r2 (Ev.now _)
theorem FnExactRiceOf : laws_FnExactRiceOf.Pure := by
  intro a b ha hb
  refine Ev.rounds (?_ : Ev (fun k => laws_FnExactRiceOf.f k a b) true)
  obtain ⟨r, e1, e2⟩ := rice_same a b
  simp only [laws_FnExactRiceOf.f]
  refine Ev.bind e1 ?_
  refine Ev.bind e2 ?_
  simp only [if_true, bne_self_eq_false, Bool.false_eq_true, if_false]
  exact Ev.now _

end Go.Proofs.YtaoemgkalmhnbaaDoor.Pure
