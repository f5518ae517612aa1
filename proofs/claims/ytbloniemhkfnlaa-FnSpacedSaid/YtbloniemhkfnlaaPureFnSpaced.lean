/- The law FnSpaced answers true for all drawn data: words of different data differ in at least 2t + 1 places, and words are told by their syndromes. -/
import Derived.Test.YtbloniemhkfnlaaPFnSpacedx18
import Derived.Test.YtbloniemhkfnlaaKKit
import Derived.Test.YtbloniemhkfnlaaKGF
import Derived.Test.YtbloniemhkfnlaaKGFL
import Derived.Test.YtbloniemhkfnlaaKCor2
import Derived.Test.YtbloniemhkfnlaaKEnc
import Derived.Test.YtbloniemhkfnlaaKVit
import Derived.Test.YtbloniemhkfnlaaKElim
set_option linter.unusedVariables false
set_option linter.unusedSimpArgs false
namespace Go.Proofs.Ytbloniemhkfnlaa.Pure
open Go Go.RowKit Go.Proofs.Ytbloniemhkfnlaa Go.Proofs.Ytbloniemhkfnlaa.PFnSpaced Go.Proofs.YtbloniemhkfnlaaW.PrintWords Go.Proofs.YtbloniemhkfnlaaW.PrintLast Go.Proofs.YtbloniemhkfnlaaW.PrintMore

theorem l1Times_ev (a b : Nat) (ha : a < 256) (hb : b < 256) : Ev (fun k => spec_l1Times.f k (a : Int) (b : Int)) ((K.gmul a b : Nat) : Int) := by
  have key : ∀ (n x y o : Nat), x < 256 → o < 256 → y < 2 ^ n → n ≤ 8 → Ev (fun k => spec_l1Times.l0 k (o : Int) (x : Int) (y : Int)) ((K.gstep n x y o : Nat) : Int) := by
    intro n
    induction n with
    | zero =>
      intro x y o hx ho hy _
      obtain rfl : y = 0 := by simpa using hy
      apply K.Ev.succ
      simp only [spec_l1Times.l0, show ¬ (((0 : Nat) : Int) > 0) by omega, if_false, K.gstep]
      exact K.Ev.const (by rw [show (o : Int) % 256 = (o : Int) by omega])
    | succ n ih =>
      intro x y o hx ho hy hn
      by_cases h0 : y = 0
      · subst h0
        apply K.Ev.succ
        rw [K.gstep_zero]
        simp only [spec_l1Times.l0, show ¬ (((0 : Nat) : Int) > 0) by omega, if_false]
        exact K.Ev.const (by rw [show (o : Int) % 256 = (o : Int) by omega])
      have hy2 : y < 512 := Nat.lt_of_lt_of_le hy (by
        have : 2 ^ (n + 1) ≤ 2 ^ 9 := Nat.pow_le_pow_right (by omega) (by omega)
        omega)
      have w : K.Eqn (wrap64 ((x : Int) * 2)) ((2 * x : Nat) : Int) := ⟨by rw [K.w64 (by omega) (by omega)]; omega⟩
      have hx2 : (if ((2 * x : Nat) : Int) > 255 then Go.bits .xor .i64 ((2 * x : Nat) : Int) 283 else ((2 * x : Nat) : Int)) = ((K.xt x : Nat) : Int) := by
        unfold K.xt
        by_cases h : 2 * x > 255
        · rw [if_pos (by omega), if_pos h]
          exact K.xor_i64 (b := 283) (by omega) (by omega)
        · rw [if_neg (by omega), if_neg h]
      have hy' : (y : Int) / 2 = ((y / 2 : Nat) : Int) := by omega
      have hnext := ih (K.xt x) (y / 2) (if y % 2 = 1 then o ^^^ x else o) (K.xt_lt hx) (by
        split
        · exact Nat.xor_lt_two_pow (n := 8) ho hx
        · exact ho) (by rw [Nat.pow_succ] at hy; omega) (by omega)
      apply K.Ev.succ
      simp only [spec_l1Times.l0, if_pos (show (y : Int) > 0 by omega), K.and_i64_1 (show y < 1024 by omega), w.out, K.xor_i64 (show o < 1024 by omega) (show x < 1024 by omega), hy']
      by_cases h1 : y % 2 = 1
      · rw [if_pos h1] at hnext
        simp only [h1, show (((1 : Nat) : Int) = 1) = True by simp, if_true, K.gstep]
        by_cases h2 : ((2 * x : Nat) : Int) > 255
        · rw [if_pos h2] at hx2
          simp only [if_pos h2]
          simp only [hx2]
          exact hnext
        · rw [if_neg h2] at hx2
          simp only [if_neg h2]
          simp only [hx2]
          exact hnext
      · rw [if_neg h1] at hnext
        have h1' : ¬ (((y % 2 : Nat) : Int) = 1) := by omega
        simp only [if_neg h1', K.gstep, if_neg h1]
        by_cases h2 : ((2 * x : Nat) : Int) > 255
        · rw [if_pos h2] at hx2
          simp only [if_pos h2]
          simp only [hx2]
          exact hnext
        · rw [if_neg h2] at hx2
          simp only [if_neg h2]
          simp only [hx2]
          exact hnext
  have wa : K.Eqn (wrap64 (a : Int)) (a : Int) := ⟨K.w64 (by omega) (by omega)⟩
  have wb : K.Eqn (wrap64 (b : Int)) (b : Int) := ⟨K.w64 (by omega) (by omega)⟩
  simp only [spec_l1Times.f, wa.out, wb.out]
  exact key 8 a b 0 ha (by omega) (by omega) (by omega)

theorem l7At_ev (l : List Nat) (hl : l.length ≤ 1048576) (hb : K.Bytes l) (x : Nat) (hx : x < 256) : Ev (fun k => spec_l7At.f k (K.il l) (x : Int)) ((K.peval l x : Nat) : Int) := by
  have key : ∀ (n : Nat), n ≤ l.length → Ev (fun k => spec_l7At.l0 k (K.il l) (x : Int) ((K.peval (l.drop n) x : Nat) : Int) ((n : Int) - 1)) ((K.peval l x : Nat) : Int) := by
    intro n
    induction n with
    | zero =>
      intro _
      apply K.Ev.succ
      simp only [spec_l7At.l0, show ¬ (((0 : Nat) : Int) - 1 ≥ 0) by omega, if_false, List.drop_zero]
      exact Ev.now _
    | succ n ih =>
      intro h
      have hn : n < l.length := by omega
      have hd : K.Bytes (l.drop (n + 1)) := fun y hy => hb y (List.mem_of_mem_drop hy)
      have e : (((n + 1 : Nat) : Int) - 1) = (n : Int) := by omega
      have w : K.Eqn (wrap64 ((n : Int) - 1)) ((n : Int) - 1) := ⟨K.w64 (by omega) (by omega)⟩
      have hp := K.peval_lt hd x
      apply K.Ev.succ
      simp only [spec_l7At.l0, e, if_pos (show (n : Int) ≥ 0 by omega)]
      refine Ev.bind (l1Times_ev _ x hp hx) ?_
      simp only [if_pos (show 0 ≤ (n : Int) by omega), K.il_length, if_pos (show (n : Int) < (l.length : Int) by omega), K.rd_il hn, K.xor_u8 (K.gmul_lt (b := x) hp) (hb l[n] (List.getElem_mem hn)), w.out]
      have := ih (by omega)
      rw [List.drop_eq_getElem_cons hn] at this
      exact this
  have w : K.Eqn (wrap64 ((l.length : Int) - 1)) ((l.length : Int) - 1) := ⟨K.w64 (by omega) (by omega)⟩
  simp only [spec_l7At.f, K.il_length, w.out]
  have := key l.length (Nat.le_refl _)
  rw [List.drop_length] at this
  exact this

theorem l1Power_ev (a n : Nat) (ha : a < 256) (hn : n < 1024) : Ev (fun k => spec_l1Power.f k (a : Int) (n : Int)) ((K.gpow a n : Nat) : Int) := by
  have key : ∀ (n o : Nat), n < 1024 → o < 256 → Ev (fun k => spec_l1Power.l0 k (a : Int) (n : Int) (o : Int)) ((K.gmul o (K.gpow a n) : Nat) : Int) := by
    intro n
    induction n with
    | zero =>
      intro o _ ho
      apply K.Ev.succ
      simp only [spec_l1Power.l0, show ¬ (((0 : Nat) : Int) > 0) by omega, if_false, K.gpow, K.gmul_one ho]
      exact Ev.now _
    | succ n ih =>
      intro o h ho
      have w : K.Eqn (wrap64 (((n + 1 : Nat) : Int) - 1)) (n : Int) := ⟨by rw [K.w64 (by omega) (by omega)]; omega⟩
      have e : K.gmul o (K.gpow a (n + 1)) = K.gmul (K.gmul o a) (K.gpow a n) := by
        rw [K.gmul_assoc ho ha (K.gpow_lt n), K.gmul_comm ha (K.gpow_lt n)]; rfl
      apply K.Ev.succ
      simp only [spec_l1Power.l0, if_pos (show ((n + 1 : Nat) : Int) > 0 by omega), w.out]
      refine Ev.bind (l1Times_ev o a ho ha) ?_
      rw [e]
      exact ih _ (by omega) (K.gmul_lt ho)
  have := key n 1 hn (by omega)
  rw [K.one_gmul (K.gpow_lt n)] at this
  simp only [spec_l1Power.f]
  exact this

theorem syndS_ev (l : List Nat) (hl : l.length ≤ 24) (hb : K.Bytes l) (t : Nat) (ht : t ≤ 4) : Ev (fun k => spec_l8Syndromes.f k (K.il l) (t : Int)) (K.il (K.synd l t)) := by
  have w2 : K.Eqn (wrap64 (2 * (t : Int))) (2 * (t : Int)) := ⟨K.w64 (by omega) (by omega)⟩
  have key : ∀ (d i : Nat), i + d = 2 * t → Ev (fun k => spec_l8Syndromes.l0 k (K.il l) (t : Int) (K.il ((List.range i).map (fun i => K.peval l (K.gpow 3 (i + 1))))) ((i + 1 : Nat) : Int)) (K.il (K.synd l t)) := by
    intro d
    induction d with
    | zero =>
      intro i h1
      obtain rfl : i = 2 * t := by omega
      apply K.Ev.succ
      simp only [spec_l8Syndromes.l0, w2.out, if_neg (show ¬ (((2 * t + 1 : Nat) : Int) ≤ 2 * (t : Int)) by omega)]
      exact Ev.now _
    | succ d ih =>
      intro i h1
      have hx := ih (i + 1) (by omega)
      rw [List.range_succ, List.map_append, List.map_cons, List.map_nil, ← K.il_snoc] at hx
      apply K.Ev.succ
      simp only [spec_l8Syndromes.l0, w2.out, if_pos (show ((i + 1 : Nat) : Int) ≤ 2 * (t : Int) by omega)]
      refine Ev.bind (l1Power_ev 3 (i + 1) (by omega) (by omega)) ?_
      refine Ev.bind (l7At_ev l (by omega) hb _ (K.gpow_lt _)) ?_
      simp only [K.il_length, List.length_map, List.length_range, if_pos (show i < 140737488355328 by omega), K.w64s (i + 1) (show i + 1 < 9223372036854775807 by omega)]
      exact hx
  simp only [spec_l8Syndromes.f]
  exact key (2 * t) 0 (by omega)

theorem fits_eq (n : Nat) (hn : n ≤ 1048576) (l : List Int) (hl : l.length = n) (t : Int) : ∃ b : Bool, spec_l8Fits.f l t = some b ∧ impl_isLong.f l t = some b ∧ (b = true → 1 ≤ t ∧ t ≤ 4 ∧ 2 * t + 1 ≤ n ∧ n ≤ 24) := by
  by_cases h : 1 ≤ t ∧ t ≤ 4
  · have q : spec_l1In.f t 1 4 = some true := by unfold spec_l1In.f; rw [if_pos h.1]; simp [h.2]
    have q2 : impl_within.f t 1 4 = some true := q
    have w : wrap64 (wrap64 (2 * t) + 1) = 2 * t + 1 := by rw [K.w64 (x := 2 * t) (by omega) (by omega), K.w64 (by omega) (by omega)]
    by_cases h2 : (n : Int) ≥ 2 * t + 1
    · refine ⟨decide ((n : Int) ≤ 24), ?_, ?_, fun hb => by simp at hb; omega⟩
      · simp only [spec_l8Fits.f, spec_l8T.f, q, Option.bind_some, if_true, w]; simp only [spec_l1In.f, hl, if_pos h2, Option.bind_some]
      · simp only [impl_isLong.f, impl_isCount.f, q2, Option.bind_some, if_true, w]; simp only [impl_within.f, hl, if_pos h2, Option.bind_some]
    · refine ⟨false, ?_, ?_, fun hb => by cases hb⟩
      · simp only [spec_l8Fits.f, spec_l8T.f, q, Option.bind_some, if_true, w]; simp only [spec_l1In.f, hl, if_neg h2, Option.bind_some]
      · simp only [impl_isLong.f, impl_isCount.f, q2, Option.bind_some, if_true, w]; simp only [impl_within.f, hl, if_neg h2, Option.bind_some]
  · have q : spec_l1In.f t 1 4 = some false := by
      unfold spec_l1In.f; split
      · simp; omega
      · rfl
    have q2 : impl_within.f t 1 4 = some false := q
    refine ⟨false, ?_, ?_, fun hb => by cases hb⟩
    · simp only [spec_l8Fits.f, spec_l8T.f, q, Option.bind_some, Bool.false_eq_true, if_false]
    · simp only [impl_isLong.f, impl_isCount.f, q2, Option.bind_some, Bool.false_eq_true, if_false]

theorem Times_ev (a b : Nat) (ha : a < 256) (hb : b < 256) : Ev (fun k => impl_Times.f k (a : Int) (b : Int)) ((K.gmul a b : Nat) : Int) := by
  have key : ∀ (n j x o : Nat), j + n = 8 → x < 256 → o < 256 → Ev (fun k => impl_Times.l0 k (b : Int) (o : Int) (j : Int) (x : Int)) ((K.gstep n x (b / 2 ^ j) o : Nat) : Int) := by
    intro n
    induction n with
    | zero =>
      intro j x o hj hx ho
      apply K.Ev.succ
      simp only [impl_Times.l0, if_neg (show ¬ ((j : Int) < 8) by omega), K.gstep]
      exact K.Ev.const (by rw [show (o : Int) % 256 = (o : Int) by omega])
    | succ n ih =>
      intro j x o hj hx ho
      have w : K.Eqn (wrap64 ((x : Int) * 2)) ((2 * x : Nat) : Int) := ⟨by rw [K.w64 (by omega) (by omega)]; omega⟩
      have hx2 : (if ((2 * x : Nat) : Int) > 255 then Go.bits .xor .i64 ((2 * x : Nat) : Int) 283 else ((2 * x : Nat) : Int)) = ((K.xt x : Nat) : Int) := by
        unfold K.xt
        by_cases h : 2 * x > 255
        · rw [if_pos (by omega), if_pos h]
          exact K.xor_i64 (b := 283) (by omega) (by omega)
        · rw [if_neg (by omega), if_neg h]
      have hs : shr .u8 (b : Int) (j : Int) = ((b / 2 ^ j : Nat) : Int) := K.shr_u8 b j (by omega)
      have hbj : b / 2 ^ j < 256 := Nat.lt_of_le_of_lt (Nat.div_le_self _ _) hb
      have hnext := ih (j + 1) (K.xt x) (if (b / 2 ^ j) % 2 = 1 then o ^^^ x else o) (by omega) (K.xt_lt hx) (by
        split
        · exact Nat.xor_lt_two_pow (n := 8) ho hx
        · exact ho)
      rw [Nat.pow_succ, ← Nat.div_div_eq_div_mul] at hnext
      apply K.Ev.succ
      simp only [impl_Times.l0, if_pos (show (j : Int) < 8 by omega), if_pos (show 0 ≤ (j : Int) by omega), hs, K.and_u8_1 hbj, w.out, K.xor_i64 (show o < 1024 by omega) (show x < 1024 by omega), K.w64s j (show j < 9223372036854775807 by omega)]
      by_cases h1 : (b / 2 ^ j) % 2 = 1
      · rw [if_pos h1] at hnext
        simp only [h1, show (((1 : Nat) : Int) = 1) = True by simp, if_true, K.gstep]
        by_cases h2 : ((2 * x : Nat) : Int) > 255
        · rw [if_pos h2] at hx2
          simp only [if_pos h2]
          simp only [hx2]
          exact hnext
        · rw [if_neg h2] at hx2
          simp only [if_neg h2]
          simp only [hx2]
          exact hnext
      · rw [if_neg h1] at hnext
        have h1' : ¬ (((b / 2 ^ j % 2 : Nat) : Int) = 1) := by omega
        simp only [if_neg h1', K.gstep, if_neg h1]
        by_cases h2 : ((2 * x : Nat) : Int) > 255
        · rw [if_pos h2] at hx2
          simp only [if_pos h2]
          simp only [hx2]
          exact hnext
        · rw [if_neg h2] at hx2
          simp only [if_neg h2]
          simp only [hx2]
          exact hnext
  have wa : K.Eqn (wrap64 (a : Int)) (a : Int) := ⟨K.w64 (by omega) (by omega)⟩
  simp only [impl_Times.f, wa.out]
  have := key 8 0 a 0 (by omega) ha (by omega)
  rw [Nat.pow_zero, Nat.div_one] at this
  exact this

theorem valueAt_ev (l : List Nat) (hl : l.length ≤ 1048576) (hb : K.Bytes l) (x : Nat) (hx : x < 256) : Ev (fun k => impl_valueAt.f k (K.il l) (x : Int)) ((K.peval l x : Nat) : Int) := by
  have key : ∀ (n : Nat), n ≤ l.length → Ev (fun k => impl_valueAt.l0 k (K.il l) (x : Int) ((K.peval (l.drop n) x : Nat) : Int) ((n : Int) - 1)) ((K.peval l x : Nat) : Int) := by
    intro n
    induction n with
    | zero =>
      intro _
      apply K.Ev.succ
      simp only [impl_valueAt.l0, show ¬ (((0 : Nat) : Int) - 1 ≥ 0) by omega, if_false, List.drop_zero]
      exact Ev.now _
    | succ n ih =>
      intro h
      have hn : n < l.length := by omega
      have hd : K.Bytes (l.drop (n + 1)) := fun y hy => hb y (List.mem_of_mem_drop hy)
      have e : (((n + 1 : Nat) : Int) - 1) = (n : Int) := by omega
      have w : K.Eqn (wrap64 ((n : Int) - 1)) ((n : Int) - 1) := ⟨K.w64 (by omega) (by omega)⟩
      have hp := K.peval_lt hd x
      apply K.Ev.succ
      simp only [impl_valueAt.l0, e, if_pos (show (n : Int) ≥ 0 by omega)]
      refine Ev.bind (Times_ev _ x hp hx) ?_
      simp only [if_pos (show 0 ≤ (n : Int) by omega), K.il_length, if_pos (show (n : Int) < (l.length : Int) by omega), K.rd_il hn, K.xor_u8 (K.gmul_lt (b := x) hp) (hb l[n] (List.getElem_mem hn)), w.out]
      have := ih (by omega)
      rw [List.drop_eq_getElem_cons hn] at this
      exact this
  have w : K.Eqn (wrap64 ((l.length : Int) - 1)) ((l.length : Int) - 1) := ⟨K.w64 (by omega) (by omega)⟩
  simp only [impl_valueAt.f, K.il_length, w.out]
  have := key l.length (Nat.le_refl _)
  rw [List.drop_length] at this
  exact this

theorem power_ev (a n : Nat) (ha : a < 256) (hn : n < 1024) : Ev (fun k => impl_power.f k (a : Int) (n : Int)) ((K.gpow a n : Nat) : Int) := by
  have key : ∀ (d n a o : Nat), n ≤ d → n < 1024 → a < 256 → o < 256 → Ev (fun k => impl_power.l0 k (a : Int) (n : Int) (o : Int)) ((K.gmul o (K.gpow a n) : Nat) : Int) := by
    intro d
    induction d with
    | zero =>
      intro n a o hd _ ha ho
      obtain rfl : n = 0 := by omega
      apply K.Ev.succ
      simp only [impl_power.l0, show ¬ (((0 : Nat) : Int) > 0) by omega, if_false, K.gpow, K.gmul_one ho]
      exact Ev.now _
    | succ d ih =>
      intro n a o hd hn ha ho
      by_cases h0 : n = 0
      · subst h0
        apply K.Ev.succ
        simp only [impl_power.l0, show ¬ (((0 : Nat) : Int) > 0) by omega, if_false, K.gpow, K.gmul_one ho]
        exact Ev.now _
      have hh : (n : Int) / 2 = ((n / 2 : Nat) : Int) := by omega
      apply K.Ev.succ
      simp only [impl_power.l0, if_pos (show (n : Int) > 0 by omega), K.and_i64_1 hn, hh]
      by_cases h1 : n % 2 = 1
      · simp only [if_pos (show ((n % 2 : Nat) : Int) = 1 by omega)]
        refine Ev.bind (Times_ev o a ho ha) ?_
        refine Ev.bind (Times_ev a a ha ha) ?_
        have e : K.gmul o (K.gpow a n) = K.gmul (K.gmul o a) (K.gpow (K.gmul a a) (n / 2)) := by
          rw [K.gpow_sq ha, K.gmul_assoc ho ha (K.gpow_lt _), K.gmul_comm ha (K.gpow_lt _)]
          have h : n = (n / 2 + n / 2) + 1 := by omega
          rw [show K.gpow a n = K.gpow a ((n / 2 + n / 2) + 1) by rw [← h]]
          rfl
        rw [e]
        exact ih _ _ _ (by omega) (by omega) (K.gmul_lt ha) (K.gmul_lt ho)
      · simp only [if_neg (show ¬ ((n % 2 : Nat) : Int) = 1 by omega)]
        refine Ev.bind (Times_ev a a ha ha) ?_
        have e : K.gmul o (K.gpow a n) = K.gmul o (K.gpow (K.gmul a a) (n / 2)) := by
          rw [K.gpow_sq ha]
          have h : n = (n / 2 + n / 2) := by omega
          rw [show K.gpow a n = K.gpow a (n / 2 + n / 2) by rw [← h]]
        rw [e]
        exact ih _ _ _ (by omega) (by omega) (K.gmul_lt ha) ho
  have := key n n a 1 (by omega) hn ha (by omega)
  rw [K.one_gmul (K.gpow_lt n)] at this
  simp only [impl_power.f]
  exact this

theorem syndI_ev (l : List Nat) (hl : l.length ≤ 24) (hb : K.Bytes l) (t : Nat) (ht : t ≤ 4) : Ev (fun k => impl_syndromes.f k (K.il l) (t : Int)) (K.il (K.synd l t)) := by
  have w2 : K.Eqn (wrap64 (2 * (t : Int))) (2 * (t : Int)) := ⟨K.w64 (by omega) (by omega)⟩
  have key : ∀ (d i : Nat), i + d = 2 * t → Ev (fun k => impl_syndromes.l0 k (K.il l) (t : Int) (K.il ((List.range i).map (fun i => K.peval l (K.gpow 3 (i + 1))))) ((i + 1 : Nat) : Int)) (K.il (K.synd l t)) := by
    intro d
    induction d with
    | zero =>
      intro i h1
      obtain rfl : i = 2 * t := by omega
      apply K.Ev.succ
      simp only [impl_syndromes.l0, w2.out, if_neg (show ¬ (((2 * t + 1 : Nat) : Int) ≤ 2 * (t : Int)) by omega)]
      exact Ev.now _
    | succ d ih =>
      intro i h1
      have hx := ih (i + 1) (by omega)
      rw [List.range_succ, List.map_append, List.map_cons, List.map_nil, ← K.il_snoc] at hx
      apply K.Ev.succ
      simp only [impl_syndromes.l0, w2.out, if_pos (show ((i + 1 : Nat) : Int) ≤ 2 * (t : Int) by omega)]
      refine Ev.bind (power_ev 3 (i + 1) (by omega) (by omega)) ?_
      refine Ev.bind (valueAt_ev l (by omega) hb _ (K.gpow_lt _)) ?_
      simp only [K.il_length, List.length_map, List.length_range, if_pos (show i < 140737488355328 by omega), K.w64s (i + 1) (show i + 1 < 9223372036854775807 by omega)]
      exact hx
  simp only [impl_syndromes.f]
  exact key (2 * t) 0 (by omega)

theorem synOf_both (w : List Nat) (hb : K.Bytes w) (hl : w.length ≤ 1048576) (t : Int) : (Ev (fun k => spec_SyndromesOf.f k (K.il w) t) (([] : List Int), false) ∧ Ev (fun k => impl_SyndromesOf.f k (K.il w) t) (([] : List Int), false)) ∨ ∃ n : Nat, t = (n : Int) ∧ 1 ≤ n ∧ n ≤ 4 ∧ w.length ≤ 24 ∧ Ev (fun k => spec_SyndromesOf.f k (K.il w) t) (K.il (K.synd w n), true) ∧ Ev (fun k => impl_SyndromesOf.f k (K.il w) t) (K.il (K.synd w n), true) ∧ impl_isLong.f (K.il w) t = some true ∧ spec_l8Fits.f (K.il w) t = some true := by
  obtain ⟨b, q1, q2, q3⟩ := fits_eq (K.il w).length (by rw [K.il_length]; exact hl) (K.il w) rfl t
  cases b with
  | false =>
    left
    constructor
    · simp only [spec_SyndromesOf.f, q1, Option.bind_some, Bool.false_eq_true, if_false]; exact Ev.now _
    · simp only [impl_SyndromesOf.f, q2, Option.bind_some, Bool.false_eq_true, if_false]; exact Ev.now _
  | true =>
    right
    obtain ⟨t0, t1, t2, t3⟩ := q3 rfl
    obtain ⟨n, rfl⟩ := Int.eq_ofNat_of_zero_le (show 0 ≤ t by omega)
    rw [K.il_length] at t2 t3
    refine ⟨n, rfl, by omega, by omega, by omega, ?_, ?_, q2, q1⟩
    · simp only [spec_SyndromesOf.f, q1, Option.bind_some, if_true]
      exact Ev.bind (syndS_ev w (by omega) hb n (by omega)) (Ev.now _)
    · simp only [impl_SyndromesOf.f, q2, Option.bind_some, if_true]
      exact Ev.bind (syndI_ev w (by omega) hb n (by omega)) (Ev.now _)
theorem Max_zero (l : List Nat) (h0 : 0 < l.length) (hl : l.length ≤ 1048576) : ∃ v : Int, Ev (fun k => slices_Max_byte_byte.f k (K.il l)) v ∧ (v == 0) = l.all (· == 0) := by
  have key : ∀ (d n c : Nat), n + d = l.length → ∃ v : Int, Ev (fun k => slices_Max_byte_byte.l0 k (K.il l) (c : Int) (n : Int)) v ∧ (v == 0) = (c == 0 && (l.drop n).all (· == 0)) := by
    intro d
    induction d with
    | zero =>
      intro n c h
      refine ⟨(c : Int), ?_, ?_⟩
      · apply K.Ev.succ
        simp only [slices_Max_byte_byte.l0, K.il_length, if_neg (show ¬ ((n : Int) < (l.length : Int)) by omega)]
        exact Ev.now _
      · rw [List.drop_of_length_le (by omega)]
        by_cases hc : c = 0
        · subst hc; rfl
        · rw [show (c == 0) = false by simpa using hc, show ((c : Int) == 0) = false by simp; omega]; rfl
    | succ d ih =>
      intro n c h
      have hn : n < l.length := by omega
      obtain ⟨v, v1, v2⟩ := ih (n + 1) (if c < l[n] then l[n] else c) (by omega)
      have hm : mx (c : Int) ((l[n] : Nat) : Int) = (((if c < l[n] then l[n] else c : Nat)) : Int) := by
        unfold mx
        by_cases hc : c < l[n]
        · rw [if_pos hc, if_pos (by omega)]
        · rw [if_neg hc, if_neg (by omega)]
      refine ⟨v, ?_, ?_⟩
      · apply K.Ev.succ
        simp only [slices_Max_byte_byte.l0, K.il_length, if_pos (show (n : Int) < (l.length : Int) by omega), if_pos (show 0 ≤ (n : Int) by omega), K.rd_il hn, hm, K.w64s n (show n < 9223372036854775807 by omega)]
        exact v1
      · rw [v2, List.drop_eq_getElem_cons hn, List.all_cons, ← Bool.and_assoc]
        congr 1
        by_cases hc : c < l[n]
        · rw [if_pos hc, show (l[n] == 0) = false by simp; omega]; simp
        · rw [if_neg hc]
          by_cases hz : c = 0
          · have : l[n] = 0 := by omega
            simp [hz, this]
          · simp [hz]
  obtain ⟨v, v1, v2⟩ := key (l.length - 1) 1 l[0] (by omega)
  refine ⟨v, ?_, ?_⟩
  · simp only [slices_Max_byte_byte.f, K.il_length, if_pos (show 0 < (l.length : Int) by omega)]
    have := K.rd_il h0
    rw [show (0 : Int) = ((0 : Nat) : Int) from rfl, this]
    exact v1
  · rw [v2]
    conv => rhs; rw [← List.drop_zero (l := l), List.drop_eq_getElem_cons h0, List.all_cons]

theorem isWordI_ev (w : List Nat) (hl : w.length ≤ 24) (hb : K.Bytes w) (n : Nat) (h1 : 1 ≤ n) (h4 : n ≤ 4) : Ev (fun k => impl_isWord.f k (K.il w) (n : Int)) ((K.synd w n).all (· == 0)) := by
  obtain ⟨v, v1, v2⟩ := Max_zero (K.synd w n) (by rw [K.synd_length]; omega) (by rw [K.synd_length]; omega)
  simp only [impl_isWord.f]
  refine Ev.bind (syndI_ev w hl hb n h4) ?_
  refine Ev.bind v1 ?_
  simp only [v2]
  exact Ev.now _
theorem isWordOf_ev (w : List Nat) (hl : w.length ≤ 24) (hb : K.Bytes w) (n : Nat) (h1 : 1 ≤ n) (h4 : n ≤ 4) (hs : impl_isLong.f (K.il w) (n : Int) = some true) : Ev (fun k => impl_IsWord.f k (K.il w) (n : Int)) ((K.synd w n).all (· == 0), true) := by
  simp only [impl_IsWord.f, hs, Option.bind_some, if_true]
  exact Ev.bind (isWordI_ev w hl hb n h1 h4) (Ev.now _)

def genW (t : Nat) : List Nat := ((spec_l8Generator.f 400 (t : Int)).getD []).map Int.toNat
/-- Data that fit, and a number of errors. -/
def EncFits (n : Nat) (t : Int) : Prop := 1 ≤ t ∧ t ≤ 4 ∧ 1 ≤ n ∧ (n : Int) + 2 * t ≤ 24
theorem encode_no (m : List Nat) (hl : m.length ≤ 1048576) (t : Int) (h : ¬ EncFits m.length t) : Ev (fun k => spec_EncodeWord.f k (K.il m) t) (([] : List Int), false) ∧ Ev (fun k => impl_EncodeWord.f k (K.il m) t) (([] : List Int), false) := by
  unfold EncFits at h
  have bad : Ev (fun k => spec_EncodeWord.j0 k (K.il m) t true) (([] : List Int), false) ∧ Ev (fun k => impl_EncodeWord.j0 k (K.il m) t true) (([] : List Int), false) := by
    constructor <;> apply K.Ev.succ
    · simp only [spec_EncodeWord.j0, if_true]; exact Ev.now _
    · simp only [impl_EncodeWord.j0, if_true]; exact Ev.now _
  by_cases h14 : 1 ≤ t ∧ t ≤ 4
  case neg =>
    have q : spec_l1In.f t 1 4 = some false := by
      unfold spec_l1In.f; split
      · simp; omega
      · rfl
    have q2 : impl_within.f t 1 4 = some false := q
    constructor
    · simp only [spec_EncodeWord.f, spec_l8T.f, q, Option.bind_some, Bool.false_eq_true, if_false]; exact bad.1
    · simp only [impl_EncodeWord.f, impl_isCount.f, q2, Option.bind_some, Bool.false_eq_true, if_false]; exact bad.2
  have q : spec_l1In.f t 1 4 = some true := by unfold spec_l1In.f; rw [if_pos h14.1]; simp; omega
  have q2 : impl_within.f t 1 4 = some true := q
  have w2 : K.Eqn (wrap64 (2 * t)) (2 * t) := ⟨K.w64 (by omega) (by omega)⟩
  have w3 : K.Eqn (wrap64 ((m.length : Int) + 2 * t)) ((m.length : Int) + 2 * t) := ⟨K.w64 (by omega) (by omega)⟩
  have w4 : K.Eqn (wrap64 (24 - 2 * t)) (24 - 2 * t) := ⟨K.w64 (by omega) (by omega)⟩
  by_cases h0 : (m.length : Int) = 0
  · have q3 : impl_within.f (m.length : Int) 1 (24 - 2 * t) = some false := by unfold impl_within.f; rw [if_neg (by omega)]
    constructor
    · simp only [spec_EncodeWord.f, spec_l8T.f, q, Option.bind_some, if_true, K.il_length, if_pos h0]; exact bad.1
    · simp only [impl_EncodeWord.f, impl_isCount.f, q2, Option.bind_some, if_true, K.il_length, w2.out, w4.out, q3, Bool.not_false]; exact bad.2
  · have q3 : impl_within.f (m.length : Int) 1 (24 - 2 * t) = some false := by unfold impl_within.f; rw [if_pos (by omega), decide_eq_false (by omega)]
    constructor
    · simp only [spec_EncodeWord.f, spec_l8T.f, q, Option.bind_some, if_true, K.il_length, if_neg h0, w2.out, w3.out, decide_eq_true (show (m.length : Int) + 2 * t > 24 by omega)]; exact bad.1
    · simp only [impl_EncodeWord.f, impl_isCount.f, q2, Option.bind_some, if_true, K.il_length, w2.out, w4.out, q3, Bool.not_false]; exact bad.2
theorem gen_full (t : Nat) (h1 : 1 ≤ t) (h4 : t ≤ 4) : ((genW t).length = 2 * t + 1 ∧ K.Bytes (genW t) ∧ (genW t).getD (2 * t) 0 = 1 ∧ ∀ i, i < 2 * t → K.peval (genW t) (K.gpow 3 (i + 1)) = 0) ∧ Ev (fun k => spec_l8Generator.f k (t : Int)) (K.il (genW t)) ∧ Ev (fun k => impl_generator.f k (t : Int)) (K.il (genW t)) := by
  have h : ∀ t : Fin 5, 1 ≤ t.val → ((genW t.val).length = 2 * t.val + 1 ∧ (∀ x ∈ genW t.val, x < 256) ∧ (genW t.val).getD (2 * t.val) 0 = 1 ∧ ∀ i : Fin 8, i.val < 2 * t.val → K.peval (genW t.val) (K.gpow 3 (i.val + 1)) = 0) ∧ spec_l8Generator.f 400 (t.val : Int) = some (K.il (genW t.val)) ∧ impl_generator.f 400 (t.val : Int) = some (K.il (genW t.val)) := by decide +kernel
  obtain ⟨⟨a, b, b2, b3⟩, c, d⟩ := h ⟨t, by omega⟩ h1
  have b4 : ∀ i, i < 2 * t → K.peval (genW t) (K.gpow 3 (i + 1)) = 0 := fun i hi => b3 ⟨i, by omega⟩ hi
  exact ⟨⟨a, b, b2, b4⟩, Ev.of (spec_l8Generator.mono _) c, Ev.of (impl_generator.mono _) d⟩
theorem encLeftIn_ev (g : List Nat) (t d lead : Nat) (hg : g.length = 2 * t + 1) (hgb : K.Bytes g) (h4 : t ≤ 4) (hd24 : d ≤ 24) (hlead : lead < 256) (X : List Int) : ∀ (e j : Nat) (row : List Nat), j + e = 2 * t + 1 → 2 * t + d < row.length → row.length ≤ 100 → K.Bytes row → Ev (fun k => spec_l8Left.l0 k (K.il g) (K.il (K.addAt (g.drop j) (d + j) lead row)) (((2 * t + d : Nat) : Int) - 1)) X → Ev (fun k => spec_l8Left.l1 k (K.il g) (K.il row) ((2 * t + d : Nat) : Int) (lead : Int) (K.il g) ((2 * t + 1 : Nat) : Int) (j : Int)) X := by
  have wi : K.Eqn (wrap64 (((2 * t + d : Nat) : Int) - 1)) (((2 * t + d : Nat) : Int) - 1) := ⟨K.w64 (by omega) (by omega)⟩
  intro e
  induction e with
  | zero =>
    intro j row hj hrl hr100 hrb hx
    rw [List.drop_of_length_le (by omega)] at hx
    apply K.Ev.succ
    simp only [spec_l8Left.l1, if_neg (show ¬ ((j : Int) < ((2 * t + 1 : Nat) : Int)) by omega), wi.out]
    exact hx
  | succ e ih =>
    intro j row hj hrl hr100 hrb hx
    have hjg : j < g.length := by omega
    have hgj := hgb g[j] (List.getElem_mem hjg)
    have hp : d + j < row.length := by omega
    have hrp := hrb row[d + j] (List.getElem_mem hp)
    have hy : K.gmul lead g[j] < 256 := K.gmul_lt hlead
    have gd : row.getD (d + j) 0 = row[d + j] := by simp [hp]
    rw [List.drop_eq_getElem_cons hjg] at hx
    have p1 : K.Eqn (wrap64 ((wrap64 ((wrap64 (((2 * t + d : Nat) : Int) - ((2 * t + 1 : Nat) : Int))) + 1)) + (j : Int))) ((d + j : Nat) : Int) := ⟨by
      rw [K.w64 (x := ((2 * t + d : Nat) : Int) - ((2 * t + 1 : Nat) : Int)) (by omega) (by omega), K.w64 (x := ((2 * t + d : Nat) : Int) - ((2 * t + 1 : Nat) : Int) + 1) (by omega) (by omega), K.w64 (by omega) (by omega)]; omega⟩
    have c1 : (j : Int) < ((2 * t + 1 : Nat) : Int) := by omega
    have c2 : 0 ≤ (j : Int) := by omega
    have c3 : 0 ≤ ((d + j : Nat) : Int) := by omega
    have c4 : ((d + j : Nat) : Int) < (row.length : Int) := by omega
    have wj := K.w64s j (show j < 9223372036854775807 by omega)
    have b2 : K.Bytes (row.set (d + j) (row[d + j] ^^^ K.gmul lead g[j])) := by
      intro y hy'
      rcases List.mem_or_eq_of_mem_set hy' with q | rfl
      · exact hrb y q
      · exact K.xlt hrp hy
    apply K.Ev.succ
    simp only [spec_l8Left.l1, K.il_length, hg, if_pos c1, if_pos c2, p1.out, if_pos c3, if_pos c4, K.rd_il hjg, K.rd_il hp, Int.toNat_natCast, wj]
    refine Ev.bind (l1Times_ev _ _ hlead hgj) ?_
    simp only [K.xor_u8 hrp hy]
    have := ih (j + 1) (row.set (d + j) (row[d + j] ^^^ K.gmul lead g[j])) (by omega) (by simpa using hrl) (by simpa using hr100) b2 (by
      simp only [K.addAt, gd] at hx
      exact hx)
    rw [show (K.il row).set (d + j) ((row[d + j] ^^^ K.gmul lead g[j] : Nat) : Int) = K.il (row.set (d + j) (row[d + j] ^^^ K.gmul lead g[j])) by simp [K.il, List.map_set]]
    exact this
theorem encLeft_ev (g : List Nat) (t : Nat) (hg : g.length = 2 * t + 1) (hgb : K.Bytes g) (h4 : t ≤ 4) : ∀ (d : Nat) (row : List Nat), 2 * t + d ≤ row.length → row.length ≤ 24 → K.Bytes row → Ev (fun k => spec_l8Left.l0 k (K.il g) (K.il row) (((2 * t + d : Nat) : Int) - 1)) (K.il ((K.encLoop g t d row).take (2 * t))) := by
  have wg : K.Eqn (wrap64 ((((2 * t + 1 : Nat)) : Int) - 1)) ((2 * t : Nat) : Int) := ⟨by rw [K.w64 (by omega) (by omega)]; omega⟩
  intro d
  induction d with
  | zero =>
    intro row hrl h24 hrb
    apply K.Ev.succ
    simp only [spec_l8Left.l0, K.il_length, hg, wg.out, if_neg (show ¬ ((((2 * t + 0 : Nat)) : Int) - 1 ≥ ((2 * t : Nat) : Int)) by omega), if_pos (show 0 ≤ ((2 * t : Nat) : Int) by omega), if_pos (show ((2 * t : Nat) : Int) ≤ (row.length : Int) by omega), Int.toNat_natCast, K.il_take]
    exact Ev.now _
  | succ d ih =>
    intro row hrl h24 hrb
    have ei : ((2 * t + (d + 1) : Nat) : Int) - 1 = ((2 * t + d : Nat) : Int) := by omega
    have hi : 2 * t + d < row.length := by omega
    have gd : row.getD (2 * t + d) 0 = row[2 * t + d] := by simp [hi]
    apply K.Ev.succ
    simp only [spec_l8Left.l0, K.il_length, hg, wg.out, ei, if_pos (show ((2 * t + d : Nat) : Int) ≥ ((2 * t : Nat) : Int) by omega), if_pos (show 0 ≤ ((2 * t + d : Nat) : Int) by omega), if_pos (show ((2 * t + d : Nat) : Int) < (row.length : Int) by omega), K.rd_il hi]
    have hlead := hrb row[2 * t + d] (List.getElem_mem hi)
    refine encLeftIn_ev g t d row[2 * t + d] hg hgb h4 (by omega) hlead _ (2 * t + 1) 0 row (by omega) hi (by omega) hrb ?_
    have := ih (K.addAt g d row[2 * t + d] row) (by rw [K.addAt_length]; omega) (by rw [K.addAt_length]; omega) (K.addAt_bytes g d _ row hlead hrb)
    rw [List.drop_zero, Nat.add_zero]
    show Ev _ (K.il ((K.encLoop g t d (K.addAt g d (row.getD (2 * t + d) 0) row)).take (2 * t)))
    rw [gd]
    exact this
theorem clone_eq (l : List Int) (h : l.length < 140737488355328) : slices_Clone_byte_byte.f l = some l := by
  simp [slices_Clone_byte_byte.f, h]

theorem encWordIn_ev (m g : List Nat) (t d lead : Nat) (hg : g.length = 2 * t + 1) (hgb : K.Bytes g) (h4 : t ≤ 4) (hd24 : d ≤ 24) (hlead : lead < 256) (X : List Int × Bool) : ∀ (e j : Nat) (row : List Nat), j + e = 2 * t + 1 → 2 * t + d < row.length → row.length ≤ 100 → K.Bytes row → Ev (fun k => impl_EncodeWord.l0 k (K.il m) (t : Int) (K.il (K.addAt (g.drop j) (d + j) lead row)) (K.il g) (((2 * t + d : Nat) : Int) - 1)) X → Ev (fun k => impl_EncodeWord.l1 k (K.il m) (t : Int) (K.il row) (K.il g) ((2 * t + d : Nat) : Int) (lead : Int) (K.il g) ((2 * t + 1 : Nat) : Int) (j : Int)) X := by
  have w2 : K.Eqn (wrap64 (2 * (t : Int))) ((2 * t : Nat) : Int) := ⟨by rw [K.w64 (by omega) (by omega)]; omega⟩
  have wi : K.Eqn (wrap64 (((2 * t + d : Nat) : Int) - 1)) (((2 * t + d : Nat) : Int) - 1) := ⟨K.w64 (by omega) (by omega)⟩
  intro e
  induction e with
  | zero =>
    intro j row hj hrl hr100 hrb hx
    rw [List.drop_of_length_le (by omega)] at hx
    apply K.Ev.succ
    simp only [impl_EncodeWord.l1, if_neg (show ¬ ((j : Int) < ((2 * t + 1 : Nat) : Int)) by omega), wi.out]
    exact hx
  | succ e ih =>
    intro j row hj hrl hr100 hrb hx
    have hjg : j < g.length := by omega
    have hgj := hgb g[j] (List.getElem_mem hjg)
    have hp : d + j < row.length := by omega
    have hrp := hrb row[d + j] (List.getElem_mem hp)
    have hy : K.gmul lead g[j] < 256 := K.gmul_lt hlead
    have gd : row.getD (d + j) 0 = row[d + j] := by simp [hp]
    rw [List.drop_eq_getElem_cons hjg] at hx
    have p2 : K.Eqn (wrap64 ((wrap64 (((2 * t + d : Nat) : Int) - ((2 * t : Nat) : Int))) + (j : Int))) ((d + j : Nat) : Int) := ⟨by
      rw [K.w64 (x := ((2 * t + d : Nat) : Int) - ((2 * t : Nat) : Int)) (by omega) (by omega), K.w64 (by omega) (by omega)]; omega⟩
    have c1 : (j : Int) < ((2 * t + 1 : Nat) : Int) := by omega
    have c2 : 0 ≤ (j : Int) := by omega
    have c3 : 0 ≤ ((d + j : Nat) : Int) := by omega
    have c4 : ((d + j : Nat) : Int) < (row.length : Int) := by omega
    have wj := K.w64s j (show j < 9223372036854775807 by omega)
    have b2 : K.Bytes (row.set (d + j) (row[d + j] ^^^ K.gmul lead g[j])) := by
      intro y hy'
      rcases List.mem_or_eq_of_mem_set hy' with q | rfl
      · exact hrb y q
      · exact K.xlt hrp hy
    apply K.Ev.succ
    simp only [impl_EncodeWord.l1, K.il_length, hg, if_pos c1, if_pos c2, w2.out, p2.out, if_pos c3, if_pos c4, K.rd_il hjg, K.rd_il hp, Int.toNat_natCast, wj]
    refine Ev.bind (Times_ev _ _ hlead hgj) ?_
    simp only [K.xor_u8 hrp hy]
    have := ih (j + 1) (row.set (d + j) (row[d + j] ^^^ K.gmul lead g[j])) (by omega) (by simpa using hrl) (by simpa using hr100) b2 (by
      simp only [K.addAt, gd] at hx
      exact hx)
    rw [show (K.il row).set (d + j) ((row[d + j] ^^^ K.gmul lead g[j] : Nat) : Int) = K.il (row.set (d + j) (row[d + j] ^^^ K.gmul lead g[j])) by simp [K.il, List.map_set]]
    exact this
theorem encWord_ev (m g : List Nat) (t : Nat) (hg : g.length = 2 * t + 1) (hgb : K.Bytes g) (h4 : t ≤ 4) (hm24 : m.length ≤ 24) : ∀ (d : Nat) (row : List Nat), 2 * t + d ≤ row.length → row.length ≤ 24 → K.Bytes row → Ev (fun k => impl_EncodeWord.l0 k (K.il m) (t : Int) (K.il row) (K.il g) (((2 * t + d : Nat) : Int) - 1)) (K.il ((K.encLoop g t d row).take (2 * t) ++ m), true) := by
  have w2 : K.Eqn (wrap64 (2 * (t : Int))) ((2 * t : Nat) : Int) := ⟨by rw [K.w64 (by omega) (by omega)]; omega⟩
  intro d
  induction d with
  | zero =>
    intro row hrl h24 hrb
    have htl : (K.il (row.take (2 * t))).length = 2 * t := by rw [K.il_length, List.length_take]; omega
    apply K.Ev.succ
    simp only [impl_EncodeWord.l0, K.il_length, w2.out, if_neg (show ¬ ((((2 * t + 0 : Nat)) : Int) - 1 ≥ ((2 * t : Nat) : Int)) by omega), if_pos (show 0 ≤ ((2 * t : Nat) : Int) by omega), if_pos (show ((2 * t : Nat) : Int) ≤ (row.length : Int) by omega), Int.toNat_natCast, K.il_take, clone_eq (K.il (row.take (2 * t))) (by rw [htl]; omega), Option.bind_some, List.length_take, if_pos (show min (2 * t) row.length + m.length < 140737488355328 by omega), K.il_append]
    exact Ev.now _
  | succ d ih =>
    intro row hrl h24 hrb
    have ei : ((2 * t + (d + 1) : Nat) : Int) - 1 = ((2 * t + d : Nat) : Int) := by omega
    have hi : 2 * t + d < row.length := by omega
    have gd : row.getD (2 * t + d) 0 = row[2 * t + d] := by simp [hi]
    apply K.Ev.succ
    simp only [impl_EncodeWord.l0, K.il_length, hg, w2.out, ei, if_pos (show ((2 * t + d : Nat) : Int) ≥ ((2 * t : Nat) : Int) by omega), if_pos (show 0 ≤ ((2 * t + d : Nat) : Int) by omega), if_pos (show ((2 * t + d : Nat) : Int) < (row.length : Int) by omega), K.rd_il hi]
    have hlead := hrb row[2 * t + d] (List.getElem_mem hi)
    refine encWordIn_ev m g t d row[2 * t + d] hg hgb h4 (by omega) hlead _ (2 * t + 1) 0 row (by omega) hi (by omega) hrb ?_
    have := ih (K.addAt g d row[2 * t + d] row) (by rw [K.addAt_length]; omega) (by rw [K.addAt_length]; omega) (K.addAt_bytes g d _ row hlead hrb)
    rw [List.drop_zero, Nat.add_zero]
    show Ev _ (K.il ((K.encLoop g t d (K.addAt g d (row.getD (2 * t + d) 0) row)).take (2 * t) ++ m), true)
    rw [gd]
    exact this
theorem encode_yes (m : List Nat) (hm : K.Bytes m) (n : Nat) (h : EncFits m.length (n : Int)) : Ev (fun k => spec_EncodeWord.f k (K.il m) (n : Int)) (K.il (K.enc (genW n) n m), true) ∧ Ev (fun k => impl_EncodeWord.f k (K.il m) (n : Int)) (K.il (K.enc (genW n) n m), true) := by
  obtain ⟨h1, h4, h0, h24⟩ := h
  obtain ⟨⟨g0, g1, _, _⟩, g2, g3⟩ := gen_full n (by omega) (by omega)
  have q : spec_l1In.f (n : Int) 1 4 = some true := by unfold spec_l1In.f; rw [if_pos h1]; simp; omega
  have q2 : impl_within.f (n : Int) 1 4 = some true := q
  have w2 : K.Eqn (wrap64 (2 * (n : Int))) ((2 * n : Nat) : Int) := ⟨by rw [K.w64 (by omega) (by omega)]; omega⟩
  have w3 : K.Eqn (wrap64 ((m.length : Int) + ((2 * n : Nat) : Int))) ((m.length + 2 * n : Nat) : Int) := ⟨by rw [K.w64 (by omega) (by omega)]; omega⟩
  have w4 : K.Eqn (wrap64 (24 - ((2 * n : Nat) : Int))) (24 - ((2 * n : Nat) : Int)) := ⟨K.w64 (by omega) (by omega)⟩
  have q3 : impl_within.f (m.length : Int) 1 (24 - ((2 * n : Nat) : Int)) = some true := by unfold impl_within.f; rw [if_pos (by omega), decide_eq_true (by omega)]
  have wl : K.Eqn (wrap64 (((2 * n + m.length : Nat) : Int) - 1)) (((2 * n + m.length : Nat) : Int) - 1) := ⟨K.w64 (by omega) (by omega)⟩
  have hz : (K.il (List.replicate (2 * n) 0)).length = 2 * n := by simp [K.il]
  have hlen : (List.replicate (2 * n) 0 ++ m).length = 2 * n + m.length := by simp
  have b0 : K.Bytes (List.replicate (2 * n) 0 ++ m) := by
    intro x hx
    rcases List.mem_append.1 hx with hx | hx
    · have := List.eq_of_mem_replicate hx; omega
    · exact hm x hx
  have s1 := encLeft_ev (genW n) n g0 g1 (by omega) m.length (List.replicate (2 * n) 0 ++ m) (by omega) (by omega) b0
  have s2 := encWord_ev m (genW n) n g0 g1 (by omega) (by omega) m.length (List.replicate (2 * n) 0 ++ m) (by omega) (by omega) b0
  have hsl : ((K.encLoop (genW n) n m.length (List.replicate (2 * n) 0 ++ m)).take (2 * n)).length = 2 * n := by rw [List.length_take, K.encLoop_length]; omega
  constructor
  · simp only [spec_EncodeWord.f, spec_l8T.f, q, Option.bind_some, if_true, K.il_length, if_neg (show ¬ (m.length : Int) = 0 by omega), w2.out, w3.out, decide_eq_false (show ¬ ((m.length + 2 * n : Nat) : Int) > 24 by omega)]
    apply K.Ev.succ
    simp only [spec_EncodeWord.j0, Bool.false_eq_true, if_false, w2.out, if_pos (show 0 ≤ ((2 * n : Nat) : Int) by omega), Int.toNat_natCast, if_pos (show 2 * n ≤ 281474976710656 by omega), Option.bind_some, K.il_zeros, hz, K.il_length, if_pos (show 2 * n + m.length < 140737488355328 by omega)]
    refine Ev.bind g2 ?_
    have e1 : Ev (fun k => spec_l8Left.f k (K.il (List.replicate (2 * n) 0) ++ K.il m) (K.il (genW n))) (K.il ((K.encLoop (genW n) n m.length (List.replicate (2 * n) 0 ++ m)).take (2 * n))) := by
      simp only [spec_l8Left.f, K.il_append, Option.bind_some, List.length_nil, List.nil_append, K.il_length, hlen, if_pos (show 0 + (2 * n + m.length) < 140737488355328 by omega), wl.out]
      exact s1
    refine Ev.bind e1 ?_
    simp only [K.il_length, hsl, if_pos (show 2 * n + m.length < 140737488355328 by omega), K.il_append]
    exact Ev.now _
  · simp only [impl_EncodeWord.f, impl_isCount.f, q2, Option.bind_some, if_true, K.il_length, w2.out, w4.out, q3, Bool.not_true]
    apply K.Ev.succ
    simp only [impl_EncodeWord.j0, Bool.false_eq_true, if_false, w2.out, if_pos (show 0 ≤ ((2 * n : Nat) : Int) by omega), Int.toNat_natCast, if_pos (show 2 * n ≤ 281474976710656 by omega), Option.bind_some, K.il_zeros, hz, K.il_length, if_pos (show 2 * n + m.length < 140737488355328 by omega), K.il_append, hlen, wl.out]
    refine Ev.bind g3 ?_
    exact s2
/-- The whole cost of a string. -/
def whole (x : ByteArray) (l : List Nat) : Nat := K.cost (bytesOf x) (l ++ [0, 0])
/-- The word of data is whole. -/
theorem enc_whole (m : List Nat) (hm : K.Bytes m) (n : Nat) (h1 : 1 ≤ n) (h4 : n ≤ 4) : (K.synd (K.enc (genW n) n m) n).all (· == 0) = true := by
  obtain ⟨⟨g0, g1, g2, g3⟩, _, _⟩ := gen_full n h1 h4
  exact K.enc_word g1 g0 g2 hm g3

theorem l2Own_ev (R : List (List Nat)) {n c : Nat} (h : K.Mat n c R) (hn : n ≤ 100000) (hc : c ≤ 1000000) : Ev (fun k => spec_l2Own.f k (K.ill R)) (K.ill R) := by
  have key : ∀ (d i : Nat), i + d = R.length → Ev (fun k => spec_l2Own.l0 k (K.ill R) (R.length : Int) (i : Int) (K.ill (R.take i))) (K.ill R) := by
    intro d
    induction d with
    | zero =>
      intro i hd
      apply K.Ev.succ
      simp only [spec_l2Own.l0, if_neg (show ¬ ((i : Int) < (R.length : Int)) by omega)]
      rw [List.take_of_length_le (by omega)]
      exact Ev.now _
    | succ d ih =>
      intro i hd
      have hn' := h.len
      have hi : i < R.length := by omega
      have hx := ih (i + 1) (by omega)
      rw [K.take_succ' _ _ hi, ← K.row_eq hi] at hx
      have hw := h.row_wid (i := i) (by omega)
      have hr : rd_L1 (K.ill R) (i : Int) = K.il (K.row R i) := K.ill_row R i
      apply K.Ev.succ
      simp only [spec_l2Own.l0, K.ill_length, if_pos (show (i : Int) < (R.length : Int) by omega), if_pos (show (0 : Int) ≤ (i : Int) by omega), Option.bind_some, hr, List.length_nil, K.il_length, hw, if_pos (show 0 + c < 140737488355328 by omega), if_pos (show (R.take i).length < 5864062014805 by simp; omega), List.nil_append, K.w64s i (show i < 9223372036854775807 by omega), K.ill_snoc]
      exact hx
  have := key R.length 0 (by omega)
  simp only [spec_l2Own.f, K.ill_length]
  exact this

theorem l1Inverse_ev (a : Nat) (ha : a < 256) : Ev (fun k => spec_l1Inverse.f k (a : Int)) ((K.ginv a : Nat) : Int) := by
  simp only [spec_l1Inverse.f]
  by_cases h : (a : Int) = 0
  · simp only [if_pos h]
    obtain rfl : a = 0 := by omega
    have : K.ginv 0 = 0 := K.gpow_zero 254 (by omega)
    rw [this]
    exact Ev.now _
  · simp only [if_neg h]
    exact Ev.bind (l1Power_ev a 254 ha (by omega)) (Ev.now _)

theorem l1Scale_ev (f : Nat) (r : List Nat) (hf : f < 256) (hr : K.Bytes r) (hl : r.length ≤ 1000000) : Ev (fun k => spec_l1Scale.f k (f : Int) (K.il r)) (K.il (K.scl f r)) := by
  have key : ∀ (d i : Nat), i + d = r.length → Ev (fun k => spec_l1Scale.l0 k (f : Int) (K.il (K.scl f (r.take i))) (K.il r) (r.length : Int) (i : Int)) (K.il (K.scl f r)) := by
    intro d
    induction d with
    | zero =>
      intro i h
      apply K.Ev.succ
      simp only [spec_l1Scale.l0, if_neg (show ¬ ((i : Int) < (r.length : Int)) by omega)]
      rw [List.take_of_length_le (by omega)]
      exact Ev.now _
    | succ d ih =>
      intro i h
      have hi : i < r.length := by omega
      have hx := ih (i + 1) (by omega)
      rw [K.take_succ' _ _ hi, K.scl_snoc] at hx
      apply K.Ev.succ
      simp only [spec_l1Scale.l0, K.il_length, if_pos (show (i : Int) < (r.length : Int) by omega), if_pos (show (0 : Int) ≤ (i : Int) by omega), K.rd_il hi]
      refine Ev.bind (l1Times_ev f r[i] hf (hr _ (List.getElem_mem hi))) ?_
      simp only [K.scl_length, if_pos (show (r.take i).length < 140737488355328 by simp; omega), K.w64s i (show i < 9223372036854775807 by omega), K.il_snoc]
      exact hx
  simp only [spec_l1Scale.f, K.il_length]
  exact key r.length 0 (by omega)

theorem l2_lft_row (c : Nat) (R : List (List Nat)) (i : Nat) : rd_L1 (K.ill (K.lft c R)) (i : Int) = K.il ((K.row R i).take c) := by
  rw [← K.lft_row]; exact K.ill_row _ i
theorem l2_rgt_row (c : Nat) (R : List (List Nat)) (i : Nat) : rd_L1 (K.ill (K.rgt c R)) (i : Int) = K.il ((K.row R i).drop c) := by
  rw [← K.rgt_row]; exact K.ill_row _ i
theorem l1Add_ev (a b : List Nat) (ha : K.Bytes a) (hb : K.Bytes b) (hl : a.length ≤ 1000000) (he : a.length = b.length) : Ev (fun k => spec_l1Add.f k (K.il a) (K.il b)) (K.il (K.addr a b)) := by
  have key : ∀ (d i : Nat), i + d = a.length → Ev (fun k => spec_l1Add.l0 k (K.il a) (K.il b) (K.il (K.addr (a.take i) (b.take i))) (a.length : Int) (i : Int)) (K.il (K.addr a b)) := by
    intro d
    induction d with
    | zero =>
      intro i h
      apply K.Ev.succ
      simp only [spec_l1Add.l0, if_neg (show ¬ ((i : Int) < (a.length : Int)) by omega)]
      rw [List.take_of_length_le (by omega), List.take_of_length_le (by omega)]
      exact Ev.now _
    | succ d ih =>
      intro i h
      have hi : i < a.length := by omega
      have hj : i < b.length := by omega
      have hx := ih (i + 1) (by omega)
      rw [K.addr_succ hi hj] at hx
      apply K.Ev.succ
      simp only [spec_l1Add.l0, K.il_length, if_pos (show (i : Int) < (a.length : Int) by omega), if_pos (show (i : Int) < (b.length : Int) by omega), if_pos (show (0 : Int) ≤ (i : Int) by omega), K.rd_il hi, K.rd_il hj, K.xor_u8 (ha _ (List.getElem_mem hi)) (hb _ (List.getElem_mem hj))]
      simp only [if_pos (show (K.addr (a.take i) (b.take i)).length < 140737488355328 by simp [K.addr]; omega), K.w64s i (show i < 9223372036854775807 by omega), K.il_snoc]
      exact hx
  simp only [spec_l1Add.f, K.il_length]
  exact key a.length 0 (by omega)

theorem l2_clears {n w c : Nat} (hn : n ≤ 100000) (hw : w ≤ 1000000) (hc : c ≤ w) (a j : Nat) (ha : a < n) (hj : j < c) (X : (List (List Int)) × (List (List Int)) × Int) : ∀ (d i : Nat) (R : List (List Nat)), K.Mat n w R → i + d = n → Ev (fun k => spec_l2Reduce.l0 k ((a + 1 : Nat) : Int) ((j + 1 : Nat) : Int) (K.ill (K.lft c (K.clrs a j d i R))) (K.ill (K.rgt c (K.clrs a j d i R)))) X → Ev (fun k => spec_l2Reduce.l2 k (a : Int) (j : Int) (n : Int) (i : Int) (K.ill (K.lft c R)) (K.ill (K.rgt c R))) X := by
  intro d
  induction d with
  | zero =>
    intro i R h hd hx
    apply K.Ev.succ
    simp only [spec_l2Reduce.l2, if_neg (show ¬ ((i : Int) < (n : Int)) by omega), K.w64s a (show a < 9223372036854775807 by omega), K.w64s j (show j < 9223372036854775807 by omega)]
    exact hx
  | succ d ih =>
    intro i R h hd hx
    have hi : i < n := by omega
    have wi : (K.row R i).length = w := h.row_wid hi
    have wa : (K.row R a).length = w := h.row_wid ha
    have hl : (K.ill (K.lft c R)).length = n := by rw [K.ill_length, K.lft_length, h.len]
    have hl2 : (K.ill (K.rgt c R)).length = n := by rw [K.ill_length, K.rgt_length, h.len]
    have ent : rd (K.il ((K.row R i).take c)) (j : Int) = ((K.ent R i j : Nat) : Int) := by rw [K.il_getD, K.take_getD hj]; rfl
    have he := h.ent_lt i j
    have hx' := ih (i + 1) _ (K.clr_mat (j := j) h ha hi) (by omega) hx
    clear ih hx
    apply K.Ev.succ
    simp only [spec_l2Reduce.l2, hl, if_pos (show (i : Int) < (n : Int) by omega), if_pos (show (0 : Int) ≤ (i : Int) by omega), if_pos (show (0 : Int) ≤ (j : Int) by omega), l2_lft_row, K.il_length, List.length_take, wi, if_pos (show (j : Int) < ((min c w : Nat) : Int) by omega), ent]
    by_cases e : i = a ∨ K.ent R i j = 0
    · have e1 : K.clr a j i R = R := by unfold K.clr; rw [if_pos e]
      rw [e1] at hx'
      have done : Ev (fun k => spec_l2Reduce.j5 k (a : Int) (j : Int) (i : Int) ((K.ent R i j : Nat) : Int) (n : Int) (i : Int) false (K.ill (K.lft c R)) (K.ill (K.rgt c R))) X := by
        apply K.Ev.succ
        simp only [spec_l2Reduce.j5, Bool.false_eq_true, if_false, K.w64s i (show i < 9223372036854775807 by omega)]
        exact hx'
      by_cases q : (i : Int) = (a : Int)
      · simp only [if_pos q]; exact done
      · simp only [if_neg q]
        have z : (((K.ent R i j : Nat) : Int) != 0) = false := by
          rcases e with e | e
          · omega
          · rw [e]; rfl
        rw [z]; exact done
    · have e1 : K.clr a j i R = R.set i (K.addr (K.row R i) (K.scl (K.ent R i j) (K.row R a))) := by unfold K.clr; rw [if_neg e]
      have q : ¬ (i : Int) = (a : Int) := fun q => e (Or.inl (by omega))
      have z : (((K.ent R i j : Nat) : Int) != 0) = true := by
        rw [bne_iff_ne]; intro q; exact e (Or.inr (by omega))
      rw [e1, ← K.lft_set, ← K.rgt_set, K.addr_take, K.addr_drop, K.scl_take, K.scl_drop, ← K.ill_set, ← K.ill_set] at hx'
      simp only [if_neg q, z]
      apply K.Ev.succ
      simp only [spec_l2Reduce.j5, if_true, hl, hl2, if_pos (show (i : Int) < (n : Int) by omega), if_pos (show (0 : Int) ≤ (i : Int) by omega), if_pos (show (a : Int) < (n : Int) by omega), if_pos (show (0 : Int) ≤ (a : Int) by omega), l2_lft_row, l2_rgt_row]
      refine Ev.bind (l1Scale_ev (K.ent R i j) ((K.row R a).take c) he ((h.row_byt a).take c) (by simp; omega)) ?_
      refine Ev.bind (l1Add_ev ((K.row R i).take c) (K.scl (K.ent R i j) ((K.row R a).take c)) ((h.row_byt i).take c) (K.scl_bytes he _) (by simp; omega) (by rw [K.scl_length, List.length_take, List.length_take, wi, wa])) ?_
      refine Ev.bind (l1Scale_ev (K.ent R i j) ((K.row R a).drop c) he ((h.row_byt a).drop c) (by simp; omega)) ?_
      refine Ev.bind (l1Add_ev ((K.row R i).drop c) (K.scl (K.ent R i j) ((K.row R a).drop c)) ((h.row_byt i).drop c) (K.scl_bytes he _) (by simp; omega) (by rw [K.scl_length, List.length_drop, List.length_drop, wi, wa])) ?_
      simp only [Int.toNat_natCast, K.w64s i (show i < 9223372036854775807 by omega)]
      exact hx'
theorem l2_seeks {n w c : Nat} (hn : n ≤ 100000) (hc : c ≤ w) (a j : Nat) (hj : j < c) (X : (List (List Int)) × (List (List Int)) × Int) (R : List (List Nat)) (h : K.Mat n w R) : ∀ (d i : Nat), i + d = n → Ev (fun k => spec_l2Reduce.j3 k (a : Int) (j : Int) ((K.piv R j d i : Nat) : Int) (K.ill (K.lft c R)) (K.ill (K.rgt c R))) X → Ev (fun k => spec_l2Reduce.l1 k (a : Int) (j : Int) (i : Int) (K.ill (K.lft c R)) (K.ill (K.rgt c R))) X := by
  have hl : (K.ill (K.lft c R)).length = n := by rw [K.ill_length, K.lft_length, h.len]
  intro d
  induction d with
  | zero =>
    intro i hd hx
    apply K.Ev.succ
    simp only [spec_l2Reduce.l1, hl, if_neg (show ¬ ((i : Int) < (n : Int)) by omega)]
    exact hx
  | succ d ih =>
    intro i hd hx
    have wi : (K.row R i).length = w := h.row_wid (by omega)
    have ent : rd (K.il ((K.row R i).take c)) (j : Int) = ((K.ent R i j : Nat) : Int) := by rw [K.il_getD, K.take_getD hj]; rfl
    apply K.Ev.succ
    simp only [spec_l2Reduce.l1, hl, if_pos (show (i : Int) < (n : Int) by omega), if_pos (show (0 : Int) ≤ (i : Int) by omega), if_pos (show (0 : Int) ≤ (j : Int) by omega), l2_lft_row, K.il_length, List.length_take, wi, if_pos (show (j : Int) < ((min c w : Nat) : Int) by omega), ent]
    unfold K.piv at hx
    by_cases e : K.ent R i j = 0
    · rw [if_pos e] at hx
      simp only [if_pos (show ((K.ent R i j : Nat) : Int) = 0 by omega), K.w64s i (show i < 9223372036854775807 by omega)]
      exact ih (i + 1) (by omega) hx
    · rw [if_neg e] at hx
      simp only [if_neg (show ¬ ((K.ent R i j : Nat) : Int) = 0 by omega)]
      exact hx
theorem l2_loop {n w c : Nat} (hn : n ≤ 100000) (hn0 : 0 < n) (hw : w ≤ 1000000) (hc : c ≤ w) : ∀ (d a j : Nat) (R : List (List Nat)), K.Mat n w R → j + d = c → a ≤ n → Ev (fun k => spec_l2Reduce.l0 k (a : Int) (j : Int) (K.ill (K.lft c R)) (K.ill (K.rgt c R))) (K.ill (K.lft c (K.elim d a j R).1), K.ill (K.rgt c (K.elim d a j R).1), (((K.elim d a j R).2 : Nat) : Int)) := by
  intro d
  induction d with
  | zero =>
    intro a j R h hd ha
    have hl : (K.ill (K.lft c R)).length = n := by rw [K.ill_length, K.lft_length, h.len]
    have r0 := l2_lft_row c R 0
    have w0 : (K.row R 0).length = w := h.row_wid hn0
    apply K.Ev.succ
    simp only [Int.natCast_zero] at r0
    simp only [spec_l2Reduce.l0, hl, if_pos (show (0 : Int) < (n : Int) by omega), r0, K.il_length, List.length_take, w0, if_neg (show ¬ ((j : Int) < ((min c w : Nat) : Int)) by omega)]
    apply K.Ev.succ
    simp only [spec_l2Reduce.j1, Bool.false_eq_true, if_false, K.elim]
    exact Ev.now _
  | succ d ih =>
    intro a j R h hd ha
    have hl : (K.ill (K.lft c R)).length = n := by rw [K.ill_length, K.lft_length, h.len]
    have hl2 : (K.ill (K.rgt c R)).length = n := by rw [K.ill_length, K.rgt_length, h.len]
    have r0 := l2_lft_row c R 0
    have w0 : (K.row R 0).length = w := h.row_wid hn0
    apply K.Ev.succ
    simp only [Int.natCast_zero] at r0
    simp only [spec_l2Reduce.l0, hl, if_pos (show (0 : Int) < (n : Int) by omega), r0, K.il_length, List.length_take, w0, if_pos (show ((j : Int) < ((min c w : Nat) : Int)) by omega)]
    apply K.Ev.succ
    unfold K.elim
    rw [h.len]
    by_cases h1 : a < n
    · simp only [spec_l2Reduce.j1, decide_eq_true (show (a : Int) < (n : Int) by omega), if_true, if_pos h1]
      refine l2_seeks hn hc a j (by omega) _ R h (n - a) a (by omega) ?_
      have pg := K.piv_ge R j (n - a) a
      have pn := K.piv_ne R j (n - a) a
      generalize K.piv R j (n - a) a = p at pg pn ⊢
      apply K.Ev.succ
      by_cases h2 : p < n
      · have wp : (K.row R p).length = w := h.row_wid h2
        have ent : rd (K.il ((K.row R p).take c)) (j : Int) = ((K.ent R p j : Nat) : Int) := by rw [K.il_getD, K.take_getD (by omega)]; rfl
        have he := h.ent_lt p j
        simp only [spec_l2Reduce.j3, hl, hl2, if_neg (show ¬ ((p : Int) = (n : Int)) by omega), if_pos (show (p : Int) < (n : Int) by omega), if_pos (show (a : Int) < (n : Int) by omega), if_pos (show (0 : Int) ≤ (p : Int) by omega), if_pos (show (0 : Int) ≤ (a : Int) by omega), if_pos (show (0 : Int) ≤ (j : Int) by omega), l2_lft_row, l2_rgt_row, K.il_length, List.length_take, wp, if_pos (show ((j : Int) < ((min c w : Nat) : Int)) by omega), ent, if_pos h2]
        refine Ev.bind (l1Inverse_ev (K.ent R p j) he) ?_
        refine Ev.bind (l1Scale_ev (K.ginv (K.ent R p j)) ((K.row R p).take c) (K.ginv_lt _) ((h.row_byt p).take c) (by simp; omega)) ?_
        refine Ev.bind (l1Scale_ev (K.ginv (K.ent R p j)) ((K.row R p).drop c) (K.ginv_lt _) ((h.row_byt p).drop c) (by simp; omega)) ?_
        simp only [Int.toNat_natCast]
        have hx := ih (a + 1) (j + 1) (K.estep a j p R) (K.estep_mat h h1 h2) (by omega) (by omega)
        have es : K.estep a j p R = K.clrs a j n 0 (K.lead a j p R) := by unfold K.estep; rw [h.len]
        have g := l2_clears hn hw hc a j h1 (by omega) _ n 0 (K.lead a j p R) (K.lead_mat h h1 h2) (by omega) (by rw [← es]; exact hx)
        have e1 : K.ill (K.lft c (K.lead a j p R)) = ((K.ill (K.lft c R)).set p (K.il ((K.row R a).take c))).set a (K.il (K.scl (K.ginv (K.ent R p j)) ((K.row R p).take c))) := by
          unfold K.lead; rw [← K.lft_set, ← K.lft_set, K.scl_take, K.ill_set, K.ill_set]
        have e2 : K.ill (K.rgt c (K.lead a j p R)) = ((K.ill (K.rgt c R)).set p (K.il ((K.row R a).drop c))).set a (K.il (K.scl (K.ginv (K.ent R p j)) ((K.row R p).drop c))) := by
          unfold K.lead; rw [← K.rgt_set, ← K.rgt_set, K.scl_drop, K.ill_set, K.ill_set]
        rw [e1, e2] at g
        exact g
      · simp only [spec_l2Reduce.j3, hl, if_pos (show ((p : Int) = (n : Int)) by omega), if_neg h2, K.w64s j (show j < 9223372036854775807 by omega)]
        exact ih a (j + 1) R h (by omega) ha
    · simp only [spec_l2Reduce.j1, decide_eq_false (show ¬ (a : Int) < (n : Int) by omega), Bool.false_eq_true, if_false, if_neg h1]
      exact Ev.now _
/-- The reference's elimination of A, with B carried along. -/
theorem l2Reduce_ev (A B : List (List Nat)) {n u v : Nat} (hA : K.Mat n u A) (hB : K.Mat n v B) (hn : n ≤ 100000) (hn0 : 0 < n) (hw : u + v ≤ 1000000) : Ev (fun k => spec_l2Reduce.f k (K.ill A) (K.ill B)) (K.ill (K.lft u (K.elim u 0 0 (K.beside A B)).1), K.ill (K.rgt u (K.elim u 0 0 (K.beside A B)).1), (((K.elim u 0 0 (K.beside A B)).2 : Nat) : Int)) := by
  simp only [spec_l2Reduce.f]
  refine Ev.bind (l2Own_ev A hA hn (by omega)) ?_
  refine Ev.bind (l2Own_ev B hB hn (by omega)) ?_
  have := l2_loop hn hn0 hw (Nat.le_add_right u v) u 0 0 (K.beside A B) (K.beside_mat hA hB) (by omega) (by omega)
  rw [K.beside_lft hA hB, K.beside_rgt hA hB] at this
  exact this

theorem l2Blank_ev (n c : Nat) (hn : n ≤ 100000) (hc : c ≤ 1000000) : Ev (fun k => spec_l2Blank.f k (n : Int) (c : Int)) (K.ill (List.replicate n (List.replicate c 0))) := by
  have key : ∀ (d i : Nat), i + d = n → Ev (fun k => spec_l2Blank.l0 k (n : Int) (c : Int) (i : Int) (K.ill (List.replicate i (List.replicate c 0)))) (K.ill (List.replicate n (List.replicate c 0))) := by
    intro d
    induction d with
    | zero =>
      intro i hd
      apply K.Ev.succ
      simp only [spec_l2Blank.l0, if_neg (show ¬ ((i : Int) < (n : Int)) by omega)]
      obtain rfl : i = n := by omega
      exact Ev.now _
    | succ d ih =>
      intro i hd
      have hx := ih (i + 1) (by omega)
      rw [List.replicate_succ'] at hx
      apply K.Ev.succ
      simp only [spec_l2Blank.l0, K.ill_length, if_pos (show (i : Int) < (n : Int) by omega), if_pos (show (0 : Int) ≤ (c : Int) by omega), Int.toNat_natCast, if_pos (show c ≤ 281474976710656 by omega), List.length_replicate, if_pos (show i < 5864062014805 by omega), K.w64s i (show i < 9223372036854775807 by omega), K.il_zeros, K.ill_snoc]
      exact hx
  have := key n 0 (by omega)
  simp only [spec_l2Blank.f]
  exact this

theorem l2Identity_ev (n : Nat) (hn : n ≤ 100000) : Ev (fun k => spec_l2Identity.f k (n : Int)) (K.ill (K.idm n)) := by
  have key : ∀ (d i : Nat) (R : List (List Nat)), i + d = n → R.length = n → (∀ j, j < i → K.row R j = K.unit n j) → (∀ j, i ≤ j → j < n → K.row R j = List.replicate n 0) → Ev (fun k => spec_l2Identity.l0 k (n : Int) (i : Int) (K.ill R)) (K.ill (K.idm n)) := by
    intro d
    induction d with
    | zero =>
      intro i R hd hl h1 h2
      apply K.Ev.succ
      simp only [spec_l2Identity.l0, if_neg (show ¬ ((i : Int) < (n : Int)) by omega)]
      have e : R = K.idm n := by
        apply List.ext_getElem
        · rw [hl, (K.idm_mat n).len]
        · intro j g1 g2
          have := h1 j (by omega)
          rw [K.row_eq g1] at this
          rw [this, ← K.row_eq g2, K.idm_row (by omega)]
      rw [e]; exact Ev.now _
    | succ d ih =>
      intro i R hd hl h1 h2
      have hi : i < R.length := by omega
      have hr : rd_L1 (K.ill R) (i : Int) = K.il (List.replicate n 0) := by
        rw [← h2 i (by omega) (by omega)]; exact K.ill_row R i
      have hx := ih (i + 1) (R.set i (K.unit n i)) (by omega) (by simpa using hl) (fun j hj => by
        rw [K.row_set hi]
        by_cases e : i = j
        · subst e; rw [if_pos rfl]
        · rw [if_neg e]; exact h1 j (by omega)) (fun j g1 g2 => by
        rw [K.row_set hi, if_neg (by omega)]; exact h2 j (by omega) g2)
      rw [← K.ill_set, ← K.il_unit, K.il_zeros] at hx
      apply K.Ev.succ
      simp only [spec_l2Identity.l0, K.ill_length, hl, if_pos (show (i : Int) < (n : Int) by omega), if_pos (show (0 : Int) ≤ (i : Int) by omega), hr, K.il_length, List.length_replicate, K.w64s i (show i < 9223372036854775807 by omega), Int.toNat_natCast]
      exact hx
  simp only [spec_l2Identity.f]
  refine Ev.bind (l2Blank_ev n n hn (by omega)) ?_
  simp only [K.ill_length, List.length_replicate]
  exact key n 0 _ (by omega) (by simp) (fun j hj => by omega) (fun j _ hj => by simp [K.row, hj])

theorem l2Inverse_ev (A : List (List Nat)) {n : Nat} (hA : K.Mat n n A) (hn : n ≤ 100000) (hn0 : 0 < n) : Ev (fun k => spec_l2Inverse.f k (K.ill A)) (K.ill (K.minv A).1, decide ((K.minv A).2 = n)) := by
  simp only [spec_l2Inverse.f, K.ill_length, hA.len]
  refine Ev.bind (l2Identity_ev n hn) ?_
  refine Ev.bind (l2Reduce_ev A (K.idm n) hA (K.idm_mat n) hn hn0 (by omega)) ?_
  unfold K.minv
  rw [hA.len]
  refine K.Ev.to (Ev.now _) ?_
  congr 1
  generalize (K.elim n 0 0 (K.beside A (K.idm n))).2 = q
  show ((q : Int) == (n : Int)) = decide (q = n)
  by_cases e : q = n
  · subst e; simp
  · rw [decide_eq_false e, beq_eq_false_iff_ne]; omega

theorem l1Dot_ev (a b : List Nat) (ha : K.Bytes a) (hb : K.Bytes b) (hl : a.length ≤ 1000000) (he : a.length ≤ b.length) : Ev (fun k => spec_l1Dot.f k (K.il a) (K.il b)) ((K.dotp a b : Nat) : Int) := by
  have key : ∀ (d i o : Nat), i + d = a.length → o < 256 → Ev (fun k => spec_l1Dot.l0 k (K.il a) (K.il b) (o : Int) (a.length : Int) (i : Int)) ((o ^^^ K.dotp (a.drop i) (b.drop i) : Nat) : Int) := by
    intro d
    induction d with
    | zero =>
      intro i o h ho
      apply K.Ev.succ
      simp only [spec_l1Dot.l0, if_neg (show ¬ ((i : Int) < (a.length : Int)) by omega)]
      rw [List.drop_of_length_le (by omega)]
      simp only [K.dotp, Nat.xor_zero]
      exact Ev.now _
    | succ d ih =>
      intro i o h ho
      have hi : i < a.length := by omega
      have hj : i < b.length := by omega
      have hlt := K.gmul_lt (b := b[i]) (ha _ (List.getElem_mem hi))
      have hx := ih (i + 1) (o ^^^ K.gmul a[i] b[i]) (by omega) (K.xlt ho hlt)
      rw [Nat.xor_assoc, ← K.dotp_drop hi hj] at hx
      apply K.Ev.succ
      simp only [spec_l1Dot.l0, K.il_length, if_pos (show (i : Int) < (a.length : Int) by omega), if_pos (show (i : Int) < (b.length : Int) by omega), if_pos (show (0 : Int) ≤ (i : Int) by omega), K.rd_il hi, K.rd_il hj]
      refine Ev.bind (l1Times_ev a[i] b[i] (ha _ (List.getElem_mem hi)) (hb _ (List.getElem_mem hj))) ?_
      simp only [K.xor_u8 ho hlt, K.w64s i (show i < 9223372036854775807 by omega)]
      exact hx
  have := key a.length 0 0 (by omega) (by omega)
  simp only [spec_l1Dot.f, K.il_length]
  simpa using this

theorem l2Apply_ev (R : List (List Nat)) (v : List Nat) {n c : Nat} (h : K.Mat n c R) (hv : K.Bytes v) (hw : c ≤ v.length) (hn : n ≤ 100000) (hc : c ≤ 1000000) : Ev (fun k => spec_l2Apply.f k (K.ill R) (K.il v)) (K.il (K.app R v)) := by
  have key : ∀ (d i : Nat), i + d = R.length → Ev (fun k => spec_l2Apply.l0 k (K.il v) (K.il (K.app (R.take i) v)) (K.ill R) (R.length : Int) (i : Int)) (K.il (K.app R v)) := by
    intro d
    induction d with
    | zero =>
      intro i hd
      apply K.Ev.succ
      simp only [spec_l2Apply.l0, if_neg (show ¬ ((i : Int) < (R.length : Int)) by omega)]
      rw [List.take_of_length_le (by omega)]
      exact Ev.now _
    | succ d ih =>
      intro i hd
      have hn' := h.len
      have hi : i < R.length := by omega
      have hx := ih (i + 1) (by omega)
      have e : K.app (R.take (i + 1)) v = K.app (R.take i) v ++ [K.dotp (K.row R i) v] := by
        rw [K.take_succ' _ _ hi, ← K.row_eq hi]; simp [K.app]
      rw [e, ← K.il_snoc] at hx
      have hw := h.row_wid (i := i) (by omega)
      have hr : rd_L1 (K.ill R) (i : Int) = K.il (K.row R i) := K.ill_row R i
      apply K.Ev.succ
      simp only [spec_l2Apply.l0, K.ill_length, if_pos (show (i : Int) < (R.length : Int) by omega), if_pos (show (0 : Int) ≤ (i : Int) by omega), hr]
      refine Ev.bind (l1Dot_ev (K.row R i) v (h.row_byt i) hv (by omega) (by omega)) ?_
      simp only [K.il_length, if_pos (show (K.app (R.take i) v).length < 140737488355328 by simp [K.app]; omega), K.w64s i (show i < 9223372036854775807 by omega)]
      exact hx
  have := key R.length 0 (by omega)
  simp only [spec_l2Apply.f, K.ill_length]
  exact this

theorem l8Hankel_ev (s : List Nat) (n : Nat) (hn : n + n ≤ s.length) (hs : s.length ≤ 100000) : Ev (fun k => spec_l8Hankel.f k (K.il s) (n : Int)) (K.ill (K.hank s n)) := by
  have key : ∀ (d i : Nat), i + d = n → Ev (fun k => spec_l8Hankel.l0 k (K.il s) (n : Int) (i : Int) (K.ill ((List.range i).map (K.hrow s n)))) (K.ill (K.hank s n)) := by
    intro d
    induction d with
    | zero =>
      intro i hd
      apply K.Ev.succ
      simp only [spec_l8Hankel.l0, if_neg (show ¬ ((i : Int) < (n : Int)) by omega)]
      obtain rfl : i = n := by omega
      exact Ev.now _
    | succ d ih =>
      intro i hd
      have hx := ih (i + 1) (by omega)
      rw [List.range_succ, List.map_append, List.map_cons, List.map_nil] at hx
      have wr : K.Eqn (wrap64 ((i : Int) + (n : Int))) ((i + n : Nat) : Int) := ⟨by rw [K.w64 (by omega) (by omega)]; omega⟩
      have er : ((K.il s).take (i + n)).drop i = K.il (K.hrow s n i) := by
        rw [K.il_take, K.il_drop, List.drop_take, Nat.add_sub_cancel_left]; rfl
      have wl : (K.hrow s n i).length = n := K.hrow_length (by omega)
      apply K.Ev.succ
      simp only [spec_l8Hankel.l0, Option.bind_some, wr.out, K.il_length, if_pos (show (i : Int) < (n : Int) by omega), if_pos (show (0 : Int) ≤ (i : Int) by omega), if_pos (show (i : Int) ≤ ((i + n : Nat) : Int) by omega), if_pos (show ((i + n : Nat) : Int) ≤ (s.length : Int) by omega), Int.toNat_natCast, er, wl, List.length_nil, if_pos (show 0 + n < 140737488355328 by omega), K.ill_length, List.length_map, List.length_range, if_pos (show i < 5864062014805 by omega), List.nil_append, K.w64s i (show i < 9223372036854775807 by omega), K.ill_snoc]
      exact hx
  have := key n 0 (by omega)
  simp only [spec_l8Hankel.f]
  exact this

theorem l8Turn_ev (v : List Nat) (hv : v.length ≤ 100000) : Ev (fun k => spec_l8Locator.l1 k (K.il v) (([1] : List Int)) ((v.length : Int) - 1)) (K.il (1 :: v.reverse)) := by
  have key : ∀ (i : Nat), i ≤ v.length → Ev (fun k => spec_l8Locator.l1 k (K.il v) (K.il (1 :: (v.drop i).reverse)) ((i : Int) - 1)) (K.il (1 :: v.reverse)) := by
    intro i
    induction i with
    | zero =>
      intro hi
      apply K.Ev.succ
      simp only [spec_l8Locator.l1, if_neg (show ¬ (((0 : Nat) : Int) - 1 ≥ 0) by omega), List.drop_zero]
      exact Ev.now _
    | succ i ih =>
      intro hi
      have hx := ih (by omega)
      rw [List.drop_eq_getElem_cons (show i < v.length by omega), List.reverse_cons, ← List.cons_append, ← K.il_snoc] at hx
      have e : (((i + 1 : Nat) : Int) - 1) = (i : Int) := by omega
      have wr : K.Eqn (wrap64 ((i : Int) - 1)) ((i : Int) - 1) := ⟨K.w64 (by omega) (by omega)⟩
      apply K.Ev.succ
      simp only [spec_l8Locator.l1, e, if_pos (show (i : Int) ≥ 0 by omega), if_pos (show (0 : Int) ≤ (i : Int) by omega), K.il_length, if_pos (show (i : Int) < (v.length : Int) by omega), if_pos (show (1 :: (v.drop (i + 1)).reverse).length < 140737488355328 by simp; omega), K.rd_il (show i < v.length by omega), wr.out]
      exact hx
  have := key v.length (Nat.le_refl _)
  rw [List.drop_of_length_le (Nat.le_refl _)] at this
  exact this
theorem l8Locator_ev (s : List Nat) (hb : K.Bytes s) (hs : s.length ≤ 100000) : Ev (fun k => spec_l8Locator.f k (K.il s)) (K.il (K.loc s (s.length / 2))) := by
  have key : ∀ (n : Nat), n + n ≤ s.length → Ev (fun k => spec_l8Locator.l0 k (K.il s) (n : Int)) (K.il (K.loc s n)) := by
    intro n
    induction n with
    | zero =>
      intro _
      apply K.Ev.succ
      simp only [spec_l8Locator.l0, if_neg (show ¬ (((0 : Nat) : Int) > 0) by omega)]
      exact Ev.now _
    | succ n ih =>
      intro hn
      have hm := K.hank_mat hb hn
      have wr : K.Eqn (wrap64 (2 * ((n + 1 : Nat) : Int))) ((n + 1 + (n + 1) : Nat) : Int) := ⟨by rw [K.w64 (by omega) (by omega)]; omega⟩
      have er : ((K.il s).take (n + 1 + (n + 1))).drop (n + 1) = K.il (K.hrow s (n + 1) (n + 1)) := by
        rw [K.il_take, K.il_drop, List.drop_take, Nat.add_sub_cancel_left]; rfl
      have wl : (K.hrow s (n + 1) (n + 1)).length = n + 1 := K.hrow_length (by omega)
      apply K.Ev.succ
      simp only [spec_l8Locator.l0, if_pos (show ((n + 1 : Nat) : Int) > 0 by omega)]
      refine Ev.bind (l8Hankel_ev s (n + 1) hn hs) ?_
      refine Ev.bind (l2Inverse_ev _ hm (by omega) (by omega)) ?_
      unfold K.loc
      by_cases e : (K.minv (K.hank s (n + 1))).2 = n + 1
      · simp only [decide_eq_true e, if_true, if_pos e, wr.out, K.il_length, if_pos (show (0 : Int) ≤ ((n + 1 : Nat) : Int) by omega), if_pos (show ((n + 1 : Nat) : Int) ≤ ((n + 1 + (n + 1) : Nat) : Int) by omega), if_pos (show ((n + 1 + (n + 1) : Nat) : Int) ≤ (s.length : Int) by omega), Int.toNat_natCast, er]
        refine Ev.bind (l2Apply_ev _ (K.hrow s (n + 1) (n + 1)) (K.minv_mat hm) (K.hrow_bytes hb _ _) (by omega) (by omega) (by omega)) ?_
        have al : (K.app (K.minv (K.hank s (n + 1))).1 (K.hrow s (n + 1) (n + 1))).length = n + 1 := by unfold K.app; rw [List.length_map, (K.minv_mat hm).len]
        have g := l8Turn_ev (K.app (K.minv (K.hank s (n + 1))).1 (K.hrow s (n + 1) (n + 1))) (by omega)
        rw [al] at g
        simp only [K.w64p n (show n < 9223372036854775807 by omega)]
        rw [show (((n + 1 : Nat) : Int) - 1) = (n : Int) by omega] at g
        exact g
      · simp only [decide_eq_false e, Bool.false_eq_true, if_false, if_neg e, K.w64p n (show n < 9223372036854775807 by omega)]
        exact ih (by omega)
  have e : wrap64 (((K.il s).length : Int) / 2) = ((s.length / 2 : Nat) : Int) := by rw [K.il_length, K.w64 (by omega) (by omega)]; omega
  simp only [spec_l8Locator.f, e]
  exact key _ (by omega)

theorem identity_ev (n : Nat) (hn : n ≤ 100000) : Ev (fun k => impl_identity.f k (n : Int)) (K.ill (K.idm n)) := by
  have key : ∀ (d i : Nat), i + d = n → Ev (fun k => impl_identity.l0 k (n : Int) (K.ill ((List.range i).map (K.unit n))) (n : Int) (i : Int)) (K.ill (K.idm n)) := by
    intro d
    induction d with
    | zero =>
      intro i hd
      apply K.Ev.succ
      simp only [impl_identity.l0, if_neg (show ¬ ((i : Int) < (n : Int)) by omega)]
      obtain rfl : i = n := by omega
      exact Ev.now _
    | succ d ih =>
      intro i hd
      have hx := ih (i + 1) (by omega)
      rw [List.range_succ, List.map_append, List.map_cons, List.map_nil] at hx
      apply K.Ev.succ
      simp only [impl_identity.l0, K.ill_length, if_pos (show (i : Int) < (n : Int) by omega), if_pos (show (0 : Int) ≤ (n : Int) by omega), if_pos (show (0 : Int) ≤ (i : Int) by omega), Int.toNat_natCast, if_pos (show n ≤ 281474976710656 by omega), Option.bind_some, List.length_replicate, List.length_map, List.length_range, if_pos (show i < 5864062014805 by omega), K.w64s i (show i < 9223372036854775807 by omega), K.il_unit, K.ill_snoc]
      exact hx
  have := key n 0 (by omega)
  simp only [impl_identity.f]
  exact this

theorem Inverse_ev (a : Nat) (ha : a < 256) : Ev (fun k => impl_Inverse.f k (a : Int)) ((K.ginv a : Nat) : Int) := by
  simp only [impl_Inverse.f]
  exact Ev.bind (power_ev a 254 ha (by omega)) (Ev.now _)

theorem idxNZ_ev (R : List (List Nat)) (j : Nat) {n w : Nat} (h : K.Mat n w R) (hj : j < w) : ∀ (d i m : Nat), i + d = n → idxNZ (j : Int) ((K.ill R).drop i) m = some (if K.piv R j d i < n then ((m + (K.piv R j d i - i) : Nat) : Int) else -1) := by
  intro d
  induction d with
  | zero =>
    intro i m hd
    have e : (K.ill R).drop i = [] := List.drop_of_length_le (by rw [K.ill_length, h.len]; omega)
    rw [e]
    show some (-1 : Int) = some (if i < n then ((m + (i - i) : Nat) : Int) else -1)
    rw [if_neg (show ¬ i < n by omega)]
  | succ d ih =>
    intro i m hd
    have hi : i < R.length := by rw [h.len]; omega
    have hi' : i < (K.ill R).length := by rw [K.ill_length]; exact hi
    have wi : (K.row R i).length = w := h.row_wid (by omega)
    have er : (K.ill R)[i] = K.il (K.row R i) := by rw [K.row_eq hi]; simp [K.ill]
    have ent : rd (K.il (K.row R i)) (j : Int) = ((K.ent R i j : Nat) : Int) := K.il_getD _ _
    rw [List.drop_eq_getElem_cons hi', er]
    have pg := K.piv_ge R j d (i + 1)
    simp only [idxNZ, if_pos (show (0 : Int) ≤ (j : Int) by omega), K.il_length, wi, if_pos (show (j : Int) < (w : Int) by omega), ent, K.piv]
    by_cases e : K.ent R i j = 0
    · simp only [if_pos (show ((K.ent R i j : Nat) : Int) = 0 by omega), if_pos e]
      rw [ih (i + 1) (m + 1) (by omega)]
      by_cases q : K.piv R j d (i + 1) < n
      · simp only [if_pos q]; congr 2; omega
      · simp only [if_neg q]
    · simp only [if_neg (show ¬ ((K.ent R i j : Nat) : Int) = 0 by omega), if_neg e, if_pos (show i < n by omega)]
      congr 2; omega
theorem index_eq (R : List (List Nat)) (a j : Nat) {n w : Nat} (h : K.Mat n w R) (hj : j < w) (ha : a ≤ n) : slices_IndexFunc_byte_byte.f (K.ill R) (a : Int) (j : Int) = some (if K.piv R j (n - a) a < n then ((K.piv R j (n - a) a - a : Nat) : Int) else -1) := by
  simp only [slices_IndexFunc_byte_byte.f, K.ill_length, h.len, if_pos (show (0 : Int) ≤ (a : Int) by omega), if_pos (show (a : Int) ≤ (n : Int) by omega), Int.toNat_natCast]
  rw [idxNZ_ev R j h hj (n - a) a 0 (by omega), Nat.zero_add]

theorem scaled_ev (f : Nat) (r : List Nat) (hf : f < 256) (hr : K.Bytes r) (hl : r.length ≤ 1000000) : Ev (fun k => impl_scaled.f k (f : Int) (K.il r)) (K.il (K.scl f r)) := by
  have key : ∀ (d i : Nat), i + d = r.length → Ev (fun k => impl_scaled.l0 k (f : Int) (K.il (K.scl f (r.take i))) (K.il r) (r.length : Int) (i : Int)) (K.il (K.scl f r)) := by
    intro d
    induction d with
    | zero =>
      intro i h
      apply K.Ev.succ
      simp only [impl_scaled.l0, if_neg (show ¬ ((i : Int) < (r.length : Int)) by omega)]
      rw [List.take_of_length_le (by omega)]
      exact Ev.now _
    | succ d ih =>
      intro i h
      have hi : i < r.length := by omega
      have hx := ih (i + 1) (by omega)
      rw [K.take_succ' _ _ hi, K.scl_snoc] at hx
      apply K.Ev.succ
      simp only [impl_scaled.l0, K.il_length, if_pos (show (i : Int) < (r.length : Int) by omega), if_pos (show (0 : Int) ≤ (i : Int) by omega), K.rd_il hi]
      refine Ev.bind (Times_ev f r[i] hf (hr _ (List.getElem_mem hi))) ?_
      simp only [K.scl_length, if_pos (show (r.take i).length < 140737488355328 by simp; omega), K.w64s i (show i < 9223372036854775807 by omega), K.il_snoc]
      exact hx
  simp only [impl_scaled.f, K.il_length]
  exact key r.length 0 (by omega)

theorem el_row (R : List (List Nat)) (i : Nat) : rd_L1 (K.ill R) (i : Int) = K.il (K.row R i) := K.ill_row R i
theorem added_ev (a b : List Nat) (ha : K.Bytes a) (hb : K.Bytes b) (hl : a.length ≤ 1000000) (he : a.length = b.length) : Ev (fun k => impl_added.f k (K.il a) (K.il b)) (K.il (K.addr a b)) := by
  have key : ∀ (d i : Nat), i + d = a.length → Ev (fun k => impl_added.l0 k (K.il b) (K.il (K.addr (a.take i) (b.take i))) (K.il a) (a.length : Int) (i : Int)) (K.il (K.addr a b)) := by
    intro d
    induction d with
    | zero =>
      intro i h
      apply K.Ev.succ
      simp only [impl_added.l0, if_neg (show ¬ ((i : Int) < (a.length : Int)) by omega)]
      rw [List.take_of_length_le (by omega), List.take_of_length_le (by omega)]
      exact Ev.now _
    | succ d ih =>
      intro i h
      have hi : i < a.length := by omega
      have hj : i < b.length := by omega
      have hx := ih (i + 1) (by omega)
      rw [K.addr_succ hi hj] at hx
      apply K.Ev.succ
      simp only [impl_added.l0, K.il_length, if_pos (show (i : Int) < (a.length : Int) by omega), if_pos (show (i : Int) < (b.length : Int) by omega), if_pos (show (0 : Int) ≤ (i : Int) by omega), K.rd_il hi, K.rd_il hj, K.xor_u8 (ha _ (List.getElem_mem hi)) (hb _ (List.getElem_mem hj))]
      simp only [if_pos (show (K.addr (a.take i) (b.take i)).length < 140737488355328 by simp [K.addr]; omega), K.w64s i (show i < 9223372036854775807 by omega), K.il_snoc]
      exact hx
  simp only [impl_added.f, K.il_length]
  exact key a.length 0 (by omega)

theorem el_clears {n w c : Nat} (hn : n ≤ 100000) (hw : w ≤ 1000000) (a j : Nat) (ha : a < n) (hj : j < w) (X : List (List Int) × Int) : ∀ (d i : Nat) (R : List (List Nat)), K.Mat n w R → i + d = n → Ev (fun k => impl_eliminate.l0 k (K.ill (K.clrs a j d i R)) (c : Int) ((a + 1 : Nat) : Int) ((j + 1 : Nat) : Int)) X → Ev (fun k => impl_eliminate.l1 k (K.ill R) (c : Int) (a : Int) (j : Int) (n : Int) (i : Int)) X := by
  intro d
  induction d with
  | zero =>
    intro i R h hd hx
    apply K.Ev.succ
    simp only [impl_eliminate.l1, if_neg (show ¬ ((i : Int) < (n : Int)) by omega), K.w64s a (show a < 9223372036854775807 by omega), K.w64s j (show j < 9223372036854775807 by omega)]
    exact hx
  | succ d ih =>
    intro i R h hd hx
    have hi : i < n := by omega
    have wi : (K.row R i).length = w := h.row_wid hi
    have wa : (K.row R a).length = w := h.row_wid ha
    have hl : (K.ill R).length = n := by rw [K.ill_length, h.len]
    have ent : rd (K.il (K.row R i)) (j : Int) = ((K.ent R i j : Nat) : Int) := K.il_getD _ _
    have he := h.ent_lt i j
    have hx' := ih (i + 1) _ (K.clr_mat (j := j) h ha hi) (by omega) hx
    clear ih hx
    apply K.Ev.succ
    simp only [impl_eliminate.l1, hl, if_pos (show (i : Int) < (n : Int) by omega), if_pos (show (0 : Int) ≤ (i : Int) by omega), if_pos (show (0 : Int) ≤ (j : Int) by omega), el_row, K.il_length, wi, if_pos (show (j : Int) < (w : Int) by omega), ent, K.w64s i (show i < 9223372036854775807 by omega)]
    by_cases e : i = a ∨ K.ent R i j = 0
    · have e1 : K.clr a j i R = R := by unfold K.clr; rw [if_pos e]
      rw [e1] at hx'
      by_cases q : (i : Int) = (a : Int)
      · simp only [if_pos q]; exact hx'
      · simp only [if_neg q, if_pos (show ((K.ent R i j : Nat) : Int) = 0 by omega)]; exact hx'
    · have e1 : K.clr a j i R = R.set i (K.addr (K.row R i) (K.scl (K.ent R i j) (K.row R a))) := by unfold K.clr; rw [if_neg e]
      have q : ¬ (i : Int) = (a : Int) := fun q => e (Or.inl (by omega))
      have z : ¬ (((K.ent R i j : Nat) : Int) = 0) := fun q => e (Or.inr (by omega))
      rw [e1, ← K.ill_set] at hx'
      simp only [if_neg q, if_neg z, if_pos (show (a : Int) < (n : Int) by omega), if_pos (show (0 : Int) ≤ (a : Int) by omega)]
      refine Ev.bind (scaled_ev (K.ent R i j) (K.row R a) he (h.row_byt a) (by omega)) ?_
      refine Ev.bind (added_ev (K.row R i) (K.scl (K.ent R i j) (K.row R a)) (h.row_byt i) (K.scl_bytes he _) (by omega) (by rw [K.scl_length, wi, wa])) ?_
      simp only [Int.toNat_natCast]
      exact hx'
theorem el_loop {n w c : Nat} (hn : n ≤ 100000) (hw : w ≤ 1000000) (hc : c ≤ w) : ∀ (d a j : Nat) (R : List (List Nat)), K.Mat n w R → j + d = c → a ≤ n → Ev (fun k => impl_eliminate.l0 k (K.ill R) (c : Int) (a : Int) (j : Int)) (K.ill (K.elim d a j R).1, (((K.elim d a j R).2 : Nat) : Int)) := by
  intro d
  induction d with
  | zero =>
    intro a j R h hd ha
    apply K.Ev.succ
    simp only [impl_eliminate.l0, if_neg (show ¬ ((j : Int) < (c : Int)) by omega)]
    apply K.Ev.succ
    simp only [impl_eliminate.j1, Bool.false_eq_true, if_false, K.elim]
    exact Ev.now _
  | succ d ih =>
    intro a j R h hd ha
    have hl : (K.ill R).length = n := by rw [K.ill_length, h.len]
    apply K.Ev.succ
    simp only [impl_eliminate.l0, if_pos (show (j : Int) < (c : Int) by omega), hl]
    apply K.Ev.succ
    unfold K.elim
    rw [h.len]
    by_cases h1 : a < n
    · have pg := K.piv_ge R j (n - a) a
      have ie := index_eq R a j h (by omega) ha
      simp only [impl_eliminate.j1, decide_eq_true (show (a : Int) < (n : Int) by omega), if_true, if_pos h1, ie, Option.bind_some]
      generalize K.piv R j (n - a) a = p at pg ⊢
      by_cases h2 : p < n
      · have wp : (K.row R p).length = w := h.row_wid h2
        have ent : rd (K.il (K.row R p)) (j : Int) = ((K.ent R p j : Nat) : Int) := K.il_getD _ _
        have he := h.ent_lt p j
        have wr : K.Eqn (wrap64 ((a : Int) + ((p - a : Nat) : Int))) (p : Int) := ⟨by rw [K.w64 (by omega) (by omega)]; omega⟩
        have hra : a < ((K.ill R).set a (K.il (K.row R p))).length := by simp [hl, h1]
        have y1 : rd_L1 (((K.ill R).set a (K.il (K.row R p))).set p (K.il (K.row R a))) (a : Int) = K.il (K.row R p) := by
          rw [K.ill_set, K.ill_set, el_row, K.row_set (by simp [h.len, h2]), K.row_set (by rw [h.len]; exact h1)]
          by_cases e : p = a
          · rw [if_pos e, e]
          · rw [if_neg e, if_pos rfl]
        simp only [if_pos h2, if_neg (show ¬ (((p - a : Nat) : Int) < 0) by omega), wr.out, hl, if_pos (show (p : Int) < (n : Int) by omega), if_pos (show (a : Int) < (n : Int) by omega), if_pos (show (0 : Int) ≤ (p : Int) by omega), if_pos (show (0 : Int) ≤ (a : Int) by omega), if_pos (show (0 : Int) ≤ (j : Int) by omega), el_row, Int.toNat_natCast, y1, K.il_length, wp, if_pos (show (j : Int) < (w : Int) by omega), ent, Option.bind_some]
        refine Ev.bind (Inverse_ev (K.ent R p j) he) ?_
        refine Ev.bind (scaled_ev (K.ginv (K.ent R p j)) (K.row R p) (K.ginv_lt _) (h.row_byt p) (by omega)) ?_
        have hx := ih (a + 1) (j + 1) (K.estep a j p R) (K.estep_mat h h1 h2) (by omega) (by omega)
        have es : K.estep a j p R = K.clrs a j n 0 (K.lead a j p R) := by unfold K.estep; rw [h.len]
        have g := el_clears hn hw a j h1 (by omega) _ n 0 (K.lead a j p R) (K.lead_mat h h1 h2) (by omega) (by rw [← es]; exact hx)
        have e1 : K.ill (K.lead a j p R) = (((K.ill R).set a (K.il (K.row R p))).set p (K.il (K.row R a))).set a (K.il (K.scl (K.ginv (K.ent R p j)) (K.row R p))) := by
          rw [K.ill_set, K.ill_set, K.ill_set, K.swap_set R a p _ _ _ (fun e => by rw [e])]
          rfl
        rw [e1] at g
        exact g
      · simp only [if_neg h2, if_pos (show ((-1 : Int) < 0) by omega), K.w64s j (show j < 9223372036854775807 by omega)]
        exact ih a (j + 1) R h (by omega) ha
    · simp only [impl_eliminate.j1, decide_eq_false (show ¬ (a : Int) < (n : Int) by omega), Bool.false_eq_true, if_false, if_neg h1]
      exact Ev.now _
theorem eliminate_ev (R : List (List Nat)) {n w : Nat} (c : Nat) (h : K.Mat n w R) (hn : n ≤ 100000) (hw : w ≤ 1000000) (hc : c ≤ w) : Ev (fun k => impl_eliminate.f k (K.ill R) (c : Int)) (K.ill (K.elim c 0 0 R).1, (((K.elim c 0 0 R).2 : Nat) : Int)) := by
  simp only [impl_eliminate.f]
  exact el_loop hn hw hc c 0 0 R h (by omega) (by omega)

theorem io_joins (A : List (List Nat)) {n : Nat} (hA : K.Mat n n A) (hn : n ≤ 100000) (X : (List (List Int)) × Bool) (hx : Ev (fun k => (impl_eliminate.f k (K.ill (K.beside A (K.idm n))) (n : Int)).bind fun bt154 => (if bt154.2 < (n : Int) then (some (([] : List (List Int)), false)) else (impl_inverseOf.l1 k (n : Int) (([] : List (List Int))) bt154.1 (bt154.1.length : Int) 0))) X) : ∀ (d i : Nat), i + d = n → Ev (fun k => impl_inverseOf.l0 k (K.ill A) (n : Int) (K.ill ((K.beside A (K.idm n)).take i)) (K.ill (K.idm n)) (n : Int) (i : Int)) X := by
  have hI := K.idm_mat n
  have hB := K.beside_mat hA hI
  intro d
  induction d with
  | zero =>
    intro i hd
    apply K.Ev.succ
    simp only [impl_inverseOf.l0, if_neg (show ¬ ((i : Int) < (n : Int)) by omega)]
    rw [List.take_of_length_le (by rw [hB.len]; omega)]
    exact hx
  | succ d ih =>
    intro i hd
    have hi : i < n := by omega
    have r1 : rd_L1 (K.ill A) (i : Int) = K.il (K.row A i) := K.ill_row A i
    have r2 : rd_L1 (K.ill (K.idm n)) (i : Int) = K.il (K.row (K.idm n) i) := K.ill_row _ i
    have w1 := hA.row_wid hi
    have w2 := hI.row_wid hi
    have hg := ih (i + 1) (by omega)
    have e : (K.beside A (K.idm n)).take (i + 1) = (K.beside A (K.idm n)).take i ++ [K.row A i ++ K.row (K.idm n) i] := by
      rw [K.take_succ' _ _ (by rw [hB.len]; omega), K.row_eq (by rw [hA.len]; omega), K.row_eq (by rw [hI.len]; omega)]
      simp [K.beside]
    rw [e, ← K.ill_snoc, ← K.il_append] at hg
    apply K.Ev.succ
    simp only [impl_inverseOf.l0, K.ill_length, hA.len, hI.len, if_pos (show (i : Int) < (n : Int) by omega), if_pos (show (0 : Int) ≤ (i : Int) by omega), r1, r2, clone_eq (K.il (K.row A i)) (by rw [K.il_length, w1]; omega), Option.bind_some, K.il_length, w1, w2, if_pos (show n + n < 140737488355328 by omega), if_pos (show ((K.beside A (K.idm n)).take i).length < 5864062014805 by rw [List.length_take, hB.len]; omega), K.w64s i (show i < 9223372036854775807 by omega)]
    exact hg
theorem io_cuts (R : List (List Nat)) {n w c : Nat} (h : K.Mat n w R) (hc : c ≤ w) (hn : n ≤ 100000) (hw : w ≤ 1000000) : Ev (fun k => impl_inverseOf.l1 k (c : Int) (([] : List (List Int))) (K.ill R) (n : Int) 0) (K.ill (K.rgt c R), true) := by
  have key : ∀ (d i : Nat), i + d = n → Ev (fun k => impl_inverseOf.l1 k (c : Int) (K.ill (K.rgt c (R.take i))) (K.ill R) (n : Int) (i : Int)) (K.ill (K.rgt c R), true) := by
    intro d
    induction d with
    | zero =>
      intro i hd
      apply K.Ev.succ
      simp only [impl_inverseOf.l1, if_neg (show ¬ ((i : Int) < (n : Int)) by omega)]
      rw [List.take_of_length_le (by rw [h.len]; omega)]
      exact Ev.now _
    | succ d ih =>
      intro i hd
      have hi : i < n := by omega
      have r1 : rd_L1 (K.ill R) (i : Int) = K.il (K.row R i) := K.ill_row R i
      have w1 := h.row_wid hi
      have hg := ih (i + 1) (by omega)
      have e : K.rgt c (R.take (i + 1)) = K.rgt c (R.take i) ++ [(K.row R i).drop c] := by
        rw [K.take_succ' _ _ (by rw [h.len]; omega), K.row_eq (by rw [h.len]; omega)]
        simp only [K.rgt, List.map_append, List.map_cons, List.map_nil]
      rw [e, ← K.ill_snoc, ← K.il_drop] at hg
      apply K.Ev.succ
      simp only [impl_inverseOf.l1, K.ill_length, h.len, if_pos (show (i : Int) < (n : Int) by omega), if_pos (show (0 : Int) ≤ (i : Int) by omega), if_pos (show (0 : Int) ≤ (c : Int) by omega), r1, K.il_length, w1, if_pos (show (c : Int) ≤ (w : Int) by omega), Int.toNat_natCast, clone_eq ((K.il (K.row R i)).drop c) (by rw [List.length_drop, K.il_length, w1]; omega), Option.bind_some, if_pos (show (K.rgt c (R.take i)).length < 5864062014805 by rw [K.rgt_length, List.length_take, h.len]; omega), K.w64s i (show i < 9223372036854775807 by omega)]
      exact hg
  exact key n 0 (by omega)
theorem inverseOf_ev (A : List (List Nat)) {n : Nat} (hA : K.Mat n n A) (hn : n ≤ 100000) : Ev (fun k => impl_inverseOf.f k (K.ill A)) (if (K.minv A).2 < n then ([], false) else (K.ill (K.minv A).1, true)) := by
  have hI := K.idm_mat n
  have hB := K.beside_mat hA hI
  have hm := K.elim_mat n 0 0 _ hB
  simp only [impl_inverseOf.f, K.ill_length, hA.len]
  refine Ev.bind (identity_ev n hn) ?_
  simp only [K.ill_length, hI.len]
  refine io_joins A hA hn _ ?_ n 0 (by omega)
  refine Ev.bind (eliminate_ev _ n hB hn (by omega) (by omega)) ?_
  simp only [K.ill_length, hm.len]
  unfold K.minv
  rw [hA.len]
  by_cases e : (K.elim n 0 0 (K.beside A (K.idm n))).2 < n
  · rw [if_pos e]
    simp only [if_pos (show (((K.elim n 0 0 (K.beside A (K.idm n))).2 : Nat) : Int) < (n : Int) by omega)]
    exact Ev.now _
  · rw [if_neg e]
    simp only [if_neg (show ¬ (((K.elim n 0 0 (K.beside A (K.idm n))).2 : Nat) : Int) < (n : Int) by omega)]
    exact io_cuts _ hm (by omega) hn (by omega)

theorem dot_ev (a b : List Nat) (ha : K.Bytes a) (hb : K.Bytes b) (hl : a.length ≤ 1000000) (he : a.length ≤ b.length) : Ev (fun k => impl_dot.f k (K.il a) (K.il b)) ((K.dotp a b : Nat) : Int) := by
  have key : ∀ (d i o : Nat), i + d = a.length → o < 256 → Ev (fun k => impl_dot.l0 k (K.il b) (o : Int) (K.il a) (a.length : Int) (i : Int)) ((o ^^^ K.dotp (a.drop i) (b.drop i) : Nat) : Int) := by
    intro d
    induction d with
    | zero =>
      intro i o h ho
      apply K.Ev.succ
      simp only [impl_dot.l0, if_neg (show ¬ ((i : Int) < (a.length : Int)) by omega)]
      rw [List.drop_of_length_le (by omega)]
      simp only [K.dotp, Nat.xor_zero]
      exact Ev.now _
    | succ d ih =>
      intro i o h ho
      have hi : i < a.length := by omega
      have hj : i < b.length := by omega
      have hlt := K.gmul_lt (b := b[i]) (ha _ (List.getElem_mem hi))
      have hx := ih (i + 1) (o ^^^ K.gmul a[i] b[i]) (by omega) (K.xlt ho hlt)
      rw [Nat.xor_assoc, ← K.dotp_drop hi hj] at hx
      apply K.Ev.succ
      simp only [impl_dot.l0, K.il_length, if_pos (show (i : Int) < (a.length : Int) by omega), if_pos (show (i : Int) < (b.length : Int) by omega), if_pos (show (0 : Int) ≤ (i : Int) by omega), K.rd_il hi, K.rd_il hj]
      refine Ev.bind (Times_ev a[i] b[i] (ha _ (List.getElem_mem hi)) (hb _ (List.getElem_mem hj))) ?_
      simp only [K.xor_u8 ho hlt, K.w64s i (show i < 9223372036854775807 by omega)]
      exact hx
  have := key a.length 0 0 (by omega) (by omega)
  simp only [impl_dot.f, K.il_length]
  simpa using this

theorem solveLoop_ev (R : List (List Nat)) (v : List Nat) {n c : Nat} (h : K.Mat n c R) (hv : K.Bytes v) (hw : c ≤ v.length) (hn : n ≤ 100000) (hc : c ≤ 1000000) : Ev (fun k => impl_solve.l0 k (K.il v) ([] : List Int) (K.ill R) (R.length : Int) 0) (K.il (K.app R v), true) := by
  have key : ∀ (d i : Nat), i + d = R.length → Ev (fun k => impl_solve.l0 k (K.il v) (K.il (K.app (R.take i) v)) (K.ill R) (R.length : Int) (i : Int)) (K.il (K.app R v), true) := by
    intro d
    induction d with
    | zero =>
      intro i hd
      apply K.Ev.succ
      simp only [impl_solve.l0, if_neg (show ¬ ((i : Int) < (R.length : Int)) by omega)]
      rw [List.take_of_length_le (by omega)]
      exact Ev.now _
    | succ d ih =>
      intro i hd
      have hn' := h.len
      have hi : i < R.length := by omega
      have hx := ih (i + 1) (by omega)
      have e : K.app (R.take (i + 1)) v = K.app (R.take i) v ++ [K.dotp (K.row R i) v] := by
        rw [K.take_succ' _ _ hi, ← K.row_eq hi]; simp [K.app]
      rw [e, ← K.il_snoc] at hx
      have hw := h.row_wid (i := i) (by omega)
      have hr : rd_L1 (K.ill R) (i : Int) = K.il (K.row R i) := K.ill_row R i
      apply K.Ev.succ
      simp only [impl_solve.l0, K.ill_length, if_pos (show (i : Int) < (R.length : Int) by omega), if_pos (show (0 : Int) ≤ (i : Int) by omega), hr]
      refine Ev.bind (dot_ev (K.row R i) v (h.row_byt i) hv (by omega) (by omega)) ?_
      simp only [K.il_length, if_pos (show (K.app (R.take i) v).length < 140737488355328 by simp [K.app]; omega), K.w64s i (show i < 9223372036854775807 by omega)]
      exact hx
  have := key R.length 0 (by omega)
  exact this
theorem solve_ev (A : List (List Nat)) (v : List Nat) {n : Nat} (hA : K.Mat n n A) (hv : K.Bytes v) (hw : n ≤ v.length) (hn : n ≤ 100000) : Ev (fun k => impl_solve.f k (K.ill A) (K.il v)) (if (K.minv A).2 = n then (K.il (K.app (K.minv A).1 v), true) else ([], false)) := by
  have hr := K.minv_rank hA
  simp only [impl_solve.f]
  refine Ev.bind (inverseOf_ev A hA hn) ?_
  by_cases e : (K.minv A).2 = n
  · simp only [if_neg (show ¬ (K.minv A).2 < n by omega), if_pos e, if_true, K.ill_length]
    exact solveLoop_ev _ v (K.minv_mat hA) hv hw hn (by omega)
  · simp only [if_pos (show (K.minv A).2 < n by omega), if_neg e, Bool.false_eq_true, if_false]
    exact Ev.now _

theorem reverse_int_l0 : ∀ (d : Nat) (a m c : List Int), m.length = d → (a ++ m ++ c).length ≤ 140737488355328 → ∀ i j : Int, i = (a.length : Int) → j = (a.length : Int) + (m.length : Int) - 1 → Ev (fun k => slices_Reverse_byte_byte.l0 k (a ++ m ++ c) i j) (a ++ m.reverse ++ c) := by
  intro d
  induction d using Nat.strongRecOn with
  | _ d ih =>
  intro a m c hd hl i j hi hj
  apply K.Ev.succ
  rcases Nat.lt_or_ge 1 d with h | h
  · obtain ⟨p, m1, rfl⟩ : ∃ p m1, m = p :: m1 := by cases m with | nil => simp at hd; omega | cons p m1 => exact ⟨p, m1, rfl⟩
    obtain ⟨m2, q, rfl⟩ : ∃ m2 q, m1 = m2 ++ [q] := by
      rcases List.eq_nil_or_concat m1 with rfl | ⟨m2, q, rfl⟩
      · simp at hd; omega
      · exact ⟨m2, q, by simp⟩
    simp only [List.length_append, List.length_cons, List.length_nil] at hd hl hj
    have e1 : rd (a ++ p :: (m2 ++ [q]) ++ c) i = p := by
      subst hi; simp [rd, List.getElem?_append]
    have jt : j.toNat = a.length + m2.length + 1 := by omega
    have e2 : rd (a ++ p :: (m2 ++ [q]) ++ c) j = q := by
      simp only [rd, jt, List.getD_eq_getElem?_getD]
      rw [List.getElem?_append_left (by simp; omega), List.getElem?_append_right (by omega), show a.length + m2.length + 1 - a.length = m2.length + 1 by omega]
      simp
    have s1 : ((a ++ p :: (m2 ++ [q]) ++ c).set i.toNat q).set j.toNat p = (a ++ [q]) ++ m2 ++ (p :: c) := by
      subst hi
      rw [jt, Int.toNat_natCast]
      rw [List.append_assoc, List.set_append_right _ _ (by omega), List.set_append_right _ _ (by omega)]
      rw [show a.length - a.length = 0 by omega, show a.length + m2.length + 1 - a.length = m2.length + 1 by omega]
      simp [List.set_append_right]
    have w1 : wrap64 (i + 1) = i + 1 := K.w64 (by omega) (by omega)
    have w2 : wrap64 (j - 1) = j - 1 := K.w64 (by omega) (by omega)
    simp only [slices_Reverse_byte_byte.l0, if_pos (show i < j by omega), if_pos (show 0 ≤ j by omega), if_pos (show j < (((a ++ p :: (m2 ++ [q]) ++ c).length : Nat) : Int) by simp; omega), if_pos (show 0 ≤ i by omega), if_pos (show i < (((a ++ p :: (m2 ++ [q]) ++ c).length : Nat) : Int) by simp; omega), e1, e2, s1, w1, w2]
    have := ih (d - 2) (by omega) (a ++ [q]) m2 (p :: c) (by omega) (by simp; omega) (i + 1) (j - 1) (by simp; omega) (by simp; omega)
    refine K.Ev.to this ?_
    simp
  · simp only [slices_Reverse_byte_byte.l0, if_neg (show ¬ (i < j) by omega)]
    have : m.reverse = m := by
      match m, hd with
      | [], _ => rfl
      | [_], _ => rfl
      | _ :: _ :: _, hd => simp at hd; omega
    rw [this]; exact Ev.now _
theorem reverse_byte_ev (l : List Int) (hl : l.length ≤ 140737488355328) : Ev (fun k => slices_Reverse_byte_byte.f k l) l.reverse := by
  have w : wrap64 ((l.length : Int) - 1) = (l.length : Int) - 1 := K.w64 (by omega) (by omega)
  have := reverse_int_l0 l.length [] l [] rfl (by simpa using hl) 0 ((l.length : Int) - 1) (by simp) (by simp)
  simp only [slices_Reverse_byte_byte.f, w]
  simpa using this

theorem filled_ev (q : Nat → Int → Int → Option Int) (g : Nat → Nat → Nat) (n m : Nat) (hn : n ≤ 100000) (hm : m ≤ 100000) (hq : ∀ i k, i < n → k < m → Ev (fun r => q r (i : Int) (k : Int)) ((g i k : Nat) : Int)) : Ev (fun r => impl_filled.f (q r) r (n : Int) (m : Int)) (K.ill ((List.range n).map (fun i => (List.range m).map (g i)))) := by
  have key : ∀ (d i : Nat), i + d = n → ∀ e : Nat, Ev (fun r => impl_filled.l0 (q (r + e)) r (m : Int) (K.ill ((List.range i).map (fun i => (List.range m).map (g i)))) (n : Int) (i : Int)) (K.ill ((List.range n).map (fun i => (List.range m).map (g i)))) := by
    intro d
    induction d with
    | zero =>
      intro i hd e
      apply K.Ev.succ
      simp only [impl_filled.l0, if_neg (show ¬ ((i : Int) < (n : Int)) by omega)]
      obtain rfl : i = n := by omega
      exact Ev.now _
    | succ d ih =>
      intro i hd e
      have inner : ∀ (dd k : Nat), k + dd = m → ∀ e : Nat, Ev (fun r => impl_filled.l1 (q (r + e)) r (m : Int) (K.ill ((List.range i).map (fun i => (List.range m).map (g i)))) (i : Int) (K.il ((List.range k).map (g i))) (n : Int) (i : Int) (m : Int) (k : Int)) (K.ill ((List.range n).map (fun i => (List.range m).map (g i)))) := by
        intro dd
        induction dd with
        | zero =>
          intro k hk e
          obtain rfl : k = m := by omega
          have hx := ih (i + 1) (by omega) (e + 1)
          rw [List.range_succ, List.map_append, List.map_cons, List.map_nil, ← K.ill_snoc] at hx
          apply K.Ev.succ
          simp only [impl_filled.l1, if_neg (show ¬ ((k : Int) < (k : Int)) by omega), K.ill_length, List.length_map, List.length_range, if_pos (show i < 5864062014805 by omega), K.w64s i (show i < 9223372036854775807 by omega)]
          simpa only [Nat.add_assoc, Nat.add_comm 1 e] using hx
        | succ dd ih2 =>
          intro k hk e
          have hx := ih2 (k + 1) (by omega) (e + 1)
          rw [show (List.range (k + 1)).map (g i) = (List.range k).map (g i) ++ [g i k] by rw [List.range_succ, List.map_append, List.map_cons, List.map_nil], ← K.il_snoc] at hx
          have hq' : Ev (fun r => q (r + 1 + e) (i : Int) (k : Int)) ((g i k : Nat) : Int) := by
            obtain ⟨N, hN⟩ := hq i k (by omega) (by omega)
            exact ⟨N, fun r hr => hN _ (by omega)⟩
          apply K.Ev.succ
          simp only [impl_filled.l1, if_pos (show ((k : Int) < (m : Int)) by omega)]
          refine Ev.bind hq' ?_
          simp only [K.il_length, List.length_map, List.length_range, if_pos (show k < 140737488355328 by omega), K.w64s k (show k < 9223372036854775807 by omega)]
          simpa only [Nat.add_assoc, Nat.add_comm 1 e] using hx
      apply K.Ev.succ
      simp only [impl_filled.l0, if_pos (show ((i : Int) < (n : Int)) by omega)]
      have this := inner m 0 (by omega) (e + 1)
      simp only [Nat.add_assoc, Nat.add_comm 1 e]
      exact this
  have := key n 0 (by omega) 0
  simp only [impl_filled.f]
  exact this

theorem locator_rows_ev (s : List Nat) (n : Nat) (hn : n + n ≤ s.length) (hs : s.length ≤ 100000) : Ev (fun k => impl_locator_rows.f k (n : Int) (n : Int) (K.il s)) (K.ill (K.hank s n)) := by
  have e : K.hank s n = (List.range n).map (fun i => (List.range n).map (fun k => s.getD (i + k) 0)) := by
    unfold K.hank
    refine List.map_congr_left fun i hi => ?_
    have := List.mem_range.1 hi
    rw [K.hrow_get (by omega)]
  rw [e]
  have := filled_ev (fun _ => impl_locator_rows.at_ (K.il s)) (fun i k => s.getD (i + k) 0) n n (by omega) (by omega) (fun i k hi hk => by
    have wr : K.Eqn (wrap64 ((i : Int) + (k : Int))) ((i + k : Nat) : Int) := ⟨by rw [K.w64 (by omega) (by omega)]; omega⟩
    simp only [impl_locator_rows.at_, wr.out, K.il_length, if_pos (show (0 : Int) ≤ ((i + k : Nat) : Int) by omega), if_pos (show ((i + k : Nat) : Int) < (s.length : Int) by omega), K.il_getD]
    exact Ev.now _)
  simp only [impl_locator_rows.f]
  exact this
theorem locator_ev (s : List Nat) (hb : K.Bytes s) (hs : s.length ≤ 100000) : Ev (fun k => impl_locator.f k (K.il s)) (K.il (K.loc s (s.length / 2))) := by
  have key : ∀ (n : Nat), n + n ≤ s.length → Ev (fun k => impl_locator.l0 k (K.il s) (n : Int)) (K.il (K.loc s n)) := by
    intro n
    induction n with
    | zero =>
      intro _
      apply K.Ev.succ
      simp only [impl_locator.l0, if_neg (show ¬ (((0 : Nat) : Int) > 0) by omega)]
      exact Ev.now _
    | succ n ih =>
      intro hn
      have hm := K.hank_mat hb hn
      have wr : K.Eqn (wrap64 (2 * ((n + 1 : Nat) : Int))) ((n + 1 + (n + 1) : Nat) : Int) := ⟨by rw [K.w64 (by omega) (by omega)]; omega⟩
      have er : ((K.il s).take (n + 1 + (n + 1))).drop (n + 1) = K.il (K.hrow s (n + 1) (n + 1)) := by
        rw [K.il_take, K.il_drop, List.drop_take, Nat.add_sub_cancel_left]; rfl
      have wl : (K.hrow s (n + 1) (n + 1)).length = n + 1 := K.hrow_length (by omega)
      apply K.Ev.succ
      simp only [impl_locator.l0, if_pos (show ((n + 1 : Nat) : Int) > 0 by omega)]
      refine Ev.bind (locator_rows_ev s (n + 1) hn hs) ?_
      simp only [wr.out, K.il_length, if_pos (show (0 : Int) ≤ ((n + 1 : Nat) : Int) by omega), if_pos (show ((n + 1 : Nat) : Int) ≤ ((n + 1 + (n + 1) : Nat) : Int) by omega), if_pos (show ((n + 1 + (n + 1) : Nat) : Int) ≤ (s.length : Int) by omega), Int.toNat_natCast, er]
      refine Ev.bind (solve_ev _ (K.hrow s (n + 1) (n + 1)) hm (K.hrow_bytes hb _ _) (by omega) (by omega)) ?_
      unfold K.loc
      by_cases e : (K.minv (K.hank s (n + 1))).2 = n + 1
      · have al : (K.app (K.minv (K.hank s (n + 1))).1 (K.hrow s (n + 1) (n + 1))).length = n + 1 := by unfold K.app; rw [List.length_map, (K.minv_mat hm).len]
        simp only [if_pos e, if_true]
        refine Ev.bind (reverse_byte_ev _ (by rw [K.il_length, al]; omega)) ?_
        simp only [Option.bind_some, List.length_reverse, K.il_length, al, List.length_cons, List.length_nil, if_pos (show 0 + 1 + (n + 1) < 140737488355328 by omega)]
        refine K.Ev.to (Ev.now _) ?_
        simp [K.il]
      · simp only [if_neg e, Bool.false_eq_true, if_false, K.w64p n (show n < 9223372036854775807 by omega)]
        exact ih (by omega)
  have e : wrap64 (((K.il s).length : Int) / 2) = ((s.length / 2 : Nat) : Int) := by rw [K.il_length, K.w64 (by omega) (by omega)]; omega
  simp only [impl_locator.f, e]
  exact key _ (by omega)

theorem locOf_both (s : List Nat) (hb : K.Bytes s) : ∃ (r : List Nat) (b : Bool), Ev (fun k => spec_LocatorOf.f k (K.il s)) (K.il r, b) ∧ Ev (fun k => impl_LocatorOf.f k (K.il s)) (K.il r, b) := by
  by_cases h1 : ((s.length : Int) % 2) = 1
  · refine ⟨[], false, ?_, ?_⟩
    · simp only [spec_LocatorOf.f, K.il_length, if_pos h1]; exact Ev.now _
    · simp only [impl_LocatorOf.f, K.il_length, if_neg (show ¬ ((s.length : Int) % 2) = 0 by omega)]; exact Ev.now _
  by_cases h2 : (s.length : Int) > 8
  · refine ⟨[], false, ?_, ?_⟩
    · simp only [spec_LocatorOf.f, K.il_length, if_neg h1, if_pos h2]; exact Ev.now _
    · simp only [impl_LocatorOf.f, K.il_length, if_pos (show ((s.length : Int) % 2) = 0 by omega), if_pos h2]; exact Ev.now _
  refine ⟨K.loc s (s.length / 2), true, ?_, ?_⟩
  · simp only [spec_LocatorOf.f, K.il_length, if_neg h1, if_neg h2]
    exact Ev.bind (l8Locator_ev s hb (by omega)) (Ev.now _)
  · simp only [impl_LocatorOf.f, K.il_length, if_pos (show ((s.length : Int) % 2) = 0 by omega), if_neg h2]
    exact Ev.bind (locator_ev s hb (by omega)) (Ev.now _)

theorem next_ok (c : List Int) (hc : K.Code c) (a : Int) (h0 : 0 ≤ a) (h1 : a ≤ 1152921504606846976) (sd : Int) : ∃ v sd', spec_l1Cur_next.f c a sd = some (v, a + 1, sd') ∧ 0 ≤ v ∧ v ≤ 255 := by
  have hl := hc.len
  have w : K.Eqn (wrap64 (a + 1)) (a + 1) := ⟨K.w64 (by omega) (by omega)⟩
  by_cases h : a < (c.length : Int)
  · have hr := hc.rd_rng a
    have wr : K.Eqn (wrap64 (rd c a)) (rd c a) := ⟨K.w64 (by omega) (by omega)⟩
    have h2 : a + 1 ≤ (c.length : Int) := by omega
    simp only [spec_l1Cur_next.f, if_pos h, if_pos h0, w.out, if_pos h2, wr.out]
    exact ⟨_, _, rfl, hr.1, hr.2⟩
  · have h2 : ¬ (a + 1 ≤ (c.length : Int)) := by omega
    have hb : ∀ y : Int, wrap64 (Go.bits .and .u64 y 255) = Go.bits .and .u64 y 255 ∧ 0 ≤ Go.bits .and .u64 y 255 ∧ Go.bits .and .u64 y 255 ≤ 255 := fun y => by
      have := K.u64_and255 y
      exact ⟨K.w64 (by omega) (by omega), this⟩
    simp only [spec_l1Cur_next.f, if_neg h, w.out, if_neg h2, (hb _).1]
    exact ⟨_, _, rfl, (hb _).2.1, (hb _).2.2⟩

theorem pick_ok (c : List Int) (hc : K.Code c) (a : Int) (h0 : 0 ≤ a) (h1 : a ≤ 1000000000000000000) (sd : Int) (n : Int) (hn : n ≤ 1000000) : ∃ v a' sd', spec_l1Cur_pick.f c a sd n = some (v, a', sd') ∧ 0 ≤ v ∧ (v < n ∨ v = 0) ∧ a ≤ a' ∧ a' ≤ a + 2 := by
  by_cases h : n ≤ 1
  · exact ⟨0, a, sd, by simp only [spec_l1Cur_pick.f, if_pos h], by omega, .inr rfl, by omega, by omega⟩
  obtain ⟨v, sd1, e1, v0, v1⟩ := next_ok c hc a h0 (by omega) sd
  have hnz : ¬ n = 0 := by omega
  have tm : ∀ x : Int, 0 ≤ x → 0 ≤ Int.tmod x n ∧ Int.tmod x n < n := fun x hx => by
    rw [Int.tmod_eq_emod_of_nonneg hx]
    exact ⟨Int.emod_nonneg _ (by omega), Int.emod_lt_of_pos _ (by omega)⟩
  by_cases h2 : n > 200
  · obtain ⟨u, sd2, e2, u0, u1⟩ := next_ok c hc (a + 1) (by omega) (by omega) sd1
    have w1 : K.Eqn (wrap64 (v * 256)) (v * 256) := ⟨K.w64 (by omega) (by omega)⟩
    have w2 : K.Eqn (wrap64 (v * 256 + u)) (v * 256 + u) := ⟨K.w64 (by omega) (by omega)⟩
    have t := tm (v * 256 + u) (by omega)
    refine ⟨_, a + 1 + 1, sd2, by simp only [spec_l1Cur_pick.f, if_neg h, e1, Option.bind_some, if_pos h2, e2, if_neg hnz, w1.out, w2.out], t.1, .inl t.2, by omega, by omega⟩
  · have t := tm v v0
    exact ⟨_, a + 1, sd1, by simp only [spec_l1Cur_pick.f, if_neg h, e1, Option.bind_some, if_neg h2, if_neg hnz], t.1, .inl t.2, by omega, by omega⟩

theorem among_ok (c : List Int) (hc : K.Code c) (a : Int) (h0 : 0 ≤ a) (h1 : a ≤ 1000000000000000000) (sd : Int) (l : List Int) (hl : 0 < l.length) (hl2 : l.length ≤ 1000000) : ∃ (x a' sd' : Int), spec_l1Cur_among.f c a sd l = some (x, a', sd') ∧ x ∈ l ∧ a ≤ a' ∧ a' ≤ a + 2 := by
  obtain ⟨v, a', sd', e, v0, v1, g1, g2⟩ := pick_ok c hc a h0 h1 sd (l.length : Int) (by omega)
  have hv : v.toNat < l.length := by omega
  refine ⟨rd l v, a', sd', by simp only [spec_l1Cur_among.f, e, Option.bind_some, if_pos v0, if_pos (show v < (l.length : Int) by omega)], ?_, g1, g2⟩
  simp only [rd, List.getD_eq_getElem?_getD, List.getElem?_eq_getElem hv, Option.getD_some]
  exact List.getElem_mem hv

theorem one_ok (c : List Int) (hc : K.Code c) (a : Int) (h0 : 0 ≤ a) (h1 : a ≤ 1000000000000000000) (sd : Int) (n : Int) (hn : n ≤ 1000000) : ∃ (b : Bool) (a' sd' : Int), spec_l1Cur_one.f c a sd n = some (b, a', sd') ∧ a ≤ a' ∧ a' ≤ a + 2 := by
  obtain ⟨v, a', sd', e, _, _, g1, g2⟩ := pick_ok c hc a h0 h1 sd n hn
  exact ⟨v == 0, a', sd', by simp only [spec_l1Cur_one.f, e, Option.bind_some], g1, g2⟩

theorem byte_ok (c : List Int) (hc : K.Code c) (a : Int) (h0 : 0 ≤ a) (h1 : a ≤ 900000000000000000) (sd : Int) : ∃ (x a' sd' : Int), spec_l1Cur_byte.f c a sd = some (x, a', sd') ∧ 0 ≤ x ∧ x ≤ 255 ∧ a ≤ a' ∧ a' ≤ a + 4 := by
  obtain ⟨b, a1, sd1, e1, g1, g2⟩ := one_ok c hc a h0 (by omega) sd 5 (by omega)
  cases b with
  | true =>
    obtain ⟨x, a2, sd2, e2, _, g3, g4⟩ := among_ok c hc a1 (by omega) (by omega) sd1 ([0, 1, 2, 3, 255, 27] : List Int) (by simp) (by simp)
    exact ⟨x % 256, a2, sd2, by simp only [spec_l1Cur_byte.f, e1, Option.bind_some, if_true, e2], by omega, by omega, by omega, by omega⟩
  | false =>
    obtain ⟨x, a2, sd2, e2, _, _, g3, g4⟩ := pick_ok c hc a1 (by omega) (by omega) sd1 256 (by omega)
    exact ⟨x % 256, a2, sd2, by simp only [spec_l1Cur_byte.f, e1, Option.bind_some, Bool.false_eq_true, if_false, e2], by omega, by omega, by omega, by omega⟩

theorem vector_ok (c : List Int) (hc : K.Code c) (n : Nat) (hn : n ≤ 1000) (a : Int) (h0 : 0 ≤ a) (h1 : a ≤ 800000000000000000) (sd : Int) : ∃ (l : List Int) (a' sd' : Int), Ev (fun k => spec_l1Cur_vector.f k c a sd (n : Int)) (l, a', sd') ∧ l.length = n ∧ (∀ x ∈ l, 0 ≤ x ∧ x ≤ 255) ∧ a ≤ a' ∧ a' ≤ a + 4 * n := by
  have key : ∀ (d : Nat) (acc : List Int) (a sd : Int), d ≤ 1000 → acc.length + d ≤ 1000000 → (∀ x ∈ acc, 0 ≤ x ∧ x ≤ 255) → 0 ≤ a → a + 4 * d ≤ 850000000000000000 → ∃ (l : List Int) (a' sd' : Int), Ev (fun k => spec_l1Cur_vector.l0 k (d : Int) acc c a sd) (l, a', sd') ∧ l.length = acc.length + d ∧ (∀ x ∈ l, 0 ≤ x ∧ x ≤ 255) ∧ a ≤ a' ∧ a' ≤ a + 4 * d := by
    intro d
    induction d with
    | zero =>
      intro acc a sd _ g1 g2 g3 g4
      refine ⟨acc, a, sd, ?_, rfl, g2, by omega, by omega⟩
      apply K.Ev.succ
      simp only [spec_l1Cur_vector.l0, if_neg (show ¬ (((0 : Nat) : Int) > 0) by omega)]
      exact Ev.now _
    | succ d ih =>
      intro acc a sd g0 g1 g2 g3 g4
      obtain ⟨x, a1, sd1, e1, x0, x1, b1, b2⟩ := byte_ok c hc a g3 (by omega) sd
      have w : K.Eqn (wrap64 (((d + 1 : Nat) : Int) - 1)) (d : Int) := ⟨K.w64p d (by omega)⟩
      obtain ⟨l, a', sd', e2, l1, l2, b3, b4⟩ := ih (acc ++ [x]) a1 sd1 (by omega) (by
        -- only as many as there are
        have : acc.length + (d + 1) ≤ 1000000 := g1
        simp only [List.length_append, List.length_cons, List.length_nil]
        omega) (fun y hy => by
        rcases List.mem_append.1 hy with h | h
        · exact g2 y h
        · simp only [List.mem_singleton] at h; subst h; exact ⟨x0, x1⟩) (by omega) (by omega)
      refine ⟨l, a', sd', ?_, by rw [l1]; simp; omega, l2, by omega, by omega⟩
      apply K.Ev.succ
      simp only [spec_l1Cur_vector.l0, if_pos (show ((d + 1 : Nat) : Int) > 0 by omega), e1, Option.bind_some, if_pos (show acc.length < 140737488355328 by omega), w.out]
      exact e2
  obtain ⟨l, a', sd', e, l1, l2, b1, b2⟩ := key n [] a sd hn (by simp; omega) (by simp) h0 (by omega)
  exact ⟨l, a', sd', by simp only [spec_l1Cur_vector.f]; exact e, by simpa using l1, l2, b1, b2⟩

theorem drawEncodeWord_ok (c : List Int) (hc : K.Code c) : ∃ (m : List Nat) (t : Int), Ev (fun k => spec_DrawEncodeWord.f k c) (K.il m, t) ∧ K.Bytes m ∧ m.length ≤ 23 := by
  obtain ⟨x, a1, sd1, e1, x0, g1, g2⟩ := among_ok c hc 0 (by omega) (by omega) 0 ([0, 1, 2, 5, 8, 16, 17, 22, 23] : List Int) (by simp) (by simp)
  have hx : 0 ≤ x ∧ x ≤ 23 := by
    simp only [List.mem_cons, List.not_mem_nil, or_false] at x0
    omega
  obtain ⟨n, rfl⟩ := Int.eq_ofNat_of_zero_le hx.1
  obtain ⟨l, a2, sd2, e2, l1, l2, g3, g4⟩ := vector_ok c hc n (by omega) a1 (by omega) (by omega) sd1
  obtain ⟨v, a3, sd3, e3, v0, v1, g5, g6⟩ := pick_ok c hc a2 (by omega) (by omega) sd2 6 (by omega)
  obtain ⟨m, rfl, hm⟩ := K.il_of l2
  rw [K.il_length] at l1
  refine ⟨m, v, ?_, hm, by omega⟩
  simp only [spec_DrawEncodeWord.f, e1, Option.bind_some]
  refine Ev.bind e2 ?_
  simp only [e3, Option.bind_some]
  exact Ev.now _

theorem distDiffs_ev (a b : List Nat) (hab : a.length = b.length) (h24 : a.length ≤ 24) : Ev (fun k => impl_DistanceOf.f k (K.il a) (K.il b)) (((K.diffs 0 a b).length : Int), true) := by
  have key : ∀ (d n c : Nat), n + d = a.length → c ≤ n → Ev (fun k => impl_DistanceOf.l0 k (K.il b) (c : Int) (K.il a) (a.length : Int) (n : Int)) (((c + (K.diffs n (a.drop n) (b.drop n)).length : Nat) : Int), true) := by
    intro d
    induction d with
    | zero =>
      intro n c h1 h2
      apply K.Ev.succ
      rw [List.drop_of_length_le (by omega)]
      simp only [impl_DistanceOf.l0, if_neg (show ¬ ((n : Int) < (a.length : Int)) by omega), K.diffs, List.length_nil, Nat.add_zero]
      exact Ev.now _
    | succ d ih =>
      intro n c h1 h2
      have ha : n < a.length := by omega
      have hb : n < b.length := by omega
      rw [List.drop_eq_getElem_cons ha, List.drop_eq_getElem_cons hb, K.diffs_cons]
      apply K.Ev.succ
      simp only [impl_DistanceOf.l0, K.il_length, if_pos (show (n : Int) < (a.length : Int) by omega), if_pos (show (0 : Int) ≤ (n : Int) by omega), if_pos (show (n : Int) < (b.length : Int) by omega), K.rd_il ha, K.rd_il hb, K.w64s n (show n < 9223372036854775807 by omega)]
      by_cases e : a[n] = b[n]
      · simp only [e, if_true]
        exact ih (n + 1) c (by omega) (by omega)
      · simp only [if_neg e, if_neg (show ¬ ((a[n] : Nat) : Int) = ((b[n] : Nat) : Int) by omega), K.w64s c (show c < 9223372036854775807 by omega), List.length_cons]
        have := ih (n + 1) (c + 1) (by omega) (by omega)
        rw [show c + 1 + (K.diffs (n + 1) (a.drop (n + 1)) (b.drop (n + 1))).length = c + ((K.diffs (n + 1) (a.drop (n + 1)) (b.drop (n + 1))).length + 1) by omega] at this
        exact this
  have := key a.length 0 0 (by omega) (by omega)
  rw [List.drop_zero, List.drop_zero, Nat.zero_add] at this
  simp only [impl_DistanceOf.f, K.il_length, if_pos (show (a.length : Int) = (b.length : Int) by omega), decide_eq_false (show ¬ (a.length : Int) > 24 by omega)]
  apply K.Ev.succ
  simp only [impl_DistanceOf.j0, Bool.false_eq_true, if_false, K.il_length]
  exact this

theorem sameB_self (l : List Int) : laws_sameBytes.f l l = some true := by simp [laws_sameBytes.f]
theorem sameB_eq (a b : List Nat) (ha : K.Bytes a) (hb : K.Bytes b) : laws_sameBytes.f (K.il a) (K.il b) = some (decide (a = b)) := by
  by_cases e : a = b
  · rw [e, sameB_self, decide_eq_true rfl]
  · rw [decide_eq_false e]
    simp only [laws_sameBytes.f, Option.some.injEq, beq_eq_false_iff_ne]
    intro h
    apply e
    have h1 : ∀ l : List Nat, K.Bytes l → ∀ x ∈ K.il l, 0 ≤ x ∧ x ≤ 255 := by
      intro l hl x hx
      obtain ⟨y, hy, rfl⟩ := List.mem_map.1 hx
      have := hl y hy
      omega
    have h2 : strOfNums (K.il a) = strOfNums (K.il b) := by
      rw [K.toList_data, K.toList_data] at h
      apply ByteArray.ext
      exact Array.toList_inj.1 h
    have h3 : K.il a = K.il b := by rw [← K.bytesOf_strOf (K.il a) (h1 a ha), ← K.bytesOf_strOf (K.il b) (h1 b hb), h2]
    have h4 : (K.il a).map Int.toNat = (K.il b).map Int.toNat := by rw [h3]
    have h5 : ∀ l : List Nat, (K.il l).map Int.toNat = l := by
      intro l
      induction l with
      | nil => rfl
      | cons x l ih => simp only [K.il, List.map_cons, Int.toNat_natCast] at ih ⊢; rw [ih]
    rw [h5, h5] at h4
    exact h4

theorem word_ok (c : List Int) (hc : K.Code c) (a : Int) (h0 : 0 ≤ a) (h1 : a ≤ 1000) (sd : Int) : ∃ (w : List Nat) (t a' sd' : Int), Ev (fun k => spec_l1Cur_word.f k c a sd) (K.il w, t, a', sd') ∧ K.Bytes w ∧ w.length ≤ 24 ∧ a ≤ a' ∧ a' ≤ 100000 := by
  have loop : ∀ (n : Nat) (w : List Nat) (t a sd : Int), n ≤ 100 → K.Bytes w → 0 < w.length → w.length ≤ 24 → 0 ≤ a → a ≤ 10000 - 10 * n → ∃ (w' : List Nat) (t' a' sd' : Int), Ev (fun k => spec_l1Cur_word.l0 k t (K.il w) (n : Int) c a sd) (K.il w', t', a', sd') ∧ K.Bytes w' ∧ w'.length ≤ 24 ∧ a ≤ a' ∧ a' ≤ 100000 := by
    intro n
    induction n with
    | zero =>
      intro w t a sd _ hw h0 h24 ha0 ha
      obtain ⟨b, a1, sd1, e1, g1, g2⟩ := one_ok c hc a ha0 (by omega) sd 20 (by omega)
      cases b with
      | true =>
        obtain ⟨v, a2, sd2, e2, v0, v1, g3, g4⟩ := pick_ok c hc a1 (by omega) (by omega) sd1 6 (by omega)
        refine ⟨w, v, a2, sd2, ?_, hw, h24, by omega, by omega⟩
        apply K.Ev.succ
        simp only [spec_l1Cur_word.l0, if_neg (show ¬ (((0 : Nat) : Int) > 0) by omega), e1, Option.bind_some, if_true, e2]
        exact Ev.now _
      | false =>
        refine ⟨w, t, a1, sd1, ?_, hw, h24, by omega, by omega⟩
        apply K.Ev.succ
        simp only [spec_l1Cur_word.l0, if_neg (show ¬ (((0 : Nat) : Int) > 0) by omega), e1, Option.bind_some, Bool.false_eq_true, if_false]
        exact Ev.now _
    | succ n ih =>
      intro w t a sd hn hw h0 h24 ha0 ha
      obtain ⟨v, a1, sd1, e1, v0, v1, g1, g2⟩ := pick_ok c hc a ha0 (by omega) sd (w.length : Int) (by omega)
      obtain ⟨x, a2, sd2, e2, x0, x1, g3, g4⟩ := byte_ok c hc a1 (by omega) (by omega) sd1
      obtain ⟨i, rfl⟩ := Int.eq_ofNat_of_zero_le v0
      obtain ⟨y, rfl⟩ := Int.eq_ofNat_of_zero_le x0
      have hi : i < w.length := by omega
      have hwi := hw w[i] (List.getElem_mem hi)
      have hy : y < 256 := by omega
      have b2 : K.Bytes (w.set i (w[i] ^^^ y)) := by
        intro z hz
        rcases List.mem_or_eq_of_mem_set hz with q | rfl
        · exact hw z q
        · exact K.xlt hwi hy
      obtain ⟨w', t', a', sd', e3, r1, r2, r3, r4⟩ := ih (w.set i (w[i] ^^^ y)) t a2 sd2 (by omega) b2 (by simpa using h0) (by simpa using h24) (by omega) (by omega)
      refine ⟨w', t', a', sd', ?_, r1, r2, by omega, r4⟩
      apply K.Ev.succ
      simp only [spec_l1Cur_word.l0, if_pos (show ((n + 1 : Nat) : Int) > 0 by omega), K.il_length, e1, Option.bind_some, if_pos (show (0 : Int) ≤ (i : Int) by omega), if_pos (show (i : Int) < (w.length : Int) by omega), e2, K.rd_il hi, K.xor_u8 hwi hy, Int.toNat_natCast, K.w64p n (show n < 9223372036854775807 by omega)]
      rw [show (K.il w).set i ((w[i] ^^^ y : Nat) : Int) = K.il (w.set i (w[i] ^^^ y)) by simp [K.il, List.map_set]]
      exact e3
  obtain ⟨v, a1, sd1, e1, v0, v1, g1, g2⟩ := pick_ok c hc a h0 (by omega) sd 4 (by omega)
  obtain ⟨u, a2, sd2, e2, u0, u1, g3, g4⟩ := pick_ok c hc a1 (by omega) (by omega) sd1 8 (by omega)
  obtain ⟨i, rfl⟩ := Int.eq_ofNat_of_zero_le v0
  obtain ⟨j, rfl⟩ := Int.eq_ofNat_of_zero_le u0
  have wi : K.Eqn (wrap64 (1 + (i : Int))) ((i + 1 : Nat) : Int) := ⟨by rw [K.w64 (by omega) (by omega)]; omega⟩
  have wj : K.Eqn (wrap64 (1 + (j : Int))) ((j + 1 : Nat) : Int) := ⟨by rw [K.w64 (by omega) (by omega)]; omega⟩
  have wk : K.Eqn (wrap64 (((i + 1 : Nat) : Int) + 2)) ((i + 3 : Nat) : Int) := ⟨by rw [K.w64 (by omega) (by omega)]; omega⟩
  obtain ⟨l, a3, sd3, e3, l1, l2, g5, g6⟩ := vector_ok c hc (j + 1) (by omega) a2 (by omega) (by omega) sd2
  obtain ⟨m, rfl, hm⟩ := K.il_of l2
  rw [K.il_length] at l1
  have hfit : EncFits m.length ((i + 1 : Nat) : Int) := ⟨by omega, by omega, by omega, by omega⟩
  have e4 := (encode_yes m hm (i + 1) hfit).1
  obtain ⟨p, a4, sd4, e5, p0, p1, g7, g8⟩ := pick_ok c hc a3 (by omega) (by omega) sd3 ((i + 3 : Nat) : Int) (by omega)
  obtain ⟨n, rfl⟩ := Int.eq_ofNat_of_zero_le p0
  have hel := K.enc_length (g := genW (i + 1)) (t := i + 1) m
  obtain ⟨w', t', a', sd', e6, r1, r2, r3, r4⟩ := loop n (K.enc (genW (i + 1)) (i + 1) m) ((i + 1 : Nat) : Int) a4 sd4 (by omega) (K.enc_bytes hm) (by omega) (by omega) (by omega) (by omega)
  refine ⟨w', t', a', sd', ?_, r1, r2, by omega, r4⟩
  simp only [spec_l1Cur_word.f, e1, Option.bind_some, e2, wi.out, wj.out, wk.out]
  refine Ev.bind e3 ?_
  refine Ev.bind e4 ?_
  simp only [e5, Option.bind_some]
  exact e6
theorem drawSyndromesOf_ok (c : List Int) (hc : K.Code c) : ∃ (w : List Nat) (t : Int), Ev (fun k => spec_DrawSyndromesOf.f k c) (K.il w, t) ∧ K.Bytes w ∧ w.length ≤ 24 := by
  obtain ⟨w, t, a', sd', e, r1, r2, _, _⟩ := word_ok c hc 0 (by omega) (by omega) 0
  refine ⟨w, t, ?_, r1, r2⟩
  simp only [spec_DrawSyndromesOf.f]
  exact Ev.bind e (Ev.now _)
theorem drawLocatorOf_ok (c : List Int) (hc : K.Code c) : ∃ (v : List Nat), Ev (fun k => spec_DrawLocatorOf.f k c) (K.il v) ∧ K.Bytes v := by
  obtain ⟨w, t, a', sd', e, r1, r2, r3, r4⟩ := word_ok c hc 0 (by omega) (by omega) 0
  have vec : ∀ (s : List Int) (a sd : Int), 0 ≤ a → a ≤ 200000 → ∃ (v : List Nat), Ev (fun k => spec_DrawLocatorOf.j0 k s true c a sd) (K.il v) ∧ K.Bytes v := by
    intro s a sd ha0 ha
    obtain ⟨u, a1, sd1, e1, u0, u1, g1, g2⟩ := pick_ok c hc a ha0 (by omega) sd 11 (by omega)
    obtain ⟨j, rfl⟩ := Int.eq_ofNat_of_zero_le u0
    obtain ⟨l, a2, sd2, e2, l1, l2, g3, g4⟩ := vector_ok c hc j (by omega) a1 (by omega) (by omega) sd1
    obtain ⟨m, rfl, hm⟩ := K.il_of l2
    refine ⟨m, ?_, hm⟩
    apply K.Ev.succ
    simp only [spec_DrawLocatorOf.j0, if_true, e1, Option.bind_some]
    exact Ev.bind e2 (Ev.now _)
  rcases synOf_both w r1 (by omega) t with ⟨s1, _⟩ | ⟨n, rfl, n1, n4, _, s1, _, _, _⟩
  · obtain ⟨v, e2, hv⟩ := vec [] a' sd' (by omega) (by omega)
    refine ⟨v, ?_, hv⟩
    simp only [spec_DrawLocatorOf.f]
    refine Ev.bind e ?_
    refine Ev.bind s1 ?_
    simp only [Bool.false_eq_true, if_false]
    exact e2
  · obtain ⟨b, a2, sd2, e2, g1, g2⟩ := one_ok c hc a' (by omega) (by omega) sd' 6 (by omega)
    cases b with
    | true =>
      obtain ⟨v, e3, hv⟩ := vec (K.il (K.synd w n)) a2 sd2 (by omega) (by omega)
      refine ⟨v, ?_, hv⟩
      simp only [spec_DrawLocatorOf.f]
      refine Ev.bind e ?_
      refine Ev.bind s1 ?_
      simp only [if_true, e2, Option.bind_some]
      exact e3
    | false =>
      refine ⟨K.synd w n, ?_, K.synd_bytes r1 n⟩
      simp only [spec_DrawLocatorOf.f]
      refine Ev.bind e ?_
      refine Ev.bind s1 ?_
      simp only [if_true, e2, Option.bind_some]
      apply K.Ev.succ
      simp only [spec_DrawLocatorOf.j0, Bool.false_eq_true, if_false]
      exact Ev.now _

theorem spaced_zero (u : List Nat) (n : Nat) (hu : K.Bytes u) (h24 : u.length ≤ 24) (h1 : 1 ≤ n) (h4 : n ≤ 4) (hs : impl_isLong.f (K.il u) (n : Int) = some true) (s : List Nat) (hsl : s.length = 2 * n) (hse : s.all (· == 0) = (K.synd u n).all (· == 0)) : Ev (fun k => laws_FnSpaced.l1 k (K.il u) (n : Int) (K.il s) true (K.il s) ((K.il s).length : Int) 0) true := by
  have key : ∀ (d i : Nat), i + d = s.length → Ev (fun k => laws_FnSpaced.l1 k (K.il u) (n : Int) (K.il s) ((s.take i).all (· == 0)) (K.il s) ((K.il s).length : Int) (i : Int)) true := by
    intro d
    induction d with
    | zero =>
      intro i hi
      obtain rfl : i = s.length := by omega
      have w2 : K.Eqn (wrap64 (2 * (n : Int))) ((2 * n : Nat) : Int) := ⟨by rw [K.w64 (by omega) (by omega)]; omega⟩
      apply K.Ev.succ
      rw [List.take_length]
      simp only [laws_FnSpaced.l1, K.il_length, if_neg (show ¬ ((s.length : Int) < (s.length : Int)) by omega), w2.out]
      refine Ev.bind (isWordOf_ev u h24 hu n h1 h4 hs) ?_
      simp only [if_true, hse, beq_self_eq_true]
      refine K.Ev.to (Ev.now _) ?_
      rw [hsl]; simp
    | succ d ih =>
      intro i hi
      have hil : i < s.length := by omega
      have hx := ih (i + 1) (by omega)
      rw [K.take_succ' _ _ hil, List.all_append, List.all_cons, List.all_nil, Bool.and_true] at hx
      apply K.Ev.succ
      simp only [laws_FnSpaced.l1, K.il_length, if_pos (show (i : Int) < (s.length : Int) by omega), if_pos (show (0 : Int) ≤ (i : Int) by omega), K.rd_il hil, K.w64s i (show i < 9223372036854775807 by omega)]
      rw [K.il_length] at hx
      have e : (((s[i] : Nat) : Int) == 0) = (s[i] == 0) := by
        by_cases z : s[i] = 0
        · rw [z]; rfl
        · rw [show (s[i] == 0) = false by simpa using z, beq_eq_false_iff_ne]; omega
      by_cases q : (s.take i).all (· == 0) = true
      · simp only [q, if_true, e]
        rw [q, Bool.true_and] at hx
        exact hx
      · have q' := Bool.not_eq_true _ ▸ q
        simp only [q', Bool.false_eq_true, if_false]
        rw [q', Bool.false_and] at hx
        exact hx
  exact key s.length 0 (by omega)
theorem spaced_j1 (c : List Int) (hc : K.Code c) : Ev (fun k => laws_FnSpaced.j1 k c) true := by
  obtain ⟨u, t, e1, hu, h24⟩ := drawSyndromesOf_ok c hc
  obtain ⟨v, e2, hv⟩ := drawLocatorOf_ok c hc
  obtain ⟨r, b, e3, e4⟩ := locOf_both v hv
  apply K.Ev.succ
  simp only [laws_FnSpaced.j1]
  refine Ev.bind e1 ?_
  rcases synOf_both u hu (by omega) t with ⟨s1, s2⟩ | ⟨n, rfl, n1, n4, _, s1, s2, s3, _⟩
  · refine Ev.bind s2 ?_
    refine Ev.bind s1 ?_
    refine Ev.bind e2 ?_
    refine Ev.bind e4 ?_
    refine Ev.bind e3 ?_
    simp only [bne_self_eq_false, Bool.false_eq_true, if_false, sameB_self, Option.bind_some, if_true, Bool.not_true]
    apply K.Ev.succ
    simp only [laws_FnSpaced.j2, Bool.false_eq_true, if_false]
    exact Ev.now _
  · refine Ev.bind s2 ?_
    refine Ev.bind s1 ?_
    refine Ev.bind e2 ?_
    refine Ev.bind e4 ?_
    refine Ev.bind e3 ?_
    simp only [bne_self_eq_false, Bool.false_eq_true, if_false, sameB_self, Option.bind_some, if_true, Bool.not_true]
    apply K.Ev.succ
    simp only [laws_FnSpaced.j2, Bool.false_eq_true, if_false, if_true]
    exact spaced_zero u n hu h24 n1 n4 s3 (K.synd u n) (K.synd_length u n) rfl
theorem spaced_l0 (more : List Nat) (hmore : K.Bytes more) (c : List Int) (hc : K.Code c) (hcm : c = K.il more) (data : List Nat) (hd : K.Bytes data) (n : Nat) (hf : EncFits data.length (n : Int)) : Ev (fun k => laws_FnSpaced.l0 k c (K.il data) (n : Int) (K.il (K.enc (genW n) n data)) (K.il data) (data.length : Int) 0) true := by
  have f1 := hf.1
  have f2 := hf.2.1
  have f3 := hf.2.2.2
  have key : ∀ (d i : Nat) (o : List Nat), i + d = data.length → o.length = data.length → K.Bytes o → Ev (fun k => laws_FnSpaced.l0 k c (K.il data) (n : Int) (K.il (K.enc (genW n) n data)) (K.il o) (data.length : Int) (i : Int)) true := by
    intro d
    induction d with
    | zero =>
      intro i o hi ho hob
      have hfo : EncFits o.length (n : Int) := by rw [ho]; exact hf
      have w2 : K.Eqn (wrap64 (2 * (n : Int))) ((2 * n : Nat) : Int) := ⟨by rw [K.w64 (by omega) (by omega)]; omega⟩
      have w3 : K.Eqn (wrap64 (((2 * n : Nat) : Int) + 1)) ((2 * n + 1 : Nat) : Int) := ⟨by rw [K.w64 (by omega) (by omega)]; omega⟩
      have le1 := K.enc_length (g := genW n) (t := n) data
      have le2 := K.enc_length (g := genW n) (t := n) o
      have hb1 := K.enc_bytes (g := genW n) (t := n) hd
      have hb2 := K.enc_bytes (g := genW n) (t := n) hob
      have hw1 := enc_whole data hd n (by omega) (by omega)
      have hw2 := enc_whole o hob n (by omega) (by omega)
      have dd := distDiffs_ev (K.enc (genW n) n data) (K.enc (genW n) n o) (by omega) (by omega)
      have same : K.enc (genW n) n data = K.enc (genW n) n o ↔ data = o := by
        constructor
        · intro h
          have := congrArg (List.drop (2 * n)) h
          rwa [K.enc_drop, K.enc_drop] at this
        · intro h; rw [h]
      have hspace := K.spaced (x := K.enc (genW n) n data) (w := K.enc (genW n) n o) (t := n) (by omega) (by omega) hb1 hb2 hw2 hw1
      have hnone := K.diffs_none (K.enc (genW n) n data) (K.enc (genW n) n o) 0 (by omega)
      have hself : K.enc (genW n) n data = K.enc (genW n) n o → (K.diffs 0 (K.enc (genW n) n data) (K.enc (genW n) n o)).length = 0 := by
        intro h; rw [h, K.diffs_self]; rfl
      apply K.Ev.succ
      simp only [laws_FnSpaced.l0, if_neg (show ¬ ((i : Int) < (data.length : Int)) by omega), w2.out, w3.out]
      refine Ev.bind (encode_yes o hob n hfo).2 ?_
      refine Ev.bind dd ?_
      generalize K.diffs 0 (K.enc (genW n) n data) (K.enc (genW n) n o) = D at hspace hnone hself ⊢
      simp only [if_true, sameB_eq data o hd hob, Option.bind_some]
      by_cases e : data = o
      · have z := hself (same.2 e)
        simp only [z, if_neg (show ¬ (((0 : Nat) : Int) > 0) by omega), decide_eq_true e, if_neg (show ¬ (((((0 : Nat) : Int) == 0) != true) = true) by decide)]
        exact spaced_j1 c hc
      · have hne : ¬ K.enc (genW n) n data = K.enc (genW n) n o := fun h => e (same.1 h)
        have hlen : 2 * n < D.length := by
          apply Classical.byContradiction
          intro h
          exact hne (hspace (by omega))
        have hb : ((((D.length : Nat) : Int) == 0) != false) = false := by
          have : (((D.length : Nat) : Int) == 0) = false := by rw [beq_eq_false_iff_ne]; omega
          rw [this]; rfl
        simp only [if_pos (show ((D.length : Nat) : Int) > 0 by omega), if_neg (show ¬ ((D.length : Nat) : Int) < ((2 * n + 1 : Nat) : Int) by omega), decide_eq_false e, hb, Bool.false_eq_true, if_false]
        exact spaced_j1 c hc
    | succ d ih =>
      intro i o hi ho hob
      have hio : i < o.length := by omega
      apply K.Ev.succ
      simp only [laws_FnSpaced.l0, if_pos (show (i : Int) < (data.length : Int) by omega), K.il_length, K.w64s i (show i < 9223372036854775807 by omega)]
      by_cases q : (i : Int) < (c.length : Int)
      · have him : i < more.length := by rw [hcm, K.il_length] at q; omega
        have hoi := hob o[i] (List.getElem_mem hio)
        have hmi := hmore more[i] (List.getElem_mem him)
        have hr : rd c (i : Int) = ((more[i] : Nat) : Int) := by rw [hcm]; exact K.rd_il him
        have b2 : K.Bytes (o.set i (o[i] ^^^ more[i])) := by
          intro y hy
          rcases List.mem_or_eq_of_mem_set hy with z | rfl
          · exact hob y z
          · exact K.xlt hoi hmi
        simp only [if_pos q, if_pos (show (0 : Int) ≤ (i : Int) by omega), if_pos (show (i : Int) < (o.length : Int) by omega), K.rd_il hio, hr, K.xor_u8 hoi hmi, Int.toNat_natCast]
        rw [show (K.il o).set i ((o[i] ^^^ more[i] : Nat) : Int) = K.il (o.set i (o[i] ^^^ more[i])) by simp [K.il, List.map_set]]
        exact ih (i + 1) _ (by omega) (by simpa using ho) b2
      · simp only [if_neg q]
        exact ih (i + 1) o (by omega) ho hob
  exact key data.length 0 data (by omega) rfl hd
theorem FnSpaced : laws_FnSpaced.Pure := by
  intro l0 l1 _ hl0 hw0 _ hl1 hw1
  refine Ev.rounds (?_ : Ev (fun k => laws_FnSpaced.f k l0 l1) true)
  unfold laws_FnSpaced.f
  have ws : wrap64 ((l0.length : Int) + (l1.length : Int)) = (l0.length : Int) + (l1.length : Int) := K.w64 (by omega) (by omega)
  rw [ws]
  by_cases h : (l0.length : Int) + (l1.length : Int) > 1048576
  · simp only [if_pos h]; exact Ev.now _
  simp only [if_neg h]
  have hx0 : ∀ x ∈ l0, 0 ≤ x ∧ x ≤ 255 := fun x h => K.b_u8 (hw0 x h)
  have hx1 : ∀ x ∈ l1, 0 ≤ x ∧ x ≤ 255 := fun x h => K.b_u8 (hw1 x h)
  have hc0 : K.Code l0 := ⟨by omega, hx0⟩
  have hc1 : K.Code l1 := ⟨by omega, hx1⟩
  obtain ⟨more, hme, hmore⟩ := K.il_of hx1
  obtain ⟨data, t, e1, hd, hdl⟩ := drawEncodeWord_ok l0 hc0
  refine Ev.bind e1 ?_
  by_cases hf : EncFits data.length t
  · obtain ⟨n, rfl⟩ := Int.eq_ofNat_of_zero_le (show 0 ≤ t by have := hf.1; omega)
    obtain ⟨e2, e3⟩ := encode_yes data hd n hf
    refine Ev.bind e3 ?_
    refine Ev.bind e2 ?_
    simp only [bne_self_eq_false, Bool.false_eq_true, if_false, if_true, Option.bind_some, List.length_nil, List.nil_append, K.il_length, if_pos (show 0 + data.length < 140737488355328 by omega)]
    exact spaced_l0 more hmore l1 hc1 hme data hd n hf
  · obtain ⟨e2, e3⟩ := encode_no data (by omega) t hf
    refine Ev.bind e3 ?_
    refine Ev.bind e2 ?_
    simp only [bne_self_eq_false, Bool.false_eq_true, if_false]
    exact spaced_j1 l1 hc1

end Go.Proofs.Ytbloniemhkfnlaa.Pure
