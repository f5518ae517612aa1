/- The law FnExactDataOf answers true for every slice of bytes and every number: the program's data of a word is the reference's, the word stays, and no later call changes what was handed back. -/
import Derived.Test.YtbloniemhkfnlaaPFnExactDataOfx4
import Derived.Test.YtbloniemhkfnlaaKKit
import Derived.Test.YtbloniemhkfnlaaKGF
import Derived.Test.YtbloniemhkfnlaaKGFL
set_option linter.unusedVariables false
set_option linter.unusedSimpArgs false
namespace Go.Proofs.Ytbloniemhkfnlaa.Pure
open Go Go.RowKit Go.Proofs.Ytbloniemhkfnlaa Go.Proofs.Ytbloniemhkfnlaa.PFnExactDataOf Go.Proofs.YtbloniemhkfnlaaW.PrintWords Go.Proofs.YtbloniemhkfnlaaW.PrintLast Go.Proofs.YtbloniemhkfnlaaW.PrintMore


theorem laws_eqByteS_self (l : List Int) (hl : l.length ≤ 140737488355328) : Ev (fun k => laws_eqByteS.f k l l) true := by
  have key : ∀ (d n : Nat), n + d = l.length → Ev (fun k => laws_eqByteS.l0 k l l (n : Int)) true := by
    intro d
    induction d with
    | zero =>
      intro n h1
      apply K.Ev.succ
      simp only [laws_eqByteS.l0, if_neg (show ¬ ((n : Int) < (l.length : Int)) by omega)]
      exact Ev.now _
    | succ d ih =>
      intro n h1
      apply K.Ev.succ
      simp only [laws_eqByteS.l0, if_pos (show (n : Int) < (l.length : Int) by omega), if_pos (show (0 : Int) ≤ (n : Int) by omega), if_true]
      rw [K.w64s n (by omega)]
      exact ih (n + 1) (by omega)
  unfold laws_eqByteS.f
  simp only [if_true]
  exact key l.length 0 (by omega)


theorem laws_markByteS_held (l : List Int) (hl : l.length ≤ 140737488355328) : ∃ (m : Int) (g : List Int), Ev (fun k => laws_markByteS.f k l 1) (m, g) ∧ Ev (fun k => laws_heldByteS.f k g 1) m ∧ 0 ≤ m := by
  have key : ∀ (d n : Nat) (x : List Int) (c : Int), n + d = x.length → 0 ≤ c → c + d * 1 ≤ 9000000000000000000 → x.length ≤ 140737488355328 → ∃ (m : Int) (g : List Int), Ev (fun k => laws_markByteS.l0 k x c (n : Int)) (m, g) ∧ g.length = x.length ∧ (∀ j, j < n → g[j]? = x[j]?) ∧ Ev (fun k => laws_heldByteS.l0 k g c (n : Int)) m ∧ 0 ≤ m := by
    intro d
    induction d with
    | zero =>
      intro n x c h1 h2 h3 h4
      refine ⟨c, x, ?_, rfl, fun _ _ => rfl, ?_, h2⟩
      · apply K.Ev.succ
        simp only [laws_markByteS.l0, if_neg (show ¬ ((n : Int) < (x.length : Int)) by omega)]
        exact Ev.now _
      · apply K.Ev.succ
        simp only [laws_heldByteS.l0, if_neg (show ¬ ((n : Int) < (x.length : Int)) by omega)]
        exact Ev.now _
    | succ d ih =>
      intro n x c h1 h2 h3 h4
      have hn : n < x.length := by omega
      obtain ⟨m, g, e1, e2, e3, e4, e5⟩ := ih (n + 1) (x.set n (c % 256)) (c + 1) (by simp; omega) (by omega) (by omega) (by simpa using h4)
      have hg : g[n]? = some (c % 256) := by rw [e3 n (by omega)]; simp [hn]
      have hgl : g.length = x.length := by simpa using e2
      refine ⟨m, g, ?_, hgl, ?_, ?_, e5⟩
      · apply K.Ev.succ
        simp only [laws_markByteS.l0, if_pos (show (n : Int) < (x.length : Int) by omega), if_pos (show (0 : Int) ≤ (n : Int) by omega), Int.toNat_natCast]
        
        rw [K.w64s n (by omega), K.w64 (x := c + 1) (by omega) (by omega)]
        exact e1
      · intro j hj
        rw [e3 j (by omega)]
        rw [List.getElem?_set_ne (by omega)]
      · apply K.Ev.succ
        simp only [laws_heldByteS.l0, if_pos (show (n : Int) < (g.length : Int) by omega), if_pos (show (0 : Int) ≤ (n : Int) by omega)]
        simp only [show rd g (n : Int) = c % 256 by simp [rd, hg], if_true]
        rw [K.w64s n (by omega), K.w64 (x := c + 1) (by omega) (by omega)]
        exact e4
  obtain ⟨m, g, e1, _, _, e4, e5⟩ := key l.length 0 l 1 (by omega) (by omega) (by omega) hl
  exact ⟨m, g, by simp only [laws_markByteS.f]; exact e1, by simp only [laws_heldByteS.f]; exact e4, e5⟩


theorem laws_toByteS_ev (l : List Int) (hl : l.length ≤ 1048576) : Ev (fun k => laws_toByteS.f k l) (l) := by
  have key : ∀ (d n : Nat) (x : List _), n + d = l.length → x.length = l.length → x.take n = (l).take n → Ev (fun k => laws_toByteS.l0 k l x (n : Int)) (l) := by
    intro d
    induction d with
    | zero =>
      intro n x h1 h2 h3
      apply K.Ev.succ
      simp only [laws_toByteS.l0, if_neg (show ¬ ((n : Int) < (l.length : Int)) by omega)]
      have e : x = (l) := by
        rw [List.take_of_length_le (by omega), List.take_of_length_le (by first | omega | (simp; omega))] at h3; exact h3
      rw [e]; exact Ev.now _
    | succ d ih =>
      intro n x h1 h2 h3
      apply K.Ev.succ
      have hn : n < l.length := by omega
      simp only [laws_toByteS.l0, if_pos (show (n : Int) < (l.length : Int) by omega), if_pos (show (0 : Int) ≤ (n : Int) by omega), if_pos (show (n : Int) < (x.length : Int) by omega), Int.toNat_natCast]
      
      rw [K.w64s n (by omega)]
      refine ih (n + 1) _ (by omega) (by simpa using h2) ?_
      rw [K.take_set _ _ _ (by omega), K.take_succ' (l) n (by simpa using hn), h3]
      rw [K.rd_nat hn]
  unfold laws_toByteS.f
  simp only [if_pos (show (0 : Int) ≤ (l.length : Int) by omega), Int.toNat_natCast, if_pos (show l.length ≤ 281474976710656 by omega)]
  exact key l.length 0 _ (by omega) (by simp) (by simp)

theorem l1Times_ev (a b : Nat) (ha : a < 256) (hb : b < 256) : Ev (fun k => spec_l1Times.f k (a : Int) (b : Int)) ((K.gmul a b : Nat) : Int) := by
  have key : ∀ (n x y o : Nat), x < 256 → o < 256 → y < 2 ^ n → n ≤ 8 → Ev (fun k => spec_l1Times.l0 k (o : Int) (x : Int) (y : Int)) ((K.gstep n x y o : Nat) : Int) := by
    intro n
    induction n with
    | zero =>
      intro x y o hx ho hy _
      obtain rfl : y = 0 := by simpa using hy
      apply K.Ev.succ
      simp only [spec_l1Times.l0, show ¬ (((0 : Nat) : Int) > 0) by omega, if_false, K.gstep]
      exact K.Ev.const (by rw [show (o : Int) % 256 = (o : Int) by omega])
    | succ n ih =>
      intro x y o hx ho hy hn
      by_cases h0 : y = 0
      · subst h0
        apply K.Ev.succ
        rw [K.gstep_zero]
        simp only [spec_l1Times.l0, show ¬ (((0 : Nat) : Int) > 0) by omega, if_false]
        exact K.Ev.const (by rw [show (o : Int) % 256 = (o : Int) by omega])
      have hy2 : y < 512 := Nat.lt_of_lt_of_le hy (by
        have : 2 ^ (n + 1) ≤ 2 ^ 9 := Nat.pow_le_pow_right (by omega) (by omega)
        omega)
      have w : K.Eqn (wrap64 ((x : Int) * 2)) ((2 * x : Nat) : Int) := ⟨by rw [K.w64 (by omega) (by omega)]; omega⟩
      have hx2 : (if ((2 * x : Nat) : Int) > 255 then Go.bits .xor .i64 ((2 * x : Nat) : Int) 283 else ((2 * x : Nat) : Int)) = ((K.xt x : Nat) : Int) := by
        unfold K.xt
        by_cases h : 2 * x > 255
        · rw [if_pos (by omega), if_pos h]
          exact K.xor_i64 (b := 283) (by omega) (by omega)
        · rw [if_neg (by omega), if_neg h]
      have hy' : (y : Int) / 2 = ((y / 2 : Nat) : Int) := by omega
      have hnext := ih (K.xt x) (y / 2) (if y % 2 = 1 then o ^^^ x else o) (K.xt_lt hx) (by
        split
        · exact Nat.xor_lt_two_pow (n := 8) ho hx
        · exact ho) (by rw [Nat.pow_succ] at hy; omega) (by omega)
      apply K.Ev.succ
      simp only [spec_l1Times.l0, if_pos (show (y : Int) > 0 by omega), K.and_i64_1 (show y < 1024 by omega), w.out, K.xor_i64 (show o < 1024 by omega) (show x < 1024 by omega), hy']
      by_cases h1 : y % 2 = 1
      · rw [if_pos h1] at hnext
        simp only [h1, show (((1 : Nat) : Int) = 1) = True by simp, if_true, K.gstep]
        by_cases h2 : ((2 * x : Nat) : Int) > 255
        · rw [if_pos h2] at hx2
          simp only [if_pos h2]
          simp only [hx2]
          exact hnext
        · rw [if_neg h2] at hx2
          simp only [if_neg h2]
          simp only [hx2]
          exact hnext
      · rw [if_neg h1] at hnext
        have h1' : ¬ (((y % 2 : Nat) : Int) = 1) := by omega
        simp only [if_neg h1', K.gstep, if_neg h1]
        by_cases h2 : ((2 * x : Nat) : Int) > 255
        · rw [if_pos h2] at hx2
          simp only [if_pos h2]
          simp only [hx2]
          exact hnext
        · rw [if_neg h2] at hx2
          simp only [if_neg h2]
          simp only [hx2]
          exact hnext
  have wa : K.Eqn (wrap64 (a : Int)) (a : Int) := ⟨K.w64 (by omega) (by omega)⟩
  have wb : K.Eqn (wrap64 (b : Int)) (b : Int) := ⟨K.w64 (by omega) (by omega)⟩
  simp only [spec_l1Times.f, wa.out, wb.out]
  exact key 8 a b 0 ha (by omega) (by omega) (by omega)

theorem l7At_ev (l : List Nat) (hl : l.length ≤ 1048576) (hb : K.Bytes l) (x : Nat) (hx : x < 256) : Ev (fun k => spec_l7At.f k (K.il l) (x : Int)) ((K.peval l x : Nat) : Int) := by
  have key : ∀ (n : Nat), n ≤ l.length → Ev (fun k => spec_l7At.l0 k (K.il l) (x : Int) ((K.peval (l.drop n) x : Nat) : Int) ((n : Int) - 1)) ((K.peval l x : Nat) : Int) := by
    intro n
    induction n with
    | zero =>
      intro _
      apply K.Ev.succ
      simp only [spec_l7At.l0, show ¬ (((0 : Nat) : Int) - 1 ≥ 0) by omega, if_false, List.drop_zero]
      exact Ev.now _
    | succ n ih =>
      intro h
      have hn : n < l.length := by omega
      have hd : K.Bytes (l.drop (n + 1)) := fun y hy => hb y (List.mem_of_mem_drop hy)
      have e : (((n + 1 : Nat) : Int) - 1) = (n : Int) := by omega
      have w : K.Eqn (wrap64 ((n : Int) - 1)) ((n : Int) - 1) := ⟨K.w64 (by omega) (by omega)⟩
      have hp := K.peval_lt hd x
      apply K.Ev.succ
      simp only [spec_l7At.l0, e, if_pos (show (n : Int) ≥ 0 by omega)]
      refine Ev.bind (l1Times_ev _ x hp hx) ?_
      simp only [if_pos (show 0 ≤ (n : Int) by omega), K.il_length, if_pos (show (n : Int) < (l.length : Int) by omega), K.rd_il hn, K.xor_u8 (K.gmul_lt (b := x) hp) (hb l[n] (List.getElem_mem hn)), w.out]
      have := ih (by omega)
      rw [List.drop_eq_getElem_cons hn] at this
      exact this
  have w : K.Eqn (wrap64 ((l.length : Int) - 1)) ((l.length : Int) - 1) := ⟨K.w64 (by omega) (by omega)⟩
  simp only [spec_l7At.f, K.il_length, w.out]
  have := key l.length (Nat.le_refl _)
  rw [List.drop_length] at this
  exact this

theorem l1Power_ev (a n : Nat) (ha : a < 256) (hn : n < 1024) : Ev (fun k => spec_l1Power.f k (a : Int) (n : Int)) ((K.gpow a n : Nat) : Int) := by
  have key : ∀ (n o : Nat), n < 1024 → o < 256 → Ev (fun k => spec_l1Power.l0 k (a : Int) (n : Int) (o : Int)) ((K.gmul o (K.gpow a n) : Nat) : Int) := by
    intro n
    induction n with
    | zero =>
      intro o _ ho
      apply K.Ev.succ
      simp only [spec_l1Power.l0, show ¬ (((0 : Nat) : Int) > 0) by omega, if_false, K.gpow, K.gmul_one ho]
      exact Ev.now _
    | succ n ih =>
      intro o h ho
      have w : K.Eqn (wrap64 (((n + 1 : Nat) : Int) - 1)) (n : Int) := ⟨by rw [K.w64 (by omega) (by omega)]; omega⟩
      have e : K.gmul o (K.gpow a (n + 1)) = K.gmul (K.gmul o a) (K.gpow a n) := by
        rw [K.gmul_assoc ho ha (K.gpow_lt n), K.gmul_comm ha (K.gpow_lt n)]; rfl
      apply K.Ev.succ
      simp only [spec_l1Power.l0, if_pos (show ((n + 1 : Nat) : Int) > 0 by omega), w.out]
      refine Ev.bind (l1Times_ev o a ho ha) ?_
      rw [e]
      exact ih _ (by omega) (K.gmul_lt ho)
  have := key n 1 hn (by omega)
  rw [K.one_gmul (K.gpow_lt n)] at this
  simp only [spec_l1Power.f]
  exact this

theorem l8Zero_ev (l : List Nat) (hl : l.length ≤ 1048576) : Ev (fun k => spec_l8Zero.f k (K.il l)) (l.all (· == 0)) := by
  have key : ∀ (d n : Nat), n + d = l.length → Ev (fun k => spec_l8Zero.l0 k (K.il l) (l.length : Int) (n : Int)) ((l.drop n).all (· == 0)) := by
    intro d
    induction d with
    | zero =>
      intro n h
      apply K.Ev.succ
      simp only [spec_l8Zero.l0, if_neg (show ¬ ((n : Int) < (l.length : Int)) by omega), List.drop_of_length_le (show l.length ≤ n by omega), List.all_nil]
      exact Ev.now _
    | succ d ih =>
      intro n h
      have hn : n < l.length := by omega
      apply K.Ev.succ
      rw [List.drop_eq_getElem_cons hn, List.all_cons]
      simp only [spec_l8Zero.l0, K.il_length, if_pos (show (n : Int) < (l.length : Int) by omega), if_pos (show 0 ≤ (n : Int) by omega), K.rd_il hn, K.w64s n (show n < 9223372036854775807 by omega)]
      by_cases h0 : l[n] = 0
      · simp only [h0, if_pos (show (((0 : Nat)) : Int) = 0 by omega), beq_self_eq_true, Bool.true_and]
        exact ih (n + 1) (by omega)
      · simp only [if_neg (show ¬ ((l[n] : Nat) : Int) = 0 by omega), show (l[n] == 0) = false by simpa using h0, Bool.false_and]
        exact Ev.now _
  have := key l.length 0 (by omega)
  simp only [spec_l8Zero.f, K.il_length]
  exact this

theorem fits_eq (n : Nat) (hn : n ≤ 1048576) (l : List Int) (hl : l.length = n) (t : Int) : ∃ b : Bool, spec_l8Fits.f l t = some b ∧ impl_isLong.f l t = some b ∧ (b = true → 1 ≤ t ∧ t ≤ 4 ∧ 2 * t + 1 ≤ n ∧ n ≤ 24) := by
  by_cases h : 1 ≤ t ∧ t ≤ 4
  · have q : spec_l1In.f t 1 4 = some true := by unfold spec_l1In.f; rw [if_pos h.1]; simp [h.2]
    have q2 : impl_within.f t 1 4 = some true := q
    have w : wrap64 (wrap64 (2 * t) + 1) = 2 * t + 1 := by rw [K.w64 (x := 2 * t) (by omega) (by omega), K.w64 (by omega) (by omega)]
    by_cases h2 : (n : Int) ≥ 2 * t + 1
    · refine ⟨decide ((n : Int) ≤ 24), ?_, ?_, fun hb => by simp at hb; omega⟩
      · simp only [spec_l8Fits.f, spec_l8T.f, q, Option.bind_some, if_true, w]; simp only [spec_l1In.f, hl, if_pos h2, Option.bind_some]
      · simp only [impl_isLong.f, impl_isCount.f, q2, Option.bind_some, if_true, w]; simp only [impl_within.f, hl, if_pos h2, Option.bind_some]
    · refine ⟨false, ?_, ?_, fun hb => by cases hb⟩
      · simp only [spec_l8Fits.f, spec_l8T.f, q, Option.bind_some, if_true, w]; simp only [spec_l1In.f, hl, if_neg h2, Option.bind_some]
      · simp only [impl_isLong.f, impl_isCount.f, q2, Option.bind_some, if_true, w]; simp only [impl_within.f, hl, if_neg h2, Option.bind_some]
  · have q : spec_l1In.f t 1 4 = some false := by
      unfold spec_l1In.f; split
      · simp; omega
      · rfl
    have q2 : impl_within.f t 1 4 = some false := q
    refine ⟨false, ?_, ?_, fun hb => by cases hb⟩
    · simp only [spec_l8Fits.f, spec_l8T.f, q, Option.bind_some, Bool.false_eq_true, if_false]
    · simp only [impl_isLong.f, impl_isCount.f, q2, Option.bind_some, Bool.false_eq_true, if_false]

theorem Times_ev (a b : Nat) (ha : a < 256) (hb : b < 256) : Ev (fun k => impl_Times.f k (a : Int) (b : Int)) ((K.gmul a b : Nat) : Int) := by
  have key : ∀ (n j x o : Nat), j + n = 8 → x < 256 → o < 256 → Ev (fun k => impl_Times.l0 k (b : Int) (o : Int) (j : Int) (x : Int)) ((K.gstep n x (b / 2 ^ j) o : Nat) : Int) := by
    intro n
    induction n with
    | zero =>
      intro j x o hj hx ho
      apply K.Ev.succ
      simp only [impl_Times.l0, if_neg (show ¬ ((j : Int) < 8) by omega), K.gstep]
      exact K.Ev.const (by rw [show (o : Int) % 256 = (o : Int) by omega])
    | succ n ih =>
      intro j x o hj hx ho
      have w : K.Eqn (wrap64 ((x : Int) * 2)) ((2 * x : Nat) : Int) := ⟨by rw [K.w64 (by omega) (by omega)]; omega⟩
      have hx2 : (if ((2 * x : Nat) : Int) > 255 then Go.bits .xor .i64 ((2 * x : Nat) : Int) 283 else ((2 * x : Nat) : Int)) = ((K.xt x : Nat) : Int) := by
        unfold K.xt
        by_cases h : 2 * x > 255
        · rw [if_pos (by omega), if_pos h]
          exact K.xor_i64 (b := 283) (by omega) (by omega)
        · rw [if_neg (by omega), if_neg h]
      have hs : shr .u8 (b : Int) (j : Int) = ((b / 2 ^ j : Nat) : Int) := K.shr_u8 b j (by omega)
      have hbj : b / 2 ^ j < 256 := Nat.lt_of_le_of_lt (Nat.div_le_self _ _) hb
      have hnext := ih (j + 1) (K.xt x) (if (b / 2 ^ j) % 2 = 1 then o ^^^ x else o) (by omega) (K.xt_lt hx) (by
        split
        · exact Nat.xor_lt_two_pow (n := 8) ho hx
        · exact ho)
      rw [Nat.pow_succ, ← Nat.div_div_eq_div_mul] at hnext
      apply K.Ev.succ
      simp only [impl_Times.l0, if_pos (show (j : Int) < 8 by omega), if_pos (show 0 ≤ (j : Int) by omega), hs, K.and_u8_1 hbj, w.out, K.xor_i64 (show o < 1024 by omega) (show x < 1024 by omega), K.w64s j (show j < 9223372036854775807 by omega)]
      by_cases h1 : (b / 2 ^ j) % 2 = 1
      · rw [if_pos h1] at hnext
        simp only [h1, show (((1 : Nat) : Int) = 1) = True by simp, if_true, K.gstep]
        by_cases h2 : ((2 * x : Nat) : Int) > 255
        · rw [if_pos h2] at hx2
          simp only [if_pos h2]
          simp only [hx2]
          exact hnext
        · rw [if_neg h2] at hx2
          simp only [if_neg h2]
          simp only [hx2]
          exact hnext
      · rw [if_neg h1] at hnext
        have h1' : ¬ (((b / 2 ^ j % 2 : Nat) : Int) = 1) := by omega
        simp only [if_neg h1', K.gstep, if_neg h1]
        by_cases h2 : ((2 * x : Nat) : Int) > 255
        · rw [if_pos h2] at hx2
          simp only [if_pos h2]
          simp only [hx2]
          exact hnext
        · rw [if_neg h2] at hx2
          simp only [if_neg h2]
          simp only [hx2]
          exact hnext
  have wa : K.Eqn (wrap64 (a : Int)) (a : Int) := ⟨K.w64 (by omega) (by omega)⟩
  simp only [impl_Times.f, wa.out]
  have := key 8 0 a 0 (by omega) ha (by omega)
  rw [Nat.pow_zero, Nat.div_one] at this
  exact this

theorem valueAt_ev (l : List Nat) (hl : l.length ≤ 1048576) (hb : K.Bytes l) (x : Nat) (hx : x < 256) : Ev (fun k => impl_valueAt.f k (K.il l) (x : Int)) ((K.peval l x : Nat) : Int) := by
  have key : ∀ (n : Nat), n ≤ l.length → Ev (fun k => impl_valueAt.l0 k (K.il l) (x : Int) ((K.peval (l.drop n) x : Nat) : Int) ((n : Int) - 1)) ((K.peval l x : Nat) : Int) := by
    intro n
    induction n with
    | zero =>
      intro _
      apply K.Ev.succ
      simp only [impl_valueAt.l0, show ¬ (((0 : Nat) : Int) - 1 ≥ 0) by omega, if_false, List.drop_zero]
      exact Ev.now _
    | succ n ih =>
      intro h
      have hn : n < l.length := by omega
      have hd : K.Bytes (l.drop (n + 1)) := fun y hy => hb y (List.mem_of_mem_drop hy)
      have e : (((n + 1 : Nat) : Int) - 1) = (n : Int) := by omega
      have w : K.Eqn (wrap64 ((n : Int) - 1)) ((n : Int) - 1) := ⟨K.w64 (by omega) (by omega)⟩
      have hp := K.peval_lt hd x
      apply K.Ev.succ
      simp only [impl_valueAt.l0, e, if_pos (show (n : Int) ≥ 0 by omega)]
      refine Ev.bind (Times_ev _ x hp hx) ?_
      simp only [if_pos (show 0 ≤ (n : Int) by omega), K.il_length, if_pos (show (n : Int) < (l.length : Int) by omega), K.rd_il hn, K.xor_u8 (K.gmul_lt (b := x) hp) (hb l[n] (List.getElem_mem hn)), w.out]
      have := ih (by omega)
      rw [List.drop_eq_getElem_cons hn] at this
      exact this
  have w : K.Eqn (wrap64 ((l.length : Int) - 1)) ((l.length : Int) - 1) := ⟨K.w64 (by omega) (by omega)⟩
  simp only [impl_valueAt.f, K.il_length, w.out]
  have := key l.length (Nat.le_refl _)
  rw [List.drop_length] at this
  exact this

theorem power_ev (a n : Nat) (ha : a < 256) (hn : n < 1024) : Ev (fun k => impl_power.f k (a : Int) (n : Int)) ((K.gpow a n : Nat) : Int) := by
  have key : ∀ (d n a o : Nat), n ≤ d → n < 1024 → a < 256 → o < 256 → Ev (fun k => impl_power.l0 k (a : Int) (n : Int) (o : Int)) ((K.gmul o (K.gpow a n) : Nat) : Int) := by
    intro d
    induction d with
    | zero =>
      intro n a o hd _ ha ho
      obtain rfl : n = 0 := by omega
      apply K.Ev.succ
      simp only [impl_power.l0, show ¬ (((0 : Nat) : Int) > 0) by omega, if_false, K.gpow, K.gmul_one ho]
      exact Ev.now _
    | succ d ih =>
      intro n a o hd hn ha ho
      by_cases h0 : n = 0
      · subst h0
        apply K.Ev.succ
        simp only [impl_power.l0, show ¬ (((0 : Nat) : Int) > 0) by omega, if_false, K.gpow, K.gmul_one ho]
        exact Ev.now _
      have hh : (n : Int) / 2 = ((n / 2 : Nat) : Int) := by omega
      apply K.Ev.succ
      simp only [impl_power.l0, if_pos (show (n : Int) > 0 by omega), K.and_i64_1 hn, hh]
      by_cases h1 : n % 2 = 1
      · simp only [if_pos (show ((n % 2 : Nat) : Int) = 1 by omega)]
        refine Ev.bind (Times_ev o a ho ha) ?_
        refine Ev.bind (Times_ev a a ha ha) ?_
        have e : K.gmul o (K.gpow a n) = K.gmul (K.gmul o a) (K.gpow (K.gmul a a) (n / 2)) := by
          rw [K.gpow_sq ha, K.gmul_assoc ho ha (K.gpow_lt _), K.gmul_comm ha (K.gpow_lt _)]
          have h : n = (n / 2 + n / 2) + 1 := by omega
          rw [show K.gpow a n = K.gpow a ((n / 2 + n / 2) + 1) by rw [← h]]
          rfl
        rw [e]
        exact ih _ _ _ (by omega) (by omega) (K.gmul_lt ha) (K.gmul_lt ho)
      · simp only [if_neg (show ¬ ((n % 2 : Nat) : Int) = 1 by omega)]
        refine Ev.bind (Times_ev a a ha ha) ?_
        have e : K.gmul o (K.gpow a n) = K.gmul o (K.gpow (K.gmul a a) (n / 2)) := by
          rw [K.gpow_sq ha]
          have h : n = (n / 2 + n / 2) := by omega
          rw [show K.gpow a n = K.gpow a (n / 2 + n / 2) by rw [← h]]
        rw [e]
        exact ih _ _ _ (by omega) (by omega) (K.gmul_lt ha) ho
  have := key n n a 1 (by omega) hn ha (by omega)
  rw [K.one_gmul (K.gpow_lt n)] at this
  simp only [impl_power.f]
  exact this

theorem root_ev : ∀ i : Nat, i ≤ 8 → ∃ r : Nat, r < 256 ∧ Ev (fun k => spec_l1Power.f k 3 (i : Int)) (r : Int) ∧ Ev (fun k => impl_power.f k 3 (i : Int)) (r : Int) := by
  have h : ∀ i : Fin 9, ∃ r : Fin 256, spec_l1Power.f 100 3 (i.val : Int) = some (r.val : Int) ∧ impl_power.f 100 3 (i.val : Int) = some (r.val : Int) := by decide +kernel
  intro i hi
  obtain ⟨r, e1, e2⟩ := h ⟨i, by omega⟩
  exact ⟨r.val, r.isLt, Ev.of (spec_l1Power.mono _ _) e1, Ev.of (impl_power.mono _ _) e2⟩
theorem syn_same (l : List Nat) (hl : l.length ≤ 24) (hb : K.Bytes l) (t : Nat) (ht : t ≤ 4) : ∃ r : List Nat, (r.length = 2 * t ∧ K.Bytes r) ∧ Ev (fun k => spec_l8Syndromes.f k (K.il l) (t : Int)) (K.il r) ∧ Ev (fun k => impl_syndromes.f k (K.il l) (t : Int)) (K.il r) := by
  have w2 : K.Eqn (wrap64 (2 * (t : Int))) (2 * (t : Int)) := ⟨K.w64 (by omega) (by omega)⟩
  have key : ∀ (d i : Nat) (acc : List Nat), i + d = 2 * t + 1 → acc.length + 1 = i → K.Bytes acc → ∃ r : List Nat, (r.length = 2 * t ∧ K.Bytes r) ∧ Ev (fun k => spec_l8Syndromes.l0 k (K.il l) (t : Int) (K.il acc) (i : Int)) (K.il r) ∧ Ev (fun k => impl_syndromes.l0 k (K.il l) (t : Int) (K.il acc) (i : Int)) (K.il r) := by
    intro d
    induction d with
    | zero =>
      intro i acc h1 h2 hab
      refine ⟨acc, ⟨by omega, hab⟩, ?_, ?_⟩ <;> apply K.Ev.succ
      · simp only [spec_l8Syndromes.l0, w2.out, if_neg (show ¬ ((i : Int) ≤ 2 * (t : Int)) by omega)]; exact Ev.now _
      · simp only [impl_syndromes.l0, w2.out, if_neg (show ¬ ((i : Int) ≤ 2 * (t : Int)) by omega)]; exact Ev.now _
    | succ d ih =>
      intro i acc h1 h2 hab
      obtain ⟨x, hx, x1, x2⟩ := root_ev i (by omega)
      obtain ⟨r, r0, r1, r2⟩ := ih (i + 1) (acc ++ [K.peval l x]) (by omega) (by simp; omega) (by
        intro y hy
        rcases List.mem_append.1 hy with hy | hy
        · exact hab y hy
        · rw [List.mem_singleton.1 hy]; exact K.peval_lt hb x)
      refine ⟨r, r0, ?_, ?_⟩ <;> apply K.Ev.succ
      · simp only [spec_l8Syndromes.l0, w2.out, if_pos (show (i : Int) ≤ 2 * (t : Int) by omega)]
        refine Ev.bind x1 ?_
        refine Ev.bind (l7At_ev l (by omega) hb x hx) ?_
        simp only [K.il_length, if_pos (show acc.length < 140737488355328 by omega), K.il_snoc, K.w64s i (show i < 9223372036854775807 by omega)]
        exact r1
      · simp only [impl_syndromes.l0, w2.out, if_pos (show (i : Int) ≤ 2 * (t : Int) by omega)]
        refine Ev.bind x2 ?_
        refine Ev.bind (valueAt_ev l (by omega) hb x hx) ?_
        simp only [K.il_length, if_pos (show acc.length < 140737488355328 by omega), K.il_snoc, K.w64s i (show i < 9223372036854775807 by omega)]
        exact r2
  obtain ⟨r, r0, r1, r2⟩ := key (2 * t) 1 [] (by omega) rfl (by intro y hy; cases hy)
  exact ⟨r, r0, by simp only [spec_l8Syndromes.f]; exact r1, by simp only [impl_syndromes.f]; exact r2⟩

theorem Max_zero (l : List Nat) (h0 : 0 < l.length) (hl : l.length ≤ 1048576) : ∃ v : Int, Ev (fun k => slices_Max_byte_byte.f k (K.il l)) v ∧ (v == 0) = l.all (· == 0) := by
  have key : ∀ (d n c : Nat), n + d = l.length → ∃ v : Int, Ev (fun k => slices_Max_byte_byte.l0 k (K.il l) (c : Int) (n : Int)) v ∧ (v == 0) = (c == 0 && (l.drop n).all (· == 0)) := by
    intro d
    induction d with
    | zero =>
      intro n c h
      refine ⟨(c : Int), ?_, ?_⟩
      · apply K.Ev.succ
        simp only [slices_Max_byte_byte.l0, K.il_length, if_neg (show ¬ ((n : Int) < (l.length : Int)) by omega)]
        exact Ev.now _
      · rw [List.drop_of_length_le (by omega)]
        by_cases hc : c = 0
        · subst hc; rfl
        · rw [show (c == 0) = false by simpa using hc, show ((c : Int) == 0) = false by simp; omega]; rfl
    | succ d ih =>
      intro n c h
      have hn : n < l.length := by omega
      obtain ⟨v, v1, v2⟩ := ih (n + 1) (if c < l[n] then l[n] else c) (by omega)
      have hm : mx (c : Int) ((l[n] : Nat) : Int) = (((if c < l[n] then l[n] else c : Nat)) : Int) := by
        unfold mx
        by_cases hc : c < l[n]
        · rw [if_pos hc, if_pos (by omega)]
        · rw [if_neg hc, if_neg (by omega)]
      refine ⟨v, ?_, ?_⟩
      · apply K.Ev.succ
        simp only [slices_Max_byte_byte.l0, K.il_length, if_pos (show (n : Int) < (l.length : Int) by omega), if_pos (show 0 ≤ (n : Int) by omega), K.rd_il hn, hm, K.w64s n (show n < 9223372036854775807 by omega)]
        exact v1
      · rw [v2, List.drop_eq_getElem_cons hn, List.all_cons, ← Bool.and_assoc]
        congr 1
        by_cases hc : c < l[n]
        · rw [if_pos hc, show (l[n] == 0) = false by simp; omega]; simp
        · rw [if_neg hc]
          by_cases hz : c = 0
          · have : l[n] = 0 := by omega
            simp [hz, this]
          · simp [hz]
  obtain ⟨v, v1, v2⟩ := key (l.length - 1) 1 l[0] (by omega)
  refine ⟨v, ?_, ?_⟩
  · simp only [slices_Max_byte_byte.f, K.il_length, if_pos (show 0 < (l.length : Int) by omega)]
    have := K.rd_il h0
    rw [show (0 : Int) = ((0 : Nat) : Int) from rfl, this]
    exact v1
  · rw [v2]
    conv => rhs; rw [← List.drop_zero (l := l), List.drop_eq_getElem_cons h0, List.all_cons]

theorem isWord_same (l : List Nat) (hl : l.length ≤ 24) (hb : K.Bytes l) (t : Nat) (h1 : 1 ≤ t) (ht : t ≤ 4) : ∃ (r : List Nat) (b : Bool), Ev (fun k => spec_l8Syndromes.f k (K.il l) (t : Int)) (K.il r) ∧ Ev (fun k => spec_l8Zero.f k (K.il r)) b ∧ Ev (fun k => impl_isWord.f k (K.il l) (t : Int)) b := by
  obtain ⟨r, ⟨r0, rb⟩, r1, r2⟩ := syn_same l hl hb t ht
  obtain ⟨v, v1, v2⟩ := Max_zero r (by omega) (by omega)
  refine ⟨r, r.all (· == 0), r1, l8Zero_ev r (by omega), ?_⟩
  simp only [impl_isWord.f]
  refine Ev.bind r2 ?_
  refine Ev.bind v1 ?_
  simp only [v2]
  exact Ev.now _
theorem specIsWord_same (l : List Int) (hl : l.length ≤ 1048576) (hx : ∀ x ∈ l, 0 ≤ x ∧ x ≤ 255) (t : Int) : ∃ b c : Bool, Ev (fun k => spec_IsWord.f k l t) (b, c) ∧ impl_isLong.f l t = some c ∧ (c = false → b = false) ∧ (c = true → (1 ≤ t ∧ t ≤ 4 ∧ 2 * t + 1 ≤ l.length ∧ l.length ≤ 24) ∧ Ev (fun k => impl_isWord.f k l t) b) := by
  obtain ⟨c, q1, q2, q3⟩ := fits_eq l.length hl l rfl t
  cases c with
  | false =>
    refine ⟨false, false, ?_, q2, fun _ => rfl, fun h => by cases h⟩
    simp only [spec_IsWord.f, q1, Option.bind_some, Bool.false_eq_true, if_false]; exact Ev.now _
  | true =>
    obtain ⟨t0, t1, t2, t3⟩ := q3 rfl
    obtain ⟨m, rfl, hm⟩ := K.il_of hx
    obtain ⟨n, rfl⟩ := Int.eq_ofNat_of_zero_le (show 0 ≤ t by omega)
    have t3' := t3
    rw [K.il_length] at t3'
    obtain ⟨r, b, r1, r2, r3⟩ := isWord_same m (by omega) hm n (by omega) (by omega)
    refine ⟨b, true, ?_, q2, fun h => (by cases h), fun _ => ⟨⟨t0, t1, t2, by omega⟩, r3⟩⟩
    simp only [spec_IsWord.f, q1, Option.bind_some, if_true]
    refine Ev.bind r1 ?_
    exact Ev.bind r2 (Ev.now _)

theorem dataOf_eq (l : List Int) (hl : l.length ≤ 1048576) (hx : ∀ x ∈ l, 0 ≤ x ∧ x ≤ 255) (t : Int) : ∃ r : List Int × Bool, r.1.length ≤ 40 ∧ Ev (fun k => spec_DataOf.f k l t) r ∧ Ev (fun k => impl_DataOf.f k l t) r := by
  obtain ⟨b, c, e1, e2, e3, e4⟩ := specIsWord_same l hl hx t
  cases c with
  | false =>
    obtain rfl := e3 rfl
    refine ⟨([], false), by simp, ?_, ?_⟩
    · simp only [spec_DataOf.f]
      refine Ev.bind e1 ?_
      simp only [Bool.false_eq_true, if_false]; exact Ev.now _
    · simp only [impl_DataOf.f, e2, Option.bind_some, Bool.false_eq_true, if_false]; exact Ev.now _
  | true =>
    obtain ⟨⟨t0, t1, t2, t3⟩, e5⟩ := e4 rfl
    cases b with
    | false =>
      refine ⟨([], false), by simp, ?_, ?_⟩
      · simp only [spec_DataOf.f]
        refine Ev.bind e1 ?_
        simp only [Bool.false_eq_true, if_false]; exact Ev.now _
      · simp only [impl_DataOf.f, e2, Option.bind_some, if_true]
        refine Ev.bind e5 ?_
        simp only [Bool.false_eq_true, if_false]; exact Ev.now _
    | true =>
      have w2 : K.Eqn (wrap64 (2 * t)) (2 * t) := ⟨K.w64 (by omega) (by omega)⟩
      have hd : (l.drop (2 * t).toNat).length ≤ 24 := by rw [List.length_drop]; omega
      refine ⟨(l.drop (2 * t).toNat, true), by simp only; omega, ?_, ?_⟩
      · simp only [spec_DataOf.f]
        refine Ev.bind e1 ?_
        simp only [if_true, Option.bind_some, w2.out, if_pos (show 0 ≤ 2 * t by omega), if_pos (show 2 * t ≤ (l.length : Int) by omega), List.length_nil, List.nil_append, if_pos (show 0 + (l.drop (2 * t).toNat).length < 140737488355328 by omega)]
        exact Ev.now _
      · simp only [impl_DataOf.f, e2, Option.bind_some, if_true]
        refine Ev.bind e5 ?_
        simp only [if_true, w2.out, if_pos (show 0 ≤ 2 * t by omega), if_pos (show 2 * t ≤ (l.length : Int) by omega), slices_Clone_byte_byte.f, Option.bind_some, List.length_nil, List.nil_append, if_pos (show 0 + (l.drop (2 * t).toNat).length < 140737488355328 by omega)]
        exact Ev.now _
theorem FnExactDataOf : laws_FnExactDataOf.Pure := by
  intro l t _ hl hw _
  have hx : ∀ x ∈ l, 0 ≤ x ∧ x ≤ 255 := fun x h => K.b_u8 (hw x h)
  refine Ev.rounds (?_ : Ev (fun k => laws_FnExactDataOf.f k l t) true)
  unfold laws_FnExactDataOf.f
  by_cases h : (l.length : Int) > 1048576
  · simp only [if_pos h]; exact Ev.now _
  simp only [if_neg h]
  have h' : l.length ≤ 1048576 := by omega
  obtain ⟨r, e0, e1, e2⟩ := dataOf_eq l h' hx t
  obtain ⟨m, g, m1, m2, m3⟩ := laws_markByteS_held r.1 (by omega)
  obtain ⟨m', g', m1', m2', m3'⟩ := laws_markByteS_held l (by omega)
  refine Ev.bind (laws_toByteS_ev l h') ?_
  refine Ev.bind e1 ?_
  refine Ev.bind (laws_toByteS_ev l h') ?_
  refine Ev.bind e2 ?_
  refine Ev.bind (laws_eqByteS_self r.1 (by omega)) ?_
  simp only [if_true, bne_self_eq_false]
  apply K.Ev.succ
  simp only [laws_FnExactDataOf.j0, Bool.false_eq_true, if_false]
  refine Ev.bind (laws_toByteS_ev l h') ?_
  refine Ev.bind (laws_eqByteS_self l (by omega)) ?_
  simp only [if_true]
  refine Ev.bind m1' ?_
  simp only [if_neg (show ¬ m' < 0 by omega)]
  refine Ev.bind (laws_eqByteS_self r.1 (by omega)) ?_
  simp only [if_true, bne_self_eq_false]
  apply K.Ev.succ
  simp only [laws_FnExactDataOf.j1, Bool.false_eq_true, if_false]
  refine Ev.bind m1 ?_
  refine Ev.bind m2 ?_
  simp only [if_neg (show ¬ m < 0 by omega), if_true]
  refine Ev.bind (laws_toByteS_ev l h') ?_
  refine Ev.bind e2 ?_
  refine Ev.bind (laws_eqByteS_self r.1 (by omega)) ?_
  simp only [if_true, bne_self_eq_false]
  apply K.Ev.succ
  simp only [laws_FnExactDataOf.j2, Bool.false_eq_true, if_false]
  refine Ev.bind m2 ?_
  simp only [if_neg (show ¬ m < 0 by omega), if_true]
  exact Ev.now _

end Go.Proofs.Ytbloniemhkfnlaa.Pure
