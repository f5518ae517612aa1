/- The law FnExactGeneratorOf answers true for every number: the program's generator is the reference's, and no later call changes what was handed back. -/
import Derived.Test.YtbloniemhkfnlaaPFnExactGeneratorOfx3
import Derived.Test.YtbloniemhkfnlaaKKit
import Derived.Test.YtbloniemhkfnlaaKGF
set_option linter.unusedVariables false
set_option linter.unusedSimpArgs false
namespace Go.Proofs.Ytbloniemhkfnlaa.Pure
open Go Go.RowKit Go.Proofs.Ytbloniemhkfnlaa Go.Proofs.Ytbloniemhkfnlaa.PFnExactGeneratorOf Go.Proofs.YtbloniemhkfnlaaW.PrintWords Go.Proofs.YtbloniemhkfnlaaW.PrintLast Go.Proofs.YtbloniemhkfnlaaW.PrintMore

theorem l1Times_ev (a b : Nat) (ha : a < 256) (hb : b < 256) : Ev (fun k => spec_l1Times.f k (a : Int) (b : Int)) ((K.gmul a b : Nat) : Int) := by
  have key : ∀ (n x y o : Nat), x < 256 → o < 256 → y < 2 ^ n → n ≤ 8 → Ev (fun k => spec_l1Times.l0 k (o : Int) (x : Int) (y : Int)) ((K.gstep n x y o : Nat) : Int) := by
    intro n
    induction n with
    | zero =>
      intro x y o hx ho hy _
      obtain rfl : y = 0 := by simpa using hy
      apply K.Ev.succ
      simp only [spec_l1Times.l0, show ¬ (((0 : Nat) : Int) > 0) by omega, if_false, K.gstep]
      exact K.Ev.const (by rw [show (o : Int) % 256 = (o : Int) by omega])
    | succ n ih =>
      intro x y o hx ho hy hn
      by_cases h0 : y = 0
      · subst h0
        apply K.Ev.succ
        rw [K.gstep_zero]
        simp only [spec_l1Times.l0, show ¬ (((0 : Nat) : Int) > 0) by omega, if_false]
        exact K.Ev.const (by rw [show (o : Int) % 256 = (o : Int) by omega])
      have hy2 : y < 512 := Nat.lt_of_lt_of_le hy (by
        have : 2 ^ (n + 1) ≤ 2 ^ 9 := Nat.pow_le_pow_right (by omega) (by omega)
        omega)
      have w : K.Eqn (wrap64 ((x : Int) * 2)) ((2 * x : Nat) : Int) := ⟨by rw [K.w64 (by omega) (by omega)]; omega⟩
      have hx2 : (if ((2 * x : Nat) : Int) > 255 then Go.bits .xor .i64 ((2 * x : Nat) : Int) 283 else ((2 * x : Nat) : Int)) = ((K.xt x : Nat) : Int) := by
        unfold K.xt
        by_cases h : 2 * x > 255
        · rw [if_pos (by omega), if_pos h]
          exact K.xor_i64 (b := 283) (by omega) (by omega)
        · rw [if_neg (by omega), if_neg h]
      have hy' : (y : Int) / 2 = ((y / 2 : Nat) : Int) := by omega
      have hnext := ih (K.xt x) (y / 2) (if y % 2 = 1 then o ^^^ x else o) (K.xt_lt hx) (by
        split
        · exact Nat.xor_lt_two_pow (n := 8) ho hx
        · exact ho) (by rw [Nat.pow_succ] at hy; omega) (by omega)
      apply K.Ev.succ
      simp only [spec_l1Times.l0, if_pos (show (y : Int) > 0 by omega), K.and_i64_1 (show y < 1024 by omega), w.out, K.xor_i64 (show o < 1024 by omega) (show x < 1024 by omega), hy']
      by_cases h1 : y % 2 = 1
      · rw [if_pos h1] at hnext
        simp only [h1, show (((1 : Nat) : Int) = 1) = True by simp, if_true, K.gstep]
        by_cases h2 : ((2 * x : Nat) : Int) > 255
        · rw [if_pos h2] at hx2
          simp only [if_pos h2]
          simp only [hx2]
          exact hnext
        · rw [if_neg h2] at hx2
          simp only [if_neg h2]
          simp only [hx2]
          exact hnext
      · rw [if_neg h1] at hnext
        have h1' : ¬ (((y % 2 : Nat) : Int) = 1) := by omega
        simp only [if_neg h1', K.gstep, if_neg h1]
        by_cases h2 : ((2 * x : Nat) : Int) > 255
        · rw [if_pos h2] at hx2
          simp only [if_pos h2]
          simp only [hx2]
          exact hnext
        · rw [if_neg h2] at hx2
          simp only [if_neg h2]
          simp only [hx2]
          exact hnext
  have wa : K.Eqn (wrap64 (a : Int)) (a : Int) := ⟨K.w64 (by omega) (by omega)⟩
  have wb : K.Eqn (wrap64 (b : Int)) (b : Int) := ⟨K.w64 (by omega) (by omega)⟩
  simp only [spec_l1Times.f, wa.out, wb.out]
  exact key 8 a b 0 ha (by omega) (by omega) (by omega)

theorem Times_ev (a b : Nat) (ha : a < 256) (hb : b < 256) : Ev (fun k => impl_Times.f k (a : Int) (b : Int)) ((K.gmul a b : Nat) : Int) := by
  have key : ∀ (n j x o : Nat), j + n = 8 → x < 256 → o < 256 → Ev (fun k => impl_Times.l0 k (b : Int) (o : Int) (j : Int) (x : Int)) ((K.gstep n x (b / 2 ^ j) o : Nat) : Int) := by
    intro n
    induction n with
    | zero =>
      intro j x o hj hx ho
      apply K.Ev.succ
      simp only [impl_Times.l0, if_neg (show ¬ ((j : Int) < 8) by omega), K.gstep]
      exact K.Ev.const (by rw [show (o : Int) % 256 = (o : Int) by omega])
    | succ n ih =>
      intro j x o hj hx ho
      have w : K.Eqn (wrap64 ((x : Int) * 2)) ((2 * x : Nat) : Int) := ⟨by rw [K.w64 (by omega) (by omega)]; omega⟩
      have hx2 : (if ((2 * x : Nat) : Int) > 255 then Go.bits .xor .i64 ((2 * x : Nat) : Int) 283 else ((2 * x : Nat) : Int)) = ((K.xt x : Nat) : Int) := by
        unfold K.xt
        by_cases h : 2 * x > 255
        · rw [if_pos (by omega), if_pos h]
          exact K.xor_i64 (b := 283) (by omega) (by omega)
        · rw [if_neg (by omega), if_neg h]
      have hs : shr .u8 (b : Int) (j : Int) = ((b / 2 ^ j : Nat) : Int) := K.shr_u8 b j (by omega)
      have hbj : b / 2 ^ j < 256 := Nat.lt_of_le_of_lt (Nat.div_le_self _ _) hb
      have hnext := ih (j + 1) (K.xt x) (if (b / 2 ^ j) % 2 = 1 then o ^^^ x else o) (by omega) (K.xt_lt hx) (by
        split
        · exact Nat.xor_lt_two_pow (n := 8) ho hx
        · exact ho)
      rw [Nat.pow_succ, ← Nat.div_div_eq_div_mul] at hnext
      apply K.Ev.succ
      simp only [impl_Times.l0, if_pos (show (j : Int) < 8 by omega), if_pos (show 0 ≤ (j : Int) by omega), hs, K.and_u8_1 hbj, w.out, K.xor_i64 (show o < 1024 by omega) (show x < 1024 by omega), K.w64s j (show j < 9223372036854775807 by omega)]
      by_cases h1 : (b / 2 ^ j) % 2 = 1
      · rw [if_pos h1] at hnext
        simp only [h1, show (((1 : Nat) : Int) = 1) = True by simp, if_true, K.gstep]
        by_cases h2 : ((2 * x : Nat) : Int) > 255
        · rw [if_pos h2] at hx2
          simp only [if_pos h2]
          simp only [hx2]
          exact hnext
        · rw [if_neg h2] at hx2
          simp only [if_neg h2]
          simp only [hx2]
          exact hnext
      · rw [if_neg h1] at hnext
        have h1' : ¬ (((b / 2 ^ j % 2 : Nat) : Int) = 1) := by omega
        simp only [if_neg h1', K.gstep, if_neg h1]
        by_cases h2 : ((2 * x : Nat) : Int) > 255
        · rw [if_pos h2] at hx2
          simp only [if_pos h2]
          simp only [hx2]
          exact hnext
        · rw [if_neg h2] at hx2
          simp only [if_neg h2]
          simp only [hx2]
          exact hnext
  have wa : K.Eqn (wrap64 (a : Int)) (a : Int) := ⟨K.w64 (by omega) (by omega)⟩
  simp only [impl_Times.f, wa.out]
  have := key 8 0 a 0 (by omega) ha (by omega)
  rw [Nat.pow_zero, Nat.div_one] at this
  exact this


theorem laws_eqByteS_self (l : List Int) (hl : l.length ≤ 140737488355328) : Ev (fun k => laws_eqByteS.f k l l) true := by
  have key : ∀ (d n : Nat), n + d = l.length → Ev (fun k => laws_eqByteS.l0 k l l (n : Int)) true := by
    intro d
    induction d with
    | zero =>
      intro n h1
      apply K.Ev.succ
      simp only [laws_eqByteS.l0, if_neg (show ¬ ((n : Int) < (l.length : Int)) by omega)]
      exact Ev.now _
    | succ d ih =>
      intro n h1
      apply K.Ev.succ
      simp only [laws_eqByteS.l0, if_pos (show (n : Int) < (l.length : Int) by omega), if_pos (show (0 : Int) ≤ (n : Int) by omega), if_true]
      rw [K.w64s n (by omega)]
      exact ih (n + 1) (by omega)
  unfold laws_eqByteS.f
  simp only [if_true]
  exact key l.length 0 (by omega)


theorem laws_markByteS_held (l : List Int) (hl : l.length ≤ 140737488355328) : ∃ (m : Int) (g : List Int), Ev (fun k => laws_markByteS.f k l 1) (m, g) ∧ Ev (fun k => laws_heldByteS.f k g 1) m ∧ 0 ≤ m := by
  have key : ∀ (d n : Nat) (x : List Int) (c : Int), n + d = x.length → 0 ≤ c → c + d * 1 ≤ 9000000000000000000 → x.length ≤ 140737488355328 → ∃ (m : Int) (g : List Int), Ev (fun k => laws_markByteS.l0 k x c (n : Int)) (m, g) ∧ g.length = x.length ∧ (∀ j, j < n → g[j]? = x[j]?) ∧ Ev (fun k => laws_heldByteS.l0 k g c (n : Int)) m ∧ 0 ≤ m := by
    intro d
    induction d with
    | zero =>
      intro n x c h1 h2 h3 h4
      refine ⟨c, x, ?_, rfl, fun _ _ => rfl, ?_, h2⟩
      · apply K.Ev.succ
        simp only [laws_markByteS.l0, if_neg (show ¬ ((n : Int) < (x.length : Int)) by omega)]
        exact Ev.now _
      · apply K.Ev.succ
        simp only [laws_heldByteS.l0, if_neg (show ¬ ((n : Int) < (x.length : Int)) by omega)]
        exact Ev.now _
    | succ d ih =>
      intro n x c h1 h2 h3 h4
      have hn : n < x.length := by omega
      obtain ⟨m, g, e1, e2, e3, e4, e5⟩ := ih (n + 1) (x.set n (c % 256)) (c + 1) (by simp; omega) (by omega) (by omega) (by simpa using h4)
      have hg : g[n]? = some (c % 256) := by rw [e3 n (by omega)]; simp [hn]
      have hgl : g.length = x.length := by simpa using e2
      refine ⟨m, g, ?_, hgl, ?_, ?_, e5⟩
      · apply K.Ev.succ
        simp only [laws_markByteS.l0, if_pos (show (n : Int) < (x.length : Int) by omega), if_pos (show (0 : Int) ≤ (n : Int) by omega), Int.toNat_natCast]
        
        rw [K.w64s n (by omega), K.w64 (x := c + 1) (by omega) (by omega)]
        exact e1
      · intro j hj
        rw [e3 j (by omega)]
        rw [List.getElem?_set_ne (by omega)]
      · apply K.Ev.succ
        simp only [laws_heldByteS.l0, if_pos (show (n : Int) < (g.length : Int) by omega), if_pos (show (0 : Int) ≤ (n : Int) by omega)]
        simp only [show rd g (n : Int) = c % 256 by simp [rd, hg], if_true]
        rw [K.w64s n (by omega), K.w64 (x := c + 1) (by omega) (by omega)]
        exact e4
  obtain ⟨m, g, e1, _, _, e4, e5⟩ := key l.length 0 l 1 (by omega) (by omega) (by omega) hl
  exact ⟨m, g, by simp only [laws_markByteS.f]; exact e1, by simp only [laws_heldByteS.f]; exact e4, e5⟩

theorem FnExactGeneratorOf : laws_FnExactGeneratorOf.Pure := by
  intro t _
  by_cases h : 1 ≤ t ∧ t ≤ 4
  · have e : t = 1 ∨ t = 2 ∨ t = 3 ∨ t = 4 := by omega
    rcases e with rfl | rfl | rfl | rfl <;> exact ⟨400, by decide +kernel⟩
  · refine ⟨10, ?_⟩
    have q : spec_l1In.f t 1 4 = some false := by
      unfold spec_l1In.f; split
      · simp; omega
      · rfl
    have q2 : impl_within.f t 1 4 = some false := q
    simp only [laws_FnExactGeneratorOf.f, spec_GeneratorOf.f, impl_GeneratorOf.f, spec_l8T.f, impl_isCount.f, q, q2, Option.bind_some, Bool.false_eq_true, if_false]
    have g : ∀ x, laws_eqByteS.f 10 [] [] = x → x = some true := by intro x hx; rw [← hx]; decide +kernel
    simp only [g _ rfl, Option.bind_some, if_true, bne_self_eq_false]
    simp only [laws_FnExactGeneratorOf.j0, Bool.false_eq_true, if_false, impl_GeneratorOf.f, impl_isCount.f, q2, Option.bind_some]
    decide +kernel

end Go.Proofs.Ytbloniemhkfnlaa.Pure
