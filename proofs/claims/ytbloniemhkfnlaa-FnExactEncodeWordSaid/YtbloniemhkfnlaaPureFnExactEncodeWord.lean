/- The law FnExactEncodeWord answers true for every slice of bytes and every number: the program's word is the reference's, the data stays, and no later call changes what was handed back. -/
import Derived.Test.YtbloniemhkfnlaaPFnExactEncodeWordx6
import Derived.Test.YtbloniemhkfnlaaKKit
import Derived.Test.YtbloniemhkfnlaaKGF
import Derived.Test.YtbloniemhkfnlaaKGFL
set_option linter.unusedVariables false
set_option linter.unusedSimpArgs false
namespace Go.Proofs.Ytbloniemhkfnlaa.Pure
open Go Go.RowKit Go.Proofs.Ytbloniemhkfnlaa Go.Proofs.Ytbloniemhkfnlaa.PFnExactEncodeWord Go.Proofs.YtbloniemhkfnlaaW.PrintWords Go.Proofs.YtbloniemhkfnlaaW.PrintLast Go.Proofs.YtbloniemhkfnlaaW.PrintMore


theorem laws_eqByteS_self (l : List Int) (hl : l.length ≤ 140737488355328) : Ev (fun k => laws_eqByteS.f k l l) true := by
  have key : ∀ (d n : Nat), n + d = l.length → Ev (fun k => laws_eqByteS.l0 k l l (n : Int)) true := by
    intro d
    induction d with
    | zero =>
      intro n h1
      apply K.Ev.succ
      simp only [laws_eqByteS.l0, if_neg (show ¬ ((n : Int) < (l.length : Int)) by omega)]
      exact Ev.now _
    | succ d ih =>
      intro n h1
      apply K.Ev.succ
      simp only [laws_eqByteS.l0, if_pos (show (n : Int) < (l.length : Int) by omega), if_pos (show (0 : Int) ≤ (n : Int) by omega), if_true]
      rw [K.w64s n (by omega)]
      exact ih (n + 1) (by omega)
  unfold laws_eqByteS.f
  simp only [if_true]
  exact key l.length 0 (by omega)


theorem laws_markByteS_held (l : List Int) (hl : l.length ≤ 140737488355328) : ∃ (m : Int) (g : List Int), Ev (fun k => laws_markByteS.f k l 1) (m, g) ∧ Ev (fun k => laws_heldByteS.f k g 1) m ∧ 0 ≤ m := by
  have key : ∀ (d n : Nat) (x : List Int) (c : Int), n + d = x.length → 0 ≤ c → c + d * 1 ≤ 9000000000000000000 → x.length ≤ 140737488355328 → ∃ (m : Int) (g : List Int), Ev (fun k => laws_markByteS.l0 k x c (n : Int)) (m, g) ∧ g.length = x.length ∧ (∀ j, j < n → g[j]? = x[j]?) ∧ Ev (fun k => laws_heldByteS.l0 k g c (n : Int)) m ∧ 0 ≤ m := by
    intro d
    induction d with
    | zero =>
      intro n x c h1 h2 h3 h4
      refine ⟨c, x, ?_, rfl, fun _ _ => rfl, ?_, h2⟩
      · apply K.Ev.succ
        simp only [laws_markByteS.l0, if_neg (show ¬ ((n : Int) < (x.length : Int)) by omega)]
        exact Ev.now _
      · apply K.Ev.succ
        simp only [laws_heldByteS.l0, if_neg (show ¬ ((n : Int) < (x.length : Int)) by omega)]
        exact Ev.now _
    | succ d ih =>
      intro n x c h1 h2 h3 h4
      have hn : n < x.length := by omega
      obtain ⟨m, g, e1, e2, e3, e4, e5⟩ := ih (n + 1) (x.set n (c % 256)) (c + 1) (by simp; omega) (by omega) (by omega) (by simpa using h4)
      have hg : g[n]? = some (c % 256) := by rw [e3 n (by omega)]; simp [hn]
      have hgl : g.length = x.length := by simpa using e2
      refine ⟨m, g, ?_, hgl, ?_, ?_, e5⟩
      · apply K.Ev.succ
        simp only [laws_markByteS.l0, if_pos (show (n : Int) < (x.length : Int) by omega), if_pos (show (0 : Int) ≤ (n : Int) by omega), Int.toNat_natCast]
        
        rw [K.w64s n (by omega), K.w64 (x := c + 1) (by omega) (by omega)]
        exact e1
      · intro j hj
        rw [e3 j (by omega)]
        rw [List.getElem?_set_ne (by omega)]
      · apply K.Ev.succ
        simp only [laws_heldByteS.l0, if_pos (show (n : Int) < (g.length : Int) by omega), if_pos (show (0 : Int) ≤ (n : Int) by omega)]
        simp only [show rd g (n : Int) = c % 256 by simp [rd, hg], if_true]
        rw [K.w64s n (by omega), K.w64 (x := c + 1) (by omega) (by omega)]
        exact e4
  obtain ⟨m, g, e1, _, _, e4, e5⟩ := key l.length 0 l 1 (by omega) (by omega) (by omega) hl
  exact ⟨m, g, by simp only [laws_markByteS.f]; exact e1, by simp only [laws_heldByteS.f]; exact e4, e5⟩


theorem laws_toByteS_ev (l : List Int) (hl : l.length ≤ 1048576) : Ev (fun k => laws_toByteS.f k l) (l) := by
  have key : ∀ (d n : Nat) (x : List _), n + d = l.length → x.length = l.length → x.take n = (l).take n → Ev (fun k => laws_toByteS.l0 k l x (n : Int)) (l) := by
    intro d
    induction d with
    | zero =>
      intro n x h1 h2 h3
      apply K.Ev.succ
      simp only [laws_toByteS.l0, if_neg (show ¬ ((n : Int) < (l.length : Int)) by omega)]
      have e : x = (l) := by
        rw [List.take_of_length_le (by omega), List.take_of_length_le (by first | omega | (simp; omega))] at h3; exact h3
      rw [e]; exact Ev.now _
    | succ d ih =>
      intro n x h1 h2 h3
      apply K.Ev.succ
      have hn : n < l.length := by omega
      simp only [laws_toByteS.l0, if_pos (show (n : Int) < (l.length : Int) by omega), if_pos (show (0 : Int) ≤ (n : Int) by omega), if_pos (show (n : Int) < (x.length : Int) by omega), Int.toNat_natCast]
      
      rw [K.w64s n (by omega)]
      refine ih (n + 1) _ (by omega) (by simpa using h2) ?_
      rw [K.take_set _ _ _ (by omega), K.take_succ' (l) n (by simpa using hn), h3]
      rw [K.rd_nat hn]
  unfold laws_toByteS.f
  simp only [if_pos (show (0 : Int) ≤ (l.length : Int) by omega), Int.toNat_natCast, if_pos (show l.length ≤ 281474976710656 by omega)]
  exact key l.length 0 _ (by omega) (by simp) (by simp)

theorem l1Times_ev (a b : Nat) (ha : a < 256) (hb : b < 256) : Ev (fun k => spec_l1Times.f k (a : Int) (b : Int)) ((K.gmul a b : Nat) : Int) := by
  have key : ∀ (n x y o : Nat), x < 256 → o < 256 → y < 2 ^ n → n ≤ 8 → Ev (fun k => spec_l1Times.l0 k (o : Int) (x : Int) (y : Int)) ((K.gstep n x y o : Nat) : Int) := by
    intro n
    induction n with
    | zero =>
      intro x y o hx ho hy _
      obtain rfl : y = 0 := by simpa using hy
      apply K.Ev.succ
      simp only [spec_l1Times.l0, show ¬ (((0 : Nat) : Int) > 0) by omega, if_false, K.gstep]
      exact K.Ev.const (by rw [show (o : Int) % 256 = (o : Int) by omega])
    | succ n ih =>
      intro x y o hx ho hy hn
      by_cases h0 : y = 0
      · subst h0
        apply K.Ev.succ
        rw [K.gstep_zero]
        simp only [spec_l1Times.l0, show ¬ (((0 : Nat) : Int) > 0) by omega, if_false]
        exact K.Ev.const (by rw [show (o : Int) % 256 = (o : Int) by omega])
      have hy2 : y < 512 := Nat.lt_of_lt_of_le hy (by
        have : 2 ^ (n + 1) ≤ 2 ^ 9 := Nat.pow_le_pow_right (by omega) (by omega)
        omega)
      have w : K.Eqn (wrap64 ((x : Int) * 2)) ((2 * x : Nat) : Int) := ⟨by rw [K.w64 (by omega) (by omega)]; omega⟩
      have hx2 : (if ((2 * x : Nat) : Int) > 255 then Go.bits .xor .i64 ((2 * x : Nat) : Int) 283 else ((2 * x : Nat) : Int)) = ((K.xt x : Nat) : Int) := by
        unfold K.xt
        by_cases h : 2 * x > 255
        · rw [if_pos (by omega), if_pos h]
          exact K.xor_i64 (b := 283) (by omega) (by omega)
        · rw [if_neg (by omega), if_neg h]
      have hy' : (y : Int) / 2 = ((y / 2 : Nat) : Int) := by omega
      have hnext := ih (K.xt x) (y / 2) (if y % 2 = 1 then o ^^^ x else o) (K.xt_lt hx) (by
        split
        · exact Nat.xor_lt_two_pow (n := 8) ho hx
        · exact ho) (by rw [Nat.pow_succ] at hy; omega) (by omega)
      apply K.Ev.succ
      simp only [spec_l1Times.l0, if_pos (show (y : Int) > 0 by omega), K.and_i64_1 (show y < 1024 by omega), w.out, K.xor_i64 (show o < 1024 by omega) (show x < 1024 by omega), hy']
      by_cases h1 : y % 2 = 1
      · rw [if_pos h1] at hnext
        simp only [h1, show (((1 : Nat) : Int) = 1) = True by simp, if_true, K.gstep]
        by_cases h2 : ((2 * x : Nat) : Int) > 255
        · rw [if_pos h2] at hx2
          simp only [if_pos h2]
          simp only [hx2]
          exact hnext
        · rw [if_neg h2] at hx2
          simp only [if_neg h2]
          simp only [hx2]
          exact hnext
      · rw [if_neg h1] at hnext
        have h1' : ¬ (((y % 2 : Nat) : Int) = 1) := by omega
        simp only [if_neg h1', K.gstep, if_neg h1]
        by_cases h2 : ((2 * x : Nat) : Int) > 255
        · rw [if_pos h2] at hx2
          simp only [if_pos h2]
          simp only [hx2]
          exact hnext
        · rw [if_neg h2] at hx2
          simp only [if_neg h2]
          simp only [hx2]
          exact hnext
  have wa : K.Eqn (wrap64 (a : Int)) (a : Int) := ⟨K.w64 (by omega) (by omega)⟩
  have wb : K.Eqn (wrap64 (b : Int)) (b : Int) := ⟨K.w64 (by omega) (by omega)⟩
  simp only [spec_l1Times.f, wa.out, wb.out]
  exact key 8 a b 0 ha (by omega) (by omega) (by omega)

theorem l1Power_ev (a n : Nat) (ha : a < 256) (hn : n < 1024) : Ev (fun k => spec_l1Power.f k (a : Int) (n : Int)) ((K.gpow a n : Nat) : Int) := by
  have key : ∀ (n o : Nat), n < 1024 → o < 256 → Ev (fun k => spec_l1Power.l0 k (a : Int) (n : Int) (o : Int)) ((K.gmul o (K.gpow a n) : Nat) : Int) := by
    intro n
    induction n with
    | zero =>
      intro o _ ho
      apply K.Ev.succ
      simp only [spec_l1Power.l0, show ¬ (((0 : Nat) : Int) > 0) by omega, if_false, K.gpow, K.gmul_one ho]
      exact Ev.now _
    | succ n ih =>
      intro o h ho
      have w : K.Eqn (wrap64 (((n + 1 : Nat) : Int) - 1)) (n : Int) := ⟨by rw [K.w64 (by omega) (by omega)]; omega⟩
      have e : K.gmul o (K.gpow a (n + 1)) = K.gmul (K.gmul o a) (K.gpow a n) := by
        rw [K.gmul_assoc ho ha (K.gpow_lt n), K.gmul_comm ha (K.gpow_lt n)]; rfl
      apply K.Ev.succ
      simp only [spec_l1Power.l0, if_pos (show ((n + 1 : Nat) : Int) > 0 by omega), w.out]
      refine Ev.bind (l1Times_ev o a ho ha) ?_
      rw [e]
      exact ih _ (by omega) (K.gmul_lt ho)
  have := key n 1 hn (by omega)
  rw [K.one_gmul (K.gpow_lt n)] at this
  simp only [spec_l1Power.f]
  exact this

theorem Times_ev (a b : Nat) (ha : a < 256) (hb : b < 256) : Ev (fun k => impl_Times.f k (a : Int) (b : Int)) ((K.gmul a b : Nat) : Int) := by
  have key : ∀ (n j x o : Nat), j + n = 8 → x < 256 → o < 256 → Ev (fun k => impl_Times.l0 k (b : Int) (o : Int) (j : Int) (x : Int)) ((K.gstep n x (b / 2 ^ j) o : Nat) : Int) := by
    intro n
    induction n with
    | zero =>
      intro j x o hj hx ho
      apply K.Ev.succ
      simp only [impl_Times.l0, if_neg (show ¬ ((j : Int) < 8) by omega), K.gstep]
      exact K.Ev.const (by rw [show (o : Int) % 256 = (o : Int) by omega])
    | succ n ih =>
      intro j x o hj hx ho
      have w : K.Eqn (wrap64 ((x : Int) * 2)) ((2 * x : Nat) : Int) := ⟨by rw [K.w64 (by omega) (by omega)]; omega⟩
      have hx2 : (if ((2 * x : Nat) : Int) > 255 then Go.bits .xor .i64 ((2 * x : Nat) : Int) 283 else ((2 * x : Nat) : Int)) = ((K.xt x : Nat) : Int) := by
        unfold K.xt
        by_cases h : 2 * x > 255
        · rw [if_pos (by omega), if_pos h]
          exact K.xor_i64 (b := 283) (by omega) (by omega)
        · rw [if_neg (by omega), if_neg h]
      have hs : shr .u8 (b : Int) (j : Int) = ((b / 2 ^ j : Nat) : Int) := K.shr_u8 b j (by omega)
      have hbj : b / 2 ^ j < 256 := Nat.lt_of_le_of_lt (Nat.div_le_self _ _) hb
      have hnext := ih (j + 1) (K.xt x) (if (b / 2 ^ j) % 2 = 1 then o ^^^ x else o) (by omega) (K.xt_lt hx) (by
        split
        · exact Nat.xor_lt_two_pow (n := 8) ho hx
        · exact ho)
      rw [Nat.pow_succ, ← Nat.div_div_eq_div_mul] at hnext
      apply K.Ev.succ
      simp only [impl_Times.l0, if_pos (show (j : Int) < 8 by omega), if_pos (show 0 ≤ (j : Int) by omega), hs, K.and_u8_1 hbj, w.out, K.xor_i64 (show o < 1024 by omega) (show x < 1024 by omega), K.w64s j (show j < 9223372036854775807 by omega)]
      by_cases h1 : (b / 2 ^ j) % 2 = 1
      · rw [if_pos h1] at hnext
        simp only [h1, show (((1 : Nat) : Int) = 1) = True by simp, if_true, K.gstep]
        by_cases h2 : ((2 * x : Nat) : Int) > 255
        · rw [if_pos h2] at hx2
          simp only [if_pos h2]
          simp only [hx2]
          exact hnext
        · rw [if_neg h2] at hx2
          simp only [if_neg h2]
          simp only [hx2]
          exact hnext
      · rw [if_neg h1] at hnext
        have h1' : ¬ (((b / 2 ^ j % 2 : Nat) : Int) = 1) := by omega
        simp only [if_neg h1', K.gstep, if_neg h1]
        by_cases h2 : ((2 * x : Nat) : Int) > 255
        · rw [if_pos h2] at hx2
          simp only [if_pos h2]
          simp only [hx2]
          exact hnext
        · rw [if_neg h2] at hx2
          simp only [if_neg h2]
          simp only [hx2]
          exact hnext
  have wa : K.Eqn (wrap64 (a : Int)) (a : Int) := ⟨K.w64 (by omega) (by omega)⟩
  simp only [impl_Times.f, wa.out]
  have := key 8 0 a 0 (by omega) ha (by omega)
  rw [Nat.pow_zero, Nat.div_one] at this
  exact this

theorem power_ev (a n : Nat) (ha : a < 256) (hn : n < 1024) : Ev (fun k => impl_power.f k (a : Int) (n : Int)) ((K.gpow a n : Nat) : Int) := by
  have key : ∀ (d n a o : Nat), n ≤ d → n < 1024 → a < 256 → o < 256 → Ev (fun k => impl_power.l0 k (a : Int) (n : Int) (o : Int)) ((K.gmul o (K.gpow a n) : Nat) : Int) := by
    intro d
    induction d with
    | zero =>
      intro n a o hd _ ha ho
      obtain rfl : n = 0 := by omega
      apply K.Ev.succ
      simp only [impl_power.l0, show ¬ (((0 : Nat) : Int) > 0) by omega, if_false, K.gpow, K.gmul_one ho]
      exact Ev.now _
    | succ d ih =>
      intro n a o hd hn ha ho
      by_cases h0 : n = 0
      · subst h0
        apply K.Ev.succ
        simp only [impl_power.l0, show ¬ (((0 : Nat) : Int) > 0) by omega, if_false, K.gpow, K.gmul_one ho]
        exact Ev.now _
      have hh : (n : Int) / 2 = ((n / 2 : Nat) : Int) := by omega
      apply K.Ev.succ
      simp only [impl_power.l0, if_pos (show (n : Int) > 0 by omega), K.and_i64_1 hn, hh]
      by_cases h1 : n % 2 = 1
      · simp only [if_pos (show ((n % 2 : Nat) : Int) = 1 by omega)]
        refine Ev.bind (Times_ev o a ho ha) ?_
        refine Ev.bind (Times_ev a a ha ha) ?_
        have e : K.gmul o (K.gpow a n) = K.gmul (K.gmul o a) (K.gpow (K.gmul a a) (n / 2)) := by
          rw [K.gpow_sq ha, K.gmul_assoc ho ha (K.gpow_lt _), K.gmul_comm ha (K.gpow_lt _)]
          have h : n = (n / 2 + n / 2) + 1 := by omega
          rw [show K.gpow a n = K.gpow a ((n / 2 + n / 2) + 1) by rw [← h]]
          rfl
        rw [e]
        exact ih _ _ _ (by omega) (by omega) (K.gmul_lt ha) (K.gmul_lt ho)
      · simp only [if_neg (show ¬ ((n % 2 : Nat) : Int) = 1 by omega)]
        refine Ev.bind (Times_ev a a ha ha) ?_
        have e : K.gmul o (K.gpow a n) = K.gmul o (K.gpow (K.gmul a a) (n / 2)) := by
          rw [K.gpow_sq ha]
          have h : n = (n / 2 + n / 2) := by omega
          rw [show K.gpow a n = K.gpow a (n / 2 + n / 2) by rw [← h]]
        rw [e]
        exact ih _ _ _ (by omega) (by omega) (K.gmul_lt ha) ho
  have := key n n a 1 (by omega) hn ha (by omega)
  rw [K.one_gmul (K.gpow_lt n)] at this
  simp only [impl_power.f]
  exact this

def genOf (t : Nat) : List Nat := ((spec_l8Generator.f 400 (t : Int)).getD []).map Int.toNat
theorem gen_same (t : Nat) (h1 : 1 ≤ t) (h4 : t ≤ 4) : ∃ g : List Nat, g.length = 2 * t + 1 ∧ K.Bytes g ∧ Ev (fun k => spec_l8Generator.f k (t : Int)) (K.il g) ∧ Ev (fun k => impl_generator.f k (t : Int)) (K.il g) := by
  have h : ∀ t : Fin 5, 1 ≤ t.val → (genOf t.val).length = 2 * t.val + 1 ∧ (∀ x ∈ genOf t.val, x < 256) ∧ spec_l8Generator.f 400 (t.val : Int) = some (K.il (genOf t.val)) ∧ impl_generator.f 400 (t.val : Int) = some (K.il (genOf t.val)) := by decide +kernel
  obtain ⟨a, b, c, d⟩ := h ⟨t, by omega⟩ h1
  exact ⟨genOf t, a, b, Ev.of (spec_l8Generator.mono _) c, Ev.of (impl_generator.mono _) d⟩
theorem il_set (l : List Nat) (p x : Nat) : (K.il l).set p (x : Int) = K.il (l.set p x) := by simp [K.il]
theorem il_append (l m : List Nat) : K.il l ++ K.il m = K.il (l ++ m) := by simp [K.il]
theorem il_take (l : List Nat) (n : Nat) : (K.il l).take n = K.il (l.take n) := by simp [K.il]
theorem il_zeros (n : Nat) : List.replicate n (0 : Int) = K.il (List.replicate n 0) := by simp [K.il]
theorem bytes_set {l : List Nat} (h : K.Bytes l) (p : Nat) {x : Nat} (hx : x < 256) : K.Bytes (l.set p x) := by
  intro y hy
  rcases List.mem_or_eq_of_mem_set hy with h1 | h1
  · exact h y h1
  · omega
theorem left_same (m : List Nat) (hm : K.Bytes m) (t : Nat) (h1 : 1 ≤ t) (h4 : t ≤ 4) (hl : m.length ≤ 24) (g : List Nat) (hg : g.length = 2 * t + 1) (hgb : K.Bytes g) :
    ∀ (d : Nat) (row : List Nat), row.length = 2 * t + m.length → K.Bytes row → d ≤ m.length → ∃ s : List Nat, s.length ≤ 8 ∧ Ev (fun k => spec_l8Left.l0 k (K.il g) (K.il row) (((2 * t + d : Nat) : Int) - 1)) (K.il s) ∧ Ev (fun k => impl_EncodeWord.l0 k (K.il m) (t : Int) (K.il row) (K.il g) (((2 * t + d : Nat) : Int) - 1)) (K.il (s ++ m), true) := by
  have w2 : K.Eqn (wrap64 (2 * (t : Int))) ((2 * t : Nat) : Int) := ⟨by rw [K.w64 (by omega) (by omega)]; omega⟩
  have wg : K.Eqn (wrap64 ((((2 * t + 1 : Nat)) : Int) - 1)) ((2 * t : Nat) : Int) := ⟨by rw [K.w64 (by omega) (by omega)]; omega⟩
  intro d
  induction d with
  | zero =>
    intro row hrl hrb _
    have htl : (row.take (2 * t)).length = 2 * t := by rw [List.length_take]; omega
    refine ⟨row.take (2 * t), by omega, ?_, ?_⟩ <;> apply K.Ev.succ
    · simp only [spec_l8Left.l0, K.il_length, hg, wg.out, if_neg (show ¬ ((((2 * t + 0 : Nat)) : Int) - 1 ≥ ((2 * t : Nat) : Int)) by omega), if_pos (show 0 ≤ ((2 * t : Nat) : Int) by omega), if_pos (show ((2 * t : Nat) : Int) ≤ (row.length : Int) by omega), Int.toNat_natCast, il_take]
      exact Ev.now _
    · simp only [impl_EncodeWord.l0, K.il_length, w2.out, if_neg (show ¬ ((((2 * t + 0 : Nat)) : Int) - 1 ≥ ((2 * t : Nat) : Int)) by omega), if_pos (show 0 ≤ ((2 * t : Nat) : Int) by omega), if_pos (show ((2 * t : Nat) : Int) ≤ (row.length : Int) by omega), Int.toNat_natCast, il_take, slices_Clone_byte_byte.f, Option.bind_some, List.length_nil, List.nil_append, htl, if_pos (show 0 + 2 * t < 140737488355328 by omega), if_pos (show 2 * t + m.length < 140737488355328 by omega), il_append]
      exact Ev.now _
  | succ d ih =>
    intro row hrl hrb hd
    have ei : ((2 * t + (d + 1) : Nat) : Int) - 1 = ((2 * t + d : Nat) : Int) := by omega
    have hi : 2 * t + d < row.length := by omega
    have wi : K.Eqn (wrap64 (((2 * t + d : Nat) : Int) - 1)) (((2 * t + d : Nat) : Int) - 1) := ⟨K.w64 (by omega) (by omega)⟩
    have inner : ∀ (e j : Nat) (row : List Nat) (lead : Nat), j + e = 2 * t + 1 → row.length = 2 * t + m.length → K.Bytes row → lead < 256 → ∃ s : List Nat, s.length ≤ 8 ∧ Ev (fun k => spec_l8Left.l1 k (K.il g) (K.il row) ((2 * t + d : Nat) : Int) (lead : Int) (K.il g) ((2 * t + 1 : Nat) : Int) (j : Int)) (K.il s) ∧ Ev (fun k => impl_EncodeWord.l1 k (K.il m) (t : Int) (K.il row) (K.il g) ((2 * t + d : Nat) : Int) (lead : Int) (K.il g) ((2 * t + 1 : Nat) : Int) (j : Int)) (K.il (s ++ m), true) := by
      intro e
      induction e with
      | zero =>
        intro j row lead hj hrl hrb hlead
        obtain ⟨s, s0, s1, s2⟩ := ih row hrl hrb (by omega)
        refine ⟨s, s0, ?_, ?_⟩ <;> apply K.Ev.succ
        · simp only [spec_l8Left.l1, if_neg (show ¬ ((j : Int) < ((2 * t + 1 : Nat) : Int)) by omega), wi.out]; exact s1
        · simp only [impl_EncodeWord.l1, if_neg (show ¬ ((j : Int) < ((2 * t + 1 : Nat) : Int)) by omega), wi.out]; exact s2
      | succ e ihe =>
        intro j row lead hj hrl hrb hlead
        have hjg : j < g.length := by omega
        have hgj := hgb g[j] (List.getElem_mem hjg)
        have hp : d + j < row.length := by omega
        have hrp := hrb row[d + j] (List.getElem_mem hp)
        have hx : K.gmul lead g[j] < 256 := K.gmul_lt hlead
        obtain ⟨s, s0, s1, s2⟩ := ihe (j + 1) (row.set (d + j) (row[d + j] ^^^ K.gmul lead g[j])) lead (by omega) (by simpa using hrl) (bytes_set hrb _ (K.xlt hrp hx)) hlead
        have p1 : K.Eqn (wrap64 ((wrap64 ((wrap64 (((2 * t + d : Nat) : Int) - ((2 * t + 1 : Nat) : Int))) + 1)) + (j : Int))) ((d + j : Nat) : Int) := ⟨by
          rw [K.w64 (x := ((2 * t + d : Nat) : Int) - ((2 * t + 1 : Nat) : Int)) (by omega) (by omega), K.w64 (x := ((2 * t + d : Nat) : Int) - ((2 * t + 1 : Nat) : Int) + 1) (by omega) (by omega), K.w64 (by omega) (by omega)]; omega⟩
        have p2 : K.Eqn (wrap64 ((wrap64 (((2 * t + d : Nat) : Int) - ((2 * t : Nat) : Int))) + (j : Int))) ((d + j : Nat) : Int) := ⟨by
          rw [K.w64 (x := ((2 * t + d : Nat) : Int) - ((2 * t : Nat) : Int)) (by omega) (by omega), K.w64 (by omega) (by omega)]; omega⟩
        have c1 : (j : Int) < ((2 * t + 1 : Nat) : Int) := by omega
        have c2 : 0 ≤ (j : Int) := by omega
        have c3 : 0 ≤ ((d + j : Nat) : Int) := by omega
        have c4 : ((d + j : Nat) : Int) < (row.length : Int) := by omega
        have wj := K.w64s j (show j < 9223372036854775807 by omega)
        refine ⟨s, s0, ?_, ?_⟩ <;> apply K.Ev.succ
        · simp only [spec_l8Left.l1, K.il_length, hg, if_pos c1, if_pos c2, p1.out, if_pos c3, if_pos c4, K.rd_il hjg, K.rd_il hp, Int.toNat_natCast, wj]
          refine Ev.bind (l1Times_ev _ _ hlead hgj) ?_
          simp only [K.xor_u8 hrp hx, il_set]
          exact s1
        · simp only [impl_EncodeWord.l1, K.il_length, hg, if_pos c1, if_pos c2, w2.out, p2.out, if_pos c3, if_pos c4, K.rd_il hjg, K.rd_il hp, Int.toNat_natCast, wj]
          refine Ev.bind (Times_ev _ _ hlead hgj) ?_
          simp only [K.xor_u8 hrp hx, il_set]
          exact s2
    obtain ⟨s, s0, s1, s2⟩ := inner (2 * t + 1) 0 row row[2 * t + d] (by omega) hrl hrb (hrb _ (List.getElem_mem hi))
    refine ⟨s, s0, ?_, ?_⟩ <;> apply K.Ev.succ
    · simp only [spec_l8Left.l0, K.il_length, hg, wg.out, ei, if_pos (show ((2 * t + d : Nat) : Int) ≥ ((2 * t : Nat) : Int) by omega), if_pos (show 0 ≤ ((2 * t + d : Nat) : Int) by omega), if_pos (show ((2 * t + d : Nat) : Int) < (row.length : Int) by omega), K.rd_il hi]
      exact s1
    · simp only [impl_EncodeWord.l0, K.il_length, hg, w2.out, ei, if_pos (show ((2 * t + d : Nat) : Int) ≥ ((2 * t : Nat) : Int) by omega), if_pos (show 0 ≤ ((2 * t + d : Nat) : Int) by omega), if_pos (show ((2 * t + d : Nat) : Int) < (row.length : Int) by omega), K.rd_il hi]
      exact s2
theorem encode_eq (l : List Int) (hl : l.length ≤ 1048576) (hx : ∀ x ∈ l, 0 ≤ x ∧ x ≤ 255) (t : Int) (ht : -9223372036854775808 ≤ t ∧ t ≤ 9223372036854775807) : ∃ r : List Int × Bool, r.1.length ≤ 40 ∧ Ev (fun k => spec_EncodeWord.f k l t) r ∧ Ev (fun k => impl_EncodeWord.f k l t) r := by
  have bad : Ev (fun k => spec_EncodeWord.j0 k l t true) (([] : List Int), false) ∧ Ev (fun k => impl_EncodeWord.j0 k l t true) (([] : List Int), false) := by
    constructor <;> apply K.Ev.succ
    · simp only [spec_EncodeWord.j0, if_true]; exact Ev.now _
    · simp only [impl_EncodeWord.j0, if_true]; exact Ev.now _
  by_cases h : 1 ≤ t ∧ t ≤ 4
  case neg =>
    have q : spec_l1In.f t 1 4 = some false := by
      unfold spec_l1In.f; split
      · simp; omega
      · rfl
    have q2 : impl_within.f t 1 4 = some false := q
    refine ⟨([], false), by simp, ?_, ?_⟩
    · simp only [spec_EncodeWord.f, spec_l8T.f, q, Option.bind_some, Bool.false_eq_true, if_false]; exact bad.1
    · simp only [impl_EncodeWord.f, impl_isCount.f, q2, Option.bind_some, Bool.false_eq_true, if_false]; exact bad.2
  obtain ⟨n, rfl⟩ := Int.eq_ofNat_of_zero_le (show 0 ≤ t by omega)
  have q : spec_l1In.f (n : Int) 1 4 = some true := by unfold spec_l1In.f; rw [if_pos h.1]; simp; omega
  have q2 : impl_within.f (n : Int) 1 4 = some true := q
  have w2 : K.Eqn (wrap64 (2 * (n : Int))) ((2 * n : Nat) : Int) := ⟨by rw [K.w64 (by omega) (by omega)]; omega⟩
  have w3 : K.Eqn (wrap64 ((l.length : Int) + ((2 * n : Nat) : Int))) ((l.length + 2 * n : Nat) : Int) := ⟨by rw [K.w64 (by omega) (by omega)]; omega⟩
  have w4 : K.Eqn (wrap64 (24 - ((2 * n : Nat) : Int))) (24 - ((2 * n : Nat) : Int)) := ⟨K.w64 (by omega) (by omega)⟩
  by_cases h0 : (l.length : Int) = 0
  · have q3 : impl_within.f (l.length : Int) 1 (24 - ((2 * n : Nat) : Int)) = some false := by unfold impl_within.f; rw [if_neg (by omega)]
    refine ⟨([], false), by simp, ?_, ?_⟩
    · simp only [spec_EncodeWord.f, spec_l8T.f, q, Option.bind_some, if_true, if_pos h0]; exact bad.1
    · simp only [impl_EncodeWord.f, impl_isCount.f, q2, Option.bind_some, if_true, w2.out, w4.out, q3, Bool.not_false]; exact bad.2
  by_cases h24 : l.length + 2 * n > 24
  · have q3 : impl_within.f (l.length : Int) 1 (24 - ((2 * n : Nat) : Int)) = some false := by unfold impl_within.f; rw [if_pos (by omega), decide_eq_false (by omega)]
    refine ⟨([], false), by simp, ?_, ?_⟩
    · simp only [spec_EncodeWord.f, spec_l8T.f, q, Option.bind_some, if_true, if_neg h0, w2.out, w3.out, decide_eq_true (show ((l.length + 2 * n : Nat) : Int) > 24 by omega)]; exact bad.1
    · simp only [impl_EncodeWord.f, impl_isCount.f, q2, Option.bind_some, if_true, w2.out, w4.out, q3, Bool.not_false]; exact bad.2
  have q3 : impl_within.f (l.length : Int) 1 (24 - ((2 * n : Nat) : Int)) = some true := by unfold impl_within.f; rw [if_pos (by omega), decide_eq_true (by omega)]
  obtain ⟨m, rfl, hm⟩ := K.il_of hx
  rw [K.il_length] at h0 h24 q3 w3
  obtain ⟨g, g0, g1, g2, g3⟩ := gen_same n (by omega) (by omega)
  obtain ⟨s, s0, s1, s2⟩ := left_same m hm n (by omega) (by omega) (by omega) g g0 g1 m.length (List.replicate (2 * n) 0 ++ m) (by simp) (by
    intro x hx
    rcases List.mem_append.1 hx with hx | hx
    · have := List.eq_of_mem_replicate hx; omega
    · exact hm x hx) (Nat.le_refl _)
  have wl : K.Eqn (wrap64 (((2 * n + m.length : Nat) : Int) - 1)) (((2 * n + m.length : Nat) : Int) - 1) := ⟨K.w64 (by omega) (by omega)⟩
  have hz : (K.il (List.replicate (2 * n) 0)).length = 2 * n := by simp [K.il]
  have hlen : (List.replicate (2 * n) 0 ++ m).length = 2 * n + m.length := by simp
  refine ⟨(K.il (s ++ m), true), by simp [K.il]; omega, ?_, ?_⟩
  · simp only [spec_EncodeWord.f, spec_l8T.f, q, Option.bind_some, if_true, K.il_length, if_neg h0, w2.out, w3.out, decide_eq_false (show ¬ ((m.length + 2 * n : Nat) : Int) > 24 by omega)]
    apply K.Ev.succ
    simp only [spec_EncodeWord.j0, Bool.false_eq_true, if_false, w2.out, if_pos (show 0 ≤ ((2 * n : Nat) : Int) by omega), Int.toNat_natCast, if_pos (show 2 * n ≤ 281474976710656 by omega), Option.bind_some, il_zeros, hz, K.il_length, if_pos (show 2 * n + m.length < 140737488355328 by omega)]
    refine Ev.bind g2 ?_
    have e1 : Ev (fun k => spec_l8Left.f k (K.il (List.replicate (2 * n) 0) ++ K.il m) (K.il g)) (K.il s) := by
      simp only [spec_l8Left.f, il_append, Option.bind_some, List.length_nil, List.nil_append, K.il_length, hlen, if_pos (show 0 + (2 * n + m.length) < 140737488355328 by omega), wl.out]
      exact s1
    refine Ev.bind e1 ?_
    simp only [K.il_length, if_pos (show s.length + m.length < 140737488355328 by omega), il_append]
    exact Ev.now _
  · simp only [impl_EncodeWord.f, impl_isCount.f, q2, Option.bind_some, if_true, K.il_length, w2.out, w4.out, q3, Bool.not_true]
    apply K.Ev.succ
    simp only [impl_EncodeWord.j0, Bool.false_eq_true, if_false, w2.out, if_pos (show 0 ≤ ((2 * n : Nat) : Int) by omega), Int.toNat_natCast, if_pos (show 2 * n ≤ 281474976710656 by omega), Option.bind_some, il_zeros, hz, K.il_length, if_pos (show 2 * n + m.length < 140737488355328 by omega), il_append, hlen, wl.out]
    refine Ev.bind g3 ?_
    exact s2
theorem FnExactEncodeWord : laws_FnExactEncodeWord.Pure := by
  intro l t _ hl hw ht
  have hx : ∀ x ∈ l, 0 ≤ x ∧ x ≤ 255 := fun x h => K.b_u8 (hw x h)
  refine Ev.rounds (?_ : Ev (fun k => laws_FnExactEncodeWord.f k l t) true)
  unfold laws_FnExactEncodeWord.f
  by_cases h : (l.length : Int) > 1048576
  · simp only [if_pos h]; exact Ev.now _
  simp only [if_neg h]
  have h' : l.length ≤ 1048576 := by omega
  obtain ⟨r, e0, e1, e2⟩ := encode_eq l h' hx t (K.b_i64 ht)
  obtain ⟨m, g, m1, m2, m3⟩ := laws_markByteS_held r.1 (by omega)
  obtain ⟨m', g', m1', m2', m3'⟩ := laws_markByteS_held l (by omega)
  refine Ev.bind (laws_toByteS_ev l h') ?_
  refine Ev.bind e1 ?_
  refine Ev.bind (laws_toByteS_ev l h') ?_
  refine Ev.bind e2 ?_
  refine Ev.bind (laws_eqByteS_self r.1 (by omega)) ?_
  simp only [if_true, bne_self_eq_false]
  apply K.Ev.succ
  simp only [laws_FnExactEncodeWord.j0, Bool.false_eq_true, if_false]
  refine Ev.bind (laws_toByteS_ev l h') ?_
  refine Ev.bind (laws_eqByteS_self l (by omega)) ?_
  simp only [if_true]
  refine Ev.bind m1' ?_
  simp only [if_neg (show ¬ m' < 0 by omega)]
  refine Ev.bind (laws_eqByteS_self r.1 (by omega)) ?_
  simp only [if_true, bne_self_eq_false]
  apply K.Ev.succ
  simp only [laws_FnExactEncodeWord.j1, Bool.false_eq_true, if_false]
  refine Ev.bind m1 ?_
  refine Ev.bind m2 ?_
  simp only [if_neg (show ¬ m < 0 by omega), if_true]
  refine Ev.bind (laws_toByteS_ev l h') ?_
  refine Ev.bind e2 ?_
  refine Ev.bind (laws_eqByteS_self r.1 (by omega)) ?_
  simp only [if_true, bne_self_eq_false]
  apply K.Ev.succ
  simp only [laws_FnExactEncodeWord.j2, Bool.false_eq_true, if_false]
  refine Ev.bind m2 ?_
  simp only [if_neg (show ¬ m < 0 by omega), if_true]
  exact Ev.now _

end Go.Proofs.Ytbloniemhkfnlaa.Pure
