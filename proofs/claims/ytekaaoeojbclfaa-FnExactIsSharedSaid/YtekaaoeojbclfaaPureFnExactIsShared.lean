/- The law FnExactIsShared answers true for every slice of shares and every number: the program calls shares shared just where the reference does, and the shares stay. -/
import Derived.Test.YtekaaoeojbclfaaPFnExactIsSharedx5
import Derived.Test.YtekaaoeojbclfaaKKit
import Derived.Test.YtekaaoeojbclfaaKGF
import Derived.Test.YtekaaoeojbclfaaKGFL
set_option linter.unusedVariables false
set_option linter.unusedSimpArgs false
namespace Go.Proofs.Ytekaaoeojbclfaa.Pure
open Go Go.RowKit Go.Proofs.Ytekaaoeojbclfaa Go.Proofs.Ytekaaoeojbclfaa.PFnExactIsShared Go.Proofs.YtekaaoeojbclfaaW.PrintWords Go.Proofs.YtekaaoeojbclfaaW.PrintLast Go.Proofs.YtekaaoeojbclfaaW.PrintMore

theorem szShareS_eq (l : List S87) (hl : l.length ≤ maxLen) : laws_szShareS.f l 1048576 = some (if l.length ≤ 1048576 then 1048576 - (l.length : Int) else -1) := by
  have h : l.length ≤ 9223372036854775807 := hl
  have w : wrap64 (1048576 - (l.length : Int)) = 1048576 - (l.length : Int) := K.w64 (by omega) (by omega)
  simp only [laws_szShareS.f, w]
  by_cases h2 : l.length ≤ 1048576
  · rw [if_neg (by omega), if_pos h2]
  · rw [if_pos (by omega), if_neg h2]

/-- The law's shares as the program's. -/
def shareOf (r : S87) : S61 := ⟨r.f0, r.f1⟩
theorem laws_toShareS_ev (l : List S87) (hl : l.length ≤ 1048576) : Ev (fun k => laws_toShareS.f k l) (l.map shareOf) := by
  have key : ∀ (d n : Nat) (x : List S61), n + d = l.length → x.length = l.length → x.take n = (l.map shareOf).take n → Ev (fun k => laws_toShareS.l0 k l x (n : Int)) (l.map shareOf) := by
    intro d
    induction d with
    | zero =>
      intro n x h1 h2 h3
      apply K.Ev.succ
      simp only [laws_toShareS.l0, if_neg (show ¬ ((n : Int) < (l.length : Int)) by omega)]
      have e : x = l.map shareOf := by
        rw [List.take_of_length_le (by omega), List.take_of_length_le (by simp; omega)] at h3; exact h3
      rw [e]; exact Ev.now _
    | succ d ih =>
      intro n x h1 h2 h3
      apply K.Ev.succ
      have hn : n < l.length := by omega
      have hr : rd_T87 l (n : Int) = l[n] := by simp [rd_T87, List.getElem?_eq_getElem hn]
      simp only [laws_toShareS.l0, if_pos (show (n : Int) < (l.length : Int) by omega), if_pos (show (0 : Int) ≤ (n : Int) by omega), laws_toShare.f, Option.bind_some, if_pos (show (n : Int) < (x.length : Int) by omega), Int.toNat_natCast, hr]
      rw [K.w64s n (by omega)]
      refine ih (n + 1) _ (by omega) (by simpa using h2) ?_
      rw [K.take_set _ _ _ (by omega), K.take_succ' (l.map shareOf) n (by simpa using hn), h3]
      simp [shareOf]
  unfold laws_toShareS.f
  simp only [if_pos (show (0 : Int) ≤ (l.length : Int) by omega), Int.toNat_natCast, if_pos (show l.length ≤ 140737488355328 by omega)]
  exact key l.length 0 _ (by omega) (by simp) (by simp)

theorem laws_eqShareS_self (l : List S61) (hl : l.length ≤ 140737488355328) : Ev (fun k => laws_eqShareS.f k l l) true := by
  have key : ∀ (d n : Nat), n + d = l.length → Ev (fun k => laws_eqShareS.l0 k l l (n : Int)) true := by
    intro d
    induction d with
    | zero =>
      intro n h1
      apply K.Ev.succ
      simp only [laws_eqShareS.l0, if_neg (show ¬ ((n : Int) < (l.length : Int)) by omega)]
      exact Ev.now _
    | succ d ih =>
      intro n h1
      apply K.Ev.succ
      simp only [laws_eqShareS.l0, if_pos (show (n : Int) < (l.length : Int) by omega), if_pos (show (0 : Int) ≤ (n : Int) by omega), laws_eqShare.f, if_true, Option.bind_some]
      rw [K.w64s n (by omega)]
      exact ih (n + 1) (by omega)
  unfold laws_eqShareS.f
  simp only [if_true]
  exact key l.length 0 (by omega)

theorem l1Times_ev (a b : Nat) (ha : a < 256) (hb : b < 256) : Ev (fun k => spec_l1Times.f k (a : Int) (b : Int)) ((K.gmul a b : Nat) : Int) := by
  have key : ∀ (n x y o : Nat), x < 256 → o < 256 → y < 2 ^ n → n ≤ 8 → Ev (fun k => spec_l1Times.l0 k (o : Int) (x : Int) (y : Int)) ((K.gstep n x y o : Nat) : Int) := by
    intro n
    induction n with
    | zero =>
      intro x y o hx ho hy _
      obtain rfl : y = 0 := by simpa using hy
      apply K.Ev.succ
      simp only [spec_l1Times.l0, show ¬ (((0 : Nat) : Int) > 0) by omega, if_false, K.gstep]
      exact K.Ev.const (by rw [show (o : Int) % 256 = (o : Int) by omega])
    | succ n ih =>
      intro x y o hx ho hy hn
      by_cases h0 : y = 0
      · subst h0
        apply K.Ev.succ
        rw [K.gstep_zero]
        simp only [spec_l1Times.l0, show ¬ (((0 : Nat) : Int) > 0) by omega, if_false]
        exact K.Ev.const (by rw [show (o : Int) % 256 = (o : Int) by omega])
      have hy2 : y < 512 := Nat.lt_of_lt_of_le hy (by
        have : 2 ^ (n + 1) ≤ 2 ^ 9 := Nat.pow_le_pow_right (by omega) (by omega)
        omega)
      have w : K.Eqn (wrap64 ((x : Int) * 2)) ((2 * x : Nat) : Int) := ⟨by rw [K.w64 (by omega) (by omega)]; omega⟩
      have hx2 : (if ((2 * x : Nat) : Int) > 255 then Go.bits .xor .i64 ((2 * x : Nat) : Int) 283 else ((2 * x : Nat) : Int)) = ((K.xt x : Nat) : Int) := by
        unfold K.xt
        by_cases h : 2 * x > 255
        · rw [if_pos (by omega), if_pos h]
          exact K.xor_i64 (b := 283) (by omega) (by omega)
        · rw [if_neg (by omega), if_neg h]
      have hy' : (y : Int) / 2 = ((y / 2 : Nat) : Int) := by omega
      have hnext := ih (K.xt x) (y / 2) (if y % 2 = 1 then o ^^^ x else o) (K.xt_lt hx) (by
        split
        · exact Nat.xor_lt_two_pow (n := 8) ho hx
        · exact ho) (by rw [Nat.pow_succ] at hy; omega) (by omega)
      apply K.Ev.succ
      simp only [spec_l1Times.l0, if_pos (show (y : Int) > 0 by omega), K.and_i64_1 (show y < 1024 by omega), w.out, K.xor_i64 (show o < 1024 by omega) (show x < 1024 by omega), hy']
      by_cases h1 : y % 2 = 1
      · rw [if_pos h1] at hnext
        simp only [h1, show (((1 : Nat) : Int) = 1) = True by simp, if_true, K.gstep]
        by_cases h2 : ((2 * x : Nat) : Int) > 255
        · rw [if_pos h2] at hx2
          simp only [if_pos h2]
          simp only [hx2]
          exact hnext
        · rw [if_neg h2] at hx2
          simp only [if_neg h2]
          simp only [hx2]
          exact hnext
      · rw [if_neg h1] at hnext
        have h1' : ¬ (((y % 2 : Nat) : Int) = 1) := by omega
        simp only [if_neg h1', K.gstep, if_neg h1]
        by_cases h2 : ((2 * x : Nat) : Int) > 255
        · rw [if_pos h2] at hx2
          simp only [if_pos h2]
          simp only [hx2]
          exact hnext
        · rw [if_neg h2] at hx2
          simp only [if_neg h2]
          simp only [hx2]
          exact hnext
  have wa : K.Eqn (wrap64 (a : Int)) (a : Int) := ⟨K.w64 (by omega) (by omega)⟩
  have wb : K.Eqn (wrap64 (b : Int)) (b : Int) := ⟨K.w64 (by omega) (by omega)⟩
  simp only [spec_l1Times.f, wa.out, wb.out]
  exact key 8 a b 0 ha (by omega) (by omega) (by omega)

theorem l1Power_ev (a n : Nat) (ha : a < 256) (hn : n < 1024) : Ev (fun k => spec_l1Power.f k (a : Int) (n : Int)) ((K.gpow a n : Nat) : Int) := by
  have key : ∀ (n o : Nat), n < 1024 → o < 256 → Ev (fun k => spec_l1Power.l0 k (a : Int) (n : Int) (o : Int)) ((K.gmul o (K.gpow a n) : Nat) : Int) := by
    intro n
    induction n with
    | zero =>
      intro o _ ho
      apply K.Ev.succ
      simp only [spec_l1Power.l0, show ¬ (((0 : Nat) : Int) > 0) by omega, if_false, K.gpow, K.gmul_one ho]
      exact Ev.now _
    | succ n ih =>
      intro o h ho
      have w : K.Eqn (wrap64 (((n + 1 : Nat) : Int) - 1)) (n : Int) := ⟨by rw [K.w64 (by omega) (by omega)]; omega⟩
      have e : K.gmul o (K.gpow a (n + 1)) = K.gmul (K.gmul o a) (K.gpow a n) := by
        rw [K.gmul_assoc ho ha (K.gpow_lt n), K.gmul_comm ha (K.gpow_lt n)]; rfl
      apply K.Ev.succ
      simp only [spec_l1Power.l0, if_pos (show ((n + 1 : Nat) : Int) > 0 by omega), w.out]
      refine Ev.bind (l1Times_ev o a ho ha) ?_
      rw [e]
      exact ih _ (by omega) (K.gmul_lt ho)
  have := key n 1 hn (by omega)
  rw [K.one_gmul (K.gpow_lt n)] at this
  simp only [spec_l1Power.f]
  exact this

theorem l1Inverse_ev (a : Nat) (ha : a < 256) : Ev (fun k => spec_l1Inverse.f k (a : Int)) ((K.ginv a : Nat) : Int) := by
  simp only [spec_l1Inverse.f]
  by_cases h : (a : Int) = 0
  · simp only [if_pos h]
    obtain rfl : a = 0 := by omega
    have : K.ginv 0 = 0 := K.gpow_zero 254 (by omega)
    rw [this]
    exact Ev.now _
  · simp only [if_neg h]
    exact Ev.bind (l1Power_ev a 254 ha (by omega)) (Ev.now _)

theorem areShares_same (l : List S61) (hl : l.length ≤ 1048576) : ∃ b : Bool, Ev (fun k => spec_l7Shares.f k l) b ∧ Ev (fun k => impl_areShares.f k l) b ∧ (b = true → l.length ≤ 20) := by
  have key : ∀ (d n : Nat), n + d = l.length → ∃ b : Bool, Ev (fun k => spec_l7Shares.l0 k l l (l.length : Int) (n : Int)) b ∧ Ev (fun k => impl_areShares.l0 k l l (l.length : Int) (n : Int)) b ∧ (b = true → l.length ≤ 20) := by
    intro d
    induction d with
    | zero =>
      intro n h1
      refine ⟨decide ((l.length : Int) ≤ 20), ?_, ?_, fun h => by simp at h; omega⟩ <;> apply K.Ev.succ
      · simp only [spec_l7Shares.l0, if_neg (show ¬ ((n : Int) < (l.length : Int)) by omega)]; exact Ev.now _
      · simp only [impl_areShares.l0, if_neg (show ¬ ((n : Int) < (l.length : Int)) by omega)]; exact Ev.now _
    | succ d ih =>
      intro n h1
      have c1 : (n : Int) < (l.length : Int) := by omega
      have c2 : 0 ≤ (n : Int) := by omega
      have ws := K.w64s n (show n < 9223372036854775807 by omega)
      obtain ⟨b, i1, i2, i3⟩ := ih (n + 1) (by omega)
      by_cases h0 : (rd_T61 l (n : Int)).f0 = 0
      · refine ⟨false, ?_, ?_, fun h => by cases h⟩ <;> apply K.Ev.succ
        · simp only [spec_l7Shares.l0, if_pos c1, if_pos c2, if_pos h0]; exact Ev.now _
        · simp only [impl_areShares.l0, if_pos c1, if_pos c2, if_pos h0]; exact Ev.now _
      by_cases hn : (n : Int) > 0
      · have w : wrap64 ((n : Int) - 1) = (n : Int) - 1 := K.w64 (by omega) (by omega)
        have c3 : 0 ≤ (n : Int) - 1 := by omega
        have c4 : (n : Int) - 1 < (l.length : Int) := by omega
        by_cases hc : (rd_T61 l ((n : Int) - 1)).f0 ≥ (rd_T61 l (n : Int)).f0
        · have hc' : (rd_T61 l (n : Int)).f0 ≤ (rd_T61 l ((n : Int) - 1)).f0 := hc
          refine ⟨false, ?_, ?_, fun h => by cases h⟩ <;> apply K.Ev.succ
          · simp only [spec_l7Shares.l0, if_pos c1, if_pos c2, if_neg h0, if_pos hn, w, if_pos c3, if_pos c4, if_pos hc]; exact Ev.now _
          · simp only [impl_areShares.l0, if_pos c1, if_pos c2, if_neg h0, if_pos hn, w, if_pos c3, if_pos c4, if_pos hc']; exact Ev.now _
        · have hc' : ¬ (rd_T61 l (n : Int)).f0 ≤ (rd_T61 l ((n : Int) - 1)).f0 := hc
          refine ⟨b, ?_, ?_, i3⟩ <;> apply K.Ev.succ
          · simp only [spec_l7Shares.l0, if_pos c1, if_pos c2, if_neg h0, if_pos hn, w, if_pos c3, if_pos c4, if_neg hc, ws]; exact i1
          · simp only [impl_areShares.l0, if_pos c1, if_pos c2, if_neg h0, if_pos hn, w, if_pos c3, if_pos c4, if_neg hc', ws]; exact i2
      · refine ⟨b, ?_, ?_, i3⟩ <;> apply K.Ev.succ
        · simp only [spec_l7Shares.l0, if_pos c1, if_pos c2, if_neg h0, if_neg hn, ws]; exact i1
        · simp only [impl_areShares.l0, if_pos c1, if_pos c2, if_neg h0, if_neg hn, ws]; exact i2
  obtain ⟨b, i1, i2, i3⟩ := key l.length 0 (by omega)
  exact ⟨b, by simp only [spec_l7Shares.f]; exact i1, by simp only [impl_areShares.f]; exact i2, i3⟩
/-- Shares of pairs of bytes. -/
def shl (m : List (Nat × Nat)) : List S61 := m.map (fun p => ⟨(p.1 : Int), (p.2 : Int)⟩)
theorem shl_of (l : List S87) (h : ∀ x ∈ l, (Lit.int .u8 x.f0).wf = true ∧ (Lit.int .u8 x.f1).wf = true) : ∃ m : List (Nat × Nat), l.map shareOf = shl m ∧ m.length = l.length ∧ ∀ p ∈ m, p.1 < 256 ∧ p.2 < 256 := by
  refine ⟨l.map (fun x => (x.f0.toNat, x.f1.toNat)), ?_, by simp, ?_⟩
  · simp only [shl, List.map_map]
    refine List.map_congr_left fun x hx => ?_
    have h1 := K.b_u8 (h x hx).1
    have h2 := K.b_u8 (h x hx).2
    simp only [Function.comp_apply, shareOf]
    congr 1 <;> omega
  · intro p hp
    obtain ⟨x, hx, rfl⟩ := List.mem_map.1 hp
    have h1 := K.b_u8 (h x hx).1
    have h2 := K.b_u8 (h x hx).2
    constructor <;> simp only <;> omega
theorem shl_length (m : List (Nat × Nat)) : (shl m).length = m.length := by simp [shl]
theorem rd_shl {m : List (Nat × Nat)} {n : Nat} (h : n < m.length) : rd_T61 (shl m) (n : Int) = ⟨((m[n].1 : Nat) : Int), ((m[n].2 : Nat) : Int)⟩ := by
  simp [rd_T61, shl, List.getElem?_eq_getElem h]
theorem shl_snoc (m : List (Nat × Nat)) (a b : Nat) : shl m ++ [⟨(a : Int), (b : Int)⟩] = shl (m ++ [(a, b)]) := by simp [shl]

theorem Times_ev (a b : Nat) (ha : a < 256) (hb : b < 256) : Ev (fun k => impl_Times.f k (a : Int) (b : Int)) ((K.gmul a b : Nat) : Int) := by
  have key : ∀ (n j x o : Nat), j + n = 8 → x < 256 → o < 256 → Ev (fun k => impl_Times.l0 k (b : Int) (o : Int) (j : Int) (x : Int)) ((K.gstep n x (b / 2 ^ j) o : Nat) : Int) := by
    intro n
    induction n with
    | zero =>
      intro j x o hj hx ho
      apply K.Ev.succ
      simp only [impl_Times.l0, if_neg (show ¬ ((j : Int) < 8) by omega), K.gstep]
      exact K.Ev.const (by rw [show (o : Int) % 256 = (o : Int) by omega])
    | succ n ih =>
      intro j x o hj hx ho
      have w : K.Eqn (wrap64 ((x : Int) * 2)) ((2 * x : Nat) : Int) := ⟨by rw [K.w64 (by omega) (by omega)]; omega⟩
      have hx2 : (if ((2 * x : Nat) : Int) > 255 then Go.bits .xor .i64 ((2 * x : Nat) : Int) 283 else ((2 * x : Nat) : Int)) = ((K.xt x : Nat) : Int) := by
        unfold K.xt
        by_cases h : 2 * x > 255
        · rw [if_pos (by omega), if_pos h]
          exact K.xor_i64 (b := 283) (by omega) (by omega)
        · rw [if_neg (by omega), if_neg h]
      have hs : shr .u8 (b : Int) (j : Int) = ((b / 2 ^ j : Nat) : Int) := K.shr_u8 b j (by omega)
      have hbj : b / 2 ^ j < 256 := Nat.lt_of_le_of_lt (Nat.div_le_self _ _) hb
      have hnext := ih (j + 1) (K.xt x) (if (b / 2 ^ j) % 2 = 1 then o ^^^ x else o) (by omega) (K.xt_lt hx) (by
        split
        · exact Nat.xor_lt_two_pow (n := 8) ho hx
        · exact ho)
      rw [Nat.pow_succ, ← Nat.div_div_eq_div_mul] at hnext
      apply K.Ev.succ
      simp only [impl_Times.l0, if_pos (show (j : Int) < 8 by omega), if_pos (show 0 ≤ (j : Int) by omega), hs, K.and_u8_1 hbj, w.out, K.xor_i64 (show o < 1024 by omega) (show x < 1024 by omega), K.w64s j (show j < 9223372036854775807 by omega)]
      by_cases h1 : (b / 2 ^ j) % 2 = 1
      · rw [if_pos h1] at hnext
        simp only [h1, show (((1 : Nat) : Int) = 1) = True by simp, if_true, K.gstep]
        by_cases h2 : ((2 * x : Nat) : Int) > 255
        · rw [if_pos h2] at hx2
          simp only [if_pos h2]
          simp only [hx2]
          exact hnext
        · rw [if_neg h2] at hx2
          simp only [if_neg h2]
          simp only [hx2]
          exact hnext
      · rw [if_neg h1] at hnext
        have h1' : ¬ (((b / 2 ^ j % 2 : Nat) : Int) = 1) := by omega
        simp only [if_neg h1', K.gstep, if_neg h1]
        by_cases h2 : ((2 * x : Nat) : Int) > 255
        · rw [if_pos h2] at hx2
          simp only [if_pos h2]
          simp only [hx2]
          exact hnext
        · rw [if_neg h2] at hx2
          simp only [if_neg h2]
          simp only [hx2]
          exact hnext
  have wa : K.Eqn (wrap64 (a : Int)) (a : Int) := ⟨K.w64 (by omega) (by omega)⟩
  simp only [impl_Times.f, wa.out]
  have := key 8 0 a 0 (by omega) ha (by omega)
  rw [Nat.pow_zero, Nat.div_one] at this
  exact this

theorem power_ev (a n : Nat) (ha : a < 256) (hn : n < 1024) : Ev (fun k => impl_power.f k (a : Int) (n : Int)) ((K.gpow a n : Nat) : Int) := by
  have key : ∀ (d n a o : Nat), n ≤ d → n < 1024 → a < 256 → o < 256 → Ev (fun k => impl_power.l0 k (a : Int) (n : Int) (o : Int)) ((K.gmul o (K.gpow a n) : Nat) : Int) := by
    intro d
    induction d with
    | zero =>
      intro n a o hd _ ha ho
      obtain rfl : n = 0 := by omega
      apply K.Ev.succ
      simp only [impl_power.l0, show ¬ (((0 : Nat) : Int) > 0) by omega, if_false, K.gpow, K.gmul_one ho]
      exact Ev.now _
    | succ d ih =>
      intro n a o hd hn ha ho
      by_cases h0 : n = 0
      · subst h0
        apply K.Ev.succ
        simp only [impl_power.l0, show ¬ (((0 : Nat) : Int) > 0) by omega, if_false, K.gpow, K.gmul_one ho]
        exact Ev.now _
      have hh : (n : Int) / 2 = ((n / 2 : Nat) : Int) := by omega
      apply K.Ev.succ
      simp only [impl_power.l0, if_pos (show (n : Int) > 0 by omega), K.and_i64_1 hn, hh]
      by_cases h1 : n % 2 = 1
      · simp only [if_pos (show ((n % 2 : Nat) : Int) = 1 by omega)]
        refine Ev.bind (Times_ev o a ho ha) ?_
        refine Ev.bind (Times_ev a a ha ha) ?_
        have e : K.gmul o (K.gpow a n) = K.gmul (K.gmul o a) (K.gpow (K.gmul a a) (n / 2)) := by
          rw [K.gpow_sq ha, K.gmul_assoc ho ha (K.gpow_lt _), K.gmul_comm ha (K.gpow_lt _)]
          have h : n = (n / 2 + n / 2) + 1 := by omega
          rw [show K.gpow a n = K.gpow a ((n / 2 + n / 2) + 1) by rw [← h]]
          rfl
        rw [e]
        exact ih _ _ _ (by omega) (by omega) (K.gmul_lt ha) (K.gmul_lt ho)
      · simp only [if_neg (show ¬ ((n % 2 : Nat) : Int) = 1 by omega)]
        refine Ev.bind (Times_ev a a ha ha) ?_
        have e : K.gmul o (K.gpow a n) = K.gmul o (K.gpow (K.gmul a a) (n / 2)) := by
          rw [K.gpow_sq ha]
          have h : n = (n / 2 + n / 2) := by omega
          rw [show K.gpow a n = K.gpow a (n / 2 + n / 2) by rw [← h]]
        rw [e]
        exact ih _ _ _ (by omega) (by omega) (K.gmul_lt ha) ho
  have := key n n a 1 (by omega) hn ha (by omega)
  rw [K.one_gmul (K.gpow_lt n)] at this
  simp only [impl_power.f]
  exact this

theorem Inverse_ev (a : Nat) (ha : a < 256) : Ev (fun k => impl_Inverse.f k (a : Int)) ((K.ginv a : Nat) : Int) := by
  simp only [impl_Inverse.f]
  exact Ev.bind (power_ev a 254 ha (by omega)) (Ev.now _)

theorem through_same (m : List (Nat × Nat)) (hm : ∀ p ∈ m, p.1 < 256 ∧ p.2 < 256) (hl : m.length ≤ 20) (v : Nat) (hv : v < 256) : ∃ r : Nat, r < 256 ∧ Ev (fun k => spec_l7Through.f k (shl m) (v : Int)) (r : Int) ∧ Ev (fun k => impl_interpolated.f k (shl m) (v : Int)) (r : Int) := by
  have key : ∀ (d n o : Nat), n + d = m.length → o < 256 → ∃ r : Nat, r < 256 ∧ Ev (fun k => spec_l7Through.l0 k (shl m) (v : Int) (o : Int) (shl m) (m.length : Int) (n : Int)) (r : Int) ∧ Ev (fun k => impl_interpolated.l0 k (shl m) (v : Int) (o : Int) (shl m) (m.length : Int) (n : Int)) (r : Int) := by
    intro d
    induction d with
    | zero =>
      intro n o h1 ho
      refine ⟨o, ho, ?_, ?_⟩ <;> apply K.Ev.succ
      · simp only [spec_l7Through.l0, if_neg (show ¬ ((n : Int) < (m.length : Int)) by omega)]; exact Ev.now _
      · simp only [impl_interpolated.l0, if_neg (show ¬ ((n : Int) < (m.length : Int)) by omega)]; exact Ev.now _
    | succ d ih =>
      intro n o h1 ho
      have hn : n < m.length := by omega
      have hp := hm m[n] (List.getElem_mem hn)
      have c1 : (n : Int) < (m.length : Int) := by omega
      have c2 : 0 ≤ (n : Int) := by omega
      have ws := K.w64s n (show n < 9223372036854775807 by omega)
      have inner : ∀ (e j p q : Nat), j + e = m.length → p < 256 → q < 256 → ∃ r : Nat, r < 256 ∧ Ev (fun k => spec_l7Through.l1 k (shl m) (v : Int) (o : Int) (n : Int) (p : Int) (q : Int) (shl m) (m.length : Int) (n : Int) (shl m) (m.length : Int) (j : Int) ((m[n].1 : Nat) : Int) ((m[n].2 : Nat) : Int)) (r : Int) ∧ Ev (fun k => impl_interpolated.l1 k (shl m) (v : Int) (o : Int) (n : Int) ((K.gmul m[n].2 (K.gmul p (K.ginv q)) : Nat) : Int) (shl m) (m.length : Int) (n : Int) (shl m) (m.length : Int) (j : Int) ((m[n].1 : Nat) : Int) ((m[n].2 : Nat) : Int)) (r : Int) := by
        intro e
        induction e with
        | zero =>
          intro j p q g1 gp gq
          have hx : K.gmul m[n].2 (K.gmul p (K.ginv q)) < 256 := K.gmul_lt hp.2
          obtain ⟨r, r0, r1, r2⟩ := ih (n + 1) (o ^^^ K.gmul m[n].2 (K.gmul p (K.ginv q))) (by omega) (K.xlt ho hx)
          refine ⟨r, r0, ?_, ?_⟩ <;> apply K.Ev.succ
          · simp only [spec_l7Through.l1, if_neg (show ¬ ((j : Int) < (m.length : Int)) by omega)]
            refine Ev.bind (l1Inverse_ev q gq) ?_
            refine Ev.bind (l1Times_ev _ _ gp (K.ginv_lt q)) ?_
            refine Ev.bind (l1Times_ev _ _ hp.2 (K.gmul_lt gp)) ?_
            simp only [K.xor_u8 ho hx, ws]
            exact r1
          · simp only [impl_interpolated.l1, if_neg (show ¬ ((j : Int) < (m.length : Int)) by omega), K.xor_u8 ho hx, ws]
            exact r2
        | succ e ihe =>
          intro j p q g1 gp gq
          have hj : j < m.length := by omega
          have hq := hm m[j] (List.getElem_mem hj)
          have b1 : (j : Int) < (m.length : Int) := by omega
          have b2 : 0 ≤ (j : Int) := by omega
          have wj := K.w64s j (show j < 9223372036854775807 by omega)
          by_cases hjn : (j : Int) = (n : Int)
          · obtain ⟨r, r0, r1, r2⟩ := ihe (j + 1) p q (by omega) gp gq
            refine ⟨r, r0, ?_, ?_⟩ <;> apply K.Ev.succ
            · simp only [spec_l7Through.l1, shl_length, if_pos b1, if_pos b2, if_pos hjn, wj]; exact r1
            · simp only [impl_interpolated.l1, shl_length, if_pos b1, if_pos b2, if_pos hjn, wj]; exact r2
          · have ha : v ^^^ m[j].1 < 256 := K.xlt hv hq.1
            have hb : m[n].1 ^^^ m[j].1 < 256 := K.xlt hp.1 hq.1
            obtain ⟨r, r0, r1, r2⟩ := ihe (j + 1) (K.gmul p (v ^^^ m[j].1)) (K.gmul q (m[n].1 ^^^ m[j].1)) (by omega) (K.gmul_lt gp) (K.gmul_lt gq)
            have hi := K.ginv_lt q
            have hbi := K.ginv_lt (m[n].1 ^^^ m[j].1)
            have eq : K.gmul (K.gmul m[n].2 (K.gmul p (K.ginv q))) (K.gmul (v ^^^ m[j].1) (K.ginv (m[n].1 ^^^ m[j].1))) = K.gmul m[n].2 (K.gmul (K.gmul p (v ^^^ m[j].1)) (K.ginv (K.gmul q (m[n].1 ^^^ m[j].1)))) := by
              rw [K.ginv_gmul gq hb, K.gmul_assoc hp.2 (K.gmul_lt gp) (K.gmul_lt ha), K.swap4 gp hi ha hbi]
            rw [← eq] at r2
            refine ⟨r, r0, ?_, ?_⟩ <;> apply K.Ev.succ
            · simp only [spec_l7Through.l1, shl_length, if_pos b1, if_pos b2, if_neg hjn, wj, rd_shl hj, K.xor_u8 hv hq.1, K.xor_u8 hp.1 hq.1]
              refine Ev.bind (l1Times_ev _ _ gp ha) ?_
              refine Ev.bind (l1Times_ev _ _ gq hb) ?_
              exact r1
            · simp only [impl_interpolated.l1, shl_length, if_pos b1, if_pos b2, if_neg hjn, wj, rd_shl hj, K.xor_u8 hv hq.1, K.xor_u8 hp.1 hq.1]
              refine Ev.bind (Inverse_ev _ hb) ?_
              refine Ev.bind (Times_ev _ _ ha hbi) ?_
              refine Ev.bind (Times_ev _ _ (K.gmul_lt hp.2) (K.gmul_lt ha)) ?_
              exact r2
      obtain ⟨r, r0, r1, r2⟩ := inner m.length 0 1 1 (by omega) (by omega) (by omega)
      have e1 : K.gmul m[n].2 (K.gmul 1 (K.ginv 1)) = m[n].2 := by
        have : K.ginv 1 = 1 := K.gpow_one 254
        rw [this, K.gmul_one (by omega), K.gmul_one hp.2]
      rw [e1] at r2
      refine ⟨r, r0, ?_, ?_⟩ <;> apply K.Ev.succ
      · simp only [spec_l7Through.l0, shl_length, if_pos c1, if_pos c2, rd_shl hn]; exact r1
      · simp only [impl_interpolated.l0, shl_length, if_pos c1, if_pos c2, rd_shl hn]; exact r2
  obtain ⟨r, r0, r1, r2⟩ := key m.length 0 0 (by omega) (by omega)
  exact ⟨r, r0, by simp only [spec_l7Through.f, shl_length]; exact r1, by simp only [impl_interpolated.f, shl_length]; exact r2⟩

theorem shl_cons (p : Nat × Nat) (m : List (Nat × Nat)) : shl (p :: m) = ⟨(p.1 : Int), (p.2 : Int)⟩ :: shl m := rfl
theorem shl_drop (m : List (Nat × Nat)) (n : Nat) : (shl m).drop n = shl (m.drop n) := by simp [shl, List.map_drop]
theorem shl_take (m : List (Nat × Nat)) (n : Nat) : (shl m).take n = shl (m.take n) := by simp [shl, List.map_take]
theorem rest_same (m : List (Nat × Nat)) (hm : ∀ p ∈ m, p.1 < 256 ∧ p.2 < 256) (hl : m.length ≤ 20) (n : Nat) (hn : n ≤ m.length) : ∀ (d i : Nat), i + d = m.length → n ≤ i → ∃ b : Bool, Ev (fun k => spec_IsShared.l0 k (shl m) (n : Int) (shl m) (m.length : Int) (i : Int)) (b, true) ∧ Ev (fun k => impl_IsShared.anyQ (fun x => impl_IsShared_fn1.f k x.f0 x.f1 (shl m) (n : Int)) (shl (m.drop i))) (!b) := by
  intro d
  induction d with
  | zero =>
    intro i h1 h2
    refine ⟨true, ?_, ?_⟩
    · apply K.Ev.succ
      simp only [spec_IsShared.l0, if_neg (show ¬ ((i : Int) < (m.length : Int)) by omega)]; exact Ev.now _
    · rw [List.drop_of_length_le (by omega)]
      exact Ev.now _
  | succ d ih =>
    intro i h1 h2
    have hi : i < m.length := by omega
    have hp := hm m[i] (List.getElem_mem hi)
    obtain ⟨r, r0, r1, r2⟩ := through_same (m.take n) (fun p hq => hm p (List.mem_of_mem_take hq)) (by rw [List.length_take]; omega) m[i].1 hp.1
    obtain ⟨b, i1, i2⟩ := ih (i + 1) (by omega) (by omega)
    have c1 : (i : Int) < (m.length : Int) := by omega
    have c2 : 0 ≤ (i : Int) := by omega
    have c3 : (i : Int) ≥ (n : Int) := by omega
    have c4 : 0 ≤ (n : Int) := by omega
    have c5 : (n : Int) ≤ (m.length : Int) := by omega
    have ws := K.w64s i (show i < 9223372036854775807 by omega)
    have hf : Ev (fun k => impl_IsShared_fn1.f k ((m[i].1 : Nat) : Int) ((m[i].2 : Nat) : Int) (shl m) (n : Int)) ((r : Int) != ((m[i].2 : Nat) : Int)) := by
      simp only [impl_IsShared_fn1.f, shl_length, if_pos c4, if_pos c5, Int.toNat_natCast, shl_take]
      exact Ev.bind r2 (Ev.now _)
    by_cases hr : (r : Int) = ((m[i].2 : Nat) : Int)
    · refine ⟨b, ?_, ?_⟩
      · apply K.Ev.succ
        simp only [spec_IsShared.l0, shl_length, if_pos c1, if_pos c2, if_pos c3, if_pos c4, if_pos c5, rd_shl hi, Int.toNat_natCast, shl_take, ws]
        refine Ev.bind r1 ?_
        simp only [if_pos hr]
        exact i1
      · rw [List.drop_eq_getElem_cons hi, shl_cons]
        simp only [impl_IsShared.anyQ]
        refine Ev.bind hf ?_
        rw [hr]
        simp only [bne_self_eq_false, Bool.false_eq_true, if_false]
        exact i2
    · refine ⟨false, ?_, ?_⟩
      · apply K.Ev.succ
        simp only [spec_IsShared.l0, shl_length, if_pos c1, if_pos c2, if_pos c3, if_pos c4, if_pos c5, rd_shl hi, Int.toNat_natCast, shl_take, ws]
        refine Ev.bind r1 ?_
        simp only [if_neg hr]
        exact Ev.now _
      · rw [List.drop_eq_getElem_cons hi, shl_cons]
        simp only [impl_IsShared.anyQ]
        refine Ev.bind hf ?_
        have hb : ((r : Int) != ((m[i].2 : Nat) : Int)) = true := by simpa using hr
        simp only [hb, if_true]
        exact Ev.now _
theorem skip_spec (m : List (Nat × Nat)) (hl : m.length ≤ 20) (n : Nat) (x : Bool × Bool) (e : Nat) (he : e ≤ m.length) (hen : e ≤ n) (hx : Ev (fun k => spec_IsShared.l0 k (shl m) (n : Int) (shl m) (m.length : Int) (e : Int)) x) : ∀ (d i : Nat), i + d = e → Ev (fun k => spec_IsShared.l0 k (shl m) (n : Int) (shl m) (m.length : Int) (i : Int)) x := by
  intro d
  induction d with
  | zero =>
    intro i h1
    obtain rfl : i = e := by omega
    exact hx
  | succ d ih =>
    intro i h1
    apply K.Ev.succ
    simp only [spec_IsShared.l0, shl_length, if_pos (show (i : Int) < (m.length : Int) by omega), if_pos (show 0 ≤ (i : Int) by omega), if_neg (show ¬ ((i : Int) ≥ (n : Int)) by omega), K.w64s i (show i < 9223372036854775807 by omega)]
    exact ih (i + 1) (by omega)
theorem shared_eq (m : List (Nat × Nat)) (hm : ∀ p ∈ m, p.1 < 256 ∧ p.2 < 256) (hl : m.length ≤ 1048576) (a : Int) : ∃ r : Bool × Bool, Ev (fun k => spec_IsShared.f k (shl m) a) r ∧ Ev (fun k => impl_IsShared.f k (shl m) a) r := by
  have bad : Ev (fun k => spec_IsShared.j0 k (shl m) a true) (false, false) ∧ Ev (fun k => impl_IsShared.j0 k (shl m) a true) (false, false) := by
    constructor <;> apply K.Ev.succ
    · simp only [spec_IsShared.j0, if_true]; exact Ev.now _
    · simp only [impl_IsShared.j0, if_true]; exact Ev.now _
  obtain ⟨b, i1, i2, i3⟩ := areShares_same (shl m) (by rw [shl_length]; exact hl)
  cases b with
  | false =>
    refine ⟨(false, false), ?_, ?_⟩
    · simp only [spec_IsShared.f]; refine Ev.bind i1 ?_; simp only [Bool.false_eq_true, if_false]; exact bad.1
    · simp only [impl_IsShared.f]; refine Ev.bind i2 ?_; simp only [Bool.false_eq_true, if_false]; exact bad.2
  | true =>
    have h20 := i3 rfl
    rw [shl_length] at h20
    by_cases h : 1 ≤ a ∧ a ≤ 20
    case neg =>
      have q : spec_l1In.f a 1 20 = some false := by
        unfold spec_l1In.f; split
        · simp; omega
        · rfl
      have q2 : impl_within.f a 1 20 = some false := q
      refine ⟨(false, false), ?_, ?_⟩
      · simp only [spec_IsShared.f]; refine Ev.bind i1 ?_; simp only [if_true, q, Option.bind_some, Bool.not_false]; exact bad.1
      · simp only [impl_IsShared.f]; refine Ev.bind i2 ?_; simp only [if_true, q2, Option.bind_some, Bool.not_false]; exact bad.2
    have q : spec_l1In.f a 1 20 = some true := by unfold spec_l1In.f; rw [if_pos h.1]; simp [h.2]
    have q2 : impl_within.f a 1 20 = some true := q
    obtain ⟨n, rfl⟩ := Int.eq_ofNat_of_zero_le (show 0 ≤ a by omega)
    have fin : ∃ r : Bool × Bool, Ev (fun k => spec_IsShared.l0 k (shl m) (n : Int) (shl m) (m.length : Int) 0) r ∧ Ev (fun k => impl_IsShared.j0 k (shl m) (n : Int) false) r := by
      by_cases hn : (m.length : Int) ≤ (n : Int)
      · refine ⟨(true, true), ?_, ?_⟩
        · refine skip_spec m h20 n (true, true) m.length (Nat.le_refl _) (by omega) ?_ m.length 0 (by omega)
          apply K.Ev.succ
          simp only [spec_IsShared.l0, if_neg (show ¬ ((m.length : Int) < (m.length : Int)) by omega)]; exact Ev.now _
        · apply K.Ev.succ
          simp only [impl_IsShared.j0, Bool.false_eq_true, if_false, shl_length, if_pos hn]; exact Ev.now _
      · obtain ⟨b, b1, b2⟩ := rest_same m hm h20 n (by omega) (m.length - n) n (by omega) (Nat.le_refl _)
        refine ⟨(b, true), skip_spec m h20 n (b, true) n (by omega) (Nat.le_refl _) b1 n 0 (by omega), ?_⟩
        apply K.Ev.succ
        simp only [impl_IsShared.j0, Bool.false_eq_true, if_false, shl_length, if_neg hn, if_pos (show 0 ≤ (n : Int) by omega), if_pos (show (n : Int) ≤ (m.length : Int) by omega), Int.toNat_natCast, shl_drop, slices_ContainsFunc_impl_Share_impl_Share.f]
        refine Ev.bind b2 ?_
        simp only [Bool.not_not]
        exact Ev.now _
    obtain ⟨r, f1, f2⟩ := fin
    refine ⟨r, ?_, ?_⟩
    · simp only [spec_IsShared.f]; refine Ev.bind i1 ?_; simp only [if_true, q, Option.bind_some, Bool.not_true]
      apply K.Ev.succ
      simp only [spec_IsShared.j0, Bool.false_eq_true, if_false, shl_length]; exact f1
    · simp only [impl_IsShared.f]; refine Ev.bind i2 ?_; simp only [if_true, q2, Option.bind_some, Bool.not_true]; exact f2
theorem FnExactIsShared : ∀ (l : List S87) (a : Int), l.length ≤ maxLen → (∀ x ∈ l, (Lit.int .u8 x.f0).wf = true ∧ (Lit.int .u8 x.f1).wf = true) → (Lit.int .i64 a).wf = true → ∃ k, laws_FnExactIsShared.f k l a = some true := by
  intro l a hl hw _
  refine Ev.rounds (?_ : Ev (fun k => laws_FnExactIsShared.f k l a) true)
  unfold laws_FnExactIsShared.f
  rw [szShareS_eq l hl]
  simp only [Option.bind_some]
  by_cases h : l.length ≤ 1048576
  · simp only [if_pos h, if_neg (show ¬ (1048576 - (l.length : Int) < 0) by omega)]
    obtain ⟨m, hm, hml, hmb⟩ := shl_of l hw
    have ht := laws_toShareS_ev l h
    rw [hm] at ht
    have hsl : (shl m).length ≤ 1048576 := by rw [shl_length, hml]; exact h
    obtain ⟨r, e1, e2⟩ := shared_eq m hmb (by omega) a
    refine Ev.bind ht ?_
    refine Ev.bind e1 ?_
    refine Ev.bind ht ?_
    refine Ev.bind e2 ?_
    simp only [bne_self_eq_false, Bool.false_eq_true, if_false]
    apply K.Ev.succ
    simp only [laws_FnExactIsShared.j0, Bool.false_eq_true, if_false]
    refine Ev.bind ht ?_
    refine Ev.bind (laws_eqShareS_self _ (by omega)) ?_
    simp only [if_true]
    exact Ev.now _
  · simp only [if_neg h, if_pos (show (-1 : Int) < 0 by omega)]
    exact Ev.now _

end Go.Proofs.Ytekaaoeojbclfaa.Pure
