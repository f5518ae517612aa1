/- The law FnShamir answers true for all drawn secrets: any k shares of a secret open it, all shares are shared, and the values of polynomials and of interpolations are the reference's. -/
import Derived.Test.YtekaaoeojbclfaaPFnShamirx8
import Derived.Test.YtekaaoeojbclfaaKKit
import Derived.Test.YtekaaoeojbclfaaKGF
import Derived.Test.YtekaaoeojbclfaaKGFL
import Derived.Test.YtekaaoeojbclfaaKLag
set_option linter.unusedVariables false
set_option linter.unusedSimpArgs false
namespace Go.Proofs.Ytekaaoeojbclfaa.Pure
open Go Go.RowKit Go.Proofs.Ytekaaoeojbclfaa Go.Proofs.Ytekaaoeojbclfaa.PFnShamir Go.Proofs.YtekaaoeojbclfaaW.PrintWords Go.Proofs.YtekaaoeojbclfaaW.PrintLast Go.Proofs.YtekaaoeojbclfaaW.PrintMore

theorem areShares_same (l : List S61) (hl : l.length ≤ 1048576) : ∃ b : Bool, Ev (fun k => spec_l7Shares.f k l) b ∧ Ev (fun k => impl_areShares.f k l) b ∧ (b = true → l.length ≤ 20) := by
  have key : ∀ (d n : Nat), n + d = l.length → ∃ b : Bool, Ev (fun k => spec_l7Shares.l0 k l l (l.length : Int) (n : Int)) b ∧ Ev (fun k => impl_areShares.l0 k l l (l.length : Int) (n : Int)) b ∧ (b = true → l.length ≤ 20) := by
    intro d
    induction d with
    | zero =>
      intro n h1
      refine ⟨decide ((l.length : Int) ≤ 20), ?_, ?_, fun h => by simp at h; omega⟩ <;> apply K.Ev.succ
      · simp only [spec_l7Shares.l0, if_neg (show ¬ ((n : Int) < (l.length : Int)) by omega)]; exact Ev.now _
      · simp only [impl_areShares.l0, if_neg (show ¬ ((n : Int) < (l.length : Int)) by omega)]; exact Ev.now _
    | succ d ih =>
      intro n h1
      have c1 : (n : Int) < (l.length : Int) := by omega
      have c2 : 0 ≤ (n : Int) := by omega
      have ws := K.w64s n (show n < 9223372036854775807 by omega)
      obtain ⟨b, i1, i2, i3⟩ := ih (n + 1) (by omega)
      by_cases h0 : (rd_T61 l (n : Int)).f0 = 0
      · refine ⟨false, ?_, ?_, fun h => by cases h⟩ <;> apply K.Ev.succ
        · simp only [spec_l7Shares.l0, if_pos c1, if_pos c2, if_pos h0]; exact Ev.now _
        · simp only [impl_areShares.l0, if_pos c1, if_pos c2, if_pos h0]; exact Ev.now _
      by_cases hn : (n : Int) > 0
      · have w : wrap64 ((n : Int) - 1) = (n : Int) - 1 := K.w64 (by omega) (by omega)
        have c3 : 0 ≤ (n : Int) - 1 := by omega
        have c4 : (n : Int) - 1 < (l.length : Int) := by omega
        by_cases hc : (rd_T61 l ((n : Int) - 1)).f0 ≥ (rd_T61 l (n : Int)).f0
        · have hc' : (rd_T61 l (n : Int)).f0 ≤ (rd_T61 l ((n : Int) - 1)).f0 := hc
          refine ⟨false, ?_, ?_, fun h => by cases h⟩ <;> apply K.Ev.succ
          · simp only [spec_l7Shares.l0, if_pos c1, if_pos c2, if_neg h0, if_pos hn, w, if_pos c3, if_pos c4, if_pos hc]; exact Ev.now _
          · simp only [impl_areShares.l0, if_pos c1, if_pos c2, if_neg h0, if_pos hn, w, if_pos c3, if_pos c4, if_pos hc']; exact Ev.now _
        · have hc' : ¬ (rd_T61 l (n : Int)).f0 ≤ (rd_T61 l ((n : Int) - 1)).f0 := hc
          refine ⟨b, ?_, ?_, i3⟩ <;> apply K.Ev.succ
          · simp only [spec_l7Shares.l0, if_pos c1, if_pos c2, if_neg h0, if_pos hn, w, if_pos c3, if_pos c4, if_neg hc, ws]; exact i1
          · simp only [impl_areShares.l0, if_pos c1, if_pos c2, if_neg h0, if_pos hn, w, if_pos c3, if_pos c4, if_neg hc', ws]; exact i2
      · refine ⟨b, ?_, ?_, i3⟩ <;> apply K.Ev.succ
        · simp only [spec_l7Shares.l0, if_pos c1, if_pos c2, if_neg h0, if_neg hn, ws]; exact i1
        · simp only [impl_areShares.l0, if_pos c1, if_pos c2, if_neg h0, if_neg hn, ws]; exact i2
  obtain ⟨b, i1, i2, i3⟩ := key l.length 0 (by omega)
  exact ⟨b, by simp only [spec_l7Shares.f]; exact i1, by simp only [impl_areShares.f]; exact i2, i3⟩
/-- Shares of pairs of bytes. -/
def shl (m : List (Nat × Nat)) : List S61 := m.map (fun p => ⟨(p.1 : Int), (p.2 : Int)⟩)
theorem shl_length (m : List (Nat × Nat)) : (shl m).length = m.length := by simp [shl]
theorem rd_shl {m : List (Nat × Nat)} {n : Nat} (h : n < m.length) : rd_T61 (shl m) (n : Int) = ⟨((m[n].1 : Nat) : Int), ((m[n].2 : Nat) : Int)⟩ := by
  simp [rd_T61, shl, List.getElem?_eq_getElem h]
theorem shl_snoc (m : List (Nat × Nat)) (a b : Nat) : shl m ++ [⟨(a : Int), (b : Int)⟩] = shl (m ++ [(a, b)]) := by simp [shl]
/-- Valid shares. -/
structure GoodShares (m : List (Nat × Nat)) : Prop where
  len : m.length ≤ 20
  nz : ∀ p ∈ m, p.1 ≠ 0
  up : (m.map Prod.fst).Pairwise (· < ·)
theorem goodShares_iff (m : List (Nat × Nat)) : GoodShares m ↔ m.length ≤ 20 ∧ ∀ i (hi : i < m.length), m[i].1 ≠ 0 ∧ (0 < i → (m[i - 1]'(by omega)).1 < m[i].1) := by
  constructor
  · intro h
    refine ⟨h.len, fun i hi => ⟨h.nz _ (List.getElem_mem hi), fun h0 => ?_⟩⟩
    have := List.pairwise_iff_getElem.1 h.up (i - 1) i (by simp; omega) (by simpa using hi) (by omega)
    simpa using this
  · rintro ⟨h1, h2⟩
    refine ⟨h1, ?_, ?_⟩
    · intro p hp
      obtain ⟨i, hi, rfl⟩ := List.getElem_of_mem hp
      exact (h2 i hi).1
    · refine List.pairwise_iff_getElem.2 ?_
      have key : ∀ (d i : Nat) (h : i + d + 1 < m.length), (m[i]'(by omega)).1 < (m[i + d + 1]'h).1 := by
        intro d
        induction d with
        | zero =>
          intro i h
          have := (h2 (i + 1) (by omega)).2 (by omega)
          simpa using this
        | succ d ih =>
          intro i h
          have a := ih i (by omega)
          have b := (h2 (i + (d + 1) + 1) h).2 (by omega)
          have e : i + (d + 1) + 1 - 1 = i + d + 1 := by omega
          simp only [e] at b
          omega
      intro i j hi hj hij
      have := key (j - i - 1) i (by simp at hj; omega)
      have e : i + (j - i - 1) + 1 = j := by omega
      simp only [e] at this
      simpa using this
theorem areShares_ev (m : List (Nat × Nat)) (hl : m.length ≤ 1048576) : ∃ b : Bool, Ev (fun k => spec_l7Shares.f k (shl m)) b ∧ Ev (fun k => impl_areShares.f k (shl m)) b ∧ (b = true ↔ GoodShares m) := by
  have key : ∀ (d n : Nat), n + d = m.length → ∃ b : Bool, Ev (fun k => spec_l7Shares.l0 k (shl m) (shl m) (m.length : Int) (n : Int)) b ∧ Ev (fun k => impl_areShares.l0 k (shl m) (shl m) (m.length : Int) (n : Int)) b ∧ (b = true ↔ m.length ≤ 20 ∧ ∀ i (hi : i < m.length), n ≤ i → m[i].1 ≠ 0 ∧ (0 < i → (m[i - 1]'(by omega)).1 < m[i].1)) := by
    intro d
    induction d with
    | zero =>
      intro n h1
      refine ⟨decide ((m.length : Int) ≤ 20), ?_, ?_, ?_⟩
      · apply K.Ev.succ
        simp only [spec_l7Shares.l0, shl_length, if_neg (show ¬ ((n : Int) < (m.length : Int)) by omega)]; exact Ev.now _
      · apply K.Ev.succ
        simp only [impl_areShares.l0, shl_length, if_neg (show ¬ ((n : Int) < (m.length : Int)) by omega)]; exact Ev.now _
      · rw [decide_eq_true_iff]
        exact ⟨fun h => ⟨by omega, fun i hi hn => by omega⟩, fun h => by omega⟩
    | succ d ih =>
      intro n h1
      have hn : n < m.length := by omega
      have c1 : (n : Int) < (m.length : Int) := by omega
      have c2 : 0 ≤ (n : Int) := by omega
      have ws := K.w64s n (show n < 9223372036854775807 by omega)
      obtain ⟨b, i1, i2, i3⟩ := ih (n + 1) (by omega)
      by_cases h0 : m[n].1 = 0
      · have h0' : ((m[n].1 : Nat) : Int) = 0 := by omega
        refine ⟨false, ?_, ?_, ⟨fun h => (by cases h), fun h => absurd h0 (h.2 n hn (Nat.le_refl _)).1⟩⟩ <;> apply K.Ev.succ
        · simp only [spec_l7Shares.l0, shl_length, if_pos c1, if_pos c2, rd_shl hn, if_pos h0']; exact Ev.now _
        · simp only [impl_areShares.l0, shl_length, if_pos c1, if_pos c2, rd_shl hn, if_pos h0']; exact Ev.now _
      have h0' : ¬ ((m[n].1 : Nat) : Int) = 0 := by omega
      by_cases hz : n = 0
      · have hn0 : ¬ (n : Int) > 0 := by omega
        refine ⟨b, ?_, ?_, ?_⟩
        · apply K.Ev.succ
          simp only [spec_l7Shares.l0, shl_length, if_pos c1, if_pos c2, rd_shl hn, if_neg h0', if_neg hn0, ws]; exact i1
        · apply K.Ev.succ
          simp only [impl_areShares.l0, shl_length, if_pos c1, if_pos c2, rd_shl hn, if_neg h0', if_neg hn0, ws]; exact i2
        · rw [i3]
          refine ⟨fun h => ⟨h.1, fun i hi hni => ?_⟩, fun h => ⟨h.1, fun i hi hni => h.2 i hi (by omega)⟩⟩
          by_cases e : i = n
          · subst e; exact ⟨h0, fun h => by omega⟩
          · exact h.2 i hi (by omega)
      · have hn0 : (n : Int) > 0 := by omega
        have w : wrap64 ((n : Int) - 1) = ((n - 1 : Nat) : Int) := by rw [K.w64 (by omega) (by omega)]; omega
        have c3 : 0 ≤ ((n - 1 : Nat) : Int) := by omega
        have c4 : ((n - 1 : Nat) : Int) < (m.length : Int) := by omega
        have hn1 : n - 1 < m.length := by omega
        by_cases hc : m[n].1 ≤ m[n - 1].1
        · have hc' : ((m[n].1 : Nat) : Int) ≤ ((m[n - 1].1 : Nat) : Int) := by omega
          have hc2 : ((m[n - 1].1 : Nat) : Int) ≥ ((m[n].1 : Nat) : Int) := hc'
          refine ⟨false, ?_, ?_, ⟨fun h => (by cases h), fun h => absurd ((h.2 n hn (Nat.le_refl _)).2 (by omega)) (by omega)⟩⟩ <;> apply K.Ev.succ
          · simp only [spec_l7Shares.l0, shl_length, if_pos c1, if_pos c2, rd_shl hn, rd_shl hn1, if_neg h0', if_pos hn0, w, if_pos c3, if_pos c4, if_pos hc2]; exact Ev.now _
          · simp only [impl_areShares.l0, shl_length, if_pos c1, if_pos c2, rd_shl hn, rd_shl hn1, if_neg h0', if_pos hn0, w, if_pos c3, if_pos c4, if_pos hc']; exact Ev.now _
        · have hc' : ¬ ((m[n].1 : Nat) : Int) ≤ ((m[n - 1].1 : Nat) : Int) := by omega
          have hc2 : ¬ ((m[n - 1].1 : Nat) : Int) ≥ ((m[n].1 : Nat) : Int) := hc'
          refine ⟨b, ?_, ?_, ?_⟩
          · apply K.Ev.succ
            simp only [spec_l7Shares.l0, shl_length, if_pos c1, if_pos c2, rd_shl hn, rd_shl hn1, if_neg h0', if_pos hn0, w, if_pos c3, if_pos c4, if_neg hc2, ws]; exact i1
          · apply K.Ev.succ
            simp only [impl_areShares.l0, shl_length, if_pos c1, if_pos c2, rd_shl hn, rd_shl hn1, if_neg h0', if_pos hn0, w, if_pos c3, if_pos c4, if_neg hc', ws]; exact i2
          · rw [i3]
            refine ⟨fun h => ⟨h.1, fun i hi hni => ?_⟩, fun h => ⟨h.1, fun i hi hni => h.2 i hi (by omega)⟩⟩
            by_cases e : i = n
            · subst e; exact ⟨h0, fun h => by omega⟩
            · exact h.2 i hi (by omega)
  obtain ⟨b, i1, i2, i3⟩ := key m.length 0 (by omega)
  refine ⟨b, by simp only [spec_l7Shares.f, shl_length]; exact i1, by simp only [impl_areShares.f, shl_length]; exact i2, ?_⟩
  rw [i3, goodShares_iff]
  exact ⟨fun h => ⟨h.1, fun i hi => h.2 i hi (by omega)⟩, fun h => ⟨h.1, fun i hi _ => h.2 i hi⟩⟩
theorem areShares_yes (m : List (Nat × Nat)) (h : GoodShares m) : Ev (fun k => spec_l7Shares.f k (shl m)) true ∧ Ev (fun k => impl_areShares.f k (shl m)) true := by
  obtain ⟨b, i1, i2, i3⟩ := areShares_ev m (by have := h.len; omega)
  have : b = true := i3.2 h
  subst this
  exact ⟨i1, i2⟩
theorem GoodShares.nodup {m : List (Nat × Nat)} (h : GoodShares m) : (m.map Prod.fst).Nodup := h.up.imp (fun h e => by omega)

theorem Times_ev (a b : Nat) (ha : a < 256) (hb : b < 256) : Ev (fun k => impl_Times.f k (a : Int) (b : Int)) ((K.gmul a b : Nat) : Int) := by
  have key : ∀ (n j x o : Nat), j + n = 8 → x < 256 → o < 256 → Ev (fun k => impl_Times.l0 k (b : Int) (o : Int) (j : Int) (x : Int)) ((K.gstep n x (b / 2 ^ j) o : Nat) : Int) := by
    intro n
    induction n with
    | zero =>
      intro j x o hj hx ho
      apply K.Ev.succ
      simp only [impl_Times.l0, if_neg (show ¬ ((j : Int) < 8) by omega), K.gstep]
      exact K.Ev.const (by rw [show (o : Int) % 256 = (o : Int) by omega])
    | succ n ih =>
      intro j x o hj hx ho
      have w : K.Eqn (wrap64 ((x : Int) * 2)) ((2 * x : Nat) : Int) := ⟨by rw [K.w64 (by omega) (by omega)]; omega⟩
      have hx2 : (if ((2 * x : Nat) : Int) > 255 then Go.bits .xor .i64 ((2 * x : Nat) : Int) 283 else ((2 * x : Nat) : Int)) = ((K.xt x : Nat) : Int) := by
        unfold K.xt
        by_cases h : 2 * x > 255
        · rw [if_pos (by omega), if_pos h]
          exact K.xor_i64 (b := 283) (by omega) (by omega)
        · rw [if_neg (by omega), if_neg h]
      have hs : shr .u8 (b : Int) (j : Int) = ((b / 2 ^ j : Nat) : Int) := K.shr_u8 b j (by omega)
      have hbj : b / 2 ^ j < 256 := Nat.lt_of_le_of_lt (Nat.div_le_self _ _) hb
      have hnext := ih (j + 1) (K.xt x) (if (b / 2 ^ j) % 2 = 1 then o ^^^ x else o) (by omega) (K.xt_lt hx) (by
        split
        · exact Nat.xor_lt_two_pow (n := 8) ho hx
        · exact ho)
      rw [Nat.pow_succ, ← Nat.div_div_eq_div_mul] at hnext
      apply K.Ev.succ
      simp only [impl_Times.l0, if_pos (show (j : Int) < 8 by omega), if_pos (show 0 ≤ (j : Int) by omega), hs, K.and_u8_1 hbj, w.out, K.xor_i64 (show o < 1024 by omega) (show x < 1024 by omega), K.w64s j (show j < 9223372036854775807 by omega)]
      by_cases h1 : (b / 2 ^ j) % 2 = 1
      · rw [if_pos h1] at hnext
        simp only [h1, show (((1 : Nat) : Int) = 1) = True by simp, if_true, K.gstep]
        by_cases h2 : ((2 * x : Nat) : Int) > 255
        · rw [if_pos h2] at hx2
          simp only [if_pos h2]
          simp only [hx2]
          exact hnext
        · rw [if_neg h2] at hx2
          simp only [if_neg h2]
          simp only [hx2]
          exact hnext
      · rw [if_neg h1] at hnext
        have h1' : ¬ (((b / 2 ^ j % 2 : Nat) : Int) = 1) := by omega
        simp only [if_neg h1', K.gstep, if_neg h1]
        by_cases h2 : ((2 * x : Nat) : Int) > 255
        · rw [if_pos h2] at hx2
          simp only [if_pos h2]
          simp only [hx2]
          exact hnext
        · rw [if_neg h2] at hx2
          simp only [if_neg h2]
          simp only [hx2]
          exact hnext
  have wa : K.Eqn (wrap64 (a : Int)) (a : Int) := ⟨K.w64 (by omega) (by omega)⟩
  simp only [impl_Times.f, wa.out]
  have := key 8 0 a 0 (by omega) ha (by omega)
  rw [Nat.pow_zero, Nat.div_one] at this
  exact this

theorem power_ev (a n : Nat) (ha : a < 256) (hn : n < 1024) : Ev (fun k => impl_power.f k (a : Int) (n : Int)) ((K.gpow a n : Nat) : Int) := by
  have key : ∀ (d n a o : Nat), n ≤ d → n < 1024 → a < 256 → o < 256 → Ev (fun k => impl_power.l0 k (a : Int) (n : Int) (o : Int)) ((K.gmul o (K.gpow a n) : Nat) : Int) := by
    intro d
    induction d with
    | zero =>
      intro n a o hd _ ha ho
      obtain rfl : n = 0 := by omega
      apply K.Ev.succ
      simp only [impl_power.l0, show ¬ (((0 : Nat) : Int) > 0) by omega, if_false, K.gpow, K.gmul_one ho]
      exact Ev.now _
    | succ d ih =>
      intro n a o hd hn ha ho
      by_cases h0 : n = 0
      · subst h0
        apply K.Ev.succ
        simp only [impl_power.l0, show ¬ (((0 : Nat) : Int) > 0) by omega, if_false, K.gpow, K.gmul_one ho]
        exact Ev.now _
      have hh : (n : Int) / 2 = ((n / 2 : Nat) : Int) := by omega
      apply K.Ev.succ
      simp only [impl_power.l0, if_pos (show (n : Int) > 0 by omega), K.and_i64_1 hn, hh]
      by_cases h1 : n % 2 = 1
      · simp only [if_pos (show ((n % 2 : Nat) : Int) = 1 by omega)]
        refine Ev.bind (Times_ev o a ho ha) ?_
        refine Ev.bind (Times_ev a a ha ha) ?_
        have e : K.gmul o (K.gpow a n) = K.gmul (K.gmul o a) (K.gpow (K.gmul a a) (n / 2)) := by
          rw [K.gpow_sq ha, K.gmul_assoc ho ha (K.gpow_lt _), K.gmul_comm ha (K.gpow_lt _)]
          have h : n = (n / 2 + n / 2) + 1 := by omega
          rw [show K.gpow a n = K.gpow a ((n / 2 + n / 2) + 1) by rw [← h]]
          rfl
        rw [e]
        exact ih _ _ _ (by omega) (by omega) (K.gmul_lt ha) (K.gmul_lt ho)
      · simp only [if_neg (show ¬ ((n % 2 : Nat) : Int) = 1 by omega)]
        refine Ev.bind (Times_ev a a ha ha) ?_
        have e : K.gmul o (K.gpow a n) = K.gmul o (K.gpow (K.gmul a a) (n / 2)) := by
          rw [K.gpow_sq ha]
          have h : n = (n / 2 + n / 2) := by omega
          rw [show K.gpow a n = K.gpow a (n / 2 + n / 2) by rw [← h]]
        rw [e]
        exact ih _ _ _ (by omega) (by omega) (K.gmul_lt ha) ho
  have := key n n a 1 (by omega) hn ha (by omega)
  rw [K.one_gmul (K.gpow_lt n)] at this
  simp only [impl_power.f]
  exact this

theorem Inverse_ev (a : Nat) (ha : a < 256) : Ev (fun k => impl_Inverse.f k (a : Int)) ((K.ginv a : Nat) : Int) := by
  simp only [impl_Inverse.f]
  exact Ev.bind (power_ev a 254 ha (by omega)) (Ev.now _)

theorem l1Times_ev (a b : Nat) (ha : a < 256) (hb : b < 256) : Ev (fun k => spec_l1Times.f k (a : Int) (b : Int)) ((K.gmul a b : Nat) : Int) := by
  have key : ∀ (n x y o : Nat), x < 256 → o < 256 → y < 2 ^ n → n ≤ 8 → Ev (fun k => spec_l1Times.l0 k (o : Int) (x : Int) (y : Int)) ((K.gstep n x y o : Nat) : Int) := by
    intro n
    induction n with
    | zero =>
      intro x y o hx ho hy _
      obtain rfl : y = 0 := by simpa using hy
      apply K.Ev.succ
      simp only [spec_l1Times.l0, show ¬ (((0 : Nat) : Int) > 0) by omega, if_false, K.gstep]
      exact K.Ev.const (by rw [show (o : Int) % 256 = (o : Int) by omega])
    | succ n ih =>
      intro x y o hx ho hy hn
      by_cases h0 : y = 0
      · subst h0
        apply K.Ev.succ
        rw [K.gstep_zero]
        simp only [spec_l1Times.l0, show ¬ (((0 : Nat) : Int) > 0) by omega, if_false]
        exact K.Ev.const (by rw [show (o : Int) % 256 = (o : Int) by omega])
      have hy2 : y < 512 := Nat.lt_of_lt_of_le hy (by
        have : 2 ^ (n + 1) ≤ 2 ^ 9 := Nat.pow_le_pow_right (by omega) (by omega)
        omega)
      have w : K.Eqn (wrap64 ((x : Int) * 2)) ((2 * x : Nat) : Int) := ⟨by rw [K.w64 (by omega) (by omega)]; omega⟩
      have hx2 : (if ((2 * x : Nat) : Int) > 255 then Go.bits .xor .i64 ((2 * x : Nat) : Int) 283 else ((2 * x : Nat) : Int)) = ((K.xt x : Nat) : Int) := by
        unfold K.xt
        by_cases h : 2 * x > 255
        · rw [if_pos (by omega), if_pos h]
          exact K.xor_i64 (b := 283) (by omega) (by omega)
        · rw [if_neg (by omega), if_neg h]
      have hy' : (y : Int) / 2 = ((y / 2 : Nat) : Int) := by omega
      have hnext := ih (K.xt x) (y / 2) (if y % 2 = 1 then o ^^^ x else o) (K.xt_lt hx) (by
        split
        · exact Nat.xor_lt_two_pow (n := 8) ho hx
        · exact ho) (by rw [Nat.pow_succ] at hy; omega) (by omega)
      apply K.Ev.succ
      simp only [spec_l1Times.l0, if_pos (show (y : Int) > 0 by omega), K.and_i64_1 (show y < 1024 by omega), w.out, K.xor_i64 (show o < 1024 by omega) (show x < 1024 by omega), hy']
      by_cases h1 : y % 2 = 1
      · rw [if_pos h1] at hnext
        simp only [h1, show (((1 : Nat) : Int) = 1) = True by simp, if_true, K.gstep]
        by_cases h2 : ((2 * x : Nat) : Int) > 255
        · rw [if_pos h2] at hx2
          simp only [if_pos h2]
          simp only [hx2]
          exact hnext
        · rw [if_neg h2] at hx2
          simp only [if_neg h2]
          simp only [hx2]
          exact hnext
      · rw [if_neg h1] at hnext
        have h1' : ¬ (((y % 2 : Nat) : Int) = 1) := by omega
        simp only [if_neg h1', K.gstep, if_neg h1]
        by_cases h2 : ((2 * x : Nat) : Int) > 255
        · rw [if_pos h2] at hx2
          simp only [if_pos h2]
          simp only [hx2]
          exact hnext
        · rw [if_neg h2] at hx2
          simp only [if_neg h2]
          simp only [hx2]
          exact hnext
  have wa : K.Eqn (wrap64 (a : Int)) (a : Int) := ⟨K.w64 (by omega) (by omega)⟩
  have wb : K.Eqn (wrap64 (b : Int)) (b : Int) := ⟨K.w64 (by omega) (by omega)⟩
  simp only [spec_l1Times.f, wa.out, wb.out]
  exact key 8 a b 0 ha (by omega) (by omega) (by omega)

theorem l1Power_ev (a n : Nat) (ha : a < 256) (hn : n < 1024) : Ev (fun k => spec_l1Power.f k (a : Int) (n : Int)) ((K.gpow a n : Nat) : Int) := by
  have key : ∀ (n o : Nat), n < 1024 → o < 256 → Ev (fun k => spec_l1Power.l0 k (a : Int) (n : Int) (o : Int)) ((K.gmul o (K.gpow a n) : Nat) : Int) := by
    intro n
    induction n with
    | zero =>
      intro o _ ho
      apply K.Ev.succ
      simp only [spec_l1Power.l0, show ¬ (((0 : Nat) : Int) > 0) by omega, if_false, K.gpow, K.gmul_one ho]
      exact Ev.now _
    | succ n ih =>
      intro o h ho
      have w : K.Eqn (wrap64 (((n + 1 : Nat) : Int) - 1)) (n : Int) := ⟨by rw [K.w64 (by omega) (by omega)]; omega⟩
      have e : K.gmul o (K.gpow a (n + 1)) = K.gmul (K.gmul o a) (K.gpow a n) := by
        rw [K.gmul_assoc ho ha (K.gpow_lt n), K.gmul_comm ha (K.gpow_lt n)]; rfl
      apply K.Ev.succ
      simp only [spec_l1Power.l0, if_pos (show ((n + 1 : Nat) : Int) > 0 by omega), w.out]
      refine Ev.bind (l1Times_ev o a ho ha) ?_
      rw [e]
      exact ih _ (by omega) (K.gmul_lt ho)
  have := key n 1 hn (by omega)
  rw [K.one_gmul (K.gpow_lt n)] at this
  simp only [spec_l1Power.f]
  exact this

theorem l1Inverse_ev (a : Nat) (ha : a < 256) : Ev (fun k => spec_l1Inverse.f k (a : Int)) ((K.ginv a : Nat) : Int) := by
  simp only [spec_l1Inverse.f]
  by_cases h : (a : Int) = 0
  · simp only [if_pos h]
    obtain rfl : a = 0 := by omega
    have : K.ginv 0 = 0 := K.gpow_zero 254 (by omega)
    rw [this]
    exact Ev.now _
  · simp only [if_neg h]
    exact Ev.bind (l1Power_ev a 254 ha (by omega)) (Ev.now _)

theorem through_ev (m : List (Nat × Nat)) (hm : K.Pts m) (hl : m.length ≤ 1000) (v : Nat) (hv : v < 256) : Ev (fun k => spec_l7Through.f k (shl m) (v : Int)) ((K.interp m v : Nat) : Int) ∧ Ev (fun k => impl_interpolated.f k (shl m) (v : Int)) ((K.interp m v : Nat) : Int) := by
  have key : ∀ (d n o : Nat), n + d = m.length → o < 256 → Ev (fun k => spec_l7Through.l0 k (shl m) (v : Int) (o : Int) (shl m) (m.length : Int) (n : Int)) ((K.interpFrom m v (m.drop n) n o : Nat) : Int) ∧ Ev (fun k => impl_interpolated.l0 k (shl m) (v : Int) (o : Int) (shl m) (m.length : Int) (n : Int)) ((K.interpFrom m v (m.drop n) n o : Nat) : Int) := by
    intro d
    induction d with
    | zero =>
      intro n o h1 ho
      rw [List.drop_of_length_le (by omega)]
      constructor <;> apply K.Ev.succ
      · simp only [spec_l7Through.l0, if_neg (show ¬ ((n : Int) < (m.length : Int)) by omega)]; exact Ev.now _
      · simp only [impl_interpolated.l0, if_neg (show ¬ ((n : Int) < (m.length : Int)) by omega)]; exact Ev.now _
    | succ d ih =>
      intro n o h1 ho
      have hn : n < m.length := by omega
      have hp := hm m[n] (List.getElem_mem hn)
      have c1 : (n : Int) < (m.length : Int) := by omega
      have c2 : 0 ≤ (n : Int) := by omega
      have ws := K.w64s n (show n < 9223372036854775807 by omega)
      have inner : ∀ (R : Nat → Nat → Int), (∀ P Q : Nat, P < 256 → Q < 256 → Ev (fun k => spec_l7Through.l0 k (shl m) (v : Int) ((o ^^^ K.gmul m[n].2 (K.gmul P (K.ginv Q)) : Nat) : Int) (shl m) (m.length : Int) ((n + 1 : Nat) : Int)) (R P Q) ∧ Ev (fun k => impl_interpolated.l0 k (shl m) (v : Int) ((o ^^^ K.gmul m[n].2 (K.gmul P (K.ginv Q)) : Nat) : Int) (shl m) (m.length : Int) ((n + 1 : Nat) : Int)) (R P Q)) → ∀ (e j p q : Nat), j + e = m.length → p < 256 → q < 256 →
          Ev (fun k => spec_l7Through.l1 k (shl m) (v : Int) (o : Int) (n : Int) (p : Int) (q : Int) (shl m) (m.length : Int) (n : Int) (shl m) (m.length : Int) (j : Int) ((m[n].1 : Nat) : Int) ((m[n].2 : Nat) : Int)) (R (K.skipProd v n (m.drop j) j p) (K.skipProd m[n].1 n (m.drop j) j q)) ∧
          Ev (fun k => impl_interpolated.l1 k (shl m) (v : Int) (o : Int) (n : Int) ((K.gmul m[n].2 (K.gmul p (K.ginv q)) : Nat) : Int) (shl m) (m.length : Int) (n : Int) (shl m) (m.length : Int) (j : Int) ((m[n].1 : Nat) : Int) ((m[n].2 : Nat) : Int)) (R (K.skipProd v n (m.drop j) j p) (K.skipProd m[n].1 n (m.drop j) j q)) := by
        intro R hR e
        induction e with
        | zero =>
          intro j p q g1 gp gq
          have hx : K.gmul m[n].2 (K.gmul p (K.ginv q)) < 256 := K.gmul_lt hp.2
          obtain ⟨r1, r2⟩ := hR p q gp gq
          rw [List.drop_of_length_le (show m.length ≤ j by omega)]
          rw [K.skipProd, K.skipProd]
          constructor <;> apply K.Ev.succ
          · simp only [spec_l7Through.l1, if_neg (show ¬ ((j : Int) < (m.length : Int)) by omega)]
            refine Ev.bind (l1Inverse_ev q gq) ?_
            refine Ev.bind (l1Times_ev _ _ gp (K.ginv_lt q)) ?_
            refine Ev.bind (l1Times_ev _ _ hp.2 (K.gmul_lt gp)) ?_
            simp only [K.xor_u8 ho hx, ws]
            exact r1
          · simp only [impl_interpolated.l1, if_neg (show ¬ ((j : Int) < (m.length : Int)) by omega), K.xor_u8 ho hx, ws]
            exact r2
        | succ e ihe =>
          intro j p q g1 gp gq
          have hj : j < m.length := by omega
          have hq := hm m[j] (List.getElem_mem hj)
          have b1 : (j : Int) < (m.length : Int) := by omega
          have b2 : 0 ≤ (j : Int) := by omega
          have wj := K.w64s j (show j < 9223372036854775807 by omega)
          rw [List.drop_eq_getElem_cons hj]
          rw [K.skipProd, K.skipProd]
          by_cases hjn : j = n
          · have hjn' : (j : Int) = (n : Int) := by rw [hjn]
            simp only [if_pos hjn]
            obtain ⟨r1, r2⟩ := ihe (j + 1) p q (by omega) gp gq
            constructor <;> apply K.Ev.succ
            · simp only [spec_l7Through.l1, shl_length, if_pos b1, if_pos b2, if_pos hjn', wj]; exact r1
            · simp only [impl_interpolated.l1, shl_length, if_pos b1, if_pos b2, if_pos hjn', wj]; exact r2
          · have hjn' : ¬ (j : Int) = (n : Int) := fun h => hjn (Int.ofNat.inj h)
            simp only [if_neg hjn]
            have ha : v ^^^ m[j].1 < 256 := K.xlt hv hq.1
            have hb : m[n].1 ^^^ m[j].1 < 256 := K.xlt hp.1 hq.1
            obtain ⟨r1, r2⟩ := ihe (j + 1) (K.gmul p (v ^^^ m[j].1)) (K.gmul q (m[n].1 ^^^ m[j].1)) (by omega) (K.gmul_lt gp) (K.gmul_lt gq)
            have hi := K.ginv_lt q
            have hbi := K.ginv_lt (m[n].1 ^^^ m[j].1)
            have eq : K.gmul (K.gmul m[n].2 (K.gmul p (K.ginv q))) (K.gmul (v ^^^ m[j].1) (K.ginv (m[n].1 ^^^ m[j].1))) = K.gmul m[n].2 (K.gmul (K.gmul p (v ^^^ m[j].1)) (K.ginv (K.gmul q (m[n].1 ^^^ m[j].1)))) := by
              rw [K.ginv_gmul gq hb, K.gmul_assoc hp.2 (K.gmul_lt gp) (K.gmul_lt ha), K.swap4 gp hi ha hbi]
            rw [← eq] at r2
            constructor <;> apply K.Ev.succ
            · simp only [spec_l7Through.l1, shl_length, if_pos b1, if_pos b2, if_neg hjn', wj, rd_shl hj, K.xor_u8 hv hq.1, K.xor_u8 hp.1 hq.1]
              refine Ev.bind (l1Times_ev _ _ gp ha) ?_
              refine Ev.bind (l1Times_ev _ _ gq hb) ?_
              exact r1
            · simp only [impl_interpolated.l1, shl_length, if_pos b1, if_pos b2, if_neg hjn', wj, rd_shl hj, K.xor_u8 hv hq.1, K.xor_u8 hp.1 hq.1]
              refine Ev.bind (Inverse_ev _ hb) ?_
              refine Ev.bind (Times_ev _ _ ha hbi) ?_
              refine Ev.bind (Times_ev _ _ (K.gmul_lt hp.2) (K.gmul_lt ha)) ?_
              exact r2
      obtain ⟨r1, r2⟩ := inner (fun P Q => ((K.interpFrom m v (m.drop (n + 1)) (n + 1) (o ^^^ K.gmul m[n].2 (K.gmul P (K.ginv Q))) : Nat) : Int)) (fun P Q hP hQ => ih (n + 1) _ (by omega) (K.xlt ho (K.gmul_lt hp.2))) m.length 0 1 1 (by omega) (by omega) (by omega)
      have e1 : K.gmul m[n].2 (K.gmul 1 (K.ginv 1)) = m[n].2 := by
        have : K.ginv 1 = 1 := K.gpow_one 254
        rw [this, K.gmul_one (by omega), K.gmul_one hp.2]
      rw [e1] at r2
      rw [List.drop_eq_getElem_cons hn]
      rw [K.interpFrom]
      rw [List.drop_zero] at r1 r2
      constructor <;> apply K.Ev.succ
      · simp only [spec_l7Through.l0, shl_length, if_pos c1, if_pos c2, rd_shl hn]; exact r1
      · simp only [impl_interpolated.l0, shl_length, if_pos c1, if_pos c2, rd_shl hn]; exact r2
  obtain ⟨r1, r2⟩ := key m.length 0 0 (by omega) (by omega)
  rw [List.drop_zero] at r1 r2
  exact ⟨by simp only [spec_l7Through.f, shl_length]; exact r1, by simp only [impl_interpolated.f, shl_length]; exact r2⟩
theorem through_same (m : List (Nat × Nat)) (hm : ∀ p ∈ m, p.1 < 256 ∧ p.2 < 256) (hl : m.length ≤ 20) (v : Nat) (hv : v < 256) : ∃ r : Nat, r < 256 ∧ Ev (fun k => spec_l7Through.f k (shl m) (v : Int)) (r : Int) ∧ Ev (fun k => impl_interpolated.f k (shl m) (v : Int)) (r : Int) :=
  ⟨K.interp m v, (K.interp_poly m hm).lt hv, (through_ev m hm (by omega) v hv).1, (through_ev m hm (by omega) v hv).2⟩

theorem openSecret_good (m : List (Nat × Nat)) (hm : K.Pts m) (hg : GoodShares m) (n : Nat) (h1 : 1 ≤ n) (h2 : n ≤ m.length) : Ev (fun k => impl_OpenSecret.f k (shl m) (n : Int)) (((K.interp (m.take n) 0 : Nat) : Int), true) := by
  have hl := hg.len
  have et : (shl m).take n = shl (m.take n) := by simp [shl, List.map_take]
  have q : impl_within.f (n : Int) 1 (m.length : Int) = some true := by
    unfold impl_within.f; rw [if_pos (show (n : Int) ≥ 1 by omega)]; simp; omega
  simp only [impl_OpenSecret.f]
  refine Ev.bind (areShares_yes m hg).2 ?_
  simp only [if_true, shl_length, q, Option.bind_some, if_pos (show 0 ≤ (n : Int) by omega), if_pos (show (n : Int) ≤ (m.length : Int) by omega), Int.toNat_natCast, et]
  exact Ev.bind (through_ev (m.take n) (fun q hq => hm q (List.mem_of_mem_take hq)) (by rw [List.length_take]; omega) 0 (by omega)).2 (Ev.now _)

theorem shl_cons (p : Nat × Nat) (m : List (Nat × Nat)) : shl (p :: m) = ⟨(p.1 : Int), (p.2 : Int)⟩ :: shl m := rfl
theorem shl_drop (m : List (Nat × Nat)) (n : Nat) : (shl m).drop n = shl (m.drop n) := by simp [shl, List.map_drop]
theorem shl_take (m : List (Nat × Nat)) (n : Nat) : (shl m).take n = shl (m.take n) := by simp [shl, List.map_take]
theorem anyQ_none (q : Nat → S61 → Option Bool) : ∀ (l : List S61), (∀ x ∈ l, Ev (fun k => q k x) false) → Ev (fun k => impl_IsShared.anyQ (q k) l) false
  | [], _ => Ev.now _
  | x :: l, h => by
    simp only [impl_IsShared.anyQ]
    refine Ev.bind (h x (by simp)) ?_
    simp only [Bool.false_eq_true, if_false]
    exact anyQ_none q l (fun y hy => h y (by simp [hy]))
theorem isShared_good (m : List (Nat × Nat)) (hm : K.Pts m) (hg : GoodShares m) (n : Nat) (h1 : 1 ≤ n) (h2 : n ≤ 20) (h : ∀ p ∈ m.drop n, K.interp (m.take n) p.1 = p.2) : Ev (fun k => impl_IsShared.f k (shl m) (n : Int)) (true, true) := by
  have hl := hg.len
  simp only [impl_IsShared.f]
  refine Ev.bind (areShares_yes m hg).2 ?_
  have q2 : impl_within.f (n : Int) 1 20 = some true := by
    unfold impl_within.f; rw [if_pos (show (n : Int) ≥ 1 by omega)]; simp; omega
  simp only [if_true, q2, Option.bind_some, Bool.not_true]
  apply K.Ev.succ
  simp only [impl_IsShared.j0, Bool.false_eq_true, if_false, shl_length]
  by_cases hn : (m.length : Int) ≤ (n : Int)
  · simp only [if_pos hn]; exact Ev.now _
  · simp only [if_neg hn, if_pos (show 0 ≤ (n : Int) by omega), if_pos (show (n : Int) ≤ (m.length : Int) by omega), Int.toNat_natCast, shl_drop, slices_ContainsFunc_impl_Share_impl_Share.f]
    refine Ev.bind (anyQ_none _ _ ?_) (Ev.now _)
    intro x hx
    obtain ⟨p, hp, rfl⟩ := List.mem_map.1 hx
    have hpm := hm p (List.mem_of_mem_drop hp)
    have hin := (through_ev (m.take n) (fun q hq => hm q (List.mem_of_mem_take hq)) (by rw [List.length_take]; omega) p.1 hpm.1).2
    simp only [impl_IsShared_fn1.f, shl_length, if_pos (show 0 ≤ (n : Int) by omega), if_pos (show (n : Int) ≤ (m.length : Int) by omega), Int.toNat_natCast, shl_take]
    refine Ev.bind hin ?_
    rw [h p hp]
    simp only [bne_self_eq_false]
    exact Ev.now _

theorem next_ok (c : List Int) (hc : K.Code c) (a : Int) (h0 : 0 ≤ a) (h1 : a ≤ 1152921504606846976) (sd : Int) : ∃ v sd', spec_l1Cur_next.f c a sd = some (v, a + 1, sd') ∧ 0 ≤ v ∧ v ≤ 255 := by
  have hl := hc.len
  have w : K.Eqn (wrap64 (a + 1)) (a + 1) := ⟨K.w64 (by omega) (by omega)⟩
  by_cases h : a < (c.length : Int)
  · have hr := hc.rd_rng a
    have wr : K.Eqn (wrap64 (rd c a)) (rd c a) := ⟨K.w64 (by omega) (by omega)⟩
    have h2 : a + 1 ≤ (c.length : Int) := by omega
    simp only [spec_l1Cur_next.f, if_pos h, if_pos h0, w.out, if_pos h2, wr.out]
    exact ⟨_, _, rfl, hr.1, hr.2⟩
  · have h2 : ¬ (a + 1 ≤ (c.length : Int)) := by omega
    have hb : ∀ y : Int, wrap64 (Go.bits .and .u64 y 255) = Go.bits .and .u64 y 255 ∧ 0 ≤ Go.bits .and .u64 y 255 ∧ Go.bits .and .u64 y 255 ≤ 255 := fun y => by
      have := K.u64_and255 y
      exact ⟨K.w64 (by omega) (by omega), this⟩
    simp only [spec_l1Cur_next.f, if_neg h, w.out, if_neg h2, (hb _).1]
    exact ⟨_, _, rfl, (hb _).2.1, (hb _).2.2⟩

theorem pick_ok (c : List Int) (hc : K.Code c) (a : Int) (h0 : 0 ≤ a) (h1 : a ≤ 1000000000000000000) (sd : Int) (n : Int) (hn : n ≤ 1000000) : ∃ v a' sd', spec_l1Cur_pick.f c a sd n = some (v, a', sd') ∧ 0 ≤ v ∧ (v < n ∨ v = 0) ∧ a ≤ a' ∧ a' ≤ a + 2 := by
  by_cases h : n ≤ 1
  · exact ⟨0, a, sd, by simp only [spec_l1Cur_pick.f, if_pos h], by omega, .inr rfl, by omega, by omega⟩
  obtain ⟨v, sd1, e1, v0, v1⟩ := next_ok c hc a h0 (by omega) sd
  have hnz : ¬ n = 0 := by omega
  have tm : ∀ x : Int, 0 ≤ x → 0 ≤ Int.tmod x n ∧ Int.tmod x n < n := fun x hx => by
    rw [Int.tmod_eq_emod_of_nonneg hx]
    exact ⟨Int.emod_nonneg _ (by omega), Int.emod_lt_of_pos _ (by omega)⟩
  by_cases h2 : n > 200
  · obtain ⟨u, sd2, e2, u0, u1⟩ := next_ok c hc (a + 1) (by omega) (by omega) sd1
    have w1 : K.Eqn (wrap64 (v * 256)) (v * 256) := ⟨K.w64 (by omega) (by omega)⟩
    have w2 : K.Eqn (wrap64 (v * 256 + u)) (v * 256 + u) := ⟨K.w64 (by omega) (by omega)⟩
    have t := tm (v * 256 + u) (by omega)
    refine ⟨_, a + 1 + 1, sd2, by simp only [spec_l1Cur_pick.f, if_neg h, e1, Option.bind_some, if_pos h2, e2, if_neg hnz, w1.out, w2.out], t.1, .inl t.2, by omega, by omega⟩
  · have t := tm v v0
    exact ⟨_, a + 1, sd1, by simp only [spec_l1Cur_pick.f, if_neg h, e1, Option.bind_some, if_neg h2, if_neg hnz], t.1, .inl t.2, by omega, by omega⟩

theorem among_ok (c : List Int) (hc : K.Code c) (a : Int) (h0 : 0 ≤ a) (h1 : a ≤ 1000000000000000000) (sd : Int) (l : List Int) (hl : 0 < l.length) (hl2 : l.length ≤ 1000000) : ∃ (x a' sd' : Int), spec_l1Cur_among.f c a sd l = some (x, a', sd') ∧ x ∈ l ∧ a ≤ a' ∧ a' ≤ a + 2 := by
  obtain ⟨v, a', sd', e, v0, v1, g1, g2⟩ := pick_ok c hc a h0 h1 sd (l.length : Int) (by omega)
  have hv : v.toNat < l.length := by omega
  refine ⟨rd l v, a', sd', by simp only [spec_l1Cur_among.f, e, Option.bind_some, if_pos v0, if_pos (show v < (l.length : Int) by omega)], ?_, g1, g2⟩
  simp only [rd, List.getD_eq_getElem?_getD, List.getElem?_eq_getElem hv, Option.getD_some]
  exact List.getElem_mem hv

theorem one_ok (c : List Int) (hc : K.Code c) (a : Int) (h0 : 0 ≤ a) (h1 : a ≤ 1000000000000000000) (sd : Int) (n : Int) (hn : n ≤ 1000000) : ∃ (b : Bool) (a' sd' : Int), spec_l1Cur_one.f c a sd n = some (b, a', sd') ∧ a ≤ a' ∧ a' ≤ a + 2 := by
  obtain ⟨v, a', sd', e, _, _, g1, g2⟩ := pick_ok c hc a h0 h1 sd n hn
  exact ⟨v == 0, a', sd', by simp only [spec_l1Cur_one.f, e, Option.bind_some], g1, g2⟩

theorem byte_ok (c : List Int) (hc : K.Code c) (a : Int) (h0 : 0 ≤ a) (h1 : a ≤ 900000000000000000) (sd : Int) : ∃ (x a' sd' : Int), spec_l1Cur_byte.f c a sd = some (x, a', sd') ∧ 0 ≤ x ∧ x ≤ 255 ∧ a ≤ a' ∧ a' ≤ a + 4 := by
  obtain ⟨b, a1, sd1, e1, g1, g2⟩ := one_ok c hc a h0 (by omega) sd 5 (by omega)
  cases b with
  | true =>
    obtain ⟨x, a2, sd2, e2, _, g3, g4⟩ := among_ok c hc a1 (by omega) (by omega) sd1 ([0, 1, 2, 3, 255, 27] : List Int) (by simp) (by simp)
    exact ⟨x % 256, a2, sd2, by simp only [spec_l1Cur_byte.f, e1, Option.bind_some, if_true, e2], by omega, by omega, by omega, by omega⟩
  | false =>
    obtain ⟨x, a2, sd2, e2, _, _, g3, g4⟩ := pick_ok c hc a1 (by omega) (by omega) sd1 256 (by omega)
    exact ⟨x % 256, a2, sd2, by simp only [spec_l1Cur_byte.f, e1, Option.bind_some, Bool.false_eq_true, if_false, e2], by omega, by omega, by omega, by omega⟩

theorem vector_ok (c : List Int) (hc : K.Code c) (n : Nat) (hn : n ≤ 1000) (a : Int) (h0 : 0 ≤ a) (h1 : a ≤ 800000000000000000) (sd : Int) : ∃ (l : List Int) (a' sd' : Int), Ev (fun k => spec_l1Cur_vector.f k c a sd (n : Int)) (l, a', sd') ∧ l.length = n ∧ (∀ x ∈ l, 0 ≤ x ∧ x ≤ 255) ∧ a ≤ a' ∧ a' ≤ a + 4 * n := by
  have key : ∀ (d : Nat) (acc : List Int) (a sd : Int), d ≤ 1000 → acc.length + d ≤ 1000000 → (∀ x ∈ acc, 0 ≤ x ∧ x ≤ 255) → 0 ≤ a → a + 4 * d ≤ 850000000000000000 → ∃ (l : List Int) (a' sd' : Int), Ev (fun k => spec_l1Cur_vector.l0 k (d : Int) acc c a sd) (l, a', sd') ∧ l.length = acc.length + d ∧ (∀ x ∈ l, 0 ≤ x ∧ x ≤ 255) ∧ a ≤ a' ∧ a' ≤ a + 4 * d := by
    intro d
    induction d with
    | zero =>
      intro acc a sd _ g1 g2 g3 g4
      refine ⟨acc, a, sd, ?_, rfl, g2, by omega, by omega⟩
      apply K.Ev.succ
      simp only [spec_l1Cur_vector.l0, if_neg (show ¬ (((0 : Nat) : Int) > 0) by omega)]
      exact Ev.now _
    | succ d ih =>
      intro acc a sd g0 g1 g2 g3 g4
      obtain ⟨x, a1, sd1, e1, x0, x1, b1, b2⟩ := byte_ok c hc a g3 (by omega) sd
      have w : K.Eqn (wrap64 (((d + 1 : Nat) : Int) - 1)) (d : Int) := ⟨K.w64p d (by omega)⟩
      obtain ⟨l, a', sd', e2, l1, l2, b3, b4⟩ := ih (acc ++ [x]) a1 sd1 (by omega) (by
        -- only as many as there are
        have : acc.length + (d + 1) ≤ 1000000 := g1
        simp only [List.length_append, List.length_cons, List.length_nil]
        omega) (fun y hy => by
        rcases List.mem_append.1 hy with h | h
        · exact g2 y h
        · simp only [List.mem_singleton] at h; subst h; exact ⟨x0, x1⟩) (by omega) (by omega)
      refine ⟨l, a', sd', ?_, by rw [l1]; simp; omega, l2, by omega, by omega⟩
      apply K.Ev.succ
      simp only [spec_l1Cur_vector.l0, if_pos (show ((d + 1 : Nat) : Int) > 0 by omega), e1, Option.bind_some, if_pos (show acc.length < 140737488355328 by omega), w.out]
      exact e2
  obtain ⟨l, a', sd', e, l1, l2, b1, b2⟩ := key n [] a sd hn (by simp; omega) (by simp) h0 (by omega)
  exact ⟨l, a', sd', by simp only [spec_l1Cur_vector.f]; exact e, by simpa using l1, l2, b1, b2⟩

theorem drawShareSecret_ok (c : List Int) (hc : K.Code c) : ∃ (a : Nat) (l : List Nat) (n : Int), Ev (fun k => spec_DrawShareSecret.f k c) ((a : Int), K.il l, n) ∧ a < 256 ∧ K.Bytes l ∧ l.length ≤ 9 := by
  obtain ⟨x, a1, sd1, e1, x0, x1, b1, b2⟩ := byte_ok c hc 0 (by omega) (by omega) 0
  obtain ⟨x, rfl⟩ := Int.eq_ofNat_of_zero_le x0
  obtain ⟨v, a2, sd2, e2, hv, b3, b4⟩ := among_ok c hc a1 (by omega) (by omega) sd1 ([0, 1, 2, 3, 8, 9] : List Int) (by simp) (by simp)
  have hv2 : 0 ≤ v ∧ v ≤ 9 := by
    simp only [List.mem_cons, List.not_mem_nil, or_false] at hv
    omega
  obtain ⟨v, rfl⟩ := Int.eq_ofNat_of_zero_le hv2.1
  obtain ⟨l, a3, sd3, e3, l1, l2, b5, b6⟩ := vector_ok c hc v (by omega) a2 (by omega) (by omega) sd2
  obtain ⟨l, rfl, hb⟩ := K.il_of l2
  rw [K.il_length] at l1
  obtain ⟨n, a4, sd4, e4, _, b7, b8⟩ := among_ok c hc a3 (by omega) (by omega) sd3 ([0, 1, 3, 5, 20, 21] : List Int) (by simp) (by simp)
  refine ⟨x, l, n, ?_, by omega, hb, by omega⟩
  simp only [spec_DrawShareSecret.f, e1, Option.bind_some, e2]
  refine Ev.bind e3 ?_
  simp only [e4, Option.bind_some]
  exact Ev.now _

theorem valueAt_ev (l : List Nat) (hl : l.length ≤ 1048576) (hb : K.Bytes l) (x : Nat) (hx : x < 256) : Ev (fun k => impl_valueAt.f k (K.il l) (x : Int)) ((K.peval l x : Nat) : Int) := by
  have key : ∀ (n : Nat), n ≤ l.length → Ev (fun k => impl_valueAt.l0 k (K.il l) (x : Int) ((K.peval (l.drop n) x : Nat) : Int) ((n : Int) - 1)) ((K.peval l x : Nat) : Int) := by
    intro n
    induction n with
    | zero =>
      intro _
      apply K.Ev.succ
      simp only [impl_valueAt.l0, show ¬ (((0 : Nat) : Int) - 1 ≥ 0) by omega, if_false, List.drop_zero]
      exact Ev.now _
    | succ n ih =>
      intro h
      have hn : n < l.length := by omega
      have hd : K.Bytes (l.drop (n + 1)) := fun y hy => hb y (List.mem_of_mem_drop hy)
      have e : (((n + 1 : Nat) : Int) - 1) = (n : Int) := by omega
      have w : K.Eqn (wrap64 ((n : Int) - 1)) ((n : Int) - 1) := ⟨K.w64 (by omega) (by omega)⟩
      have hp := K.peval_lt hd x
      apply K.Ev.succ
      simp only [impl_valueAt.l0, e, if_pos (show (n : Int) ≥ 0 by omega)]
      refine Ev.bind (Times_ev _ x hp hx) ?_
      simp only [if_pos (show 0 ≤ (n : Int) by omega), K.il_length, if_pos (show (n : Int) < (l.length : Int) by omega), K.rd_il hn, K.xor_u8 (K.gmul_lt (b := x) hp) (hb l[n] (List.getElem_mem hn)), w.out]
      have := ih (by omega)
      rw [List.drop_eq_getElem_cons hn] at this
      exact this
  have w : K.Eqn (wrap64 ((l.length : Int) - 1)) ((l.length : Int) - 1) := ⟨K.w64 (by omega) (by omega)⟩
  simp only [impl_valueAt.f, K.il_length, w.out]
  have := key l.length (Nat.le_refl _)
  rw [List.drop_length] at this
  exact this

theorem l7At_ev (l : List Nat) (hl : l.length ≤ 1048576) (hb : K.Bytes l) (x : Nat) (hx : x < 256) : Ev (fun k => spec_l7At.f k (K.il l) (x : Int)) ((K.peval l x : Nat) : Int) := by
  have key : ∀ (n : Nat), n ≤ l.length → Ev (fun k => spec_l7At.l0 k (K.il l) (x : Int) ((K.peval (l.drop n) x : Nat) : Int) ((n : Int) - 1)) ((K.peval l x : Nat) : Int) := by
    intro n
    induction n with
    | zero =>
      intro _
      apply K.Ev.succ
      simp only [spec_l7At.l0, show ¬ (((0 : Nat) : Int) - 1 ≥ 0) by omega, if_false, List.drop_zero]
      exact Ev.now _
    | succ n ih =>
      intro h
      have hn : n < l.length := by omega
      have hd : K.Bytes (l.drop (n + 1)) := fun y hy => hb y (List.mem_of_mem_drop hy)
      have e : (((n + 1 : Nat) : Int) - 1) = (n : Int) := by omega
      have w : K.Eqn (wrap64 ((n : Int) - 1)) ((n : Int) - 1) := ⟨K.w64 (by omega) (by omega)⟩
      have hp := K.peval_lt hd x
      apply K.Ev.succ
      simp only [spec_l7At.l0, e, if_pos (show (n : Int) ≥ 0 by omega)]
      refine Ev.bind (l1Times_ev _ x hp hx) ?_
      simp only [if_pos (show 0 ≤ (n : Int) by omega), K.il_length, if_pos (show (n : Int) < (l.length : Int) by omega), K.rd_il hn, K.xor_u8 (K.gmul_lt (b := x) hp) (hb l[n] (List.getElem_mem hn)), w.out]
      have := ih (by omega)
      rw [List.drop_eq_getElem_cons hn] at this
      exact this
  have w : K.Eqn (wrap64 ((l.length : Int) - 1)) ((l.length : Int) - 1) := ⟨K.w64 (by omega) (by omega)⟩
  simp only [spec_l7At.f, K.il_length, w.out]
  have := key l.length (Nat.le_refl _)
  rw [List.drop_length] at this
  exact this

/-- The shares 1, 2 .. n of a polynomial. -/
def sharesOf (p : List Nat) (n : Nat) : List (Nat × Nat) := (List.range n).map (fun i => (i + 1, K.peval p (i + 1)))
theorem sharesOf_length (p : List Nat) (n : Nat) : (sharesOf p n).length = n := by simp [sharesOf]
theorem sharesOf_succ (p : List Nat) (n : Nat) : sharesOf p (n + 1) = sharesOf p n ++ [(n + 1, K.peval p (n + 1))] := by simp [sharesOf, List.range_succ]
theorem sharesOf_get (p : List Nat) (n i : Nat) (h : i < n) : (sharesOf p n)[i]'(by rw [sharesOf_length]; exact h) = (i + 1, K.peval p (i + 1)) := by simp [sharesOf]
theorem sharesOf_pts (p : List Nat) (hb : K.Bytes p) (n : Nat) (hn : n ≤ 255) : K.Pts (sharesOf p n) := by
  intro q hq
  obtain ⟨i, hi, rfl⟩ := List.mem_map.1 hq
  have := List.mem_range.1 hi
  exact ⟨by simp only; omega, K.peval_lt hb _⟩
theorem share_loops (p : List Nat) (hb : K.Bytes p) (hl : p.length ≤ 1000) (n : Nat) (hn : n ≤ 20) : Ev (fun k => impl_ShareSecret.l0 k (K.il p) [] (n : Int) 0) (shl (sharesOf p n), true) ∧ Ev (fun k => spec_ShareSecret.l0 k (n : Int) (K.il p) [] 1) (shl (sharesOf p n), true) := by
  have key : ∀ (d i : Nat), i + d = n → Ev (fun k => impl_ShareSecret.l0 k (K.il p) (shl (sharesOf p i)) (n : Int) (i : Int)) (shl (sharesOf p n), true) ∧ Ev (fun k => spec_ShareSecret.l0 k (n : Int) (K.il p) (shl (sharesOf p i)) ((i + 1 : Nat) : Int)) (shl (sharesOf p n), true) := by
    intro d
    induction d with
    | zero =>
      intro i h
      obtain rfl : i = n := by omega
      constructor <;> apply K.Ev.succ
      · simp only [impl_ShareSecret.l0, if_neg (show ¬ ((i : Int) < (i : Int)) by omega)]; exact Ev.now _
      · simp only [spec_ShareSecret.l0, if_neg (show ¬ (((i + 1 : Nat) : Int) ≤ (i : Int)) by omega)]; exact Ev.now _
    | succ d ih =>
      intro i h
      obtain ⟨r1, r2⟩ := ih (i + 1) (by omega)
      have w1 := K.w64s i (show i < 9223372036854775807 by omega)
      have w2 := K.w64s (i + 1) (show i + 1 < 9223372036854775807 by omega)
      have e : ((i + 1 : Nat) : Int) % 256 = ((i + 1 : Nat) : Int) := by omega
      have hs : (shl (sharesOf p i)).length < 70368744177664 := by rw [shl_length, sharesOf_length]; omega
      rw [sharesOf_succ, ← shl_snoc] at r1 r2
      constructor <;> apply K.Ev.succ
      · simp only [impl_ShareSecret.l0, if_pos (show (i : Int) < (n : Int) by omega), w1, e, if_pos hs]
        exact Ev.bind (valueAt_ev p (by omega) hb (i + 1) (by omega)) r1
      · simp only [spec_ShareSecret.l0, if_pos (show ((i + 1 : Nat) : Int) ≤ (n : Int) by omega), w2, e, if_pos hs]
        exact Ev.bind (l7At_ev p (by omega) hb (i + 1) (by omega)) r2
  exact key n 0 (by omega)
theorem shareSecret_no (a : Int) (r : List Int) (n : Int) (h : ¬ (r.length ≤ 8 ∧ 1 ≤ n ∧ n ≤ 20)) : Ev (fun k => impl_ShareSecret.f k a r n) ([], false) ∧ Ev (fun k => spec_ShareSecret.f k a r n) ([], false) := by
  have j : Ev (fun k => impl_ShareSecret.j0 k a r n true) ([], false) ∧ Ev (fun k => spec_ShareSecret.j0 k a r n true) ([], false) := by
    constructor <;> apply K.Ev.succ
    · simp only [impl_ShareSecret.j0, if_true]; exact Ev.now _
    · simp only [spec_ShareSecret.j0, if_true]; exact Ev.now _
  by_cases h8 : (r.length : Int) > 8
  · simp only [impl_ShareSecret.f, spec_ShareSecret.f, if_pos h8]; exact j
  · have q1 : impl_within.f n 1 20 = some false := by
      unfold impl_within.f; split
      · simp; omega
      · rfl
    have q2 : spec_l1In.f n 1 20 = some false := q1
    simp only [impl_ShareSecret.f, spec_ShareSecret.f, if_neg h8, q1, q2, Option.bind_some, Bool.not_false]; exact j
theorem shareSecret_ev (a : Nat) (r : List Nat) (ha : a < 256) (hb : K.Bytes r) (hr : r.length ≤ 8) (n : Nat) (h1 : 1 ≤ n) (h2 : n ≤ 20) : Ev (fun k => impl_ShareSecret.f k (a : Int) (K.il r) (n : Int)) (shl (sharesOf (a :: r) n), true) ∧ Ev (fun k => spec_ShareSecret.f k (a : Int) (K.il r) (n : Int)) (shl (sharesOf (a :: r) n), true) := by
  have hb' : K.Bytes (a :: r) := fun y hy => by
    rcases List.mem_cons.1 hy with rfl | hy
    · exact ha
    · exact hb y hy
  obtain ⟨i1, i2⟩ := share_loops (a :: r) hb' (by simp; omega) n h2
  have h8 : ¬ ((K.il r).length : Int) > 8 := by rw [K.il_length]; omega
  have q1 : impl_within.f (n : Int) 1 20 = some true := by
    unfold impl_within.f; rw [if_pos (show (n : Int) ≥ 1 by omega)]; simp; omega
  have q2 : spec_l1In.f (n : Int) 1 20 = some true := q1
  have hs : ([(a : Int)] : List Int).length + (K.il r).length < 140737488355328 := by rw [K.il_length]; simp; omega
  have e : [(a : Int)] ++ K.il r = K.il (a :: r) := rfl
  constructor
  · simp only [impl_ShareSecret.f, if_neg h8, q1, Option.bind_some, Bool.not_true]
    apply K.Ev.succ
    simp only [impl_ShareSecret.j0, Bool.false_eq_true, if_false, Option.bind_some, if_pos hs, e]
    exact i1
  · simp only [spec_ShareSecret.f, if_neg h8, q2, Option.bind_some, Bool.not_true]
    apply K.Ev.succ
    simp only [spec_ShareSecret.j0, Bool.false_eq_true, if_false, Option.bind_some, if_pos hs, e]
    exact i2

theorem sameShares_self (l : List S61) (hl : l.length ≤ 140737488355328) : Ev (fun k => laws_sameShares.f k l l) true := by
  have key : ∀ (d n : Nat), n + d = l.length → Ev (fun k => laws_sameShares.l0 k l l (l.length : Int) (n : Int)) true := by
    intro d
    induction d with
    | zero =>
      intro n h1
      apply K.Ev.succ
      simp only [laws_sameShares.l0, if_neg (show ¬ ((n : Int) < (l.length : Int)) by omega)]
      exact Ev.now _
    | succ d ih =>
      intro n h1
      apply K.Ev.succ
      simp only [laws_sameShares.l0, if_pos (show (n : Int) < (l.length : Int) by omega), if_pos (show (0 : Int) ≤ (n : Int) by omega), beq_self_eq_true, Bool.not_true, Bool.or_self, Bool.false_eq_true, if_false]
      rw [K.w64s n (by omega)]
      exact ih (n + 1) (by omega)
  unfold laws_sameShares.f
  simp only [if_true]
  exact key l.length 0 (by omega)

/-- Rising numbers below a bound. -/
def Rising (b : Nat) (L : List Nat) : Prop := L.Pairwise (· < ·) ∧ ∀ x ∈ L, x < b
theorem Rising.snoc {b : Nat} {L : List Nat} (h : Rising b L) : Rising (b + 1) (L ++ [b]) := by
  refine ⟨List.pairwise_append.2 ⟨h.1, by simp, fun x hx y hy => ?_⟩, ?_⟩
  · rw [List.mem_singleton.1 hy]; exact h.2 x hx
  · intro x hx
    rcases List.mem_append.1 hx with h1 | h1
    · have := h.2 x h1; omega
    · rw [List.mem_singleton.1 h1]; omega
theorem Rising.more {b : Nat} {L : List Nat} (h : Rising b L) : Rising (b + 1) L := ⟨h.1, fun x hx => by have := h.2 x hx; omega⟩
theorem someOf_ev (n least : Nat) (more : List Int) (hn : n ≤ 1000) (hl : least ≤ n) : ∃ L : List Nat, Ev (fun k => laws_someOf.f k (n : Int) (least : Int) more) (K.il L) ∧ Rising n L ∧ least ≤ L.length ∧ L.length ≤ n := by
  have key : ∀ (d i : Nat) (L : List Nat), i + d = n → Rising i L → L.length ≤ i → least ≤ L.length + d → ∃ L' : List Nat, Ev (fun k => laws_someOf.l0 k (n : Int) (least : Int) more (K.il L) (i : Int)) (K.il L') ∧ Rising n L' ∧ least ≤ L'.length ∧ L'.length ≤ n := by
    intro d
    induction d with
    | zero =>
      intro i L h1 h2 _ h3
      obtain rfl : i = n := by omega
      refine ⟨L, ?_, h2, by omega, by omega⟩
      apply K.Ev.succ
      simp only [laws_someOf.l0, if_neg (show ¬ ((i : Int) < (i : Int)) by omega)]; exact Ev.now _
    | succ d ih =>
      intro i L h1 h2 hL h3
      have ws := K.w64s i (show i < 9223372036854775807 by omega)
      have w1 : K.Eqn (wrap64 ((n : Int) - (i : Int))) ((n : Int) - (i : Int)) := ⟨K.w64 (by omega) (by omega)⟩
      have w2 : K.Eqn (wrap64 ((least : Int) - (L.length : Int))) ((least : Int) - (L.length : Int)) := ⟨K.w64 (by omega) (by omega)⟩
      have hs : (K.il L).length < 17592186044416 := by rw [K.il_length]; omega
      have yes : ∃ L' : List Nat, Ev (fun k => laws_someOf.l0 k (n : Int) (least : Int) more (K.il L ++ [(i : Int)]) ((i + 1 : Nat) : Int)) (K.il L') ∧ Rising n L' ∧ least ≤ L'.length ∧ L'.length ≤ n := by
        rw [K.il_snoc]
        exact ih (i + 1) (L ++ [i]) (by omega) h2.snoc (by simp; omega) (by simp; omega)
      by_cases hc : (n : Int) - (i : Int) ≤ (least : Int) - (L.length : Int)
      · obtain ⟨L', e, r⟩ := yes
        refine ⟨L', ?_, r⟩
        apply K.Ev.succ
        by_cases hm : (i : Int) < (more.length : Int)
        · simp only [laws_someOf.l0, if_pos (show (i : Int) < (n : Int) by omega), if_pos hm, if_pos (show (0 : Int) ≤ (i : Int) by omega), K.il_length, w1.out, w2.out, if_pos hc, if_pos (show L.length < 17592186044416 by omega), ws]; exact e
        · simp only [laws_someOf.l0, if_pos (show (i : Int) < (n : Int) by omega), if_neg hm, K.il_length, w1.out, w2.out, if_pos hc, if_pos (show L.length < 17592186044416 by omega), ws]; exact e
      · by_cases hm : (i : Int) < (more.length : Int)
        · by_cases hb : (Int.tmod (wrap64 (rd more (i : Int))) 2) = 0
          · obtain ⟨L', e, r⟩ := yes
            refine ⟨L', ?_, r⟩
            apply K.Ev.succ
            simp only [laws_someOf.l0, if_pos (show (i : Int) < (n : Int) by omega), if_pos hm, if_pos (show (0 : Int) ≤ (i : Int) by omega), K.il_length, w1.out, w2.out, if_neg hc, if_pos hb, if_pos (show L.length < 17592186044416 by omega), ws]; exact e
          · obtain ⟨L', e, r⟩ := ih (i + 1) L (by omega) h2.more (by omega) (by omega)
            refine ⟨L', ?_, r⟩
            apply K.Ev.succ
            simp only [laws_someOf.l0, if_pos (show (i : Int) < (n : Int) by omega), if_pos hm, if_pos (show (0 : Int) ≤ (i : Int) by omega), K.il_length, w1.out, w2.out, if_neg hc, if_neg hb, ws]; exact e
        · obtain ⟨L', e, r⟩ := yes
          refine ⟨L', ?_, r⟩
          apply K.Ev.succ
          simp only [laws_someOf.l0, if_pos (show (i : Int) < (n : Int) by omega), if_neg hm, K.il_length, w1.out, w2.out, if_neg hc, if_pos (show (0 : Int) % 2 = 0 by decide), if_pos (show L.length < 17592186044416 by omega), ws]; exact e
  obtain ⟨L, e, r⟩ := key n 0 [] (by omega) ⟨List.Pairwise.nil, by simp⟩ (by simp) (by simpa using hl)
  exact ⟨L, by simp only [laws_someOf.f]; exact e, r⟩

theorem interpolate_good (m : List (Nat × Nat)) (hm : K.Pts m) (hg : GoodShares m) (h0 : 0 < m.length) (v : Nat) (hv : v < 256) : Ev (fun k => impl_Interpolate.f k (shl m) (v : Int)) (((K.interp m v : Nat) : Int), true) := by
  simp only [impl_Interpolate.f]
  refine Ev.bind (areShares_yes m hg).2 ?_
  simp only [if_true, shl_length, if_neg (show ¬ ((m.length : Int) = 0) by omega)]
  exact Ev.bind (through_ev m hm (by have := hg.len; omega) v hv).2 (Ev.now _)

theorem drawPolyAt_ok (c : List Int) (hc : K.Code c) : ∃ (l : List Nat) (x : Nat), Ev (fun k => spec_DrawPolyAt.f k c) (K.il l, (x : Int)) ∧ K.Bytes l ∧ l.length ≤ 30 ∧ x < 256 := by
  obtain ⟨v, a1, sd1, e1, v0, v1, b1, b2⟩ := pick_ok c hc 0 (by omega) (by omega) 0 7 (by omega)
  obtain ⟨v, rfl⟩ := Int.eq_ofNat_of_zero_le v0
  obtain ⟨b, a2, sd2, e2, b3, b4⟩ := one_ok c hc a1 (by omega) (by omega) sd1 20 (by omega)
  cases b with
  | true =>
    obtain ⟨u, a3, sd3, e3, u0, u1, b5, b6⟩ := pick_ok c hc a2 (by omega) (by omega) sd2 2 (by omega)
    have w : K.Eqn (wrap64 (20 + u)) ((20 + u.toNat : Nat) : Int) := ⟨by rw [K.w64 (by omega) (by omega)]; omega⟩
    obtain ⟨l, a4, sd4, e4, l1, l2, b7, b8⟩ := vector_ok c hc (20 + u.toNat) (by omega) a3 (by omega) (by omega) sd3
    obtain ⟨l, rfl, hb⟩ := K.il_of l2
    rw [K.il_length] at l1
    obtain ⟨x, a5, sd5, e5, x0, x1, _, _⟩ := byte_ok c hc a4 (by omega) (by omega) sd4
    obtain ⟨x, rfl⟩ := Int.eq_ofNat_of_zero_le x0
    refine ⟨l, x, ?_, hb, by omega, by omega⟩
    simp only [spec_DrawPolyAt.f, e1, Option.bind_some, e2, if_true, e3, w.out]
    refine Ev.bind e4 ?_
    simp only [e5, Option.bind_some]
    exact Ev.now _
  | false =>
    obtain ⟨l, a4, sd4, e4, l1, l2, b7, b8⟩ := vector_ok c hc v (by omega) a2 (by omega) (by omega) sd2
    obtain ⟨l, rfl, hb⟩ := K.il_of l2
    rw [K.il_length] at l1
    obtain ⟨x, a5, sd5, e5, x0, x1, _, _⟩ := byte_ok c hc a4 (by omega) (by omega) sd4
    obtain ⟨x, rfl⟩ := Int.eq_ofNat_of_zero_le x0
    refine ⟨l, x, ?_, hb, by omega, by omega⟩
    simp only [spec_DrawPolyAt.f, e1, Option.bind_some, e2, Bool.false_eq_true, if_false]
    refine Ev.bind e4 ?_
    simp only [e5, Option.bind_some]
    exact Ev.now _

theorem polyAt_same (l : List Nat) (hl : l.length ≤ 1048576) (hb : K.Bytes l) (x : Nat) (hx : x < 256) : ∃ r, Ev (fun k => impl_PolyAt.f k (K.il l) (x : Int)) r ∧ Ev (fun k => spec_PolyAt.f k (K.il l) (x : Int)) r := by
  by_cases h : ((K.il l).length : Int) > 20
  · exact ⟨(0, false), by simp only [impl_PolyAt.f, if_pos h]; exact Ev.now _, by simp only [spec_PolyAt.f, if_pos h]; exact Ev.now _⟩
  · exact ⟨(((K.peval l x : Nat) : Int), true), by simp only [impl_PolyAt.f, if_neg h]; exact Ev.bind (valueAt_ev l hl hb x hx) (Ev.now _), by simp only [spec_PolyAt.f, if_neg h]; exact Ev.bind (l7At_ev l hl hb x hx) (Ev.now _)⟩

theorem shl_set (m : List (Nat × Nat)) (n a b : Nat) : (shl m).set n ⟨(a : Int), (b : Int)⟩ = shl (m.set n (a, b)) := by simp [shl, List.map_set]
theorem pts_set {m : List (Nat × Nat)} (h : K.Pts m) (n a b : Nat) (ha : a < 256) (hb : b < 256) : K.Pts (m.set n (a, b)) := by
  intro p hp
  rcases List.mem_or_eq_of_mem_set hp with h1 | h1
  · exact h p h1
  · subst h1; exact ⟨ha, hb⟩
theorem shares_j2 (c : List Int) (hc : K.Code c) (m : List (Nat × Nat)) (hm : K.Pts m) (hl : m.length ≤ 20) (a : Int) (h0 : 0 ≤ a) (h1 : a ≤ 800000000000000000) (sd : Int) : ∃ (m2 : List (Nat × Nat)) (a' sd' : Int), Ev (fun k => spec_l1Cur_shares.j2 k (shl m) c a sd) (shl m2, a', sd') ∧ K.Pts m2 ∧ m2.length ≤ 20 ∧ a ≤ a' ∧ a' ≤ a + 10 := by
  by_cases h : (m.length : Int) > 1
  · obtain ⟨b, a1, sd1, e1, b1, b2⟩ := one_ok c hc a h0 (by omega) sd 20 (by omega)
    cases b with
    | true =>
      obtain ⟨v, a2, sd2, e2, v0, v1, b3, b4⟩ := pick_ok c hc a1 (by omega) (by omega) sd1 3 (by omega)
      obtain ⟨n, rfl⟩ := Int.eq_ofNat_of_zero_le v0
      have hz : 0 < m.length := by omega
      have e : rd_T61 (shl m) 0 = ⟨((m[0].1 : Nat) : Int), ((m[0].2 : Nat) : Int)⟩ := rd_shl (n := 0) hz
      have em : (n : Int) % 256 = (n : Int) := by omega
      refine ⟨m.set 0 (n, m[0].2), a2, sd2, ?_, pts_set hm 0 n _ (by omega) (hm _ (List.getElem_mem hz)).2, by simpa using hl, by omega, by omega⟩
      apply K.Ev.succ
      simp only [spec_l1Cur_shares.j2, shl_length, if_pos h, e1, Option.bind_some, if_true, e2, if_pos (show 0 < (m.length : Int) by omega), e, em]
      rw [← shl_set]
      exact Ev.now _
    | false =>
      refine ⟨m, a1, sd1, ?_, hm, hl, by omega, by omega⟩
      apply K.Ev.succ
      simp only [spec_l1Cur_shares.j2, shl_length, if_pos h, e1, Option.bind_some, Bool.false_eq_true, if_false]
      exact Ev.now _
  · refine ⟨m, a, sd, ?_, hm, hl, by omega, by omega⟩
    apply K.Ev.succ
    simp only [spec_l1Cur_shares.j2, shl_length, if_neg h]
    exact Ev.now _
theorem shares_j1 (c : List Int) (hc : K.Code c) (m : List (Nat × Nat)) (hm : K.Pts m) (hl : m.length ≤ 20) (b : Bool) (hb : b = true → 0 < m.length) (a : Int) (h0 : 0 ≤ a) (h1 : a ≤ 700000000000000000) (sd : Int) : ∃ (m2 : List (Nat × Nat)) (a' sd' : Int), Ev (fun k => spec_l1Cur_shares.j1 k (shl m) b c a sd) (shl m2, a', sd') ∧ K.Pts m2 ∧ m2.length ≤ 20 ∧ a ≤ a' ∧ a' ≤ a + 20 := by
  cases b with
  | false =>
    obtain ⟨m2, a', sd', e, r1, r2, r3, r4⟩ := shares_j2 c hc m hm hl a h0 (by omega) sd
    refine ⟨m2, a', sd', ?_, r1, r2, by omega, by omega⟩
    apply K.Ev.succ
    simp only [spec_l1Cur_shares.j1, Bool.false_eq_true, if_false]; exact e
  | true =>
    have hz := hb rfl
    obtain ⟨v, a1, sd1, e1, v0, v1, b1, b2⟩ := pick_ok c hc a h0 (by omega) sd (m.length : Int) (by omega)
    obtain ⟨y, a2, sd2, e2, y0, y1, b3, b4⟩ := byte_ok c hc a1 (by omega) (by omega) sd1
    obtain ⟨n, rfl⟩ := Int.eq_ofNat_of_zero_le v0
    obtain ⟨y, rfl⟩ := Int.eq_ofNat_of_zero_le y0
    have hn : n < m.length := by omega
    obtain ⟨m2, a', sd', e, r1, r2, r3, r4⟩ := shares_j2 c hc (m.set n (m[n].1, y)) (pts_set hm n _ _ (hm _ (List.getElem_mem hn)).1 (by omega)) (by simpa using hl) a2 (by omega) (by omega) sd2
    refine ⟨m2, a', sd', ?_, r1, r2, by omega, by omega⟩
    apply K.Ev.succ
    simp only [spec_l1Cur_shares.j1, if_true, shl_length, e1, Option.bind_some, e2, if_pos (show 0 ≤ (n : Int) by omega), if_pos (show (n : Int) < (m.length : Int) by omega), rd_shl hn, Int.toNat_natCast, shl_set]
    exact e
theorem shares_loop (c : List Int) (hc : K.Code c) (s : List (Nat × Nat)) (hs : K.Pts s) (hsl : s.length ≤ 20) : ∀ (d i : Nat) (m : List (Nat × Nat)) (a sd : Int), i + d = s.length → K.Pts m → m.length ≤ i → 0 ≤ a → a + 4 * d ≤ 600000000000000000 → ∃ (m2 : List (Nat × Nat)) (a' sd' : Int), Ev (fun k => spec_l1Cur_shares.l0 k (shl m) (shl s) (s.length : Int) (i : Int) c a sd) (shl m2, a', sd') ∧ K.Pts m2 ∧ m2.length ≤ 20 ∧ a ≤ a' ∧ a' ≤ a + 4 * d + 30 := by
  intro d
  induction d with
  | zero =>
    intro i m a sd h1 hm hl h0 h2
    have c0 : ¬ ((i : Int) < (s.length : Int)) := by omega
    by_cases h : (m.length : Int) > 0
    · obtain ⟨b, a1, sd1, e1, b1, b2⟩ := one_ok c hc a h0 (by omega) sd 5 (by omega)
      obtain ⟨m2, a', sd', e, r1, r2, r3, r4⟩ := shares_j1 c hc m hm (by omega) b (fun _ => by omega) a1 (by omega) (by omega) sd1
      refine ⟨m2, a', sd', ?_, r1, r2, by omega, by omega⟩
      apply K.Ev.succ
      simp only [spec_l1Cur_shares.l0, if_neg c0, shl_length, if_pos h, e1, Option.bind_some]; exact e
    · obtain ⟨m2, a', sd', e, r1, r2, r3, r4⟩ := shares_j1 c hc m hm (by omega) false (fun h => by cases h) a h0 (by omega) sd
      refine ⟨m2, a', sd', ?_, r1, r2, by omega, by omega⟩
      apply K.Ev.succ
      simp only [spec_l1Cur_shares.l0, if_neg c0, shl_length, if_neg h]; exact e
  | succ d ih =>
    intro i m a sd h1 hm hl h0 h2
    have hi : i < s.length := by omega
    have ws := K.w64s i (show i < 9223372036854775807 by omega)
    obtain ⟨b, a1, sd1, e1, b1, b2⟩ := one_ok c hc a h0 (by omega) sd 4 (by omega)
    cases b with
    | true =>
      obtain ⟨m2, a', sd', e, r1, r2, r3, r4⟩ := ih (i + 1) m a1 sd1 (by omega) hm (by omega) (by omega) (by omega)
      refine ⟨m2, a', sd', ?_, r1, r2, by omega, by omega⟩
      apply K.Ev.succ
      simp only [spec_l1Cur_shares.l0, if_pos (show (i : Int) < (s.length : Int) by omega), if_pos (show 0 ≤ (i : Int) by omega), shl_length, e1, Option.bind_some, if_true, ws]; exact e
    | false =>
      obtain ⟨m2, a', sd', e, r1, r2, r3, r4⟩ := ih (i + 1) (m ++ [(s[i].1, s[i].2)]) a1 sd1 (by omega) (fun p hp => by
        rcases List.mem_append.1 hp with h | h
        · exact hm p h
        · rw [List.mem_singleton.1 h]; exact hs _ (List.getElem_mem hi)) (by simp; omega) (by omega) (by omega)
      refine ⟨m2, a', sd', ?_, r1, r2, by omega, by omega⟩
      apply K.Ev.succ
      simp only [spec_l1Cur_shares.l0, if_pos (show (i : Int) < (s.length : Int) by omega), if_pos (show 0 ≤ (i : Int) by omega), shl_length, e1, Option.bind_some, Bool.false_eq_true, if_false, ws, rd_shl hi, shl_snoc, if_pos (show m.length < 70368744177664 by omega)]; exact e
theorem shares_ok (c : List Int) (hc : K.Code c) (a : Int) (h0 : 0 ≤ a) (h1 : a ≤ 500000000000000000) (sd : Int) : ∃ (m : List (Nat × Nat)) (a' sd' : Int), Ev (fun k => spec_l1Cur_shares.f k c a sd) (shl m, a', sd') ∧ K.Pts m ∧ m.length ≤ 20 ∧ a ≤ a' ∧ a' ≤ a + 1000 := by
  obtain ⟨x, a1, sd1, e1, x0, x1, b1, b2⟩ := byte_ok c hc a h0 (by omega) sd
  obtain ⟨v, a2, sd2, e2, v0, v1, b3, b4⟩ := pick_ok c hc a1 (by omega) (by omega) sd1 5 (by omega)
  obtain ⟨n, rfl⟩ := Int.eq_ofNat_of_zero_le v0
  obtain ⟨x, rfl⟩ := Int.eq_ofNat_of_zero_le x0
  obtain ⟨l, a3, sd3, e3, l1, l2, b5, b6⟩ := vector_ok c hc n (by omega) a2 (by omega) (by omega) sd2
  obtain ⟨l, rfl, hb⟩ := K.il_of l2
  rw [K.il_length] at l1
  obtain ⟨u, a4, sd4, e4, u0, u1, b7, b8⟩ := pick_ok c hc a3 (by omega) (by omega) sd3 8 (by omega)
  obtain ⟨u, rfl⟩ := Int.eq_ofNat_of_zero_le u0
  have hu : wrap64 (1 + (u : Int)) = ((u + 1 : Nat) : Int) := by rw [K.w64 (by omega) (by omega)]; omega
  have hb2 : K.Bytes (x :: l) := fun y hy => by
    rcases List.mem_cons.1 hy with rfl | hy
    · omega
    · exact hb y hy
  have es := (shareSecret_ev x l (by omega) hb (by omega) (u + 1) (by omega) (by omega)).2
  obtain ⟨m2, a', sd', e, r1, r2, r3, r4⟩ := shares_loop c hc (sharesOf (x :: l) (u + 1)) (sharesOf_pts _ hb2 _ (by omega)) (by rw [sharesOf_length]; omega) (u + 1) 0 [] a4 sd4 (by rw [sharesOf_length]; omega) (fun p hp => by cases hp) (by simp) (by omega) (by omega)
  refine ⟨m2, a', sd', ?_, r1, r2, by omega, by omega⟩
  simp only [spec_l1Cur_shares.f, e1, Option.bind_some, e2]
  refine Ev.bind e3 ?_
  simp only [e4, Option.bind_some, hu]
  refine Ev.bind es ?_
  simp only [shl_length]
  exact e

theorem drawInterpolate_ok (c : List Int) (hc : K.Code c) : ∃ (m : List (Nat × Nat)) (x : Nat), Ev (fun k => spec_DrawInterpolate.f k c) (shl m, (x : Int)) ∧ K.Pts m ∧ m.length ≤ 20 ∧ x < 256 := by
  obtain ⟨m, a1, sd1, e1, r1, r2, b1, b2⟩ := shares_ok c hc 0 (by omega) (by omega) 0
  obtain ⟨x, a2, sd2, e2, x0, x1, _, _⟩ := byte_ok c hc a1 (by omega) (by omega) sd1
  obtain ⟨x, rfl⟩ := Int.eq_ofNat_of_zero_le x0
  refine ⟨m, x, ?_, r1, r2, by omega⟩
  simp only [spec_DrawInterpolate.f]
  refine Ev.bind e1 ?_
  simp only [e2, Option.bind_some]
  exact Ev.now _

theorem interpolate_same (m : List (Nat × Nat)) (hm : K.Pts m) (hl : m.length ≤ 1048576) (v : Nat) (hv : v < 256) : ∃ r, Ev (fun k => impl_Interpolate.f k (shl m) (v : Int)) r ∧ Ev (fun k => spec_Interpolate.f k (shl m) (v : Int)) r := by
  obtain ⟨b, i1, i2, i3⟩ := areShares_ev m hl
  cases b with
  | false =>
    refine ⟨(0, false), ?_, ?_⟩
    · simp only [impl_Interpolate.f]; refine Ev.bind i2 ?_; simp only [Bool.false_eq_true, if_false]; exact Ev.now _
    · simp only [spec_Interpolate.f]; refine Ev.bind i1 ?_; simp only [Bool.false_eq_true, if_false]; exact Ev.now _
  | true =>
    have hg := i3.1 rfl
    by_cases h : (m.length : Int) = 0
    · refine ⟨(0, false), ?_, ?_⟩
      · simp only [impl_Interpolate.f]; refine Ev.bind i2 ?_; simp only [if_true, shl_length, if_pos h]; exact Ev.now _
      · simp only [spec_Interpolate.f]; refine Ev.bind i1 ?_; simp only [if_true, shl_length, if_pos h]; exact Ev.now _
    · have t := through_ev m hm (by have := hg.len; omega) v hv
      refine ⟨(((K.interp m v : Nat) : Int), true), ?_, ?_⟩
      · simp only [impl_Interpolate.f]; refine Ev.bind i2 ?_; simp only [if_true, shl_length, if_neg h]; exact Ev.bind t.2 (Ev.now _)
      · simp only [spec_Interpolate.f]; refine Ev.bind i1 ?_; simp only [if_true, shl_length, if_neg h]; exact Ev.bind t.1 (Ev.now _)

/-- Some of the shares of a polynomial. -/
def pick (p : List Nat) (L : List Nat) : List (Nat × Nat) := L.map (fun i => (i + 1, K.peval p (i + 1)))
theorem pick_length (p L : List Nat) : (pick p L).length = L.length := by simp [pick]
theorem pick_pts (p : List Nat) (hb : K.Bytes p) (n : Nat) (hn : n ≤ 20) (L : List Nat) (h : Rising n L) : K.Pts (pick p L) := by
  intro q hq
  obtain ⟨i, hi, rfl⟩ := List.mem_map.1 hq
  have := h.2 i hi
  exact ⟨by simp only; omega, K.peval_lt hb _⟩
theorem pick_good (p : List Nat) (n : Nat) (hn : n ≤ 20) (L : List Nat) (h : Rising n L) (hl : L.length ≤ n) : GoodShares (pick p L) := by
  refine ⟨by rw [pick_length]; omega, ?_, ?_⟩
  · intro q hq
    obtain ⟨i, hi, rfl⟩ := List.mem_map.1 hq
    simp
  · have e : (pick p L).map Prod.fst = L.map (· + 1) := by simp [pick, Function.comp_def]
    rw [e, List.pairwise_map]
    exact h.1.imp (fun h => by omega)
theorem pick_on (p L : List Nat) : ∀ q ∈ pick p L, K.peval p q.1 = q.2 := by
  intro q hq
  obtain ⟨i, hi, rfl⟩ := List.mem_map.1 hq
  rfl
theorem all_pick (p : List Nat) (n : Nat) : sharesOf p n = pick p (List.range n) := rfl
theorem range_rising (n : Nat) : Rising n (List.range n) := ⟨List.pairwise_lt_range, fun x hx => List.mem_range.1 hx⟩
theorem poly_self (p : List Nat) (hb : K.Bytes p) : K.Poly p.length (K.peval p) := ⟨p, rfl, hb, fun _ _ => rfl⟩
theorem through_some (p : List Nat) (hb : K.Bytes p) (m : List (Nat × Nat)) (hm : K.Pts m) (hd : (m.map Prod.fst).Nodup) (hp : p.length ≤ m.length) (hy : ∀ q ∈ m, K.peval p q.1 = q.2) (v : Nat) (hv : v < 256) : K.interp m v = K.peval p v :=
  K.interp_eq m hm hd ((poly_self p hb).upto hp) hy hv
theorem nodup_take {m : List (Nat × Nat)} (h : (m.map Prod.fst).Nodup) (n : Nat) : ((m.take n).map Prod.fst).Nodup := by
  rw [List.map_take]
  exact h.sublist (List.take_sublist _ _)
theorem shamir_j3 (c : List Int) (hc : K.Code c) : Ev (fun k => laws_FnShamir.j3 k c) true := by
  obtain ⟨l, x, e1, l1, l2, hx⟩ := drawPolyAt_ok c hc
  obtain ⟨r, e2, e3⟩ := polyAt_same l (by omega) l1 x hx
  obtain ⟨m, v, e4, m1, m2, hv⟩ := drawInterpolate_ok c hc
  obtain ⟨s, e5, e6⟩ := interpolate_same m m1 (by omega) v hv
  apply K.Ev.succ
  simp only [laws_FnShamir.j3]
  refine Ev.bind e1 ?_
  refine Ev.bind e2 ?_
  refine Ev.bind e3 ?_
  refine Ev.bind e4 ?_
  refine Ev.bind e5 ?_
  refine Ev.bind e6 ?_
  simp only [beq_self_eq_true, if_true]
  exact Ev.now _
theorem shamir_loop (c2 : List Int) (a x12 : Int) (p : List Nat) (n : Nat) (hn : n ≤ 20) (L : List Nat) (hL : Rising n L) (hl : L.length ≤ n) (fin : Ev (fun k => laws_FnShamir.l0 k c2 a (shl (sharesOf p n)) x12 (shl (pick p L)) (K.il L) (L.length : Int) (L.length : Int)) true) : ∀ (d i : Nat), i + d = L.length → Ev (fun k => laws_FnShamir.l0 k c2 a (shl (sharesOf p n)) x12 (shl (pick p (L.take i))) (K.il L) (L.length : Int) (i : Int)) true := by
  intro d
  induction d with
  | zero =>
    intro i h
    obtain rfl : i = L.length := by omega
    rw [List.take_length]
    exact fin
  | succ d ih =>
    intro i h
    have hi : i < L.length := by omega
    have hLi := hL.2 L[i] (List.getElem_mem hi)
    have ws := K.w64s i (show i < 9223372036854775807 by omega)
    have hsh : L[i] < (sharesOf p n).length := by rw [sharesOf_length]; exact hLi
    have r := ih (i + 1) (by omega)
    have e : pick p (L.take (i + 1)) = pick p (L.take i) ++ [(L[i] + 1, K.peval p (L[i] + 1))] := by
      simp only [pick, K.take_succ' L i hi, List.map_append, List.map_cons, List.map_nil]
    rw [e, ← shl_snoc] at r
    apply K.Ev.succ
    simp only [laws_FnShamir.l0, if_pos (show (i : Int) < (L.length : Int) by omega), if_pos (show 0 ≤ (i : Int) by omega), K.il_length, K.rd_il hi, if_pos (show 0 ≤ ((L[i] : Nat) : Int) by omega), shl_length, if_pos (show ((L[i] : Nat) : Int) < ((sharesOf p n).length : Int) by omega), rd_shl hsh, sharesOf_get p n L[i] hLi, ws, pick_length, if_pos (show (L.take i).length < 70368744177664 by rw [List.length_take]; omega)]
    exact r
theorem shamir_yes (c2 : List Int) (hc2 : K.Code c2) (a : Nat) (r : List Nat) (ha : a < 256) (hb : K.Bytes r) (n : Nat) (hn : n ≤ 20) (hk : r.length + 1 ≤ n) : Ev (fun k => laws_FnShamir.j1 k c2 (a : Int) (n : Int) (shl (sharesOf (a :: r) n)) ((r.length + 1 : Nat) : Int) true) true := by
  have hb2 : K.Bytes (a :: r) := fun y hy => by
    rcases List.mem_cons.1 hy with rfl | hy
    · exact ha
    · exact hb y hy
  obtain ⟨L, e1, hL, hL1, hL2⟩ := someOf_ev n (r.length + 1) c2 (by omega) hk
  have g1 := pick_good (a :: r) n hn L hL hL2
  have g2 := pick_pts (a :: r) hb2 n hn L hL
  have v0 : K.peval (a :: r) 0 = a := by rw [K.peval_cons, K.gmul_zero, Nat.zero_xor]
  have hfin : Ev (fun k => laws_FnShamir.l0 k c2 (a : Int) (shl (sharesOf (a :: r) n)) ((r.length + 1 : Nat) : Int) (shl (pick (a :: r) L)) (K.il L) (L.length : Int) (L.length : Int)) true := by
    have o := openSecret_good (pick (a :: r) L) g2 g1 (r.length + 1) (by omega) (by rw [pick_length]; omega)
    rw [through_some (a :: r) hb2 _ (fun q hq => g2 q (List.mem_of_mem_take hq)) (nodup_take g1.nodup _) (by rw [List.length_take, pick_length]; simp; omega) (fun q hq => pick_on _ _ q (List.mem_of_mem_take hq)) 0 (by omega), v0] at o
    have G1 : GoodShares (sharesOf (a :: r) n) := pick_good (a :: r) n hn _ (range_rising n) (by simp)
    have G2 : K.Pts (sharesOf (a :: r) n) := pick_pts (a :: r) hb2 n hn _ (range_rising n)
    have s := isShared_good (sharesOf (a :: r) n) G2 G1 (r.length + 1) (by omega) (by omega) (fun q hq => by
      rw [through_some (a :: r) hb2 _ (fun q hq => G2 q (List.mem_of_mem_take hq)) (nodup_take G1.nodup _) (by rw [List.length_take, sharesOf_length]; simp; omega) (fun q hq => pick_on _ _ q (List.mem_of_mem_take hq)) q.1 (G2 q (List.mem_of_mem_drop hq)).1]
      exact pick_on _ _ q (List.mem_of_mem_drop hq))
    have i := interpolate_good (pick (a :: r) L) g2 g1 (by rw [pick_length]; omega) 0 (by omega)
    rw [through_some (a :: r) hb2 _ g2 g1.nodup (by rw [pick_length]; simpa using hL1) (pick_on _ _) 0 (by omega), v0] at i
    apply K.Ev.succ
    simp only [laws_FnShamir.l0, if_neg (show ¬ ((L.length : Int) < (L.length : Int)) by omega)]
    refine Ev.bind o ?_
    refine Ev.bind s ?_
    refine Ev.bind i ?_
    simp only [if_true]
    exact shamir_j3 c2 hc2
  apply K.Ev.succ
  simp only [laws_FnShamir.j1, if_true]
  refine Ev.bind e1 ?_
  rw [K.il_length]
  have := shamir_loop c2 (a : Int) ((r.length + 1 : Nat) : Int) (a :: r) n hn L hL hL2 hfin L.length 0 (by omega)
  exact this
theorem FnShamir : laws_FnShamir.Pure := by
  intro c1 c2 _ hl1 hw1 _ hl2 hw2
  have hc1 : K.Code c1 := ⟨by omega, fun x h => K.b_u8 (hw1 x h)⟩
  have hc2 : K.Code c2 := ⟨by omega, fun x h => K.b_u8 (hw2 x h)⟩
  refine Ev.rounds (?_ : Ev (fun k => laws_FnShamir.f k c1 c2) true)
  unfold laws_FnShamir.f
  by_cases h : (wrap64 ((c1.length : Int) + (c2.length : Int))) > 1048576
  · simp only [if_pos h]; exact Ev.now _
  simp only [if_neg h]
  obtain ⟨a, r, n, e1, ha, hb, hr⟩ := drawShareSecret_ok c1 hc1
  refine Ev.bind e1 ?_
  have hw : wrap64 (((K.il r).length : Int) + 1) = ((r.length + 1 : Nat) : Int) := by rw [K.il_length, K.w64 (by omega) (by omega)]; omega
  have no : ∀ (s : List S61) (x : Int), Ev (fun k => laws_FnShamir.j1 k c2 (a : Int) n s x false) true := by
    intro s x
    apply K.Ev.succ
    simp only [laws_FnShamir.j1, Bool.false_eq_true, if_false]
    exact shamir_j3 c2 hc2
  by_cases hg : (K.il r).length ≤ 8 ∧ 1 ≤ n ∧ n ≤ 20
  · obtain ⟨g1, g2, g3⟩ := hg
    rw [K.il_length] at g1
    obtain ⟨n, rfl⟩ := Int.eq_ofNat_of_zero_le (show 0 ≤ n by omega)
    have es := shareSecret_ev a r ha hb g1 n (by omega) (by omega)
    refine Ev.bind es.1 ?_
    refine Ev.bind es.2 ?_
    simp only [bne_self_eq_false, Bool.false_eq_true, if_false]
    refine Ev.bind (sameShares_self _ (by rw [shl_length, sharesOf_length]; omega)) ?_
    simp only [Bool.not_true]
    apply K.Ev.succ
    simp only [laws_FnShamir.j0, Bool.false_eq_true, if_false, if_true, hw]
    by_cases hk : r.length + 1 ≤ n
    · rw [decide_eq_true (show (n : Int) ≥ ((r.length + 1 : Nat) : Int) by omega)]
      exact shamir_yes c2 hc2 a r ha hb n (by omega) hk
    · rw [decide_eq_false (show ¬ (n : Int) ≥ ((r.length + 1 : Nat) : Int) by omega)]
      exact no _ _
  · have es := shareSecret_no (a : Int) (K.il r) n hg
    refine Ev.bind es.1 ?_
    refine Ev.bind es.2 ?_
    simp only [bne_self_eq_false, Bool.false_eq_true, if_false]
    refine Ev.bind (sameShares_self _ (by simp)) ?_
    simp only [Bool.not_true]
    apply K.Ev.succ
    simp only [laws_FnShamir.j0, Bool.false_eq_true, if_false]
    exact no _ _

end Go.Proofs.Ytekaaoeojbclfaa.Pure
