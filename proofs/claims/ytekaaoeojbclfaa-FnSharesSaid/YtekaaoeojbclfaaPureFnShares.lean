/- The law FnShares answers true for all drawn shares: the sum of shares are shares of the sum, fresh shares open the same secret, and a polynomial is shared and opened as the reference does. -/
import Derived.Test.YtekaaoeojbclfaaPFnSharesx11
import Derived.Test.YtekaaoeojbclfaaKKit
import Derived.Test.YtekaaoeojbclfaaKGF
import Derived.Test.YtekaaoeojbclfaaKGFL
import Derived.Test.YtekaaoeojbclfaaKLag
set_option linter.unusedVariables false
set_option linter.unusedSimpArgs false
namespace Go.Proofs.Ytekaaoeojbclfaa.Pure
open Go Go.RowKit Go.Proofs.Ytekaaoeojbclfaa Go.Proofs.Ytekaaoeojbclfaa.PFnShares Go.Proofs.YtekaaoeojbclfaaW.PrintWords Go.Proofs.YtekaaoeojbclfaaW.PrintLast Go.Proofs.YtekaaoeojbclfaaW.PrintMore

theorem l1Times_ev (a b : Nat) (ha : a < 256) (hb : b < 256) : Ev (fun k => spec_l1Times.f k (a : Int) (b : Int)) ((K.gmul a b : Nat) : Int) := by
  have key : ∀ (n x y o : Nat), x < 256 → o < 256 → y < 2 ^ n → n ≤ 8 → Ev (fun k => spec_l1Times.l0 k (o : Int) (x : Int) (y : Int)) ((K.gstep n x y o : Nat) : Int) := by
    intro n
    induction n with
    | zero =>
      intro x y o hx ho hy _
      obtain rfl : y = 0 := by simpa using hy
      apply K.Ev.succ
      simp only [spec_l1Times.l0, show ¬ (((0 : Nat) : Int) > 0) by omega, if_false, K.gstep]
      exact K.Ev.const (by rw [show (o : Int) % 256 = (o : Int) by omega])
    | succ n ih =>
      intro x y o hx ho hy hn
      by_cases h0 : y = 0
      · subst h0
        apply K.Ev.succ
        rw [K.gstep_zero]
        simp only [spec_l1Times.l0, show ¬ (((0 : Nat) : Int) > 0) by omega, if_false]
        exact K.Ev.const (by rw [show (o : Int) % 256 = (o : Int) by omega])
      have hy2 : y < 512 := Nat.lt_of_lt_of_le hy (by
        have : 2 ^ (n + 1) ≤ 2 ^ 9 := Nat.pow_le_pow_right (by omega) (by omega)
        omega)
      have w : K.Eqn (wrap64 ((x : Int) * 2)) ((2 * x : Nat) : Int) := ⟨by rw [K.w64 (by omega) (by omega)]; omega⟩
      have hx2 : (if ((2 * x : Nat) : Int) > 255 then Go.bits .xor .i64 ((2 * x : Nat) : Int) 283 else ((2 * x : Nat) : Int)) = ((K.xt x : Nat) : Int) := by
        unfold K.xt
        by_cases h : 2 * x > 255
        · rw [if_pos (by omega), if_pos h]
          exact K.xor_i64 (b := 283) (by omega) (by omega)
        · rw [if_neg (by omega), if_neg h]
      have hy' : (y : Int) / 2 = ((y / 2 : Nat) : Int) := by omega
      have hnext := ih (K.xt x) (y / 2) (if y % 2 = 1 then o ^^^ x else o) (K.xt_lt hx) (by
        split
        · exact Nat.xor_lt_two_pow (n := 8) ho hx
        · exact ho) (by rw [Nat.pow_succ] at hy; omega) (by omega)
      apply K.Ev.succ
      simp only [spec_l1Times.l0, if_pos (show (y : Int) > 0 by omega), K.and_i64_1 (show y < 1024 by omega), w.out, K.xor_i64 (show o < 1024 by omega) (show x < 1024 by omega), hy']
      by_cases h1 : y % 2 = 1
      · rw [if_pos h1] at hnext
        simp only [h1, show (((1 : Nat) : Int) = 1) = True by simp, if_true, K.gstep]
        by_cases h2 : ((2 * x : Nat) : Int) > 255
        · rw [if_pos h2] at hx2
          simp only [if_pos h2]
          simp only [hx2]
          exact hnext
        · rw [if_neg h2] at hx2
          simp only [if_neg h2]
          simp only [hx2]
          exact hnext
      · rw [if_neg h1] at hnext
        have h1' : ¬ (((y % 2 : Nat) : Int) = 1) := by omega
        simp only [if_neg h1', K.gstep, if_neg h1]
        by_cases h2 : ((2 * x : Nat) : Int) > 255
        · rw [if_pos h2] at hx2
          simp only [if_pos h2]
          simp only [hx2]
          exact hnext
        · rw [if_neg h2] at hx2
          simp only [if_neg h2]
          simp only [hx2]
          exact hnext
  have wa : K.Eqn (wrap64 (a : Int)) (a : Int) := ⟨K.w64 (by omega) (by omega)⟩
  have wb : K.Eqn (wrap64 (b : Int)) (b : Int) := ⟨K.w64 (by omega) (by omega)⟩
  simp only [spec_l1Times.f, wa.out, wb.out]
  exact key 8 a b 0 ha (by omega) (by omega) (by omega)

theorem l1Power_ev (a n : Nat) (ha : a < 256) (hn : n < 1024) : Ev (fun k => spec_l1Power.f k (a : Int) (n : Int)) ((K.gpow a n : Nat) : Int) := by
  have key : ∀ (n o : Nat), n < 1024 → o < 256 → Ev (fun k => spec_l1Power.l0 k (a : Int) (n : Int) (o : Int)) ((K.gmul o (K.gpow a n) : Nat) : Int) := by
    intro n
    induction n with
    | zero =>
      intro o _ ho
      apply K.Ev.succ
      simp only [spec_l1Power.l0, show ¬ (((0 : Nat) : Int) > 0) by omega, if_false, K.gpow, K.gmul_one ho]
      exact Ev.now _
    | succ n ih =>
      intro o h ho
      have w : K.Eqn (wrap64 (((n + 1 : Nat) : Int) - 1)) (n : Int) := ⟨by rw [K.w64 (by omega) (by omega)]; omega⟩
      have e : K.gmul o (K.gpow a (n + 1)) = K.gmul (K.gmul o a) (K.gpow a n) := by
        rw [K.gmul_assoc ho ha (K.gpow_lt n), K.gmul_comm ha (K.gpow_lt n)]; rfl
      apply K.Ev.succ
      simp only [spec_l1Power.l0, if_pos (show ((n + 1 : Nat) : Int) > 0 by omega), w.out]
      refine Ev.bind (l1Times_ev o a ho ha) ?_
      rw [e]
      exact ih _ (by omega) (K.gmul_lt ho)
  have := key n 1 hn (by omega)
  rw [K.one_gmul (K.gpow_lt n)] at this
  simp only [spec_l1Power.f]
  exact this

theorem l1Inverse_ev (a : Nat) (ha : a < 256) : Ev (fun k => spec_l1Inverse.f k (a : Int)) ((K.ginv a : Nat) : Int) := by
  simp only [spec_l1Inverse.f]
  by_cases h : (a : Int) = 0
  · simp only [if_pos h]
    obtain rfl : a = 0 := by omega
    have : K.ginv 0 = 0 := K.gpow_zero 254 (by omega)
    rw [this]
    exact Ev.now _
  · simp only [if_neg h]
    exact Ev.bind (l1Power_ev a 254 ha (by omega)) (Ev.now _)

theorem areShares_same (l : List S61) (hl : l.length ≤ 1048576) : ∃ b : Bool, Ev (fun k => spec_l7Shares.f k l) b ∧ Ev (fun k => impl_areShares.f k l) b ∧ (b = true → l.length ≤ 20) := by
  have key : ∀ (d n : Nat), n + d = l.length → ∃ b : Bool, Ev (fun k => spec_l7Shares.l0 k l l (l.length : Int) (n : Int)) b ∧ Ev (fun k => impl_areShares.l0 k l l (l.length : Int) (n : Int)) b ∧ (b = true → l.length ≤ 20) := by
    intro d
    induction d with
    | zero =>
      intro n h1
      refine ⟨decide ((l.length : Int) ≤ 20), ?_, ?_, fun h => by simp at h; omega⟩ <;> apply K.Ev.succ
      · simp only [spec_l7Shares.l0, if_neg (show ¬ ((n : Int) < (l.length : Int)) by omega)]; exact Ev.now _
      · simp only [impl_areShares.l0, if_neg (show ¬ ((n : Int) < (l.length : Int)) by omega)]; exact Ev.now _
    | succ d ih =>
      intro n h1
      have c1 : (n : Int) < (l.length : Int) := by omega
      have c2 : 0 ≤ (n : Int) := by omega
      have ws := K.w64s n (show n < 9223372036854775807 by omega)
      obtain ⟨b, i1, i2, i3⟩ := ih (n + 1) (by omega)
      by_cases h0 : (rd_T61 l (n : Int)).f0 = 0
      · refine ⟨false, ?_, ?_, fun h => by cases h⟩ <;> apply K.Ev.succ
        · simp only [spec_l7Shares.l0, if_pos c1, if_pos c2, if_pos h0]; exact Ev.now _
        · simp only [impl_areShares.l0, if_pos c1, if_pos c2, if_pos h0]; exact Ev.now _
      by_cases hn : (n : Int) > 0
      · have w : wrap64 ((n : Int) - 1) = (n : Int) - 1 := K.w64 (by omega) (by omega)
        have c3 : 0 ≤ (n : Int) - 1 := by omega
        have c4 : (n : Int) - 1 < (l.length : Int) := by omega
        by_cases hc : (rd_T61 l ((n : Int) - 1)).f0 ≥ (rd_T61 l (n : Int)).f0
        · have hc' : (rd_T61 l (n : Int)).f0 ≤ (rd_T61 l ((n : Int) - 1)).f0 := hc
          refine ⟨false, ?_, ?_, fun h => by cases h⟩ <;> apply K.Ev.succ
          · simp only [spec_l7Shares.l0, if_pos c1, if_pos c2, if_neg h0, if_pos hn, w, if_pos c3, if_pos c4, if_pos hc]; exact Ev.now _
          · simp only [impl_areShares.l0, if_pos c1, if_pos c2, if_neg h0, if_pos hn, w, if_pos c3, if_pos c4, if_pos hc']; exact Ev.now _
        · have hc' : ¬ (rd_T61 l (n : Int)).f0 ≤ (rd_T61 l ((n : Int) - 1)).f0 := hc
          refine ⟨b, ?_, ?_, i3⟩ <;> apply K.Ev.succ
          · simp only [spec_l7Shares.l0, if_pos c1, if_pos c2, if_neg h0, if_pos hn, w, if_pos c3, if_pos c4, if_neg hc, ws]; exact i1
          · simp only [impl_areShares.l0, if_pos c1, if_pos c2, if_neg h0, if_pos hn, w, if_pos c3, if_pos c4, if_neg hc', ws]; exact i2
      · refine ⟨b, ?_, ?_, i3⟩ <;> apply K.Ev.succ
        · simp only [spec_l7Shares.l0, if_pos c1, if_pos c2, if_neg h0, if_neg hn, ws]; exact i1
        · simp only [impl_areShares.l0, if_pos c1, if_pos c2, if_neg h0, if_neg hn, ws]; exact i2
  obtain ⟨b, i1, i2, i3⟩ := key l.length 0 (by omega)
  exact ⟨b, by simp only [spec_l7Shares.f]; exact i1, by simp only [impl_areShares.f]; exact i2, i3⟩
/-- Shares of pairs of bytes. -/
def shl (m : List (Nat × Nat)) : List S61 := m.map (fun p => ⟨(p.1 : Int), (p.2 : Int)⟩)
theorem shl_length (m : List (Nat × Nat)) : (shl m).length = m.length := by simp [shl]
theorem rd_shl {m : List (Nat × Nat)} {n : Nat} (h : n < m.length) : rd_T61 (shl m) (n : Int) = ⟨((m[n].1 : Nat) : Int), ((m[n].2 : Nat) : Int)⟩ := by
  simp [rd_T61, shl, List.getElem?_eq_getElem h]
theorem shl_snoc (m : List (Nat × Nat)) (a b : Nat) : shl m ++ [⟨(a : Int), (b : Int)⟩] = shl (m ++ [(a, b)]) := by simp [shl]
/-- Valid shares. -/
structure GoodShares (m : List (Nat × Nat)) : Prop where
  len : m.length ≤ 20
  nz : ∀ p ∈ m, p.1 ≠ 0
  up : (m.map Prod.fst).Pairwise (· < ·)
theorem goodShares_iff (m : List (Nat × Nat)) : GoodShares m ↔ m.length ≤ 20 ∧ ∀ i (hi : i < m.length), m[i].1 ≠ 0 ∧ (0 < i → (m[i - 1]'(by omega)).1 < m[i].1) := by
  constructor
  · intro h
    refine ⟨h.len, fun i hi => ⟨h.nz _ (List.getElem_mem hi), fun h0 => ?_⟩⟩
    have := List.pairwise_iff_getElem.1 h.up (i - 1) i (by simp; omega) (by simpa using hi) (by omega)
    simpa using this
  · rintro ⟨h1, h2⟩
    refine ⟨h1, ?_, ?_⟩
    · intro p hp
      obtain ⟨i, hi, rfl⟩ := List.getElem_of_mem hp
      exact (h2 i hi).1
    · refine List.pairwise_iff_getElem.2 ?_
      have key : ∀ (d i : Nat) (h : i + d + 1 < m.length), (m[i]'(by omega)).1 < (m[i + d + 1]'h).1 := by
        intro d
        induction d with
        | zero =>
          intro i h
          have := (h2 (i + 1) (by omega)).2 (by omega)
          simpa using this
        | succ d ih =>
          intro i h
          have a := ih i (by omega)
          have b := (h2 (i + (d + 1) + 1) h).2 (by omega)
          have e : i + (d + 1) + 1 - 1 = i + d + 1 := by omega
          simp only [e] at b
          omega
      intro i j hi hj hij
      have := key (j - i - 1) i (by simp at hj; omega)
      have e : i + (j - i - 1) + 1 = j := by omega
      simp only [e] at this
      simpa using this
theorem areShares_ev (m : List (Nat × Nat)) (hl : m.length ≤ 1048576) : ∃ b : Bool, Ev (fun k => spec_l7Shares.f k (shl m)) b ∧ Ev (fun k => impl_areShares.f k (shl m)) b ∧ (b = true ↔ GoodShares m) := by
  have key : ∀ (d n : Nat), n + d = m.length → ∃ b : Bool, Ev (fun k => spec_l7Shares.l0 k (shl m) (shl m) (m.length : Int) (n : Int)) b ∧ Ev (fun k => impl_areShares.l0 k (shl m) (shl m) (m.length : Int) (n : Int)) b ∧ (b = true ↔ m.length ≤ 20 ∧ ∀ i (hi : i < m.length), n ≤ i → m[i].1 ≠ 0 ∧ (0 < i → (m[i - 1]'(by omega)).1 < m[i].1)) := by
    intro d
    induction d with
    | zero =>
      intro n h1
      refine ⟨decide ((m.length : Int) ≤ 20), ?_, ?_, ?_⟩
      · apply K.Ev.succ
        simp only [spec_l7Shares.l0, shl_length, if_neg (show ¬ ((n : Int) < (m.length : Int)) by omega)]; exact Ev.now _
      · apply K.Ev.succ
        simp only [impl_areShares.l0, shl_length, if_neg (show ¬ ((n : Int) < (m.length : Int)) by omega)]; exact Ev.now _
      · rw [decide_eq_true_iff]
        exact ⟨fun h => ⟨by omega, fun i hi hn => by omega⟩, fun h => by omega⟩
    | succ d ih =>
      intro n h1
      have hn : n < m.length := by omega
      have c1 : (n : Int) < (m.length : Int) := by omega
      have c2 : 0 ≤ (n : Int) := by omega
      have ws := K.w64s n (show n < 9223372036854775807 by omega)
      obtain ⟨b, i1, i2, i3⟩ := ih (n + 1) (by omega)
      by_cases h0 : m[n].1 = 0
      · have h0' : ((m[n].1 : Nat) : Int) = 0 := by omega
        refine ⟨false, ?_, ?_, ⟨fun h => (by cases h), fun h => absurd h0 (h.2 n hn (Nat.le_refl _)).1⟩⟩ <;> apply K.Ev.succ
        · simp only [spec_l7Shares.l0, shl_length, if_pos c1, if_pos c2, rd_shl hn, if_pos h0']; exact Ev.now _
        · simp only [impl_areShares.l0, shl_length, if_pos c1, if_pos c2, rd_shl hn, if_pos h0']; exact Ev.now _
      have h0' : ¬ ((m[n].1 : Nat) : Int) = 0 := by omega
      by_cases hz : n = 0
      · have hn0 : ¬ (n : Int) > 0 := by omega
        refine ⟨b, ?_, ?_, ?_⟩
        · apply K.Ev.succ
          simp only [spec_l7Shares.l0, shl_length, if_pos c1, if_pos c2, rd_shl hn, if_neg h0', if_neg hn0, ws]; exact i1
        · apply K.Ev.succ
          simp only [impl_areShares.l0, shl_length, if_pos c1, if_pos c2, rd_shl hn, if_neg h0', if_neg hn0, ws]; exact i2
        · rw [i3]
          refine ⟨fun h => ⟨h.1, fun i hi hni => ?_⟩, fun h => ⟨h.1, fun i hi hni => h.2 i hi (by omega)⟩⟩
          by_cases e : i = n
          · subst e; exact ⟨h0, fun h => by omega⟩
          · exact h.2 i hi (by omega)
      · have hn0 : (n : Int) > 0 := by omega
        have w : wrap64 ((n : Int) - 1) = ((n - 1 : Nat) : Int) := by rw [K.w64 (by omega) (by omega)]; omega
        have c3 : 0 ≤ ((n - 1 : Nat) : Int) := by omega
        have c4 : ((n - 1 : Nat) : Int) < (m.length : Int) := by omega
        have hn1 : n - 1 < m.length := by omega
        by_cases hc : m[n].1 ≤ m[n - 1].1
        · have hc' : ((m[n].1 : Nat) : Int) ≤ ((m[n - 1].1 : Nat) : Int) := by omega
          have hc2 : ((m[n - 1].1 : Nat) : Int) ≥ ((m[n].1 : Nat) : Int) := hc'
          refine ⟨false, ?_, ?_, ⟨fun h => (by cases h), fun h => absurd ((h.2 n hn (Nat.le_refl _)).2 (by omega)) (by omega)⟩⟩ <;> apply K.Ev.succ
          · simp only [spec_l7Shares.l0, shl_length, if_pos c1, if_pos c2, rd_shl hn, rd_shl hn1, if_neg h0', if_pos hn0, w, if_pos c3, if_pos c4, if_pos hc2]; exact Ev.now _
          · simp only [impl_areShares.l0, shl_length, if_pos c1, if_pos c2, rd_shl hn, rd_shl hn1, if_neg h0', if_pos hn0, w, if_pos c3, if_pos c4, if_pos hc']; exact Ev.now _
        · have hc' : ¬ ((m[n].1 : Nat) : Int) ≤ ((m[n - 1].1 : Nat) : Int) := by omega
          have hc2 : ¬ ((m[n - 1].1 : Nat) : Int) ≥ ((m[n].1 : Nat) : Int) := hc'
          refine ⟨b, ?_, ?_, ?_⟩
          · apply K.Ev.succ
            simp only [spec_l7Shares.l0, shl_length, if_pos c1, if_pos c2, rd_shl hn, rd_shl hn1, if_neg h0', if_pos hn0, w, if_pos c3, if_pos c4, if_neg hc2, ws]; exact i1
          · apply K.Ev.succ
            simp only [impl_areShares.l0, shl_length, if_pos c1, if_pos c2, rd_shl hn, rd_shl hn1, if_neg h0', if_pos hn0, w, if_pos c3, if_pos c4, if_neg hc', ws]; exact i2
          · rw [i3]
            refine ⟨fun h => ⟨h.1, fun i hi hni => ?_⟩, fun h => ⟨h.1, fun i hi hni => h.2 i hi (by omega)⟩⟩
            by_cases e : i = n
            · subst e; exact ⟨h0, fun h => by omega⟩
            · exact h.2 i hi (by omega)
  obtain ⟨b, i1, i2, i3⟩ := key m.length 0 (by omega)
  refine ⟨b, by simp only [spec_l7Shares.f, shl_length]; exact i1, by simp only [impl_areShares.f, shl_length]; exact i2, ?_⟩
  rw [i3, goodShares_iff]
  exact ⟨fun h => ⟨h.1, fun i hi => h.2 i hi (by omega)⟩, fun h => ⟨h.1, fun i hi _ => h.2 i hi⟩⟩
theorem areShares_yes (m : List (Nat × Nat)) (h : GoodShares m) : Ev (fun k => spec_l7Shares.f k (shl m)) true ∧ Ev (fun k => impl_areShares.f k (shl m)) true := by
  obtain ⟨b, i1, i2, i3⟩ := areShares_ev m (by have := h.len; omega)
  have : b = true := i3.2 h
  subst this
  exact ⟨i1, i2⟩
theorem GoodShares.nodup {m : List (Nat × Nat)} (h : GoodShares m) : (m.map Prod.fst).Nodup := h.up.imp (fun h e => by omega)

theorem Times_ev (a b : Nat) (ha : a < 256) (hb : b < 256) : Ev (fun k => impl_Times.f k (a : Int) (b : Int)) ((K.gmul a b : Nat) : Int) := by
  have key : ∀ (n j x o : Nat), j + n = 8 → x < 256 → o < 256 → Ev (fun k => impl_Times.l0 k (b : Int) (o : Int) (j : Int) (x : Int)) ((K.gstep n x (b / 2 ^ j) o : Nat) : Int) := by
    intro n
    induction n with
    | zero =>
      intro j x o hj hx ho
      apply K.Ev.succ
      simp only [impl_Times.l0, if_neg (show ¬ ((j : Int) < 8) by omega), K.gstep]
      exact K.Ev.const (by rw [show (o : Int) % 256 = (o : Int) by omega])
    | succ n ih =>
      intro j x o hj hx ho
      have w : K.Eqn (wrap64 ((x : Int) * 2)) ((2 * x : Nat) : Int) := ⟨by rw [K.w64 (by omega) (by omega)]; omega⟩
      have hx2 : (if ((2 * x : Nat) : Int) > 255 then Go.bits .xor .i64 ((2 * x : Nat) : Int) 283 else ((2 * x : Nat) : Int)) = ((K.xt x : Nat) : Int) := by
        unfold K.xt
        by_cases h : 2 * x > 255
        · rw [if_pos (by omega), if_pos h]
          exact K.xor_i64 (b := 283) (by omega) (by omega)
        · rw [if_neg (by omega), if_neg h]
      have hs : shr .u8 (b : Int) (j : Int) = ((b / 2 ^ j : Nat) : Int) := K.shr_u8 b j (by omega)
      have hbj : b / 2 ^ j < 256 := Nat.lt_of_le_of_lt (Nat.div_le_self _ _) hb
      have hnext := ih (j + 1) (K.xt x) (if (b / 2 ^ j) % 2 = 1 then o ^^^ x else o) (by omega) (K.xt_lt hx) (by
        split
        · exact Nat.xor_lt_two_pow (n := 8) ho hx
        · exact ho)
      rw [Nat.pow_succ, ← Nat.div_div_eq_div_mul] at hnext
      apply K.Ev.succ
      simp only [impl_Times.l0, if_pos (show (j : Int) < 8 by omega), if_pos (show 0 ≤ (j : Int) by omega), hs, K.and_u8_1 hbj, w.out, K.xor_i64 (show o < 1024 by omega) (show x < 1024 by omega), K.w64s j (show j < 9223372036854775807 by omega)]
      by_cases h1 : (b / 2 ^ j) % 2 = 1
      · rw [if_pos h1] at hnext
        simp only [h1, show (((1 : Nat) : Int) = 1) = True by simp, if_true, K.gstep]
        by_cases h2 : ((2 * x : Nat) : Int) > 255
        · rw [if_pos h2] at hx2
          simp only [if_pos h2]
          simp only [hx2]
          exact hnext
        · rw [if_neg h2] at hx2
          simp only [if_neg h2]
          simp only [hx2]
          exact hnext
      · rw [if_neg h1] at hnext
        have h1' : ¬ (((b / 2 ^ j % 2 : Nat) : Int) = 1) := by omega
        simp only [if_neg h1', K.gstep, if_neg h1]
        by_cases h2 : ((2 * x : Nat) : Int) > 255
        · rw [if_pos h2] at hx2
          simp only [if_pos h2]
          simp only [hx2]
          exact hnext
        · rw [if_neg h2] at hx2
          simp only [if_neg h2]
          simp only [hx2]
          exact hnext
  have wa : K.Eqn (wrap64 (a : Int)) (a : Int) := ⟨K.w64 (by omega) (by omega)⟩
  simp only [impl_Times.f, wa.out]
  have := key 8 0 a 0 (by omega) ha (by omega)
  rw [Nat.pow_zero, Nat.div_one] at this
  exact this

theorem power_ev (a n : Nat) (ha : a < 256) (hn : n < 1024) : Ev (fun k => impl_power.f k (a : Int) (n : Int)) ((K.gpow a n : Nat) : Int) := by
  have key : ∀ (d n a o : Nat), n ≤ d → n < 1024 → a < 256 → o < 256 → Ev (fun k => impl_power.l0 k (a : Int) (n : Int) (o : Int)) ((K.gmul o (K.gpow a n) : Nat) : Int) := by
    intro d
    induction d with
    | zero =>
      intro n a o hd _ ha ho
      obtain rfl : n = 0 := by omega
      apply K.Ev.succ
      simp only [impl_power.l0, show ¬ (((0 : Nat) : Int) > 0) by omega, if_false, K.gpow, K.gmul_one ho]
      exact Ev.now _
    | succ d ih =>
      intro n a o hd hn ha ho
      by_cases h0 : n = 0
      · subst h0
        apply K.Ev.succ
        simp only [impl_power.l0, show ¬ (((0 : Nat) : Int) > 0) by omega, if_false, K.gpow, K.gmul_one ho]
        exact Ev.now _
      have hh : (n : Int) / 2 = ((n / 2 : Nat) : Int) := by omega
      apply K.Ev.succ
      simp only [impl_power.l0, if_pos (show (n : Int) > 0 by omega), K.and_i64_1 hn, hh]
      by_cases h1 : n % 2 = 1
      · simp only [if_pos (show ((n % 2 : Nat) : Int) = 1 by omega)]
        refine Ev.bind (Times_ev o a ho ha) ?_
        refine Ev.bind (Times_ev a a ha ha) ?_
        have e : K.gmul o (K.gpow a n) = K.gmul (K.gmul o a) (K.gpow (K.gmul a a) (n / 2)) := by
          rw [K.gpow_sq ha, K.gmul_assoc ho ha (K.gpow_lt _), K.gmul_comm ha (K.gpow_lt _)]
          have h : n = (n / 2 + n / 2) + 1 := by omega
          rw [show K.gpow a n = K.gpow a ((n / 2 + n / 2) + 1) by rw [← h]]
          rfl
        rw [e]
        exact ih _ _ _ (by omega) (by omega) (K.gmul_lt ha) (K.gmul_lt ho)
      · simp only [if_neg (show ¬ ((n % 2 : Nat) : Int) = 1 by omega)]
        refine Ev.bind (Times_ev a a ha ha) ?_
        have e : K.gmul o (K.gpow a n) = K.gmul o (K.gpow (K.gmul a a) (n / 2)) := by
          rw [K.gpow_sq ha]
          have h : n = (n / 2 + n / 2) := by omega
          rw [show K.gpow a n = K.gpow a (n / 2 + n / 2) by rw [← h]]
        rw [e]
        exact ih _ _ _ (by omega) (by omega) (K.gmul_lt ha) ho
  have := key n n a 1 (by omega) hn ha (by omega)
  rw [K.one_gmul (K.gpow_lt n)] at this
  simp only [impl_power.f]
  exact this

theorem Inverse_ev (a : Nat) (ha : a < 256) : Ev (fun k => impl_Inverse.f k (a : Int)) ((K.ginv a : Nat) : Int) := by
  simp only [impl_Inverse.f]
  exact Ev.bind (power_ev a 254 ha (by omega)) (Ev.now _)

theorem through_ev (m : List (Nat × Nat)) (hm : K.Pts m) (hl : m.length ≤ 1000) (v : Nat) (hv : v < 256) : Ev (fun k => spec_l7Through.f k (shl m) (v : Int)) ((K.interp m v : Nat) : Int) ∧ Ev (fun k => impl_interpolated.f k (shl m) (v : Int)) ((K.interp m v : Nat) : Int) := by
  have key : ∀ (d n o : Nat), n + d = m.length → o < 256 → Ev (fun k => spec_l7Through.l0 k (shl m) (v : Int) (o : Int) (shl m) (m.length : Int) (n : Int)) ((K.interpFrom m v (m.drop n) n o : Nat) : Int) ∧ Ev (fun k => impl_interpolated.l0 k (shl m) (v : Int) (o : Int) (shl m) (m.length : Int) (n : Int)) ((K.interpFrom m v (m.drop n) n o : Nat) : Int) := by
    intro d
    induction d with
    | zero =>
      intro n o h1 ho
      rw [List.drop_of_length_le (by omega)]
      constructor <;> apply K.Ev.succ
      · simp only [spec_l7Through.l0, if_neg (show ¬ ((n : Int) < (m.length : Int)) by omega)]; exact Ev.now _
      · simp only [impl_interpolated.l0, if_neg (show ¬ ((n : Int) < (m.length : Int)) by omega)]; exact Ev.now _
    | succ d ih =>
      intro n o h1 ho
      have hn : n < m.length := by omega
      have hp := hm m[n] (List.getElem_mem hn)
      have c1 : (n : Int) < (m.length : Int) := by omega
      have c2 : 0 ≤ (n : Int) := by omega
      have ws := K.w64s n (show n < 9223372036854775807 by omega)
      have inner : ∀ (R : Nat → Nat → Int), (∀ P Q : Nat, P < 256 → Q < 256 → Ev (fun k => spec_l7Through.l0 k (shl m) (v : Int) ((o ^^^ K.gmul m[n].2 (K.gmul P (K.ginv Q)) : Nat) : Int) (shl m) (m.length : Int) ((n + 1 : Nat) : Int)) (R P Q) ∧ Ev (fun k => impl_interpolated.l0 k (shl m) (v : Int) ((o ^^^ K.gmul m[n].2 (K.gmul P (K.ginv Q)) : Nat) : Int) (shl m) (m.length : Int) ((n + 1 : Nat) : Int)) (R P Q)) → ∀ (e j p q : Nat), j + e = m.length → p < 256 → q < 256 →
          Ev (fun k => spec_l7Through.l1 k (shl m) (v : Int) (o : Int) (n : Int) (p : Int) (q : Int) (shl m) (m.length : Int) (n : Int) (shl m) (m.length : Int) (j : Int) ((m[n].1 : Nat) : Int) ((m[n].2 : Nat) : Int)) (R (K.skipProd v n (m.drop j) j p) (K.skipProd m[n].1 n (m.drop j) j q)) ∧
          Ev (fun k => impl_interpolated.l1 k (shl m) (v : Int) (o : Int) (n : Int) ((K.gmul m[n].2 (K.gmul p (K.ginv q)) : Nat) : Int) (shl m) (m.length : Int) (n : Int) (shl m) (m.length : Int) (j : Int) ((m[n].1 : Nat) : Int) ((m[n].2 : Nat) : Int)) (R (K.skipProd v n (m.drop j) j p) (K.skipProd m[n].1 n (m.drop j) j q)) := by
        intro R hR e
        induction e with
        | zero =>
          intro j p q g1 gp gq
          have hx : K.gmul m[n].2 (K.gmul p (K.ginv q)) < 256 := K.gmul_lt hp.2
          obtain ⟨r1, r2⟩ := hR p q gp gq
          rw [List.drop_of_length_le (show m.length ≤ j by omega)]
          rw [K.skipProd, K.skipProd]
          constructor <;> apply K.Ev.succ
          · simp only [spec_l7Through.l1, if_neg (show ¬ ((j : Int) < (m.length : Int)) by omega)]
            refine Ev.bind (l1Inverse_ev q gq) ?_
            refine Ev.bind (l1Times_ev _ _ gp (K.ginv_lt q)) ?_
            refine Ev.bind (l1Times_ev _ _ hp.2 (K.gmul_lt gp)) ?_
            simp only [K.xor_u8 ho hx, ws]
            exact r1
          · simp only [impl_interpolated.l1, if_neg (show ¬ ((j : Int) < (m.length : Int)) by omega), K.xor_u8 ho hx, ws]
            exact r2
        | succ e ihe =>
          intro j p q g1 gp gq
          have hj : j < m.length := by omega
          have hq := hm m[j] (List.getElem_mem hj)
          have b1 : (j : Int) < (m.length : Int) := by omega
          have b2 : 0 ≤ (j : Int) := by omega
          have wj := K.w64s j (show j < 9223372036854775807 by omega)
          rw [List.drop_eq_getElem_cons hj]
          rw [K.skipProd, K.skipProd]
          by_cases hjn : j = n
          · have hjn' : (j : Int) = (n : Int) := by rw [hjn]
            simp only [if_pos hjn]
            obtain ⟨r1, r2⟩ := ihe (j + 1) p q (by omega) gp gq
            constructor <;> apply K.Ev.succ
            · simp only [spec_l7Through.l1, shl_length, if_pos b1, if_pos b2, if_pos hjn', wj]; exact r1
            · simp only [impl_interpolated.l1, shl_length, if_pos b1, if_pos b2, if_pos hjn', wj]; exact r2
          · have hjn' : ¬ (j : Int) = (n : Int) := fun h => hjn (Int.ofNat.inj h)
            simp only [if_neg hjn]
            have ha : v ^^^ m[j].1 < 256 := K.xlt hv hq.1
            have hb : m[n].1 ^^^ m[j].1 < 256 := K.xlt hp.1 hq.1
            obtain ⟨r1, r2⟩ := ihe (j + 1) (K.gmul p (v ^^^ m[j].1)) (K.gmul q (m[n].1 ^^^ m[j].1)) (by omega) (K.gmul_lt gp) (K.gmul_lt gq)
            have hi := K.ginv_lt q
            have hbi := K.ginv_lt (m[n].1 ^^^ m[j].1)
            have eq : K.gmul (K.gmul m[n].2 (K.gmul p (K.ginv q))) (K.gmul (v ^^^ m[j].1) (K.ginv (m[n].1 ^^^ m[j].1))) = K.gmul m[n].2 (K.gmul (K.gmul p (v ^^^ m[j].1)) (K.ginv (K.gmul q (m[n].1 ^^^ m[j].1)))) := by
              rw [K.ginv_gmul gq hb, K.gmul_assoc hp.2 (K.gmul_lt gp) (K.gmul_lt ha), K.swap4 gp hi ha hbi]
            rw [← eq] at r2
            constructor <;> apply K.Ev.succ
            · simp only [spec_l7Through.l1, shl_length, if_pos b1, if_pos b2, if_neg hjn', wj, rd_shl hj, K.xor_u8 hv hq.1, K.xor_u8 hp.1 hq.1]
              refine Ev.bind (l1Times_ev _ _ gp ha) ?_
              refine Ev.bind (l1Times_ev _ _ gq hb) ?_
              exact r1
            · simp only [impl_interpolated.l1, shl_length, if_pos b1, if_pos b2, if_neg hjn', wj, rd_shl hj, K.xor_u8 hv hq.1, K.xor_u8 hp.1 hq.1]
              refine Ev.bind (Inverse_ev _ hb) ?_
              refine Ev.bind (Times_ev _ _ ha hbi) ?_
              refine Ev.bind (Times_ev _ _ (K.gmul_lt hp.2) (K.gmul_lt ha)) ?_
              exact r2
      obtain ⟨r1, r2⟩ := inner (fun P Q => ((K.interpFrom m v (m.drop (n + 1)) (n + 1) (o ^^^ K.gmul m[n].2 (K.gmul P (K.ginv Q))) : Nat) : Int)) (fun P Q hP hQ => ih (n + 1) _ (by omega) (K.xlt ho (K.gmul_lt hp.2))) m.length 0 1 1 (by omega) (by omega) (by omega)
      have e1 : K.gmul m[n].2 (K.gmul 1 (K.ginv 1)) = m[n].2 := by
        have : K.ginv 1 = 1 := K.gpow_one 254
        rw [this, K.gmul_one (by omega), K.gmul_one hp.2]
      rw [e1] at r2
      rw [List.drop_eq_getElem_cons hn]
      rw [K.interpFrom]
      rw [List.drop_zero] at r1 r2
      constructor <;> apply K.Ev.succ
      · simp only [spec_l7Through.l0, shl_length, if_pos c1, if_pos c2, rd_shl hn]; exact r1
      · simp only [impl_interpolated.l0, shl_length, if_pos c1, if_pos c2, rd_shl hn]; exact r2
  obtain ⟨r1, r2⟩ := key m.length 0 0 (by omega) (by omega)
  rw [List.drop_zero] at r1 r2
  exact ⟨by simp only [spec_l7Through.f, shl_length]; exact r1, by simp only [impl_interpolated.f, shl_length]; exact r2⟩
theorem through_same (m : List (Nat × Nat)) (hm : ∀ p ∈ m, p.1 < 256 ∧ p.2 < 256) (hl : m.length ≤ 20) (v : Nat) (hv : v < 256) : ∃ r : Nat, r < 256 ∧ Ev (fun k => spec_l7Through.f k (shl m) (v : Int)) (r : Int) ∧ Ev (fun k => impl_interpolated.f k (shl m) (v : Int)) (r : Int) :=
  ⟨K.interp m v, (K.interp_poly m hm).lt hv, (through_ev m hm (by omega) v hv).1, (through_ev m hm (by omega) v hv).2⟩

theorem open_eq (m : List (Nat × Nat)) (hm : ∀ p ∈ m, p.1 < 256 ∧ p.2 < 256) (hl : m.length ≤ 1048576) (a : Int) : ∃ r : Int × Bool, Ev (fun k => spec_OpenSecret.f k (shl m) a) r ∧ Ev (fun k => impl_OpenSecret.f k (shl m) a) r := by
  obtain ⟨b, i1, i2, i3⟩ := areShares_same (shl m) (by rw [shl_length]; exact hl)
  cases b with
  | false =>
    refine ⟨(0, false), ?_, ?_⟩
    · simp only [spec_OpenSecret.f]; refine Ev.bind i1 ?_; simp only [Bool.false_eq_true, if_false]; exact Ev.now _
    · simp only [impl_OpenSecret.f]; refine Ev.bind i2 ?_; simp only [Bool.false_eq_true, if_false]; exact Ev.now _
  | true =>
    have h20 := i3 rfl
    rw [shl_length] at h20
    by_cases h1 : a ≥ 1
    · by_cases h2 : a ≤ (m.length : Int)
      · obtain ⟨n, rfl⟩ := Int.eq_ofNat_of_zero_le (show 0 ≤ a by omega)
        obtain ⟨r, r0, r1, r2⟩ := through_same (m.take n) (fun p hp => hm p (List.mem_of_mem_take hp)) (by rw [List.length_take]; omega) 0 (by omega)
        have et : (shl m).take n = shl (m.take n) := by simp [shl, List.map_take]
        refine ⟨((r : Int), true), ?_, ?_⟩
        · simp only [spec_OpenSecret.f]; refine Ev.bind i1 ?_
          simp only [if_true, spec_l1In.f, if_pos h1, decide_eq_true (show (n : Int) ≤ 20 by omega), Option.bind_some, shl_length, if_neg (show ¬ (m.length : Int) < (n : Int) by omega), if_pos (show 0 ≤ (n : Int) by omega), if_pos h2, Int.toNat_natCast, et]
          exact Ev.bind r1 (Ev.now _)
        · simp only [impl_OpenSecret.f]; refine Ev.bind i2 ?_
          simp only [if_true, impl_within.f, if_pos h1, shl_length, decide_eq_true h2, Option.bind_some, if_pos (show 0 ≤ (n : Int) by omega), if_pos h2, Int.toNat_natCast, et]
          exact Ev.bind r2 (Ev.now _)
      · refine ⟨(0, false), ?_, ?_⟩
        · simp only [spec_OpenSecret.f]; refine Ev.bind i1 ?_
          by_cases h3 : a ≤ 20
          · simp only [if_true, spec_l1In.f, if_pos h1, decide_eq_true h3, Option.bind_some, shl_length, if_pos (show (m.length : Int) < a by omega)]; exact Ev.now _
          · simp only [if_true, spec_l1In.f, if_pos h1, decide_eq_false h3, Option.bind_some, Bool.false_eq_true, if_false]; exact Ev.now _
        · simp only [impl_OpenSecret.f]; refine Ev.bind i2 ?_
          simp only [if_true, impl_within.f, if_pos h1, shl_length, decide_eq_false h2, Option.bind_some, Bool.false_eq_true, if_false]; exact Ev.now _
    · refine ⟨(0, false), ?_, ?_⟩
      · simp only [spec_OpenSecret.f]; refine Ev.bind i1 ?_
        simp only [if_true, spec_l1In.f, if_neg h1, Option.bind_some, Bool.false_eq_true, if_false]; exact Ev.now _
      · simp only [impl_OpenSecret.f]; refine Ev.bind i2 ?_
        simp only [if_true, impl_within.f, if_neg h1, Option.bind_some, Bool.false_eq_true, if_false]; exact Ev.now _

theorem openSecret_good (m : List (Nat × Nat)) (hm : K.Pts m) (hg : GoodShares m) (n : Nat) (h1 : 1 ≤ n) (h2 : n ≤ m.length) : Ev (fun k => impl_OpenSecret.f k (shl m) (n : Int)) (((K.interp (m.take n) 0 : Nat) : Int), true) := by
  have hl := hg.len
  have et : (shl m).take n = shl (m.take n) := by simp [shl, List.map_take]
  have q : impl_within.f (n : Int) 1 (m.length : Int) = some true := by
    unfold impl_within.f; rw [if_pos (show (n : Int) ≥ 1 by omega)]; simp; omega
  simp only [impl_OpenSecret.f]
  refine Ev.bind (areShares_yes m hg).2 ?_
  simp only [if_true, shl_length, q, Option.bind_some, if_pos (show 0 ≤ (n : Int) by omega), if_pos (show (n : Int) ≤ (m.length : Int) by omega), Int.toNat_natCast, et]
  exact Ev.bind (through_ev (m.take n) (fun q hq => hm q (List.mem_of_mem_take hq)) (by rw [List.length_take]; omega) 0 (by omega)).2 (Ev.now _)

theorem l7At_ev (l : List Nat) (hl : l.length ≤ 1048576) (hb : K.Bytes l) (x : Nat) (hx : x < 256) : Ev (fun k => spec_l7At.f k (K.il l) (x : Int)) ((K.peval l x : Nat) : Int) := by
  have key : ∀ (n : Nat), n ≤ l.length → Ev (fun k => spec_l7At.l0 k (K.il l) (x : Int) ((K.peval (l.drop n) x : Nat) : Int) ((n : Int) - 1)) ((K.peval l x : Nat) : Int) := by
    intro n
    induction n with
    | zero =>
      intro _
      apply K.Ev.succ
      simp only [spec_l7At.l0, show ¬ (((0 : Nat) : Int) - 1 ≥ 0) by omega, if_false, List.drop_zero]
      exact Ev.now _
    | succ n ih =>
      intro h
      have hn : n < l.length := by omega
      have hd : K.Bytes (l.drop (n + 1)) := fun y hy => hb y (List.mem_of_mem_drop hy)
      have e : (((n + 1 : Nat) : Int) - 1) = (n : Int) := by omega
      have w : K.Eqn (wrap64 ((n : Int) - 1)) ((n : Int) - 1) := ⟨K.w64 (by omega) (by omega)⟩
      have hp := K.peval_lt hd x
      apply K.Ev.succ
      simp only [spec_l7At.l0, e, if_pos (show (n : Int) ≥ 0 by omega)]
      refine Ev.bind (l1Times_ev _ x hp hx) ?_
      simp only [if_pos (show 0 ≤ (n : Int) by omega), K.il_length, if_pos (show (n : Int) < (l.length : Int) by omega), K.rd_il hn, K.xor_u8 (K.gmul_lt (b := x) hp) (hb l[n] (List.getElem_mem hn)), w.out]
      have := ih (by omega)
      rw [List.drop_eq_getElem_cons hn] at this
      exact this
  have w : K.Eqn (wrap64 ((l.length : Int) - 1)) ((l.length : Int) - 1) := ⟨K.w64 (by omega) (by omega)⟩
  simp only [spec_l7At.f, K.il_length, w.out]
  have := key l.length (Nat.le_refl _)
  rw [List.drop_length] at this
  exact this

theorem valueAt_ev (l : List Nat) (hl : l.length ≤ 1048576) (hb : K.Bytes l) (x : Nat) (hx : x < 256) : Ev (fun k => impl_valueAt.f k (K.il l) (x : Int)) ((K.peval l x : Nat) : Int) := by
  have key : ∀ (n : Nat), n ≤ l.length → Ev (fun k => impl_valueAt.l0 k (K.il l) (x : Int) ((K.peval (l.drop n) x : Nat) : Int) ((n : Int) - 1)) ((K.peval l x : Nat) : Int) := by
    intro n
    induction n with
    | zero =>
      intro _
      apply K.Ev.succ
      simp only [impl_valueAt.l0, show ¬ (((0 : Nat) : Int) - 1 ≥ 0) by omega, if_false, List.drop_zero]
      exact Ev.now _
    | succ n ih =>
      intro h
      have hn : n < l.length := by omega
      have hd : K.Bytes (l.drop (n + 1)) := fun y hy => hb y (List.mem_of_mem_drop hy)
      have e : (((n + 1 : Nat) : Int) - 1) = (n : Int) := by omega
      have w : K.Eqn (wrap64 ((n : Int) - 1)) ((n : Int) - 1) := ⟨K.w64 (by omega) (by omega)⟩
      have hp := K.peval_lt hd x
      apply K.Ev.succ
      simp only [impl_valueAt.l0, e, if_pos (show (n : Int) ≥ 0 by omega)]
      refine Ev.bind (Times_ev _ x hp hx) ?_
      simp only [if_pos (show 0 ≤ (n : Int) by omega), K.il_length, if_pos (show (n : Int) < (l.length : Int) by omega), K.rd_il hn, K.xor_u8 (K.gmul_lt (b := x) hp) (hb l[n] (List.getElem_mem hn)), w.out]
      have := ih (by omega)
      rw [List.drop_eq_getElem_cons hn] at this
      exact this
  have w : K.Eqn (wrap64 ((l.length : Int) - 1)) ((l.length : Int) - 1) := ⟨K.w64 (by omega) (by omega)⟩
  simp only [impl_valueAt.f, K.il_length, w.out]
  have := key l.length (Nat.le_refl _)
  rw [List.drop_length] at this
  exact this

/-- Shares with fresh values. -/
def freshS (m : List (Nat × Nat)) (c : List Nat) : List (Nat × Nat) := m.map (fun p => (p.1, p.2 ^^^ K.gmul p.1 (K.peval c p.1)))
theorem freshS_length (m : List (Nat × Nat)) (c : List Nat) : (freshS m c).length = m.length := by simp [freshS]
theorem freshS_fst (m : List (Nat × Nat)) (c : List Nat) : (freshS m c).map Prod.fst = m.map Prod.fst := by simp [freshS, Function.comp_def]
theorem freshS_pts (m : List (Nat × Nat)) (hm : K.Pts m) (c : List Nat) (hc : K.Bytes c) : K.Pts (freshS m c) := by
  intro q hq
  obtain ⟨p, hp, rfl⟩ := List.mem_map.1 hq
  exact ⟨(hm p hp).1, K.xlt (hm p hp).2 (K.gmul_lt (hm p hp).1)⟩
theorem refresh_loops (m : List (Nat × Nat)) (hm : K.Pts m) (hl : m.length ≤ 20) (c : List Nat) (hc : K.Bytes c) (hcl : c.length ≤ 8) : Ev (fun k => spec_RefreshShares.l0 k (K.il c) [] (shl m) (m.length : Int) 0) (shl (freshS m c), true) ∧ Ev (fun k => impl_RefreshShares.l0 k (K.il c) [] (shl m) (m.length : Int) 0) (shl (freshS m c), true) := by
  have key : ∀ (d n : Nat), n + d = m.length → Ev (fun k => spec_RefreshShares.l0 k (K.il c) (shl (freshS (m.take n) c)) (shl m) (m.length : Int) (n : Int)) (shl (freshS m c), true) ∧ Ev (fun k => impl_RefreshShares.l0 k (K.il c) (shl (freshS (m.take n) c)) (shl m) (m.length : Int) (n : Int)) (shl (freshS m c), true) := by
    intro d
    induction d with
    | zero =>
      intro n h1
      obtain rfl : n = m.length := by omega
      rw [List.take_length]
      constructor <;> apply K.Ev.succ
      · simp only [spec_RefreshShares.l0, if_neg (show ¬ ((m.length : Int) < (m.length : Int)) by omega)]; exact Ev.now _
      · simp only [impl_RefreshShares.l0, if_neg (show ¬ ((m.length : Int) < (m.length : Int)) by omega)]; exact Ev.now _
    | succ d ih =>
      intro n h1
      have hn : n < m.length := by omega
      have hp := hm m[n] (List.getElem_mem hn)
      have c1 : (n : Int) < (m.length : Int) := by omega
      have c2 : 0 ≤ (n : Int) := by omega
      have ws := K.w64s n (show n < 9223372036854775807 by omega)
      have hv := K.peval_lt hc m[n].1
      have hx : K.gmul m[n].1 (K.peval c m[n].1) < 256 := K.gmul_lt hp.1
      have hs : (freshS (m.take n) c).length < 70368744177664 := by rw [freshS_length, List.length_take]; omega
      obtain ⟨r1, r2⟩ := ih (n + 1) (by omega)
      have e : freshS (m.take (n + 1)) c = freshS (m.take n) c ++ [(m[n].1, m[n].2 ^^^ K.gmul m[n].1 (K.peval c m[n].1))] := by
        simp only [freshS, K.take_succ' m n hn, List.map_append, List.map_cons, List.map_nil]
      rw [e, ← shl_snoc] at r1 r2
      constructor <;> apply K.Ev.succ
      · simp only [spec_RefreshShares.l0, shl_length, if_pos c1, if_pos c2, rd_shl hn]
        refine Ev.bind (l7At_ev c (by omega) hc _ hp.1) ?_
        refine Ev.bind (l1Times_ev _ _ hp.1 hv) ?_
        simp only [if_pos hs, K.xor_u8 hp.2 hx, ws]
        exact r1
      · simp only [impl_RefreshShares.l0, shl_length, if_pos c1, if_pos c2, rd_shl hn]
        refine Ev.bind (valueAt_ev c (by omega) hc _ hp.1) ?_
        refine Ev.bind (Times_ev _ _ hp.1 hv) ?_
        simp only [if_pos hs, K.xor_u8 hp.2 hx, ws]
        exact r2
  exact key m.length 0 (by omega)
theorem refresh_ev (m : List (Nat × Nat)) (hm : K.Pts m) (hl : m.length ≤ 1048576) (c : List Nat) (hc : K.Bytes c) : ∃ r : List S61 × Bool, Ev (fun k => spec_RefreshShares.f k (shl m) (K.il c)) r ∧ Ev (fun k => impl_RefreshShares.f k (shl m) (K.il c)) r ∧ ((GoodShares m ∧ r = (shl (freshS m c), true)) ∨ r = ([], false)) := by
  obtain ⟨b, i1, i2, i3⟩ := areShares_ev m hl
  have bad : Ev (fun k => spec_RefreshShares.j0 k (shl m) (K.il c) true) (([] : List S61), false) ∧ Ev (fun k => impl_RefreshShares.j0 k (shl m) (K.il c) true) (([] : List S61), false) := by
    constructor <;> apply K.Ev.succ
    · simp only [spec_RefreshShares.j0, if_true]; exact Ev.now _
    · simp only [impl_RefreshShares.j0, if_true]; exact Ev.now _
  cases b with
  | false =>
    refine ⟨([], false), ?_, ?_, .inr rfl⟩
    · simp only [spec_RefreshShares.f]; refine Ev.bind i1 ?_; simp only [Bool.false_eq_true, if_false]; exact bad.1
    · simp only [impl_RefreshShares.f]; refine Ev.bind i2 ?_; simp only [Bool.false_eq_true, if_false]; exact bad.2
  | true =>
    have hg := i3.1 rfl
    by_cases h8 : (c.length : Int) > 8
    · refine ⟨([], false), ?_, ?_, .inr rfl⟩
      · simp only [spec_RefreshShares.f]; refine Ev.bind i1 ?_; simp only [if_true, K.il_length, decide_eq_true h8]; exact bad.1
      · simp only [impl_RefreshShares.f]; refine Ev.bind i2 ?_; simp only [if_true, K.il_length, decide_eq_true h8]; exact bad.2
    · obtain ⟨r1, r2⟩ := refresh_loops m hm hg.len c hc (by omega)
      refine ⟨(shl (freshS m c), true), ?_, ?_, .inl ⟨hg, rfl⟩⟩
      · simp only [spec_RefreshShares.f]; refine Ev.bind i1 ?_; simp only [if_true, K.il_length, decide_eq_false h8]
        apply K.Ev.succ
        simp only [spec_RefreshShares.j0, Bool.false_eq_true, if_false, shl_length]; exact r1
      · simp only [impl_RefreshShares.f]; refine Ev.bind i2 ?_; simp only [if_true, K.il_length, decide_eq_false h8]
        apply K.Ev.succ
        simp only [impl_RefreshShares.j0, Bool.false_eq_true, if_false, shl_length]; exact r2

theorem shl_cons (p : Nat × Nat) (m : List (Nat × Nat)) : shl (p :: m) = ⟨(p.1 : Int), (p.2 : Int)⟩ :: shl m := rfl
theorem shl_drop (m : List (Nat × Nat)) (n : Nat) : (shl m).drop n = shl (m.drop n) := by simp [shl, List.map_drop]
theorem shl_take (m : List (Nat × Nat)) (n : Nat) : (shl m).take n = shl (m.take n) := by simp [shl, List.map_take]
theorem anyQ_none (q : Nat → S61 → Option Bool) : ∀ (l : List S61), (∀ x ∈ l, Ev (fun k => q k x) false) → Ev (fun k => impl_IsShared.anyQ (q k) l) false
  | [], _ => Ev.now _
  | x :: l, h => by
    simp only [impl_IsShared.anyQ]
    refine Ev.bind (h x (by simp)) ?_
    simp only [Bool.false_eq_true, if_false]
    exact anyQ_none q l (fun y hy => h y (by simp [hy]))
theorem isShared_good (m : List (Nat × Nat)) (hm : K.Pts m) (hg : GoodShares m) (n : Nat) (h1 : 1 ≤ n) (h2 : n ≤ 20) (h : ∀ p ∈ m.drop n, K.interp (m.take n) p.1 = p.2) : Ev (fun k => impl_IsShared.f k (shl m) (n : Int)) (true, true) := by
  have hl := hg.len
  simp only [impl_IsShared.f]
  refine Ev.bind (areShares_yes m hg).2 ?_
  have q2 : impl_within.f (n : Int) 1 20 = some true := by
    unfold impl_within.f; rw [if_pos (show (n : Int) ≥ 1 by omega)]; simp; omega
  simp only [if_true, q2, Option.bind_some, Bool.not_true]
  apply K.Ev.succ
  simp only [impl_IsShared.j0, Bool.false_eq_true, if_false, shl_length]
  by_cases hn : (m.length : Int) ≤ (n : Int)
  · simp only [if_pos hn]; exact Ev.now _
  · simp only [if_neg hn, if_pos (show 0 ≤ (n : Int) by omega), if_pos (show (n : Int) ≤ (m.length : Int) by omega), Int.toNat_natCast, shl_drop, slices_ContainsFunc_impl_Share_impl_Share.f]
    refine Ev.bind (anyQ_none _ _ ?_) (Ev.now _)
    intro x hx
    obtain ⟨p, hp, rfl⟩ := List.mem_map.1 hx
    have hpm := hm p (List.mem_of_mem_drop hp)
    have hin := (through_ev (m.take n) (fun q hq => hm q (List.mem_of_mem_take hq)) (by rw [List.length_take]; omega) p.1 hpm.1).2
    simp only [impl_IsShared_fn1.f, shl_length, if_pos (show 0 ≤ (n : Int) by omega), if_pos (show (n : Int) ≤ (m.length : Int) by omega), Int.toNat_natCast, shl_take]
    refine Ev.bind hin ?_
    rw [h p hp]
    simp only [bne_self_eq_false]
    exact Ev.now _

theorem rest_same (m : List (Nat × Nat)) (hm : ∀ p ∈ m, p.1 < 256 ∧ p.2 < 256) (hl : m.length ≤ 20) (n : Nat) (hn : n ≤ m.length) : ∀ (d i : Nat), i + d = m.length → n ≤ i → ∃ b : Bool, Ev (fun k => spec_IsShared.l0 k (shl m) (n : Int) (shl m) (m.length : Int) (i : Int)) (b, true) ∧ Ev (fun k => impl_IsShared.anyQ (fun x => impl_IsShared_fn1.f k x.f0 x.f1 (shl m) (n : Int)) (shl (m.drop i))) (!b) := by
  intro d
  induction d with
  | zero =>
    intro i h1 h2
    refine ⟨true, ?_, ?_⟩
    · apply K.Ev.succ
      simp only [spec_IsShared.l0, if_neg (show ¬ ((i : Int) < (m.length : Int)) by omega)]; exact Ev.now _
    · rw [List.drop_of_length_le (by omega)]
      exact Ev.now _
  | succ d ih =>
    intro i h1 h2
    have hi : i < m.length := by omega
    have hp := hm m[i] (List.getElem_mem hi)
    obtain ⟨r, r0, r1, r2⟩ := through_same (m.take n) (fun p hq => hm p (List.mem_of_mem_take hq)) (by rw [List.length_take]; omega) m[i].1 hp.1
    obtain ⟨b, i1, i2⟩ := ih (i + 1) (by omega) (by omega)
    have c1 : (i : Int) < (m.length : Int) := by omega
    have c2 : 0 ≤ (i : Int) := by omega
    have c3 : (i : Int) ≥ (n : Int) := by omega
    have c4 : 0 ≤ (n : Int) := by omega
    have c5 : (n : Int) ≤ (m.length : Int) := by omega
    have ws := K.w64s i (show i < 9223372036854775807 by omega)
    have hf : Ev (fun k => impl_IsShared_fn1.f k ((m[i].1 : Nat) : Int) ((m[i].2 : Nat) : Int) (shl m) (n : Int)) ((r : Int) != ((m[i].2 : Nat) : Int)) := by
      simp only [impl_IsShared_fn1.f, shl_length, if_pos c4, if_pos c5, Int.toNat_natCast, shl_take]
      exact Ev.bind r2 (Ev.now _)
    by_cases hr : (r : Int) = ((m[i].2 : Nat) : Int)
    · refine ⟨b, ?_, ?_⟩
      · apply K.Ev.succ
        simp only [spec_IsShared.l0, shl_length, if_pos c1, if_pos c2, if_pos c3, if_pos c4, if_pos c5, rd_shl hi, Int.toNat_natCast, shl_take, ws]
        refine Ev.bind r1 ?_
        simp only [if_pos hr]
        exact i1
      · rw [List.drop_eq_getElem_cons hi, shl_cons]
        simp only [impl_IsShared.anyQ]
        refine Ev.bind hf ?_
        rw [hr]
        simp only [bne_self_eq_false, Bool.false_eq_true, if_false]
        exact i2
    · refine ⟨false, ?_, ?_⟩
      · apply K.Ev.succ
        simp only [spec_IsShared.l0, shl_length, if_pos c1, if_pos c2, if_pos c3, if_pos c4, if_pos c5, rd_shl hi, Int.toNat_natCast, shl_take, ws]
        refine Ev.bind r1 ?_
        simp only [if_neg hr]
        exact Ev.now _
      · rw [List.drop_eq_getElem_cons hi, shl_cons]
        simp only [impl_IsShared.anyQ]
        refine Ev.bind hf ?_
        have hb : ((r : Int) != ((m[i].2 : Nat) : Int)) = true := by simpa using hr
        simp only [hb, if_true]
        exact Ev.now _
theorem skip_spec (m : List (Nat × Nat)) (hl : m.length ≤ 20) (n : Nat) (x : Bool × Bool) (e : Nat) (he : e ≤ m.length) (hen : e ≤ n) (hx : Ev (fun k => spec_IsShared.l0 k (shl m) (n : Int) (shl m) (m.length : Int) (e : Int)) x) : ∀ (d i : Nat), i + d = e → Ev (fun k => spec_IsShared.l0 k (shl m) (n : Int) (shl m) (m.length : Int) (i : Int)) x := by
  intro d
  induction d with
  | zero =>
    intro i h1
    obtain rfl : i = e := by omega
    exact hx
  | succ d ih =>
    intro i h1
    apply K.Ev.succ
    simp only [spec_IsShared.l0, shl_length, if_pos (show (i : Int) < (m.length : Int) by omega), if_pos (show 0 ≤ (i : Int) by omega), if_neg (show ¬ ((i : Int) ≥ (n : Int)) by omega), K.w64s i (show i < 9223372036854775807 by omega)]
    exact ih (i + 1) (by omega)
theorem shared_eq (m : List (Nat × Nat)) (hm : ∀ p ∈ m, p.1 < 256 ∧ p.2 < 256) (hl : m.length ≤ 1048576) (a : Int) : ∃ r : Bool × Bool, Ev (fun k => spec_IsShared.f k (shl m) a) r ∧ Ev (fun k => impl_IsShared.f k (shl m) a) r := by
  have bad : Ev (fun k => spec_IsShared.j0 k (shl m) a true) (false, false) ∧ Ev (fun k => impl_IsShared.j0 k (shl m) a true) (false, false) := by
    constructor <;> apply K.Ev.succ
    · simp only [spec_IsShared.j0, if_true]; exact Ev.now _
    · simp only [impl_IsShared.j0, if_true]; exact Ev.now _
  obtain ⟨b, i1, i2, i3⟩ := areShares_same (shl m) (by rw [shl_length]; exact hl)
  cases b with
  | false =>
    refine ⟨(false, false), ?_, ?_⟩
    · simp only [spec_IsShared.f]; refine Ev.bind i1 ?_; simp only [Bool.false_eq_true, if_false]; exact bad.1
    · simp only [impl_IsShared.f]; refine Ev.bind i2 ?_; simp only [Bool.false_eq_true, if_false]; exact bad.2
  | true =>
    have h20 := i3 rfl
    rw [shl_length] at h20
    by_cases h : 1 ≤ a ∧ a ≤ 20
    case neg =>
      have q : spec_l1In.f a 1 20 = some false := by
        unfold spec_l1In.f; split
        · simp; omega
        · rfl
      have q2 : impl_within.f a 1 20 = some false := q
      refine ⟨(false, false), ?_, ?_⟩
      · simp only [spec_IsShared.f]; refine Ev.bind i1 ?_; simp only [if_true, q, Option.bind_some, Bool.not_false]; exact bad.1
      · simp only [impl_IsShared.f]; refine Ev.bind i2 ?_; simp only [if_true, q2, Option.bind_some, Bool.not_false]; exact bad.2
    have q : spec_l1In.f a 1 20 = some true := by unfold spec_l1In.f; rw [if_pos h.1]; simp [h.2]
    have q2 : impl_within.f a 1 20 = some true := q
    obtain ⟨n, rfl⟩ := Int.eq_ofNat_of_zero_le (show 0 ≤ a by omega)
    have fin : ∃ r : Bool × Bool, Ev (fun k => spec_IsShared.l0 k (shl m) (n : Int) (shl m) (m.length : Int) 0) r ∧ Ev (fun k => impl_IsShared.j0 k (shl m) (n : Int) false) r := by
      by_cases hn : (m.length : Int) ≤ (n : Int)
      · refine ⟨(true, true), ?_, ?_⟩
        · refine skip_spec m h20 n (true, true) m.length (Nat.le_refl _) (by omega) ?_ m.length 0 (by omega)
          apply K.Ev.succ
          simp only [spec_IsShared.l0, if_neg (show ¬ ((m.length : Int) < (m.length : Int)) by omega)]; exact Ev.now _
        · apply K.Ev.succ
          simp only [impl_IsShared.j0, Bool.false_eq_true, if_false, shl_length, if_pos hn]; exact Ev.now _
      · obtain ⟨b, b1, b2⟩ := rest_same m hm h20 n (by omega) (m.length - n) n (by omega) (Nat.le_refl _)
        refine ⟨(b, true), skip_spec m h20 n (b, true) n (by omega) (Nat.le_refl _) b1 n 0 (by omega), ?_⟩
        apply K.Ev.succ
        simp only [impl_IsShared.j0, Bool.false_eq_true, if_false, shl_length, if_neg hn, if_pos (show 0 ≤ (n : Int) by omega), if_pos (show (n : Int) ≤ (m.length : Int) by omega), Int.toNat_natCast, shl_drop, slices_ContainsFunc_impl_Share_impl_Share.f]
        refine Ev.bind b2 ?_
        simp only [Bool.not_not]
        exact Ev.now _
    obtain ⟨r, f1, f2⟩ := fin
    refine ⟨r, ?_, ?_⟩
    · simp only [spec_IsShared.f]; refine Ev.bind i1 ?_; simp only [if_true, q, Option.bind_some, Bool.not_true]
      apply K.Ev.succ
      simp only [spec_IsShared.j0, Bool.false_eq_true, if_false, shl_length]; exact f1
    · simp only [impl_IsShared.f]; refine Ev.bind i2 ?_; simp only [if_true, q2, Option.bind_some, Bool.not_true]; exact f2

theorem sameShares_self (l : List S61) (hl : l.length ≤ 140737488355328) : Ev (fun k => laws_sameShares.f k l l) true := by
  have key : ∀ (d n : Nat), n + d = l.length → Ev (fun k => laws_sameShares.l0 k l l (l.length : Int) (n : Int)) true := by
    intro d
    induction d with
    | zero =>
      intro n h1
      apply K.Ev.succ
      simp only [laws_sameShares.l0, if_neg (show ¬ ((n : Int) < (l.length : Int)) by omega)]
      exact Ev.now _
    | succ d ih =>
      intro n h1
      apply K.Ev.succ
      simp only [laws_sameShares.l0, if_pos (show (n : Int) < (l.length : Int) by omega), if_pos (show (0 : Int) ≤ (n : Int) by omega), beq_self_eq_true, Bool.not_true, Bool.or_self, Bool.false_eq_true, if_false]
      rw [K.w64s n (by omega)]
      exact ih (n + 1) (by omega)
  unfold laws_sameShares.f
  simp only [if_true]
  exact key l.length 0 (by omega)

theorem interpolate_good (m : List (Nat × Nat)) (hm : K.Pts m) (hg : GoodShares m) (h0 : 0 < m.length) (v : Nat) (hv : v < 256) : Ev (fun k => impl_Interpolate.f k (shl m) (v : Int)) (((K.interp m v : Nat) : Int), true) := by
  simp only [impl_Interpolate.f]
  refine Ev.bind (areShares_yes m hg).2 ?_
  simp only [if_true, shl_length, if_neg (show ¬ ((m.length : Int) = 0) by omega)]
  exact Ev.bind (through_ev m hm (by have := hg.len; omega) v hv).2 (Ev.now _)

theorem next_ok (c : List Int) (hc : K.Code c) (a : Int) (h0 : 0 ≤ a) (h1 : a ≤ 1152921504606846976) (sd : Int) : ∃ v sd', spec_l1Cur_next.f c a sd = some (v, a + 1, sd') ∧ 0 ≤ v ∧ v ≤ 255 := by
  have hl := hc.len
  have w : K.Eqn (wrap64 (a + 1)) (a + 1) := ⟨K.w64 (by omega) (by omega)⟩
  by_cases h : a < (c.length : Int)
  · have hr := hc.rd_rng a
    have wr : K.Eqn (wrap64 (rd c a)) (rd c a) := ⟨K.w64 (by omega) (by omega)⟩
    have h2 : a + 1 ≤ (c.length : Int) := by omega
    simp only [spec_l1Cur_next.f, if_pos h, if_pos h0, w.out, if_pos h2, wr.out]
    exact ⟨_, _, rfl, hr.1, hr.2⟩
  · have h2 : ¬ (a + 1 ≤ (c.length : Int)) := by omega
    have hb : ∀ y : Int, wrap64 (Go.bits .and .u64 y 255) = Go.bits .and .u64 y 255 ∧ 0 ≤ Go.bits .and .u64 y 255 ∧ Go.bits .and .u64 y 255 ≤ 255 := fun y => by
      have := K.u64_and255 y
      exact ⟨K.w64 (by omega) (by omega), this⟩
    simp only [spec_l1Cur_next.f, if_neg h, w.out, if_neg h2, (hb _).1]
    exact ⟨_, _, rfl, (hb _).2.1, (hb _).2.2⟩

theorem pick_ok (c : List Int) (hc : K.Code c) (a : Int) (h0 : 0 ≤ a) (h1 : a ≤ 1000000000000000000) (sd : Int) (n : Int) (hn : n ≤ 1000000) : ∃ v a' sd', spec_l1Cur_pick.f c a sd n = some (v, a', sd') ∧ 0 ≤ v ∧ (v < n ∨ v = 0) ∧ a ≤ a' ∧ a' ≤ a + 2 := by
  by_cases h : n ≤ 1
  · exact ⟨0, a, sd, by simp only [spec_l1Cur_pick.f, if_pos h], by omega, .inr rfl, by omega, by omega⟩
  obtain ⟨v, sd1, e1, v0, v1⟩ := next_ok c hc a h0 (by omega) sd
  have hnz : ¬ n = 0 := by omega
  have tm : ∀ x : Int, 0 ≤ x → 0 ≤ Int.tmod x n ∧ Int.tmod x n < n := fun x hx => by
    rw [Int.tmod_eq_emod_of_nonneg hx]
    exact ⟨Int.emod_nonneg _ (by omega), Int.emod_lt_of_pos _ (by omega)⟩
  by_cases h2 : n > 200
  · obtain ⟨u, sd2, e2, u0, u1⟩ := next_ok c hc (a + 1) (by omega) (by omega) sd1
    have w1 : K.Eqn (wrap64 (v * 256)) (v * 256) := ⟨K.w64 (by omega) (by omega)⟩
    have w2 : K.Eqn (wrap64 (v * 256 + u)) (v * 256 + u) := ⟨K.w64 (by omega) (by omega)⟩
    have t := tm (v * 256 + u) (by omega)
    refine ⟨_, a + 1 + 1, sd2, by simp only [spec_l1Cur_pick.f, if_neg h, e1, Option.bind_some, if_pos h2, e2, if_neg hnz, w1.out, w2.out], t.1, .inl t.2, by omega, by omega⟩
  · have t := tm v v0
    exact ⟨_, a + 1, sd1, by simp only [spec_l1Cur_pick.f, if_neg h, e1, Option.bind_some, if_neg h2, if_neg hnz], t.1, .inl t.2, by omega, by omega⟩

theorem among_ok (c : List Int) (hc : K.Code c) (a : Int) (h0 : 0 ≤ a) (h1 : a ≤ 1000000000000000000) (sd : Int) (l : List Int) (hl : 0 < l.length) (hl2 : l.length ≤ 1000000) : ∃ (x a' sd' : Int), spec_l1Cur_among.f c a sd l = some (x, a', sd') ∧ x ∈ l ∧ a ≤ a' ∧ a' ≤ a + 2 := by
  obtain ⟨v, a', sd', e, v0, v1, g1, g2⟩ := pick_ok c hc a h0 h1 sd (l.length : Int) (by omega)
  have hv : v.toNat < l.length := by omega
  refine ⟨rd l v, a', sd', by simp only [spec_l1Cur_among.f, e, Option.bind_some, if_pos v0, if_pos (show v < (l.length : Int) by omega)], ?_, g1, g2⟩
  simp only [rd, List.getD_eq_getElem?_getD, List.getElem?_eq_getElem hv, Option.getD_some]
  exact List.getElem_mem hv

theorem one_ok (c : List Int) (hc : K.Code c) (a : Int) (h0 : 0 ≤ a) (h1 : a ≤ 1000000000000000000) (sd : Int) (n : Int) (hn : n ≤ 1000000) : ∃ (b : Bool) (a' sd' : Int), spec_l1Cur_one.f c a sd n = some (b, a', sd') ∧ a ≤ a' ∧ a' ≤ a + 2 := by
  obtain ⟨v, a', sd', e, _, _, g1, g2⟩ := pick_ok c hc a h0 h1 sd n hn
  exact ⟨v == 0, a', sd', by simp only [spec_l1Cur_one.f, e, Option.bind_some], g1, g2⟩

theorem byte_ok (c : List Int) (hc : K.Code c) (a : Int) (h0 : 0 ≤ a) (h1 : a ≤ 900000000000000000) (sd : Int) : ∃ (x a' sd' : Int), spec_l1Cur_byte.f c a sd = some (x, a', sd') ∧ 0 ≤ x ∧ x ≤ 255 ∧ a ≤ a' ∧ a' ≤ a + 4 := by
  obtain ⟨b, a1, sd1, e1, g1, g2⟩ := one_ok c hc a h0 (by omega) sd 5 (by omega)
  cases b with
  | true =>
    obtain ⟨x, a2, sd2, e2, _, g3, g4⟩ := among_ok c hc a1 (by omega) (by omega) sd1 ([0, 1, 2, 3, 255, 27] : List Int) (by simp) (by simp)
    exact ⟨x % 256, a2, sd2, by simp only [spec_l1Cur_byte.f, e1, Option.bind_some, if_true, e2], by omega, by omega, by omega, by omega⟩
  | false =>
    obtain ⟨x, a2, sd2, e2, _, _, g3, g4⟩ := pick_ok c hc a1 (by omega) (by omega) sd1 256 (by omega)
    exact ⟨x % 256, a2, sd2, by simp only [spec_l1Cur_byte.f, e1, Option.bind_some, Bool.false_eq_true, if_false, e2], by omega, by omega, by omega, by omega⟩

/-- The shares 1, 2 .. n of a polynomial. -/
def sharesOf (p : List Nat) (n : Nat) : List (Nat × Nat) := (List.range n).map (fun i => (i + 1, K.peval p (i + 1)))
theorem sharesOf_length (p : List Nat) (n : Nat) : (sharesOf p n).length = n := by simp [sharesOf]
theorem sharesOf_succ (p : List Nat) (n : Nat) : sharesOf p (n + 1) = sharesOf p n ++ [(n + 1, K.peval p (n + 1))] := by simp [sharesOf, List.range_succ]
theorem sharesOf_get (p : List Nat) (n i : Nat) (h : i < n) : (sharesOf p n)[i]'(by rw [sharesOf_length]; exact h) = (i + 1, K.peval p (i + 1)) := by simp [sharesOf]
theorem sharesOf_pts (p : List Nat) (hb : K.Bytes p) (n : Nat) (hn : n ≤ 255) : K.Pts (sharesOf p n) := by
  intro q hq
  obtain ⟨i, hi, rfl⟩ := List.mem_map.1 hq
  have := List.mem_range.1 hi
  exact ⟨by simp only; omega, K.peval_lt hb _⟩
theorem specShare_loop (p : List Nat) (hb : K.Bytes p) (hl : p.length ≤ 1000) (n : Nat) (hn : n ≤ 20) : Ev (fun k => spec_ShareSecret.l0 k (n : Int) (K.il p) [] 1) (shl (sharesOf p n), true) := by
  have key : ∀ (d i : Nat), i + d = n → Ev (fun k => spec_ShareSecret.l0 k (n : Int) (K.il p) (shl (sharesOf p i)) ((i + 1 : Nat) : Int)) (shl (sharesOf p n), true) := by
    intro d
    induction d with
    | zero =>
      intro i h
      obtain rfl : i = n := by omega
      apply K.Ev.succ
      simp only [spec_ShareSecret.l0, if_neg (show ¬ (((i + 1 : Nat) : Int) ≤ (i : Int)) by omega)]; exact Ev.now _
    | succ d ih =>
      intro i h
      have r1 := ih (i + 1) (by omega)
      have w1 := K.w64s i (show i < 9223372036854775807 by omega)
      have w2 := K.w64s (i + 1) (show i + 1 < 9223372036854775807 by omega)
      have e : ((i + 1 : Nat) : Int) % 256 = ((i + 1 : Nat) : Int) := by omega
      have hs : (shl (sharesOf p i)).length < 70368744177664 := by rw [shl_length, sharesOf_length]; omega
      rw [sharesOf_succ, ← shl_snoc] at r1
      apply K.Ev.succ
      simp only [spec_ShareSecret.l0, if_pos (show ((i + 1 : Nat) : Int) ≤ (n : Int) by omega), w2, e, if_pos hs]
      exact Ev.bind (l7At_ev p (by omega) hb (i + 1) (by omega)) r1
  exact key n 0 (by omega)
theorem specShare_no (a : Int) (r : List Int) (n : Int) (h : ¬ (r.length ≤ 8 ∧ 1 ≤ n ∧ n ≤ 20)) : Ev (fun k => spec_ShareSecret.f k a r n) ([], false) := by
  have j : Ev (fun k => spec_ShareSecret.j0 k a r n true) ([], false) := by
    apply K.Ev.succ
    simp only [spec_ShareSecret.j0, if_true]; exact Ev.now _
  by_cases h8 : (r.length : Int) > 8
  · simp only [spec_ShareSecret.f, if_pos h8]; exact j
  · have q1 : spec_l1In.f n 1 20 = some false := by
      unfold spec_l1In.f; split
      · simp; omega
      · rfl
    simp only [spec_ShareSecret.f, if_neg h8, q1, Option.bind_some, Bool.not_false]; exact j
theorem specShare_ev (a : Nat) (r : List Nat) (ha : a < 256) (hb : K.Bytes r) (hr : r.length ≤ 8) (n : Nat) (h1 : 1 ≤ n) (h2 : n ≤ 20) : Ev (fun k => spec_ShareSecret.f k (a : Int) (K.il r) (n : Int)) (shl (sharesOf (a :: r) n), true) := by
  have hb' : K.Bytes (a :: r) := fun y hy => by
    rcases List.mem_cons.1 hy with rfl | hy
    · exact ha
    · exact hb y hy
  have i1 := specShare_loop (a :: r) hb' (by simp; omega) n h2
  have h8 : ¬ ((K.il r).length : Int) > 8 := by rw [K.il_length]; omega
  have q1 : spec_l1In.f (n : Int) 1 20 = some true := by
    unfold spec_l1In.f; rw [if_pos (show (n : Int) ≥ 1 by omega)]; simp; omega
  have hs : ([(a : Int)] : List Int).length + (K.il r).length < 140737488355328 := by rw [K.il_length]; simp; omega
  have e : [(a : Int)] ++ K.il r = K.il (a :: r) := rfl
  simp only [spec_ShareSecret.f, if_neg h8, q1, Option.bind_some, Bool.not_true]
  apply K.Ev.succ
  simp only [spec_ShareSecret.j0, Bool.false_eq_true, if_false, Option.bind_some, if_pos hs, e]
  exact i1

theorem vector_ok (c : List Int) (hc : K.Code c) (n : Nat) (hn : n ≤ 1000) (a : Int) (h0 : 0 ≤ a) (h1 : a ≤ 800000000000000000) (sd : Int) : ∃ (l : List Int) (a' sd' : Int), Ev (fun k => spec_l1Cur_vector.f k c a sd (n : Int)) (l, a', sd') ∧ l.length = n ∧ (∀ x ∈ l, 0 ≤ x ∧ x ≤ 255) ∧ a ≤ a' ∧ a' ≤ a + 4 * n := by
  have key : ∀ (d : Nat) (acc : List Int) (a sd : Int), d ≤ 1000 → acc.length + d ≤ 1000000 → (∀ x ∈ acc, 0 ≤ x ∧ x ≤ 255) → 0 ≤ a → a + 4 * d ≤ 850000000000000000 → ∃ (l : List Int) (a' sd' : Int), Ev (fun k => spec_l1Cur_vector.l0 k (d : Int) acc c a sd) (l, a', sd') ∧ l.length = acc.length + d ∧ (∀ x ∈ l, 0 ≤ x ∧ x ≤ 255) ∧ a ≤ a' ∧ a' ≤ a + 4 * d := by
    intro d
    induction d with
    | zero =>
      intro acc a sd _ g1 g2 g3 g4
      refine ⟨acc, a, sd, ?_, rfl, g2, by omega, by omega⟩
      apply K.Ev.succ
      simp only [spec_l1Cur_vector.l0, if_neg (show ¬ (((0 : Nat) : Int) > 0) by omega)]
      exact Ev.now _
    | succ d ih =>
      intro acc a sd g0 g1 g2 g3 g4
      obtain ⟨x, a1, sd1, e1, x0, x1, b1, b2⟩ := byte_ok c hc a g3 (by omega) sd
      have w : K.Eqn (wrap64 (((d + 1 : Nat) : Int) - 1)) (d : Int) := ⟨K.w64p d (by omega)⟩
      obtain ⟨l, a', sd', e2, l1, l2, b3, b4⟩ := ih (acc ++ [x]) a1 sd1 (by omega) (by
        -- only as many as there are
        have : acc.length + (d + 1) ≤ 1000000 := g1
        simp only [List.length_append, List.length_cons, List.length_nil]
        omega) (fun y hy => by
        rcases List.mem_append.1 hy with h | h
        · exact g2 y h
        · simp only [List.mem_singleton] at h; subst h; exact ⟨x0, x1⟩) (by omega) (by omega)
      refine ⟨l, a', sd', ?_, by rw [l1]; simp; omega, l2, by omega, by omega⟩
      apply K.Ev.succ
      simp only [spec_l1Cur_vector.l0, if_pos (show ((d + 1 : Nat) : Int) > 0 by omega), e1, Option.bind_some, if_pos (show acc.length < 140737488355328 by omega), w.out]
      exact e2
  obtain ⟨l, a', sd', e, l1, l2, b1, b2⟩ := key n [] a sd hn (by simp; omega) (by simp) h0 (by omega)
  exact ⟨l, a', sd', by simp only [spec_l1Cur_vector.f]; exact e, by simpa using l1, l2, b1, b2⟩

theorem shl_set (m : List (Nat × Nat)) (n a b : Nat) : (shl m).set n ⟨(a : Int), (b : Int)⟩ = shl (m.set n (a, b)) := by simp [shl, List.map_set]
theorem pts_set {m : List (Nat × Nat)} (h : K.Pts m) (n a b : Nat) (ha : a < 256) (hb : b < 256) : K.Pts (m.set n (a, b)) := by
  intro p hp
  rcases List.mem_or_eq_of_mem_set hp with h1 | h1
  · exact h p h1
  · subst h1; exact ⟨ha, hb⟩
theorem curShares_j2 (c : List Int) (hc : K.Code c) (m : List (Nat × Nat)) (hm : K.Pts m) (hl : m.length ≤ 20) (a : Int) (h0 : 0 ≤ a) (h1 : a ≤ 800000000000000000) (sd : Int) : ∃ (m2 : List (Nat × Nat)) (a' sd' : Int), Ev (fun k => spec_l1Cur_shares.j2 k (shl m) c a sd) (shl m2, a', sd') ∧ K.Pts m2 ∧ m2.length ≤ 20 ∧ a ≤ a' ∧ a' ≤ a + 10 := by
  by_cases h : (m.length : Int) > 1
  · obtain ⟨b, a1, sd1, e1, b1, b2⟩ := one_ok c hc a h0 (by omega) sd 20 (by omega)
    cases b with
    | true =>
      obtain ⟨v, a2, sd2, e2, v0, v1, b3, b4⟩ := pick_ok c hc a1 (by omega) (by omega) sd1 3 (by omega)
      obtain ⟨n, rfl⟩ := Int.eq_ofNat_of_zero_le v0
      have hz : 0 < m.length := by omega
      have e : rd_T61 (shl m) 0 = ⟨((m[0].1 : Nat) : Int), ((m[0].2 : Nat) : Int)⟩ := rd_shl (n := 0) hz
      have em : (n : Int) % 256 = (n : Int) := by omega
      refine ⟨m.set 0 (n, m[0].2), a2, sd2, ?_, pts_set hm 0 n _ (by omega) (hm _ (List.getElem_mem hz)).2, by simpa using hl, by omega, by omega⟩
      apply K.Ev.succ
      simp only [spec_l1Cur_shares.j2, shl_length, if_pos h, e1, Option.bind_some, if_true, e2, if_pos (show 0 < (m.length : Int) by omega), e, em]
      rw [← shl_set]
      exact Ev.now _
    | false =>
      refine ⟨m, a1, sd1, ?_, hm, hl, by omega, by omega⟩
      apply K.Ev.succ
      simp only [spec_l1Cur_shares.j2, shl_length, if_pos h, e1, Option.bind_some, Bool.false_eq_true, if_false]
      exact Ev.now _
  · refine ⟨m, a, sd, ?_, hm, hl, by omega, by omega⟩
    apply K.Ev.succ
    simp only [spec_l1Cur_shares.j2, shl_length, if_neg h]
    exact Ev.now _
theorem curShares_j1 (c : List Int) (hc : K.Code c) (m : List (Nat × Nat)) (hm : K.Pts m) (hl : m.length ≤ 20) (b : Bool) (hb : b = true → 0 < m.length) (a : Int) (h0 : 0 ≤ a) (h1 : a ≤ 700000000000000000) (sd : Int) : ∃ (m2 : List (Nat × Nat)) (a' sd' : Int), Ev (fun k => spec_l1Cur_shares.j1 k (shl m) b c a sd) (shl m2, a', sd') ∧ K.Pts m2 ∧ m2.length ≤ 20 ∧ a ≤ a' ∧ a' ≤ a + 20 := by
  cases b with
  | false =>
    obtain ⟨m2, a', sd', e, r1, r2, r3, r4⟩ := curShares_j2 c hc m hm hl a h0 (by omega) sd
    refine ⟨m2, a', sd', ?_, r1, r2, by omega, by omega⟩
    apply K.Ev.succ
    simp only [spec_l1Cur_shares.j1, Bool.false_eq_true, if_false]; exact e
  | true =>
    have hz := hb rfl
    obtain ⟨v, a1, sd1, e1, v0, v1, b1, b2⟩ := pick_ok c hc a h0 (by omega) sd (m.length : Int) (by omega)
    obtain ⟨y, a2, sd2, e2, y0, y1, b3, b4⟩ := byte_ok c hc a1 (by omega) (by omega) sd1
    obtain ⟨n, rfl⟩ := Int.eq_ofNat_of_zero_le v0
    obtain ⟨y, rfl⟩ := Int.eq_ofNat_of_zero_le y0
    have hn : n < m.length := by omega
    obtain ⟨m2, a', sd', e, r1, r2, r3, r4⟩ := curShares_j2 c hc (m.set n (m[n].1, y)) (pts_set hm n _ _ (hm _ (List.getElem_mem hn)).1 (by omega)) (by simpa using hl) a2 (by omega) (by omega) sd2
    refine ⟨m2, a', sd', ?_, r1, r2, by omega, by omega⟩
    apply K.Ev.succ
    simp only [spec_l1Cur_shares.j1, if_true, shl_length, e1, Option.bind_some, e2, if_pos (show 0 ≤ (n : Int) by omega), if_pos (show (n : Int) < (m.length : Int) by omega), rd_shl hn, Int.toNat_natCast, shl_set]
    exact e
theorem curShares_loop (c : List Int) (hc : K.Code c) (s : List (Nat × Nat)) (hs : K.Pts s) (hsl : s.length ≤ 20) : ∀ (d i : Nat) (m : List (Nat × Nat)) (a sd : Int), i + d = s.length → K.Pts m → m.length ≤ i → 0 ≤ a → a + 4 * d ≤ 600000000000000000 → ∃ (m2 : List (Nat × Nat)) (a' sd' : Int), Ev (fun k => spec_l1Cur_shares.l0 k (shl m) (shl s) (s.length : Int) (i : Int) c a sd) (shl m2, a', sd') ∧ K.Pts m2 ∧ m2.length ≤ 20 ∧ a ≤ a' ∧ a' ≤ a + 4 * d + 30 := by
  intro d
  induction d with
  | zero =>
    intro i m a sd h1 hm hl h0 h2
    have c0 : ¬ ((i : Int) < (s.length : Int)) := by omega
    by_cases h : (m.length : Int) > 0
    · obtain ⟨b, a1, sd1, e1, b1, b2⟩ := one_ok c hc a h0 (by omega) sd 5 (by omega)
      obtain ⟨m2, a', sd', e, r1, r2, r3, r4⟩ := curShares_j1 c hc m hm (by omega) b (fun _ => by omega) a1 (by omega) (by omega) sd1
      refine ⟨m2, a', sd', ?_, r1, r2, by omega, by omega⟩
      apply K.Ev.succ
      simp only [spec_l1Cur_shares.l0, if_neg c0, shl_length, if_pos h, e1, Option.bind_some]; exact e
    · obtain ⟨m2, a', sd', e, r1, r2, r3, r4⟩ := curShares_j1 c hc m hm (by omega) false (fun h => by cases h) a h0 (by omega) sd
      refine ⟨m2, a', sd', ?_, r1, r2, by omega, by omega⟩
      apply K.Ev.succ
      simp only [spec_l1Cur_shares.l0, if_neg c0, shl_length, if_neg h]; exact e
  | succ d ih =>
    intro i m a sd h1 hm hl h0 h2
    have hi : i < s.length := by omega
    have ws := K.w64s i (show i < 9223372036854775807 by omega)
    obtain ⟨b, a1, sd1, e1, b1, b2⟩ := one_ok c hc a h0 (by omega) sd 4 (by omega)
    cases b with
    | true =>
      obtain ⟨m2, a', sd', e, r1, r2, r3, r4⟩ := ih (i + 1) m a1 sd1 (by omega) hm (by omega) (by omega) (by omega)
      refine ⟨m2, a', sd', ?_, r1, r2, by omega, by omega⟩
      apply K.Ev.succ
      simp only [spec_l1Cur_shares.l0, if_pos (show (i : Int) < (s.length : Int) by omega), if_pos (show 0 ≤ (i : Int) by omega), shl_length, e1, Option.bind_some, if_true, ws]; exact e
    | false =>
      obtain ⟨m2, a', sd', e, r1, r2, r3, r4⟩ := ih (i + 1) (m ++ [(s[i].1, s[i].2)]) a1 sd1 (by omega) (fun p hp => by
        rcases List.mem_append.1 hp with h | h
        · exact hm p h
        · rw [List.mem_singleton.1 h]; exact hs _ (List.getElem_mem hi)) (by simp; omega) (by omega) (by omega)
      refine ⟨m2, a', sd', ?_, r1, r2, by omega, by omega⟩
      apply K.Ev.succ
      simp only [spec_l1Cur_shares.l0, if_pos (show (i : Int) < (s.length : Int) by omega), if_pos (show 0 ≤ (i : Int) by omega), shl_length, e1, Option.bind_some, Bool.false_eq_true, if_false, ws, rd_shl hi, shl_snoc, if_pos (show m.length < 70368744177664 by omega)]; exact e
theorem shares_ok (c : List Int) (hc : K.Code c) (a : Int) (h0 : 0 ≤ a) (h1 : a ≤ 500000000000000000) (sd : Int) : ∃ (m : List (Nat × Nat)) (a' sd' : Int), Ev (fun k => spec_l1Cur_shares.f k c a sd) (shl m, a', sd') ∧ K.Pts m ∧ m.length ≤ 20 ∧ a ≤ a' ∧ a' ≤ a + 1000 := by
  obtain ⟨x, a1, sd1, e1, x0, x1, b1, b2⟩ := byte_ok c hc a h0 (by omega) sd
  obtain ⟨v, a2, sd2, e2, v0, v1, b3, b4⟩ := pick_ok c hc a1 (by omega) (by omega) sd1 5 (by omega)
  obtain ⟨n, rfl⟩ := Int.eq_ofNat_of_zero_le v0
  obtain ⟨x, rfl⟩ := Int.eq_ofNat_of_zero_le x0
  obtain ⟨l, a3, sd3, e3, l1, l2, b5, b6⟩ := vector_ok c hc n (by omega) a2 (by omega) (by omega) sd2
  obtain ⟨l, rfl, hb⟩ := K.il_of l2
  rw [K.il_length] at l1
  obtain ⟨u, a4, sd4, e4, u0, u1, b7, b8⟩ := pick_ok c hc a3 (by omega) (by omega) sd3 8 (by omega)
  obtain ⟨u, rfl⟩ := Int.eq_ofNat_of_zero_le u0
  have hu : wrap64 (1 + (u : Int)) = ((u + 1 : Nat) : Int) := by rw [K.w64 (by omega) (by omega)]; omega
  have hb2 : K.Bytes (x :: l) := fun y hy => by
    rcases List.mem_cons.1 hy with rfl | hy
    · omega
    · exact hb y hy
  have es := specShare_ev x l (by omega) hb (by omega) (u + 1) (by omega) (by omega)
  obtain ⟨m2, a', sd', e, r1, r2, r3, r4⟩ := curShares_loop c hc (sharesOf (x :: l) (u + 1)) (sharesOf_pts _ hb2 _ (by omega)) (by rw [sharesOf_length]; omega) (u + 1) 0 [] a4 sd4 (by rw [sharesOf_length]; omega) (fun p hp => by cases hp) (by simp) (by omega) (by omega)
  refine ⟨m2, a', sd', ?_, r1, r2, by omega, by omega⟩
  simp only [spec_l1Cur_shares.f, e1, Option.bind_some, e2]
  refine Ev.bind e3 ?_
  simp only [e4, Option.bind_some, hu]
  refine Ev.bind es ?_
  simp only [shl_length]
  exact e

theorem drawAdd_loop (c : List Int) (hc : K.Code c) (a : List (Nat × Nat)) : ∀ (d n : Nat) (m : List (Nat × Nat)) (x sd : Int), n + d = m.length → K.Pts m → m.length ≤ 20 → 0 ≤ x → x + 4 * d ≤ 600000000000000000 → ∃ m2 : List (Nat × Nat), Ev (fun k => spec_DrawAddShares.l0 k (shl a) (shl m) (m.length : Int) (n : Int) c x sd) (shl a, shl m2) ∧ K.Pts m2 ∧ m2.length ≤ 20 := by
  intro d
  induction d with
  | zero =>
    intro n m x sd h1 hm hl h0 h2
    refine ⟨m, ?_, hm, hl⟩
    apply K.Ev.succ
    simp only [spec_DrawAddShares.l0, if_neg (show ¬ ((n : Int) < (m.length : Int)) by omega)]; exact Ev.now _
  | succ d ih =>
    intro n m x sd h1 hm hl h0 h2
    have hn : n < m.length := by omega
    obtain ⟨y, x1, sd1, e1, y0, y1, b1, b2⟩ := byte_ok c hc x h0 (by omega) sd
    obtain ⟨y, rfl⟩ := Int.eq_ofNat_of_zero_le y0
    obtain ⟨m2, e2, r1, r2⟩ := ih (n + 1) (m.set n (m[n].1, y)) x1 sd1 (by simp; omega) (pts_set hm n _ _ (hm _ (List.getElem_mem hn)).1 (by omega)) (by simpa using hl) (by omega) (by omega)
    refine ⟨m2, ?_, r1, r2⟩
    rw [List.length_set] at e2
    apply K.Ev.succ
    simp only [spec_DrawAddShares.l0, if_pos (show (n : Int) < (m.length : Int) by omega), e1, Option.bind_some, if_pos (show 0 ≤ (n : Int) by omega), shl_length, rd_shl hn, Int.toNat_natCast, shl_set, K.w64s n (show n < 9223372036854775807 by omega)]
    exact e2
theorem drawAddShares_ok (c : List Int) (hc : K.Code c) : ∃ (a b : List (Nat × Nat)), Ev (fun k => spec_DrawAddShares.f k c) (shl a, shl b) ∧ K.Pts a ∧ K.Pts b ∧ a.length ≤ 20 ∧ b.length ≤ 20 := by
  obtain ⟨m, a1, sd1, e1, r1, r2, b1, b2⟩ := shares_ok c hc 0 (by omega) (by omega) 0
  obtain ⟨b, a2, sd2, e2, b3, b4⟩ := one_ok c hc a1 (by omega) (by omega) sd1 6 (by omega)
  cases b with
  | true =>
    obtain ⟨m2, a3, sd3, e3, r3, r4, _, _⟩ := shares_ok c hc a2 (by omega) (by omega) sd2
    refine ⟨m, m2, ?_, r1, r3, r2, r4⟩
    simp only [spec_DrawAddShares.f]
    refine Ev.bind e1 ?_
    simp only [e2, Option.bind_some, if_true]
    exact Ev.bind e3 (Ev.now _)
  | false =>
    obtain ⟨m2, e3, r3, r4⟩ := drawAdd_loop c hc m m.length 0 m a2 sd2 (by omega) r1 r2 (by omega) (by omega)
    refine ⟨m, m2, ?_, r1, r3, r2, r4⟩
    simp only [spec_DrawAddShares.f]
    refine Ev.bind e1 ?_
    simp only [e2, Option.bind_some, Bool.false_eq_true, if_false, List.nil_append, List.length_nil, shl_length, if_pos (show 0 + m.length < 70368744177664 by omega)]
    exact e3

/-- Shares added. -/
def addS : List (Nat × Nat) → List (Nat × Nat) → List (Nat × Nat)
  | p :: a, q :: b => (p.1, p.2 ^^^ q.2) :: addS a b
  | _, _ => []
theorem addS_length : ∀ (a b : List (Nat × Nat)), a.length = b.length → (addS a b).length = a.length
  | [], [], _ => rfl
  | p :: a, q :: b, h => by simp [addS, addS_length a b (by simpa using h)]
  | [], q :: b, h => by simp at h
  | p :: a, [], h => by simp at h
theorem addS_get : ∀ (a b : List (Nat × Nat)) (h : a.length = b.length) (n : Nat) (hn : n < a.length), (addS a b)[n]'(by rw [addS_length a b h]; exact hn) = (a[n].1, a[n].2 ^^^ (b[n]'(by omega)).2)
  | p :: a, q :: b, h, 0, _ => rfl
  | p :: a, q :: b, h, n + 1, hn => by
    have := addS_get a b (by simpa using h) n (by simpa using hn)
    simpa [addS] using this
  | [], _, _, n, hn => by simp at hn
  | p :: a, [], h, _, _ => by simp at h
theorem addS_fst : ∀ (a b : List (Nat × Nat)), a.length = b.length → (addS a b).map Prod.fst = a.map Prod.fst
  | [], [], _ => rfl
  | p :: a, q :: b, h => by simp [addS, addS_fst a b (by simpa using h)]
  | [], q :: b, h => by simp at h
  | p :: a, [], h => by simp at h
theorem addS_pts (a b : List (Nat × Nat)) (ha : K.Pts a) (hb : K.Pts b) (h : a.length = b.length) : K.Pts (addS a b) := by
  intro p hp
  obtain ⟨n, hn, rfl⟩ := List.getElem_of_mem hp
  rw [addS_length a b h] at hn
  rw [addS_get a b h n hn]
  exact ⟨(ha _ (List.getElem_mem hn)).1, K.xlt (ha _ (List.getElem_mem hn)).2 (hb _ (List.getElem_mem (by omega))).2⟩
theorem eqx_loop (a b : List (Nat × Nat)) (h : a.length = b.length) (hl : a.length ≤ 1048576) : ∀ (d n : Nat), n + d = a.length → ∃ t : Bool, Ev (fun k => slices_EqualFunc_impl_Share_impl_Share_impl_Share_impl_Share.l0 k (shl b) (shl a) (a.length : Int) (n : Int)) t ∧ (t = true ↔ (a.drop n).map Prod.fst = (b.drop n).map Prod.fst) := by
  intro d
  induction d with
  | zero =>
    intro n h1
    refine ⟨true, ?_, ?_⟩
    · apply K.Ev.succ
      simp only [slices_EqualFunc_impl_Share_impl_Share_impl_Share_impl_Share.l0, if_neg (show ¬ ((n : Int) < (a.length : Int)) by omega)]; exact Ev.now _
    · rw [List.drop_of_length_le (show a.length ≤ n by omega), List.drop_of_length_le (show b.length ≤ n by omega)]; simp
  | succ d ih =>
    intro n h1
    have hn : n < a.length := by omega
    have hn2 : n < b.length := by omega
    have c1 : (n : Int) < (a.length : Int) := by omega
    have c3 : (n : Int) < (b.length : Int) := by omega
    have c2 : 0 ≤ (n : Int) := by omega
    have ws := K.w64s n (show n < 9223372036854775807 by omega)
    obtain ⟨t, e1, e2⟩ := ih (n + 1) (by omega)
    have d1 : a.drop n = a[n] :: a.drop (n + 1) := List.drop_eq_getElem_cons hn
    have d2 : b.drop n = b[n] :: b.drop (n + 1) := List.drop_eq_getElem_cons hn2
    by_cases hx : a[n].1 = b[n].1
    · refine ⟨t, ?_, ?_⟩
      · apply K.Ev.succ
        simp only [slices_EqualFunc_impl_Share_impl_Share_impl_Share_impl_Share.l0, if_pos c1, if_pos c2, shl_length, if_pos c3, rd_shl hn, rd_shl hn2, impl_AddShares_fn1.f, Option.bind_some, hx, beq_self_eq_true, if_true, ws]
        exact e1
      · rw [e2, d1, d2, List.map_cons, List.map_cons, hx]; exact (List.cons_inj_right _).symm
    · have hx' : (((a[n].1 : Nat) : Int) == ((b[n].1 : Nat) : Int)) = false := by
        rw [beq_eq_false_iff_ne]; omega
      refine ⟨false, ?_, ?_⟩
      · apply K.Ev.succ
        simp only [slices_EqualFunc_impl_Share_impl_Share_impl_Share_impl_Share.l0, if_pos c1, if_pos c2, shl_length, if_pos c3, rd_shl hn, rd_shl hn2, impl_AddShares_fn1.f, Option.bind_some, hx', Bool.false_eq_true, if_false]
        exact Ev.now _
      · rw [d1, d2, List.map_cons, List.map_cons]; exact ⟨fun h => (by cases h), fun h => absurd (List.cons.inj h).1 hx⟩
theorem eqx_ev (a b : List (Nat × Nat)) (hl : a.length ≤ 1048576) : ∃ t : Bool, Ev (fun k => slices_EqualFunc_impl_Share_impl_Share_impl_Share_impl_Share.f k (shl a) (shl b)) t ∧ (t = true ↔ a.map Prod.fst = b.map Prod.fst) := by
  by_cases h : a.length = b.length
  · obtain ⟨t, e1, e2⟩ := eqx_loop a b h hl a.length 0 (by omega)
    refine ⟨t, ?_, by simpa using e2⟩
    simp only [slices_EqualFunc_impl_Share_impl_Share_impl_Share_impl_Share.f, shl_length, if_pos (show (a.length : Int) = (b.length : Int) by omega)]
    exact e1
  · refine ⟨false, ?_, ⟨fun h => (by cases h), fun e => absurd (by simpa using congrArg List.length e) h⟩⟩
    simp only [slices_EqualFunc_impl_Share_impl_Share_impl_Share_impl_Share.f, shl_length, if_neg (show ¬ (a.length : Int) = (b.length : Int) by omega)]
    exact Ev.now _
theorem add_loops (a b : List (Nat × Nat)) (ha : K.Pts a) (hb : K.Pts b) (h : a.length = b.length) (hl : a.length ≤ 1000) : Ev (fun k => impl_AddShares.l0 k (shl b) [] (shl a) (a.length : Int) 0) (shl (addS a b), true) ∧ Ev (fun k => spec_AddShares.l0 k (shl b) [] (shl a) (a.length : Int) 0) (if a.map Prod.fst = b.map Prod.fst then (shl (addS a b), true) else ([], false)) := by
  have key : ∀ (d n : Nat), n + d = a.length → Ev (fun k => impl_AddShares.l0 k (shl b) (shl ((addS a b).take n)) (shl a) (a.length : Int) (n : Int)) (shl (addS a b), true) ∧ Ev (fun k => spec_AddShares.l0 k (shl b) (shl ((addS a b).take n)) (shl a) (a.length : Int) (n : Int)) (if (a.drop n).map Prod.fst = (b.drop n).map Prod.fst then (shl (addS a b), true) else ([], false)) := by
    intro d
    induction d with
    | zero =>
      intro n h1
      obtain rfl : n = a.length := by omega
      have et : (addS a b).take a.length = addS a b := List.take_of_length_le (by rw [addS_length a b h]; exact Nat.le_refl _)
      rw [et]
      constructor <;> apply K.Ev.succ
      · simp only [impl_AddShares.l0, if_neg (show ¬ ((a.length : Int) < (a.length : Int)) by omega)]; exact Ev.now _
      · rw [List.drop_length, List.drop_of_length_le (show b.length ≤ a.length by omega), if_pos rfl]
        simp only [spec_AddShares.l0, if_neg (show ¬ ((a.length : Int) < (a.length : Int)) by omega)]; exact Ev.now _
    | succ d ih =>
      intro n h1
      have hn : n < a.length := by omega
      have hn2 : n < b.length := by omega
      have c1 : (n : Int) < (a.length : Int) := by omega
      have c3 : (n : Int) < (b.length : Int) := by omega
      have c2 : 0 ≤ (n : Int) := by omega
      have ws := K.w64s n (show n < 9223372036854775807 by omega)
      have hs : ((addS a b).take n).length < 70368744177664 := by rw [List.length_take, addS_length a b h]; omega
      have hx := K.xor_u8 (ha _ (List.getElem_mem hn)).2 (hb _ (List.getElem_mem hn2)).2
      obtain ⟨r1, r2⟩ := ih (n + 1) (by omega)
      have e : (addS a b).take (n + 1) = (addS a b).take n ++ [(a[n].1, a[n].2 ^^^ b[n].2)] := by
        rw [K.take_succ' _ n (by rw [addS_length a b h]; exact hn), addS_get a b h n hn]
      rw [e, ← shl_snoc] at r1 r2
      have d1 : a.drop n = a[n] :: a.drop (n + 1) := List.drop_eq_getElem_cons hn
      have d2 : b.drop n = b[n] :: b.drop (n + 1) := List.drop_eq_getElem_cons hn2
      constructor <;> apply K.Ev.succ
      · simp only [impl_AddShares.l0, shl_length, if_pos c1, if_pos c2, if_pos c3, rd_shl hn, rd_shl hn2, hx, if_pos hs, ws]
        exact r1
      · rw [d1, d2]
        by_cases hq : a[n].1 = b[n].1
        · have hq' : ((b[n].1 : Nat) : Int) = ((a[n].1 : Nat) : Int) := by omega
          simp only [spec_AddShares.l0, shl_length, if_pos c1, if_pos c2, if_pos c3, rd_shl hn, rd_shl hn2, hx, if_pos hq', if_pos hs, ws, List.map_cons, hq, List.cons.injEq, true_and]
          simp only [hq] at r2
          exact r2
        · have hq' : ¬ ((b[n].1 : Nat) : Int) = ((a[n].1 : Nat) : Int) := by omega
          simp only [spec_AddShares.l0, shl_length, if_pos c1, if_pos c2, if_pos c3, rd_shl hn, rd_shl hn2, if_neg hq', List.map_cons, List.cons.injEq, hq, false_and, if_false]
          exact Ev.now _
  have := key a.length 0 (by omega)
  simpa [shl] using this
theorem add_ev (a b : List (Nat × Nat)) (ha : K.Pts a) (hb : K.Pts b) (hla : a.length ≤ 1048576) (hlb : b.length ≤ 1048576) : ∃ r : List S61 × Bool, Ev (fun k => impl_AddShares.f k (shl a) (shl b)) r ∧ Ev (fun k => spec_AddShares.f k (shl a) (shl b)) r ∧ ((GoodShares a ∧ GoodShares b ∧ a.map Prod.fst = b.map Prod.fst ∧ r = (shl (addS a b), true)) ∨ r = ([], false)) := by
  have bad : Ev (fun k => impl_AddShares.j0 k (shl a) (shl b) true) (([] : List S61), false) ∧ Ev (fun k => spec_AddShares.j0 k (shl a) (shl b) true) (([] : List S61), false) := by
    constructor <;> apply K.Ev.succ
    · simp only [impl_AddShares.j0, if_true]; exact Ev.now _
    · simp only [spec_AddShares.j0, if_true]; exact Ev.now _
  obtain ⟨x, i1, i2, i3⟩ := areShares_ev a hla
  obtain ⟨y, k1, k2, k3⟩ := areShares_ev b hlb
  cases x with
  | false =>
    refine ⟨([], false), ?_, ?_, .inr rfl⟩
    · simp only [impl_AddShares.f]; refine Ev.bind i2 ?_; simp only [Bool.false_eq_true, if_false]; exact bad.1
    · simp only [spec_AddShares.f]; refine Ev.bind i1 ?_; simp only [Bool.false_eq_true, if_false]; exact bad.2
  | true =>
    cases y with
    | false =>
      refine ⟨([], false), ?_, ?_, .inr rfl⟩
      · simp only [impl_AddShares.f]; refine Ev.bind i2 ?_; simp only [if_true]; refine Ev.bind k2 ?_; simp only [Bool.false_eq_true, if_false]; exact bad.1
      · simp only [spec_AddShares.f]; refine Ev.bind i1 ?_; simp only [if_true]; refine Ev.bind k1 ?_; simp only [Bool.false_eq_true, if_false]; exact bad.2
    | true =>
      have ga := i3.1 rfl
      have gb := k3.1 rfl
      obtain ⟨t, e1, e2⟩ := eqx_ev a b hla
      by_cases hx : a.map Prod.fst = b.map Prod.fst
      · have ht : t = true := e2.2 hx
        subst ht
        have hlen : a.length = b.length := by simpa using congrArg List.length hx
        obtain ⟨r1, r2⟩ := add_loops a b ha hb hlen (by have := ga.len; omega)
        rw [if_pos hx] at r2
        have hb0 : ((a.length : Int) != (b.length : Int)) = false := by rw [hlen]; simp
        refine ⟨(shl (addS a b), true), ?_, ?_, .inl ⟨ga, gb, hx, rfl⟩⟩
        · simp only [impl_AddShares.f]; refine Ev.bind i2 ?_; simp only [if_true]; refine Ev.bind k2 ?_; simp only [if_true]; refine Ev.bind e1 ?_
          simp only [Bool.not_true]
          apply K.Ev.succ
          simp only [impl_AddShares.j0, Bool.false_eq_true, if_false, shl_length]; exact r1
        · simp only [spec_AddShares.f]; refine Ev.bind i1 ?_; simp only [if_true]; refine Ev.bind k1 ?_
          simp only [if_true, shl_length, hb0]
          apply K.Ev.succ
          simp only [spec_AddShares.j0, Bool.false_eq_true, if_false, shl_length]; exact r2
      · have ht : t = false := by
          cases t with
          | false => rfl
          | true => exact absurd (e2.1 rfl) hx
        subst ht
        refine ⟨([], false), ?_, ?_, .inr rfl⟩
        · simp only [impl_AddShares.f]; refine Ev.bind i2 ?_; simp only [if_true]; refine Ev.bind k2 ?_; simp only [if_true]; refine Ev.bind e1 ?_
          simp only [Bool.not_false]
          exact bad.1
        · simp only [spec_AddShares.f]; refine Ev.bind i1 ?_; simp only [if_true]; refine Ev.bind k1 ?_
          simp only [if_true, shl_length]
          by_cases hlen : a.length = b.length
          · obtain ⟨r1, r2⟩ := add_loops a b ha hb hlen (by have := ga.len; omega)
            rw [if_neg hx] at r2
            have hb0 : ((a.length : Int) != (b.length : Int)) = false := by rw [hlen]; simp
            rw [hb0]
            apply K.Ev.succ
            simp only [spec_AddShares.j0, Bool.false_eq_true, if_false, shl_length]; exact r2
          · have hb0 : ((a.length : Int) != (b.length : Int)) = true := by simp; omega
            rw [hb0]
            exact bad.2

theorem drawRefreshShares_ok (c : List Int) (hc : K.Code c) : ∃ (m : List (Nat × Nat)) (l : List Nat), Ev (fun k => spec_DrawRefreshShares.f k c) (shl m, K.il l) ∧ K.Pts m ∧ m.length ≤ 20 ∧ K.Bytes l := by
  obtain ⟨m, a1, sd1, e1, r1, r2, b1, b2⟩ := shares_ok c hc 0 (by omega) (by omega) 0
  obtain ⟨v, a2, sd2, e2, v0, v1, b3, b4⟩ := pick_ok c hc a1 (by omega) (by omega) sd1 10 (by omega)
  obtain ⟨v, rfl⟩ := Int.eq_ofNat_of_zero_le v0
  obtain ⟨l, a3, sd3, e3, l1, l2, b5, b6⟩ := vector_ok c hc v (by omega) a2 (by omega) (by omega) sd2
  obtain ⟨l, rfl, hb⟩ := K.il_of l2
  refine ⟨m, l, ?_, r1, r2, hb⟩
  simp only [spec_DrawRefreshShares.f]
  refine Ev.bind e1 ?_
  simp only [e2, Option.bind_some]
  exact Ev.bind e3 (Ev.now _)

theorem drawOpenSecret_ok (c : List Int) (hc : K.Code c) : ∃ (m : List (Nat × Nat)) (n : Int), Ev (fun k => spec_DrawOpenSecret.f k c) (shl m, n) ∧ K.Pts m ∧ m.length ≤ 20 := by
  obtain ⟨m, a1, sd1, e1, r1, r2, b1, b2⟩ := shares_ok c hc 0 (by omega) (by omega) 0
  obtain ⟨v, a2, sd2, e2, v0, v1, b3, b4⟩ := pick_ok c hc a1 (by omega) (by omega) sd1 6 (by omega)
  refine ⟨m, v, ?_, r1, r2⟩
  simp only [spec_DrawOpenSecret.f]
  refine Ev.bind e1 ?_
  simp only [e2, Option.bind_some]
  exact Ev.now _

theorem drawIsShared_ok (c : List Int) (hc : K.Code c) : ∃ (m : List (Nat × Nat)) (n : Int), Ev (fun k => spec_DrawIsShared.f k c) (shl m, n) ∧ K.Pts m ∧ m.length ≤ 20 := by
  obtain ⟨m, n, e, r1, r2⟩ := drawOpenSecret_ok c hc
  refine ⟨m, n, ?_, r1, r2⟩
  simp only [spec_DrawIsShared.f]
  exact Ev.bind e (Ev.now _)

theorem shares_j5 (c : List Int) (hc : K.Code c) : Ev (fun k => laws_FnShares.j5 k c) true := by
  obtain ⟨m, n, e1, m1, m2⟩ := drawIsShared_ok c hc
  obtain ⟨r, e2, e3⟩ := shared_eq m m1 (by omega) n
  obtain ⟨s, e4, e5⟩ := open_eq m m1 (by omega) n
  apply K.Ev.succ
  simp only [laws_FnShares.j5]
  refine Ev.bind e1 ?_
  refine Ev.bind e3 ?_
  refine Ev.bind e2 ?_
  refine Ev.bind e5 ?_
  refine Ev.bind e4 ?_
  simp only [beq_self_eq_true, if_true]
  exact Ev.now _
theorem fresh_good {m : List (Nat × Nat)} (h : GoodShares m) (c : List Nat) : GoodShares (freshS m c) := by
  refine ⟨by rw [freshS_length]; exact h.len, ?_, by rw [freshS_fst]; exact h.up⟩
  intro q hq
  obtain ⟨p, hp, rfl⟩ := List.mem_map.1 hq
  exact h.nz p hp
theorem fresh_interp (m : List (Nat × Nat)) (hm : K.Pts m) (hg : GoodShares m) (c : List Nat) (hc : K.Bytes c) (h : c.length < m.length) : K.interp (freshS m c) 0 = K.interp m 0 := by
  have hp : K.Poly (freshS m c).length (fun v => K.interp m v ^^^ K.gmul v (K.peval c v)) := by
    rw [freshS_length]
    refine (K.interp_poly m hm).add (K.Poly.upto (n := c.length + 1) ?_ (by omega))
    exact K.Poly.shift ⟨c, rfl, hc, fun _ _ => rfl⟩
  have := K.interp_eq (freshS m c) (freshS_pts m hm c hc) (by rw [freshS_fst]; exact hg.nodup) hp (fun q hq => by
    obtain ⟨p, hp, rfl⟩ := List.mem_map.1 hq
    show K.interp m p.1 ^^^ K.gmul p.1 (K.peval c p.1) = p.2 ^^^ K.gmul p.1 (K.peval c p.1)
    rw [K.interp_hits m hm hg.nodup p hp]) (v := 0) (by omega)
  rw [this]
  show K.interp m 0 ^^^ K.gmul 0 (K.peval c 0) = _
  rw [K.zero_gmul, Nat.xor_zero]
theorem add_interp (a b : List (Nat × Nat)) (ha : K.Pts a) (hb : K.Pts b) (ga : GoodShares a) (gb : GoodShares b) (hx : a.map Prod.fst = b.map Prod.fst) : K.interp (addS a b) 0 = K.interp a 0 ^^^ K.interp b 0 := by
  have hl : a.length = b.length := by simpa using congrArg List.length hx
  have hp : K.Poly (addS a b).length (fun v => K.interp a v ^^^ K.interp b v) := by
    rw [addS_length a b hl]
    refine (K.interp_poly a ha).add ?_
    rw [hl]; exact K.interp_poly b hb
  exact K.interp_eq (addS a b) (addS_pts a b ha hb hl) (by rw [addS_fst a b hl]; exact ga.nodup) hp (fun q hq => by
    obtain ⟨n, hn, rfl⟩ := List.getElem_of_mem hq
    have hn1 : n < a.length := by rw [addS_length a b hl] at hn; exact hn
    have hn2 : n < b.length := by omega
    rw [addS_get a b hl n hn1]
    have e : a[n].1 = b[n].1 := by
      have h1 : (a.map Prod.fst)[n]'(by simpa using hn1) = (b.map Prod.fst)[n]'(by simpa using hn2) := by simp only [hx]
      simpa using h1
    show K.interp a a[n].1 ^^^ K.interp b a[n].1 = a[n].2 ^^^ b[n].2
    rw [K.interp_hits a ha ga.nodup _ (List.getElem_mem hn1), e, K.interp_hits b hb gb.nodup _ (List.getElem_mem hn2)]) (v := 0) (by omega)
theorem shares_j2 (c : List Int) (hc : K.Code c) : Ev (fun k => laws_FnShares.j2 k c) true := by
  obtain ⟨m, l, e1, m1, m2, hb⟩ := drawRefreshShares_ok c hc
  obtain ⟨r, e2, e3, hr⟩ := refresh_ev m m1 (by omega) l hb
  have hrl : r.1.length ≤ 140737488355328 := by
    rcases hr with ⟨_, rfl⟩ | rfl
    · rw [shl_length, freshS_length]; omega
    · simp
  have skip : Ev (fun k => laws_FnShares.j4 k c (shl m) r.1 false) true := by
    apply K.Ev.succ
    simp only [laws_FnShares.j4, Bool.false_eq_true, if_false]
    exact shares_j5 c hc
  apply K.Ev.succ
  simp only [laws_FnShares.j2]
  refine Ev.bind e1 ?_
  refine Ev.bind e3 ?_
  refine Ev.bind e2 ?_
  simp only [bne_self_eq_false, Bool.false_eq_true, if_false]
  refine Ev.bind (sameShares_self _ hrl) ?_
  simp only [Bool.not_true]
  apply K.Ev.succ
  simp only [laws_FnShares.j3, Bool.false_eq_true, if_false]
  rcases hr with ⟨hg, rfl⟩ | rfl
  · simp only [if_true, shl_length, K.il_length]
    by_cases h : (m.length : Int) > (l.length : Int)
    · rw [decide_eq_true h]
      have i1 := interpolate_good m m1 hg (by omega) 0 (by omega)
      have i2 := interpolate_good (freshS m l) (freshS_pts m m1 l hb) (fresh_good hg l) (by rw [freshS_length]; omega) 0 (by omega)
      rw [fresh_interp m m1 hg l hb (by omega)] at i2
      apply K.Ev.succ
      simp only [laws_FnShares.j4, if_true]
      refine Ev.bind i1 ?_
      refine Ev.bind i2 ?_
      simp only [if_true]
      exact shares_j5 c hc
    · rw [decide_eq_false h]
      exact skip
  · simp only [Bool.false_eq_true, if_false]
    exact skip
theorem FnShares : laws_FnShares.Pure := by
  intro c1 c2 _ hl1 hw1 _ hl2 hw2
  have hc1 : K.Code c1 := ⟨by omega, fun x h => K.b_u8 (hw1 x h)⟩
  have hc2 : K.Code c2 := ⟨by omega, fun x h => K.b_u8 (hw2 x h)⟩
  refine Ev.rounds (?_ : Ev (fun k => laws_FnShares.f k c1 c2) true)
  unfold laws_FnShares.f
  by_cases h : (wrap64 ((c1.length : Int) + (c2.length : Int))) > 1048576
  · simp only [if_pos h]; exact Ev.now _
  simp only [if_neg h]
  obtain ⟨a, b, e1, ha, hb, hla, hlb⟩ := drawAddShares_ok c1 hc1
  obtain ⟨r, e2, e3, hr⟩ := add_ev a b ha hb (by omega) (by omega)
  have hrl : r.1.length ≤ 140737488355328 := by
    rcases hr with ⟨_, _, hx, rfl⟩ | rfl
    · rw [shl_length, addS_length a b (by simpa using congrArg List.length hx)]; omega
    · simp
  have skip : Ev (fun k => laws_FnShares.j1 k c2 (shl a) (shl b) r.1 false) true := by
    apply K.Ev.succ
    simp only [laws_FnShares.j1, Bool.false_eq_true, if_false]
    exact shares_j2 c2 hc2
  refine Ev.bind e1 ?_
  refine Ev.bind e2 ?_
  refine Ev.bind e3 ?_
  simp only [bne_self_eq_false, Bool.false_eq_true, if_false]
  refine Ev.bind (sameShares_self _ hrl) ?_
  simp only [Bool.not_true]
  apply K.Ev.succ
  simp only [laws_FnShares.j0, Bool.false_eq_true, if_false]
  rcases hr with ⟨ga, gb, hx, rfl⟩ | rfl
  · simp only [if_true, shl_length]
    by_cases h0 : (a.length : Int) > 0
    · rw [decide_eq_true h0]
      have hl : a.length = b.length := by simpa using congrArg List.length hx
      have i1 := interpolate_good a ha ga (by omega) 0 (by omega)
      have i2 := interpolate_good b hb gb (by omega) 0 (by omega)
      have gs : GoodShares (addS a b) := by
        refine ⟨by rw [addS_length a b hl]; exact ga.len, ?_, by rw [addS_fst a b hl]; exact ga.up⟩
        intro q hq
        have : q.1 ∈ (addS a b).map Prod.fst := List.mem_map.2 ⟨q, hq, rfl⟩
        rw [addS_fst a b hl] at this
        obtain ⟨p, hp, e⟩ := List.mem_map.1 this
        rw [← e]; exact ga.nz p hp
      have i3 := interpolate_good (addS a b) (addS_pts a b ha hb hl) gs (by rw [addS_length a b hl]; omega) 0 (by omega)
      rw [add_interp a b ha hb ga gb hx] at i3
      have xe := K.xor_u8 ((K.interp_poly a ha).lt (show (0 : Nat) < 256 by omega)) ((K.interp_poly b hb).lt (show (0 : Nat) < 256 by omega))
      apply K.Ev.succ
      simp only [laws_FnShares.j1, if_true]
      refine Ev.bind i1 ?_
      refine Ev.bind i2 ?_
      refine Ev.bind i3 ?_
      simp only [if_true, xe]
      exact shares_j2 c2 hc2
    · rw [decide_eq_false h0]
      exact skip
  · simp only [Bool.false_eq_true, if_false]
    exact skip

end Go.Proofs.Ytekaaoeojbclfaa.Pure
