/- The law FnSecret answers true for all drawn shares: up to eight shares are compatible with every secret, for exactly one choice of bytes, and the program finds it as the reference does. -/
import Derived.Test.YtekaaoeojbclfaaPFnSecretx12
import Derived.Test.YtekaaoeojbclfaaKKit
import Derived.Test.YtekaaoeojbclfaaKGF
import Derived.Test.YtekaaoeojbclfaaKElim
import Derived.Test.YtekaaoeojbclfaaKGFL
import Derived.Test.YtekaaoeojbclfaaKShar
import Derived.Test.YtekaaoeojbclfaaKLag
set_option linter.unusedVariables false
set_option linter.unusedSimpArgs false
namespace Go.Proofs.Ytekaaoeojbclfaa.Pure
open Go Go.RowKit Go.Proofs.Ytekaaoeojbclfaa Go.Proofs.Ytekaaoeojbclfaa.PFnSecret Go.Proofs.YtekaaoeojbclfaaW.PrintWords Go.Proofs.YtekaaoeojbclfaaW.PrintLast Go.Proofs.YtekaaoeojbclfaaW.PrintMore

theorem Times_ev (a b : Nat) (ha : a < 256) (hb : b < 256) : Ev (fun k => impl_Times.f k (a : Int) (b : Int)) ((K.gmul a b : Nat) : Int) := by
  have key : ∀ (n j x o : Nat), j + n = 8 → x < 256 → o < 256 → Ev (fun k => impl_Times.l0 k (b : Int) (o : Int) (j : Int) (x : Int)) ((K.gstep n x (b / 2 ^ j) o : Nat) : Int) := by
    intro n
    induction n with
    | zero =>
      intro j x o hj hx ho
      apply K.Ev.succ
      simp only [impl_Times.l0, if_neg (show ¬ ((j : Int) < 8) by omega), K.gstep]
      exact K.Ev.const (by rw [show (o : Int) % 256 = (o : Int) by omega])
    | succ n ih =>
      intro j x o hj hx ho
      have w : K.Eqn (wrap64 ((x : Int) * 2)) ((2 * x : Nat) : Int) := ⟨by rw [K.w64 (by omega) (by omega)]; omega⟩
      have hx2 : (if ((2 * x : Nat) : Int) > 255 then Go.bits .xor .i64 ((2 * x : Nat) : Int) 283 else ((2 * x : Nat) : Int)) = ((K.xt x : Nat) : Int) := by
        unfold K.xt
        by_cases h : 2 * x > 255
        · rw [if_pos (by omega), if_pos h]
          exact K.xor_i64 (b := 283) (by omega) (by omega)
        · rw [if_neg (by omega), if_neg h]
      have hs : shr .u8 (b : Int) (j : Int) = ((b / 2 ^ j : Nat) : Int) := K.shr_u8 b j (by omega)
      have hbj : b / 2 ^ j < 256 := Nat.lt_of_le_of_lt (Nat.div_le_self _ _) hb
      have hnext := ih (j + 1) (K.xt x) (if (b / 2 ^ j) % 2 = 1 then o ^^^ x else o) (by omega) (K.xt_lt hx) (by
        split
        · exact Nat.xor_lt_two_pow (n := 8) ho hx
        · exact ho)
      rw [Nat.pow_succ, ← Nat.div_div_eq_div_mul] at hnext
      apply K.Ev.succ
      simp only [impl_Times.l0, if_pos (show (j : Int) < 8 by omega), if_pos (show 0 ≤ (j : Int) by omega), hs, K.and_u8_1 hbj, w.out, K.xor_i64 (show o < 1024 by omega) (show x < 1024 by omega), K.w64s j (show j < 9223372036854775807 by omega)]
      by_cases h1 : (b / 2 ^ j) % 2 = 1
      · rw [if_pos h1] at hnext
        simp only [h1, show (((1 : Nat) : Int) = 1) = True by simp, if_true, K.gstep]
        by_cases h2 : ((2 * x : Nat) : Int) > 255
        · rw [if_pos h2] at hx2
          simp only [if_pos h2]
          simp only [hx2]
          exact hnext
        · rw [if_neg h2] at hx2
          simp only [if_neg h2]
          simp only [hx2]
          exact hnext
      · rw [if_neg h1] at hnext
        have h1' : ¬ (((b / 2 ^ j % 2 : Nat) : Int) = 1) := by omega
        simp only [if_neg h1', K.gstep, if_neg h1]
        by_cases h2 : ((2 * x : Nat) : Int) > 255
        · rw [if_pos h2] at hx2
          simp only [if_pos h2]
          simp only [hx2]
          exact hnext
        · rw [if_neg h2] at hx2
          simp only [if_neg h2]
          simp only [hx2]
          exact hnext
  have wa : K.Eqn (wrap64 (a : Int)) (a : Int) := ⟨K.w64 (by omega) (by omega)⟩
  simp only [impl_Times.f, wa.out]
  have := key 8 0 a 0 (by omega) ha (by omega)
  rw [Nat.pow_zero, Nat.div_one] at this
  exact this

theorem valueAt_ev (l : List Nat) (hl : l.length ≤ 1048576) (hb : K.Bytes l) (x : Nat) (hx : x < 256) : Ev (fun k => impl_valueAt.f k (K.il l) (x : Int)) ((K.peval l x : Nat) : Int) := by
  have key : ∀ (n : Nat), n ≤ l.length → Ev (fun k => impl_valueAt.l0 k (K.il l) (x : Int) ((K.peval (l.drop n) x : Nat) : Int) ((n : Int) - 1)) ((K.peval l x : Nat) : Int) := by
    intro n
    induction n with
    | zero =>
      intro _
      apply K.Ev.succ
      simp only [impl_valueAt.l0, show ¬ (((0 : Nat) : Int) - 1 ≥ 0) by omega, if_false, List.drop_zero]
      exact Ev.now _
    | succ n ih =>
      intro h
      have hn : n < l.length := by omega
      have hd : K.Bytes (l.drop (n + 1)) := fun y hy => hb y (List.mem_of_mem_drop hy)
      have e : (((n + 1 : Nat) : Int) - 1) = (n : Int) := by omega
      have w : K.Eqn (wrap64 ((n : Int) - 1)) ((n : Int) - 1) := ⟨K.w64 (by omega) (by omega)⟩
      have hp := K.peval_lt hd x
      apply K.Ev.succ
      simp only [impl_valueAt.l0, e, if_pos (show (n : Int) ≥ 0 by omega)]
      refine Ev.bind (Times_ev _ x hp hx) ?_
      simp only [if_pos (show 0 ≤ (n : Int) by omega), K.il_length, if_pos (show (n : Int) < (l.length : Int) by omega), K.rd_il hn, K.xor_u8 (K.gmul_lt (b := x) hp) (hb l[n] (List.getElem_mem hn)), w.out]
      have := ih (by omega)
      rw [List.drop_eq_getElem_cons hn] at this
      exact this
  have w : K.Eqn (wrap64 ((l.length : Int) - 1)) ((l.length : Int) - 1) := ⟨K.w64 (by omega) (by omega)⟩
  simp only [impl_valueAt.f, K.il_length, w.out]
  have := key l.length (Nat.le_refl _)
  rw [List.drop_length] at this
  exact this

theorem polyAt_good (l : List Nat) (hl : l.length ≤ 20) (hb : K.Bytes l) (x : Nat) (hx : x < 256) : Ev (fun k => impl_PolyAt.f k (K.il l) (x : Int)) (((K.peval l x : Nat) : Int), true) := by
  have h : ¬ ((K.il l).length : Int) > 20 := by rw [K.il_length]; omega
  simp only [impl_PolyAt.f, if_neg h]
  exact Ev.bind (valueAt_ev l (by omega) hb x hx) (Ev.now _)

/-- Shares of pairs of bytes. -/
def shl (m : List (Nat × Nat)) : List S61 := m.map (fun p => ⟨(p.1 : Int), (p.2 : Int)⟩)
theorem shl_length (m : List (Nat × Nat)) : (shl m).length = m.length := by simp [shl]
theorem rd_shl {m : List (Nat × Nat)} {n : Nat} (h : n < m.length) : rd_T61 (shl m) (n : Int) = ⟨((m[n].1 : Nat) : Int), ((m[n].2 : Nat) : Int)⟩ := by
  simp [rd_T61, shl, List.getElem?_eq_getElem h]
/-- Valid shares. -/
structure GoodShares (m : List (Nat × Nat)) : Prop where
  len : m.length ≤ 20
  nz : ∀ p ∈ m, p.1 ≠ 0
  up : (m.map Prod.fst).Pairwise (· < ·)
theorem goodShares_iff (m : List (Nat × Nat)) : GoodShares m ↔ m.length ≤ 20 ∧ ∀ i (hi : i < m.length), m[i].1 ≠ 0 ∧ (0 < i → (m[i - 1]'(by omega)).1 < m[i].1) := by
  constructor
  · intro h
    refine ⟨h.len, fun i hi => ⟨h.nz _ (List.getElem_mem hi), fun h0 => ?_⟩⟩
    have := List.pairwise_iff_getElem.1 h.up (i - 1) i (by simp; omega) (by simpa using hi) (by omega)
    simpa using this
  · rintro ⟨h1, h2⟩
    refine ⟨h1, ?_, ?_⟩
    · intro p hp
      obtain ⟨i, hi, rfl⟩ := List.getElem_of_mem hp
      exact (h2 i hi).1
    · refine List.pairwise_iff_getElem.2 ?_
      have key : ∀ (d i : Nat) (h : i + d + 1 < m.length), (m[i]'(by omega)).1 < (m[i + d + 1]'h).1 := by
        intro d
        induction d with
        | zero =>
          intro i h
          have := (h2 (i + 1) (by omega)).2 (by omega)
          simpa using this
        | succ d ih =>
          intro i h
          have a := ih i (by omega)
          have b := (h2 (i + (d + 1) + 1) h).2 (by omega)
          have e : i + (d + 1) + 1 - 1 = i + d + 1 := by omega
          simp only [e] at b
          omega
      intro i j hi hj hij
      have := key (j - i - 1) i (by simp at hj; omega)
      have e : i + (j - i - 1) + 1 = j := by omega
      simp only [e] at this
      simpa using this
theorem GoodShares.nodup {m : List (Nat × Nat)} (h : GoodShares m) : (m.map Prod.fst).Nodup := h.up.imp (fun h e => by omega)

theorem areShares_ev (m : List (Nat × Nat)) (hl : m.length ≤ 1048576) : ∃ b : Bool, Ev (fun k => spec_l7Shares.f k (shl m)) b ∧ Ev (fun k => impl_areShares.f k (shl m)) b ∧ (b = true ↔ GoodShares m) := by
  have key : ∀ (d n : Nat), n + d = m.length → ∃ b : Bool, Ev (fun k => spec_l7Shares.l0 k (shl m) (shl m) (m.length : Int) (n : Int)) b ∧ Ev (fun k => impl_areShares.l0 k (shl m) (shl m) (m.length : Int) (n : Int)) b ∧ (b = true ↔ m.length ≤ 20 ∧ ∀ i (hi : i < m.length), n ≤ i → m[i].1 ≠ 0 ∧ (0 < i → (m[i - 1]'(by omega)).1 < m[i].1)) := by
    intro d
    induction d with
    | zero =>
      intro n h1
      refine ⟨decide ((m.length : Int) ≤ 20), ?_, ?_, ?_⟩
      · apply K.Ev.succ
        simp only [spec_l7Shares.l0, shl_length, if_neg (show ¬ ((n : Int) < (m.length : Int)) by omega)]; exact Ev.now _
      · apply K.Ev.succ
        simp only [impl_areShares.l0, shl_length, if_neg (show ¬ ((n : Int) < (m.length : Int)) by omega)]; exact Ev.now _
      · rw [decide_eq_true_iff]
        exact ⟨fun h => ⟨by omega, fun i hi hn => by omega⟩, fun h => by omega⟩
    | succ d ih =>
      intro n h1
      have hn : n < m.length := by omega
      have c1 : (n : Int) < (m.length : Int) := by omega
      have c2 : 0 ≤ (n : Int) := by omega
      have ws := K.w64s n (show n < 9223372036854775807 by omega)
      obtain ⟨b, i1, i2, i3⟩ := ih (n + 1) (by omega)
      by_cases h0 : m[n].1 = 0
      · have h0' : ((m[n].1 : Nat) : Int) = 0 := by omega
        refine ⟨false, ?_, ?_, ⟨fun h => (by cases h), fun h => absurd h0 (h.2 n hn (Nat.le_refl _)).1⟩⟩ <;> apply K.Ev.succ
        · simp only [spec_l7Shares.l0, shl_length, if_pos c1, if_pos c2, rd_shl hn, if_pos h0']; exact Ev.now _
        · simp only [impl_areShares.l0, shl_length, if_pos c1, if_pos c2, rd_shl hn, if_pos h0']; exact Ev.now _
      have h0' : ¬ ((m[n].1 : Nat) : Int) = 0 := by omega
      by_cases hz : n = 0
      · have hn0 : ¬ (n : Int) > 0 := by omega
        refine ⟨b, ?_, ?_, ?_⟩
        · apply K.Ev.succ
          simp only [spec_l7Shares.l0, shl_length, if_pos c1, if_pos c2, rd_shl hn, if_neg h0', if_neg hn0, ws]; exact i1
        · apply K.Ev.succ
          simp only [impl_areShares.l0, shl_length, if_pos c1, if_pos c2, rd_shl hn, if_neg h0', if_neg hn0, ws]; exact i2
        · rw [i3]
          refine ⟨fun h => ⟨h.1, fun i hi hni => ?_⟩, fun h => ⟨h.1, fun i hi hni => h.2 i hi (by omega)⟩⟩
          by_cases e : i = n
          · subst e; exact ⟨h0, fun h => by omega⟩
          · exact h.2 i hi (by omega)
      · have hn0 : (n : Int) > 0 := by omega
        have w : wrap64 ((n : Int) - 1) = ((n - 1 : Nat) : Int) := by rw [K.w64 (by omega) (by omega)]; omega
        have c3 : 0 ≤ ((n - 1 : Nat) : Int) := by omega
        have c4 : ((n - 1 : Nat) : Int) < (m.length : Int) := by omega
        have hn1 : n - 1 < m.length := by omega
        by_cases hc : m[n].1 ≤ m[n - 1].1
        · have hc' : ((m[n].1 : Nat) : Int) ≤ ((m[n - 1].1 : Nat) : Int) := by omega
          have hc2 : ((m[n - 1].1 : Nat) : Int) ≥ ((m[n].1 : Nat) : Int) := hc'
          refine ⟨false, ?_, ?_, ⟨fun h => (by cases h), fun h => absurd ((h.2 n hn (Nat.le_refl _)).2 (by omega)) (by omega)⟩⟩ <;> apply K.Ev.succ
          · simp only [spec_l7Shares.l0, shl_length, if_pos c1, if_pos c2, rd_shl hn, rd_shl hn1, if_neg h0', if_pos hn0, w, if_pos c3, if_pos c4, if_pos hc2]; exact Ev.now _
          · simp only [impl_areShares.l0, shl_length, if_pos c1, if_pos c2, rd_shl hn, rd_shl hn1, if_neg h0', if_pos hn0, w, if_pos c3, if_pos c4, if_pos hc']; exact Ev.now _
        · have hc' : ¬ ((m[n].1 : Nat) : Int) ≤ ((m[n - 1].1 : Nat) : Int) := by omega
          have hc2 : ¬ ((m[n - 1].1 : Nat) : Int) ≥ ((m[n].1 : Nat) : Int) := hc'
          refine ⟨b, ?_, ?_, ?_⟩
          · apply K.Ev.succ
            simp only [spec_l7Shares.l0, shl_length, if_pos c1, if_pos c2, rd_shl hn, rd_shl hn1, if_neg h0', if_pos hn0, w, if_pos c3, if_pos c4, if_neg hc2, ws]; exact i1
          · apply K.Ev.succ
            simp only [impl_areShares.l0, shl_length, if_pos c1, if_pos c2, rd_shl hn, rd_shl hn1, if_neg h0', if_pos hn0, w, if_pos c3, if_pos c4, if_neg hc', ws]; exact i2
          · rw [i3]
            refine ⟨fun h => ⟨h.1, fun i hi hni => ?_⟩, fun h => ⟨h.1, fun i hi hni => h.2 i hi (by omega)⟩⟩
            by_cases e : i = n
            · subst e; exact ⟨h0, fun h => by omega⟩
            · exact h.2 i hi (by omega)
  obtain ⟨b, i1, i2, i3⟩ := key m.length 0 (by omega)
  refine ⟨b, by simp only [spec_l7Shares.f, shl_length]; exact i1, by simp only [impl_areShares.f, shl_length]; exact i2, ?_⟩
  rw [i3, goodShares_iff]
  exact ⟨fun h => ⟨h.1, fun i hi => h.2 i hi (by omega)⟩, fun h => ⟨h.1, fun i hi _ => h.2 i hi⟩⟩
theorem identity_ev (n : Nat) (hn : n ≤ 100000) : Ev (fun k => impl_identity.f k (n : Int)) (K.ill (K.idm n)) := by
  have key : ∀ (d i : Nat), i + d = n → Ev (fun k => impl_identity.l0 k (n : Int) (K.ill ((List.range i).map (K.unit n))) (n : Int) (i : Int)) (K.ill (K.idm n)) := by
    intro d
    induction d with
    | zero =>
      intro i hd
      apply K.Ev.succ
      simp only [impl_identity.l0, if_neg (show ¬ ((i : Int) < (n : Int)) by omega)]
      obtain rfl : i = n := by omega
      exact Ev.now _
    | succ d ih =>
      intro i hd
      have hx := ih (i + 1) (by omega)
      rw [List.range_succ, List.map_append, List.map_cons, List.map_nil] at hx
      apply K.Ev.succ
      simp only [impl_identity.l0, K.ill_length, if_pos (show (i : Int) < (n : Int) by omega), if_pos (show (0 : Int) ≤ (n : Int) by omega), if_pos (show (0 : Int) ≤ (i : Int) by omega), Int.toNat_natCast, if_pos (show n ≤ 281474976710656 by omega), Option.bind_some, List.length_replicate, List.length_map, List.length_range, if_pos (show i < 5864062014805 by omega), K.w64s i (show i < 9223372036854775807 by omega), K.il_unit, K.ill_snoc]
      exact hx
  have := key n 0 (by omega)
  simp only [impl_identity.f]
  exact this

theorem power_ev (a n : Nat) (ha : a < 256) (hn : n < 1024) : Ev (fun k => impl_power.f k (a : Int) (n : Int)) ((K.gpow a n : Nat) : Int) := by
  have key : ∀ (d n a o : Nat), n ≤ d → n < 1024 → a < 256 → o < 256 → Ev (fun k => impl_power.l0 k (a : Int) (n : Int) (o : Int)) ((K.gmul o (K.gpow a n) : Nat) : Int) := by
    intro d
    induction d with
    | zero =>
      intro n a o hd _ ha ho
      obtain rfl : n = 0 := by omega
      apply K.Ev.succ
      simp only [impl_power.l0, show ¬ (((0 : Nat) : Int) > 0) by omega, if_false, K.gpow, K.gmul_one ho]
      exact Ev.now _
    | succ d ih =>
      intro n a o hd hn ha ho
      by_cases h0 : n = 0
      · subst h0
        apply K.Ev.succ
        simp only [impl_power.l0, show ¬ (((0 : Nat) : Int) > 0) by omega, if_false, K.gpow, K.gmul_one ho]
        exact Ev.now _
      have hh : (n : Int) / 2 = ((n / 2 : Nat) : Int) := by omega
      apply K.Ev.succ
      simp only [impl_power.l0, if_pos (show (n : Int) > 0 by omega), K.and_i64_1 hn, hh]
      by_cases h1 : n % 2 = 1
      · simp only [if_pos (show ((n % 2 : Nat) : Int) = 1 by omega)]
        refine Ev.bind (Times_ev o a ho ha) ?_
        refine Ev.bind (Times_ev a a ha ha) ?_
        have e : K.gmul o (K.gpow a n) = K.gmul (K.gmul o a) (K.gpow (K.gmul a a) (n / 2)) := by
          rw [K.gpow_sq ha, K.gmul_assoc ho ha (K.gpow_lt _), K.gmul_comm ha (K.gpow_lt _)]
          have h : n = (n / 2 + n / 2) + 1 := by omega
          rw [show K.gpow a n = K.gpow a ((n / 2 + n / 2) + 1) by rw [← h]]
          rfl
        rw [e]
        exact ih _ _ _ (by omega) (by omega) (K.gmul_lt ha) (K.gmul_lt ho)
      · simp only [if_neg (show ¬ ((n % 2 : Nat) : Int) = 1 by omega)]
        refine Ev.bind (Times_ev a a ha ha) ?_
        have e : K.gmul o (K.gpow a n) = K.gmul o (K.gpow (K.gmul a a) (n / 2)) := by
          rw [K.gpow_sq ha]
          have h : n = (n / 2 + n / 2) := by omega
          rw [show K.gpow a n = K.gpow a (n / 2 + n / 2) by rw [← h]]
        rw [e]
        exact ih _ _ _ (by omega) (by omega) (K.gmul_lt ha) ho
  have := key n n a 1 (by omega) hn ha (by omega)
  rw [K.one_gmul (K.gpow_lt n)] at this
  simp only [impl_power.f]
  exact this

theorem Inverse_ev (a : Nat) (ha : a < 256) : Ev (fun k => impl_Inverse.f k (a : Int)) ((K.ginv a : Nat) : Int) := by
  simp only [impl_Inverse.f]
  exact Ev.bind (power_ev a 254 ha (by omega)) (Ev.now _)

theorem idxNZ_ev (R : List (List Nat)) (j : Nat) {n w : Nat} (h : K.Mat n w R) (hj : j < w) : ∀ (d i m : Nat), i + d = n → idxNZ (j : Int) ((K.ill R).drop i) m = some (if K.piv R j d i < n then ((m + (K.piv R j d i - i) : Nat) : Int) else -1) := by
  intro d
  induction d with
  | zero =>
    intro i m hd
    have e : (K.ill R).drop i = [] := List.drop_of_length_le (by rw [K.ill_length, h.len]; omega)
    rw [e]
    show some (-1 : Int) = some (if i < n then ((m + (i - i) : Nat) : Int) else -1)
    rw [if_neg (show ¬ i < n by omega)]
  | succ d ih =>
    intro i m hd
    have hi : i < R.length := by rw [h.len]; omega
    have hi' : i < (K.ill R).length := by rw [K.ill_length]; exact hi
    have wi : (K.row R i).length = w := h.row_wid (by omega)
    have er : (K.ill R)[i] = K.il (K.row R i) := by rw [K.row_eq hi]; simp [K.ill]
    have ent : rd (K.il (K.row R i)) (j : Int) = ((K.ent R i j : Nat) : Int) := K.il_getD _ _
    rw [List.drop_eq_getElem_cons hi', er]
    have pg := K.piv_ge R j d (i + 1)
    simp only [idxNZ, if_pos (show (0 : Int) ≤ (j : Int) by omega), K.il_length, wi, if_pos (show (j : Int) < (w : Int) by omega), ent, K.piv]
    by_cases e : K.ent R i j = 0
    · simp only [if_pos (show ((K.ent R i j : Nat) : Int) = 0 by omega), if_pos e]
      rw [ih (i + 1) (m + 1) (by omega)]
      by_cases q : K.piv R j d (i + 1) < n
      · simp only [if_pos q]; congr 2; omega
      · simp only [if_neg q]
    · simp only [if_neg (show ¬ ((K.ent R i j : Nat) : Int) = 0 by omega), if_neg e, if_pos (show i < n by omega)]
      congr 2; omega
theorem index_eq (R : List (List Nat)) (a j : Nat) {n w : Nat} (h : K.Mat n w R) (hj : j < w) (ha : a ≤ n) : slices_IndexFunc_byte_byte.f (K.ill R) (a : Int) (j : Int) = some (if K.piv R j (n - a) a < n then ((K.piv R j (n - a) a - a : Nat) : Int) else -1) := by
  simp only [slices_IndexFunc_byte_byte.f, K.ill_length, h.len, if_pos (show (0 : Int) ≤ (a : Int) by omega), if_pos (show (a : Int) ≤ (n : Int) by omega), Int.toNat_natCast]
  rw [idxNZ_ev R j h hj (n - a) a 0 (by omega), Nat.zero_add]

theorem scaled_ev (f : Nat) (r : List Nat) (hf : f < 256) (hr : K.Bytes r) (hl : r.length ≤ 1000000) : Ev (fun k => impl_scaled.f k (f : Int) (K.il r)) (K.il (K.scl f r)) := by
  have key : ∀ (d i : Nat), i + d = r.length → Ev (fun k => impl_scaled.l0 k (f : Int) (K.il (K.scl f (r.take i))) (K.il r) (r.length : Int) (i : Int)) (K.il (K.scl f r)) := by
    intro d
    induction d with
    | zero =>
      intro i h
      apply K.Ev.succ
      simp only [impl_scaled.l0, if_neg (show ¬ ((i : Int) < (r.length : Int)) by omega)]
      rw [List.take_of_length_le (by omega)]
      exact Ev.now _
    | succ d ih =>
      intro i h
      have hi : i < r.length := by omega
      have hx := ih (i + 1) (by omega)
      rw [K.take_succ' _ _ hi, K.scl_snoc] at hx
      apply K.Ev.succ
      simp only [impl_scaled.l0, K.il_length, if_pos (show (i : Int) < (r.length : Int) by omega), if_pos (show (0 : Int) ≤ (i : Int) by omega), K.rd_il hi]
      refine Ev.bind (Times_ev f r[i] hf (hr _ (List.getElem_mem hi))) ?_
      simp only [K.scl_length, if_pos (show (r.take i).length < 140737488355328 by simp; omega), K.w64s i (show i < 9223372036854775807 by omega), K.il_snoc]
      exact hx
  simp only [impl_scaled.f, K.il_length]
  exact key r.length 0 (by omega)

theorem el_row (R : List (List Nat)) (i : Nat) : rd_L2 (K.ill R) (i : Int) = K.il (K.row R i) := K.ill_row R i
theorem added_ev (a b : List Nat) (ha : K.Bytes a) (hb : K.Bytes b) (hl : a.length ≤ 1000000) (he : a.length = b.length) : Ev (fun k => impl_added.f k (K.il a) (K.il b)) (K.il (K.addr a b)) := by
  have key : ∀ (d i : Nat), i + d = a.length → Ev (fun k => impl_added.l0 k (K.il b) (K.il (K.addr (a.take i) (b.take i))) (K.il a) (a.length : Int) (i : Int)) (K.il (K.addr a b)) := by
    intro d
    induction d with
    | zero =>
      intro i h
      apply K.Ev.succ
      simp only [impl_added.l0, if_neg (show ¬ ((i : Int) < (a.length : Int)) by omega)]
      rw [List.take_of_length_le (by omega), List.take_of_length_le (by omega)]
      exact Ev.now _
    | succ d ih =>
      intro i h
      have hi : i < a.length := by omega
      have hj : i < b.length := by omega
      have hx := ih (i + 1) (by omega)
      rw [K.addr_succ hi hj] at hx
      apply K.Ev.succ
      simp only [impl_added.l0, K.il_length, if_pos (show (i : Int) < (a.length : Int) by omega), if_pos (show (i : Int) < (b.length : Int) by omega), if_pos (show (0 : Int) ≤ (i : Int) by omega), K.rd_il hi, K.rd_il hj, K.xor_u8 (ha _ (List.getElem_mem hi)) (hb _ (List.getElem_mem hj))]
      simp only [if_pos (show (K.addr (a.take i) (b.take i)).length < 140737488355328 by simp [K.addr]; omega), K.w64s i (show i < 9223372036854775807 by omega), K.il_snoc]
      exact hx
  simp only [impl_added.f, K.il_length]
  exact key a.length 0 (by omega)

theorem el_clears {n w c : Nat} (hn : n ≤ 100000) (hw : w ≤ 1000000) (a j : Nat) (ha : a < n) (hj : j < w) (X : List (List Int) × Int) : ∀ (d i : Nat) (R : List (List Nat)), K.Mat n w R → i + d = n → Ev (fun k => impl_eliminate.l0 k (K.ill (K.clrs a j d i R)) (c : Int) ((a + 1 : Nat) : Int) ((j + 1 : Nat) : Int)) X → Ev (fun k => impl_eliminate.l1 k (K.ill R) (c : Int) (a : Int) (j : Int) (n : Int) (i : Int)) X := by
  intro d
  induction d with
  | zero =>
    intro i R h hd hx
    apply K.Ev.succ
    simp only [impl_eliminate.l1, if_neg (show ¬ ((i : Int) < (n : Int)) by omega), K.w64s a (show a < 9223372036854775807 by omega), K.w64s j (show j < 9223372036854775807 by omega)]
    exact hx
  | succ d ih =>
    intro i R h hd hx
    have hi : i < n := by omega
    have wi : (K.row R i).length = w := h.row_wid hi
    have wa : (K.row R a).length = w := h.row_wid ha
    have hl : (K.ill R).length = n := by rw [K.ill_length, h.len]
    have ent : rd (K.il (K.row R i)) (j : Int) = ((K.ent R i j : Nat) : Int) := K.il_getD _ _
    have he := h.ent_lt i j
    have hx' := ih (i + 1) _ (K.clr_mat (j := j) h ha hi) (by omega) hx
    clear ih hx
    apply K.Ev.succ
    simp only [impl_eliminate.l1, hl, if_pos (show (i : Int) < (n : Int) by omega), if_pos (show (0 : Int) ≤ (i : Int) by omega), if_pos (show (0 : Int) ≤ (j : Int) by omega), el_row, K.il_length, wi, if_pos (show (j : Int) < (w : Int) by omega), ent, K.w64s i (show i < 9223372036854775807 by omega)]
    by_cases e : i = a ∨ K.ent R i j = 0
    · have e1 : K.clr a j i R = R := by unfold K.clr; rw [if_pos e]
      rw [e1] at hx'
      by_cases q : (i : Int) = (a : Int)
      · simp only [if_pos q]; exact hx'
      · simp only [if_neg q, if_pos (show ((K.ent R i j : Nat) : Int) = 0 by omega)]; exact hx'
    · have e1 : K.clr a j i R = R.set i (K.addr (K.row R i) (K.scl (K.ent R i j) (K.row R a))) := by unfold K.clr; rw [if_neg e]
      have q : ¬ (i : Int) = (a : Int) := fun q => e (Or.inl (by omega))
      have z : ¬ (((K.ent R i j : Nat) : Int) = 0) := fun q => e (Or.inr (by omega))
      rw [e1, ← K.ill_set] at hx'
      simp only [if_neg q, if_neg z, if_pos (show (a : Int) < (n : Int) by omega), if_pos (show (0 : Int) ≤ (a : Int) by omega)]
      refine Ev.bind (scaled_ev (K.ent R i j) (K.row R a) he (h.row_byt a) (by omega)) ?_
      refine Ev.bind (added_ev (K.row R i) (K.scl (K.ent R i j) (K.row R a)) (h.row_byt i) (K.scl_bytes he _) (by omega) (by rw [K.scl_length, wi, wa])) ?_
      simp only [Int.toNat_natCast]
      exact hx'
theorem el_loop {n w c : Nat} (hn : n ≤ 100000) (hw : w ≤ 1000000) (hc : c ≤ w) : ∀ (d a j : Nat) (R : List (List Nat)), K.Mat n w R → j + d = c → a ≤ n → Ev (fun k => impl_eliminate.l0 k (K.ill R) (c : Int) (a : Int) (j : Int)) (K.ill (K.elim d a j R).1, (((K.elim d a j R).2 : Nat) : Int)) := by
  intro d
  induction d with
  | zero =>
    intro a j R h hd ha
    apply K.Ev.succ
    simp only [impl_eliminate.l0, if_neg (show ¬ ((j : Int) < (c : Int)) by omega)]
    apply K.Ev.succ
    simp only [impl_eliminate.j1, Bool.false_eq_true, if_false, K.elim]
    exact Ev.now _
  | succ d ih =>
    intro a j R h hd ha
    have hl : (K.ill R).length = n := by rw [K.ill_length, h.len]
    apply K.Ev.succ
    simp only [impl_eliminate.l0, if_pos (show (j : Int) < (c : Int) by omega), hl]
    apply K.Ev.succ
    unfold K.elim
    rw [h.len]
    by_cases h1 : a < n
    · have pg := K.piv_ge R j (n - a) a
      have ie := index_eq R a j h (by omega) ha
      simp only [impl_eliminate.j1, decide_eq_true (show (a : Int) < (n : Int) by omega), if_true, if_pos h1, ie, Option.bind_some]
      generalize K.piv R j (n - a) a = p at pg ⊢
      by_cases h2 : p < n
      · have wp : (K.row R p).length = w := h.row_wid h2
        have ent : rd (K.il (K.row R p)) (j : Int) = ((K.ent R p j : Nat) : Int) := K.il_getD _ _
        have he := h.ent_lt p j
        have wr : K.Eqn (wrap64 ((a : Int) + ((p - a : Nat) : Int))) (p : Int) := ⟨by rw [K.w64 (by omega) (by omega)]; omega⟩
        have hra : a < ((K.ill R).set a (K.il (K.row R p))).length := by simp [hl, h1]
        have y1 : rd_L2 (((K.ill R).set a (K.il (K.row R p))).set p (K.il (K.row R a))) (a : Int) = K.il (K.row R p) := by
          rw [K.ill_set, K.ill_set, el_row, K.row_set (by simp [h.len, h2]), K.row_set (by rw [h.len]; exact h1)]
          by_cases e : p = a
          · rw [if_pos e, e]
          · rw [if_neg e, if_pos rfl]
        simp only [if_pos h2, if_neg (show ¬ (((p - a : Nat) : Int) < 0) by omega), wr.out, hl, if_pos (show (p : Int) < (n : Int) by omega), if_pos (show (a : Int) < (n : Int) by omega), if_pos (show (0 : Int) ≤ (p : Int) by omega), if_pos (show (0 : Int) ≤ (a : Int) by omega), if_pos (show (0 : Int) ≤ (j : Int) by omega), el_row, Int.toNat_natCast, y1, K.il_length, wp, if_pos (show (j : Int) < (w : Int) by omega), ent, Option.bind_some]
        refine Ev.bind (Inverse_ev (K.ent R p j) he) ?_
        refine Ev.bind (scaled_ev (K.ginv (K.ent R p j)) (K.row R p) (K.ginv_lt _) (h.row_byt p) (by omega)) ?_
        have hx := ih (a + 1) (j + 1) (K.estep a j p R) (K.estep_mat h h1 h2) (by omega) (by omega)
        have es : K.estep a j p R = K.clrs a j n 0 (K.lead a j p R) := by unfold K.estep; rw [h.len]
        have g := el_clears hn hw a j h1 (by omega) _ n 0 (K.lead a j p R) (K.lead_mat h h1 h2) (by omega) (by rw [← es]; exact hx)
        have e1 : K.ill (K.lead a j p R) = (((K.ill R).set a (K.il (K.row R p))).set p (K.il (K.row R a))).set a (K.il (K.scl (K.ginv (K.ent R p j)) (K.row R p))) := by
          rw [K.ill_set, K.ill_set, K.ill_set, K.swap_set R a p _ _ _ (fun e => by rw [e])]
          rfl
        rw [e1] at g
        exact g
      · simp only [if_neg h2, if_pos (show ((-1 : Int) < 0) by omega), K.w64s j (show j < 9223372036854775807 by omega)]
        exact ih a (j + 1) R h (by omega) ha
    · simp only [impl_eliminate.j1, decide_eq_false (show ¬ (a : Int) < (n : Int) by omega), Bool.false_eq_true, if_false, if_neg h1]
      exact Ev.now _
theorem eliminate_ev (R : List (List Nat)) {n w : Nat} (c : Nat) (h : K.Mat n w R) (hn : n ≤ 100000) (hw : w ≤ 1000000) (hc : c ≤ w) : Ev (fun k => impl_eliminate.f k (K.ill R) (c : Int)) (K.ill (K.elim c 0 0 R).1, (((K.elim c 0 0 R).2 : Nat) : Int)) := by
  simp only [impl_eliminate.f]
  exact el_loop hn hw hc c 0 0 R h (by omega) (by omega)

theorem clone_eq (l : List Int) (h : l.length < 140737488355328) : slices_Clone_byte_byte.f l = some l := by
  simp [slices_Clone_byte_byte.f, h]

theorem io_joins (A : List (List Nat)) {n : Nat} (hA : K.Mat n n A) (hn : n ≤ 100000) (X : (List (List Int)) × Bool) (hx : Ev (fun k => (impl_eliminate.f k (K.ill (K.beside A (K.idm n))) (n : Int)).bind fun bt154 => (if bt154.2 < (n : Int) then (some (([] : List (List Int)), false)) else (impl_inverseOf.l1 k (n : Int) (([] : List (List Int))) bt154.1 (bt154.1.length : Int) 0))) X) : ∀ (d i : Nat), i + d = n → Ev (fun k => impl_inverseOf.l0 k (K.ill A) (n : Int) (K.ill ((K.beside A (K.idm n)).take i)) (K.ill (K.idm n)) (n : Int) (i : Int)) X := by
  have hI := K.idm_mat n
  have hB := K.beside_mat hA hI
  intro d
  induction d with
  | zero =>
    intro i hd
    apply K.Ev.succ
    simp only [impl_inverseOf.l0, if_neg (show ¬ ((i : Int) < (n : Int)) by omega)]
    rw [List.take_of_length_le (by rw [hB.len]; omega)]
    exact hx
  | succ d ih =>
    intro i hd
    have hi : i < n := by omega
    have r1 : rd_L2 (K.ill A) (i : Int) = K.il (K.row A i) := K.ill_row A i
    have r2 : rd_L2 (K.ill (K.idm n)) (i : Int) = K.il (K.row (K.idm n) i) := K.ill_row _ i
    have w1 := hA.row_wid hi
    have w2 := hI.row_wid hi
    have hg := ih (i + 1) (by omega)
    have e : (K.beside A (K.idm n)).take (i + 1) = (K.beside A (K.idm n)).take i ++ [K.row A i ++ K.row (K.idm n) i] := by
      rw [K.take_succ' _ _ (by rw [hB.len]; omega), K.row_eq (by rw [hA.len]; omega), K.row_eq (by rw [hI.len]; omega)]
      simp [K.beside]
    rw [e, ← K.ill_snoc, ← K.il_append] at hg
    apply K.Ev.succ
    simp only [impl_inverseOf.l0, K.ill_length, hA.len, hI.len, if_pos (show (i : Int) < (n : Int) by omega), if_pos (show (0 : Int) ≤ (i : Int) by omega), r1, r2, clone_eq (K.il (K.row A i)) (by rw [K.il_length, w1]; omega), Option.bind_some, K.il_length, w1, w2, if_pos (show n + n < 140737488355328 by omega), if_pos (show ((K.beside A (K.idm n)).take i).length < 5864062014805 by rw [List.length_take, hB.len]; omega), K.w64s i (show i < 9223372036854775807 by omega)]
    exact hg
theorem io_cuts (R : List (List Nat)) {n w c : Nat} (h : K.Mat n w R) (hc : c ≤ w) (hn : n ≤ 100000) (hw : w ≤ 1000000) : Ev (fun k => impl_inverseOf.l1 k (c : Int) (([] : List (List Int))) (K.ill R) (n : Int) 0) (K.ill (K.rgt c R), true) := by
  have key : ∀ (d i : Nat), i + d = n → Ev (fun k => impl_inverseOf.l1 k (c : Int) (K.ill (K.rgt c (R.take i))) (K.ill R) (n : Int) (i : Int)) (K.ill (K.rgt c R), true) := by
    intro d
    induction d with
    | zero =>
      intro i hd
      apply K.Ev.succ
      simp only [impl_inverseOf.l1, if_neg (show ¬ ((i : Int) < (n : Int)) by omega)]
      rw [List.take_of_length_le (by rw [h.len]; omega)]
      exact Ev.now _
    | succ d ih =>
      intro i hd
      have hi : i < n := by omega
      have r1 : rd_L2 (K.ill R) (i : Int) = K.il (K.row R i) := K.ill_row R i
      have w1 := h.row_wid hi
      have hg := ih (i + 1) (by omega)
      have e : K.rgt c (R.take (i + 1)) = K.rgt c (R.take i) ++ [(K.row R i).drop c] := by
        rw [K.take_succ' _ _ (by rw [h.len]; omega), K.row_eq (by rw [h.len]; omega)]
        simp only [K.rgt, List.map_append, List.map_cons, List.map_nil]
      rw [e, ← K.ill_snoc, ← K.il_drop] at hg
      apply K.Ev.succ
      simp only [impl_inverseOf.l1, K.ill_length, h.len, if_pos (show (i : Int) < (n : Int) by omega), if_pos (show (0 : Int) ≤ (i : Int) by omega), if_pos (show (0 : Int) ≤ (c : Int) by omega), r1, K.il_length, w1, if_pos (show (c : Int) ≤ (w : Int) by omega), Int.toNat_natCast, clone_eq ((K.il (K.row R i)).drop c) (by rw [List.length_drop, K.il_length, w1]; omega), Option.bind_some, if_pos (show (K.rgt c (R.take i)).length < 5864062014805 by rw [K.rgt_length, List.length_take, h.len]; omega), K.w64s i (show i < 9223372036854775807 by omega)]
      exact hg
  exact key n 0 (by omega)
theorem inverseOf_ev (A : List (List Nat)) {n : Nat} (hA : K.Mat n n A) (hn : n ≤ 100000) : Ev (fun k => impl_inverseOf.f k (K.ill A)) (if (K.minv A).2 < n then ([], false) else (K.ill (K.minv A).1, true)) := by
  have hI := K.idm_mat n
  have hB := K.beside_mat hA hI
  have hm := K.elim_mat n 0 0 _ hB
  simp only [impl_inverseOf.f, K.ill_length, hA.len]
  refine Ev.bind (identity_ev n hn) ?_
  simp only [K.ill_length, hI.len]
  refine io_joins A hA hn _ ?_ n 0 (by omega)
  refine Ev.bind (eliminate_ev _ n hB hn (by omega) (by omega)) ?_
  simp only [K.ill_length, hm.len]
  unfold K.minv
  rw [hA.len]
  by_cases e : (K.elim n 0 0 (K.beside A (K.idm n))).2 < n
  · rw [if_pos e]
    simp only [if_pos (show (((K.elim n 0 0 (K.beside A (K.idm n))).2 : Nat) : Int) < (n : Int) by omega)]
    exact Ev.now _
  · rw [if_neg e]
    simp only [if_neg (show ¬ (((K.elim n 0 0 (K.beside A (K.idm n))).2 : Nat) : Int) < (n : Int) by omega)]
    exact io_cuts _ hm (by omega) hn (by omega)

theorem dot_ev (a b : List Nat) (ha : K.Bytes a) (hb : K.Bytes b) (hl : a.length ≤ 1000000) (he : a.length ≤ b.length) : Ev (fun k => impl_dot.f k (K.il a) (K.il b)) ((K.dotp a b : Nat) : Int) := by
  have key : ∀ (d i o : Nat), i + d = a.length → o < 256 → Ev (fun k => impl_dot.l0 k (K.il b) (o : Int) (K.il a) (a.length : Int) (i : Int)) ((o ^^^ K.dotp (a.drop i) (b.drop i) : Nat) : Int) := by
    intro d
    induction d with
    | zero =>
      intro i o h ho
      apply K.Ev.succ
      simp only [impl_dot.l0, if_neg (show ¬ ((i : Int) < (a.length : Int)) by omega)]
      rw [List.drop_of_length_le (by omega)]
      simp only [K.dotp, Nat.xor_zero]
      exact Ev.now _
    | succ d ih =>
      intro i o h ho
      have hi : i < a.length := by omega
      have hj : i < b.length := by omega
      have hlt := K.gmul_lt (b := b[i]) (ha _ (List.getElem_mem hi))
      have hx := ih (i + 1) (o ^^^ K.gmul a[i] b[i]) (by omega) (K.xlt ho hlt)
      rw [Nat.xor_assoc, ← K.dotp_drop hi hj] at hx
      apply K.Ev.succ
      simp only [impl_dot.l0, K.il_length, if_pos (show (i : Int) < (a.length : Int) by omega), if_pos (show (i : Int) < (b.length : Int) by omega), if_pos (show (0 : Int) ≤ (i : Int) by omega), K.rd_il hi, K.rd_il hj]
      refine Ev.bind (Times_ev a[i] b[i] (ha _ (List.getElem_mem hi)) (hb _ (List.getElem_mem hj))) ?_
      simp only [K.xor_u8 ho hlt, K.w64s i (show i < 9223372036854775807 by omega)]
      exact hx
  have := key a.length 0 0 (by omega) (by omega)
  simp only [impl_dot.f, K.il_length]
  simpa using this

theorem solveLoop_ev (R : List (List Nat)) (v : List Nat) {n c : Nat} (h : K.Mat n c R) (hv : K.Bytes v) (hw : c ≤ v.length) (hn : n ≤ 100000) (hc : c ≤ 1000000) : Ev (fun k => impl_solve.l0 k (K.il v) ([] : List Int) (K.ill R) (R.length : Int) 0) (K.il (K.app R v), true) := by
  have key : ∀ (d i : Nat), i + d = R.length → Ev (fun k => impl_solve.l0 k (K.il v) (K.il (K.app (R.take i) v)) (K.ill R) (R.length : Int) (i : Int)) (K.il (K.app R v), true) := by
    intro d
    induction d with
    | zero =>
      intro i hd
      apply K.Ev.succ
      simp only [impl_solve.l0, if_neg (show ¬ ((i : Int) < (R.length : Int)) by omega)]
      rw [List.take_of_length_le (by omega)]
      exact Ev.now _
    | succ d ih =>
      intro i hd
      have hn' := h.len
      have hi : i < R.length := by omega
      have hx := ih (i + 1) (by omega)
      have e : K.app (R.take (i + 1)) v = K.app (R.take i) v ++ [K.dotp (K.row R i) v] := by
        rw [K.take_succ' _ _ hi, ← K.row_eq hi]; simp [K.app]
      rw [e, ← K.il_snoc] at hx
      have hw := h.row_wid (i := i) (by omega)
      have hr : rd_L2 (K.ill R) (i : Int) = K.il (K.row R i) := K.ill_row R i
      apply K.Ev.succ
      simp only [impl_solve.l0, K.ill_length, if_pos (show (i : Int) < (R.length : Int) by omega), if_pos (show (0 : Int) ≤ (i : Int) by omega), hr]
      refine Ev.bind (dot_ev (K.row R i) v (h.row_byt i) hv (by omega) (by omega)) ?_
      simp only [K.il_length, if_pos (show (K.app (R.take i) v).length < 140737488355328 by simp [K.app]; omega), K.w64s i (show i < 9223372036854775807 by omega)]
      exact hx
  have := key R.length 0 (by omega)
  exact this
theorem solve_ev (A : List (List Nat)) (v : List Nat) {n : Nat} (hA : K.Mat n n A) (hv : K.Bytes v) (hw : n ≤ v.length) (hn : n ≤ 100000) : Ev (fun k => impl_solve.f k (K.ill A) (K.il v)) (if (K.minv A).2 = n then (K.il (K.app (K.minv A).1 v), true) else ([], false)) := by
  have hr := K.minv_rank hA
  simp only [impl_solve.f]
  refine Ev.bind (inverseOf_ev A hA hn) ?_
  by_cases e : (K.minv A).2 = n
  · simp only [if_neg (show ¬ (K.minv A).2 < n by omega), if_pos e, if_true, K.ill_length]
    exact solveLoop_ev _ v (K.minv_mat hA) hv hw hn (by omega)
  · simp only [if_pos (show (K.minv A).2 < n by omega), if_neg e, Bool.false_eq_true, if_false]
    exact Ev.now _

theorem filled_ev (q : Nat → Int → Int → Option Int) (g : Nat → Nat → Nat) (n m : Nat) (hn : n ≤ 100000) (hm : m ≤ 100000) (hq : ∀ i k, i < n → k < m → Ev (fun r => q r (i : Int) (k : Int)) ((g i k : Nat) : Int)) : Ev (fun r => impl_filled.f (q r) r (n : Int) (m : Int)) (K.ill ((List.range n).map (fun i => (List.range m).map (g i)))) := by
  have key : ∀ (d i : Nat), i + d = n → ∀ e : Nat, Ev (fun r => impl_filled.l0 (q (r + e)) r (m : Int) (K.ill ((List.range i).map (fun i => (List.range m).map (g i)))) (n : Int) (i : Int)) (K.ill ((List.range n).map (fun i => (List.range m).map (g i)))) := by
    intro d
    induction d with
    | zero =>
      intro i hd e
      apply K.Ev.succ
      simp only [impl_filled.l0, if_neg (show ¬ ((i : Int) < (n : Int)) by omega)]
      obtain rfl : i = n := by omega
      exact Ev.now _
    | succ d ih =>
      intro i hd e
      have inner : ∀ (dd k : Nat), k + dd = m → ∀ e : Nat, Ev (fun r => impl_filled.l1 (q (r + e)) r (m : Int) (K.ill ((List.range i).map (fun i => (List.range m).map (g i)))) (i : Int) (K.il ((List.range k).map (g i))) (n : Int) (i : Int) (m : Int) (k : Int)) (K.ill ((List.range n).map (fun i => (List.range m).map (g i)))) := by
        intro dd
        induction dd with
        | zero =>
          intro k hk e
          obtain rfl : k = m := by omega
          have hx := ih (i + 1) (by omega) (e + 1)
          rw [List.range_succ, List.map_append, List.map_cons, List.map_nil, ← K.ill_snoc] at hx
          apply K.Ev.succ
          simp only [impl_filled.l1, if_neg (show ¬ ((k : Int) < (k : Int)) by omega), K.ill_length, List.length_map, List.length_range, if_pos (show i < 5864062014805 by omega), K.w64s i (show i < 9223372036854775807 by omega)]
          simpa only [Nat.add_assoc, Nat.add_comm 1 e] using hx
        | succ dd ih2 =>
          intro k hk e
          have hx := ih2 (k + 1) (by omega) (e + 1)
          rw [show (List.range (k + 1)).map (g i) = (List.range k).map (g i) ++ [g i k] by rw [List.range_succ, List.map_append, List.map_cons, List.map_nil], ← K.il_snoc] at hx
          have hq' : Ev (fun r => q (r + 1 + e) (i : Int) (k : Int)) ((g i k : Nat) : Int) := by
            obtain ⟨N, hN⟩ := hq i k (by omega) (by omega)
            exact ⟨N, fun r hr => hN _ (by omega)⟩
          apply K.Ev.succ
          simp only [impl_filled.l1, if_pos (show ((k : Int) < (m : Int)) by omega)]
          refine Ev.bind hq' ?_
          simp only [K.il_length, List.length_map, List.length_range, if_pos (show k < 140737488355328 by omega), K.w64s k (show k < 9223372036854775807 by omega)]
          simpa only [Nat.add_assoc, Nat.add_comm 1 e] using hx
      apply K.Ev.succ
      simp only [impl_filled.l0, if_pos (show ((i : Int) < (n : Int)) by omega)]
      have this := inner m 0 (by omega) (e + 1)
      simp only [Nat.add_assoc, Nat.add_comm 1 e]
      exact this
  have := key n 0 (by omega) 0
  simp only [impl_filled.f]
  exact this

theorem randRows_ev (m : List (Nat × Nat)) (hm : ∀ p ∈ m, p.1 < 256 ∧ p.2 < 256) (hn : m.length ≤ 20) : Ev (fun k => impl_RandomFor_rows.f k (m.length : Int) (m.length : Int) (shl m)) (K.ill (K.smat m)) := by
  have e : K.smat m = (List.range m.length).map (fun i => (List.range m.length).map (fun j => K.gpow (m.getD i (0, 0)).1 (j + 1))) := by
    unfold K.smat
    apply List.ext_getElem
    · simp
    · intro i h1 h2
      have hi : i < m.length := by simpa using h1
      simp [K.srow, hi]
  rw [e]
  have := filled_ev (fun k => impl_RandomFor_rows.at_ k (shl m)) (fun i j => K.gpow (m.getD i (0, 0)).1 (j + 1)) m.length m.length (by omega) (by omega) (fun i j hi hj => by
    have g : m.getD i (0, 0) = m[i] := by simp [hi]
    have hp := (hm m[i] (List.getElem_mem hi)).1
    simp only [impl_RandomFor_rows.at_, shl_length, if_pos (show (0 : Int) ≤ (i : Int) by omega), if_pos (show (i : Int) < (m.length : Int) by omega), rd_shl hi, K.w64s j (show j < 9223372036854775807 by omega), g]
    exact power_ev _ (j + 1) hp (by omega))
  simp only [impl_RandomFor_rows.f]
  exact this
theorem randVals_ev (m : List (Nat × Nat)) (hm : ∀ p ∈ m, p.1 < 256 ∧ p.2 < 256) (hn : m.length ≤ 20) (s : Nat) (hs : s < 256) (R : List (List Int)) (X : List Int × Bool) (h : Ev (fun k => (impl_solve.f k R (K.il (K.svals m s))).bind fun bt264 => (some (bt264.1, bt264.2))) X) : Ev (fun k => impl_RandomFor.l0 k (s : Int) R (([] : List Int)) (shl m) (m.length : Int) 0) X := by
  have key : ∀ (d i : Nat), i + d = m.length → Ev (fun k => impl_RandomFor.l0 k (s : Int) R (K.il (K.svals (m.take i) s)) (shl m) (m.length : Int) (i : Int)) X := by
    intro d
    induction d with
    | zero =>
      intro i hi
      obtain rfl : i = m.length := by omega
      apply K.Ev.succ
      rw [List.take_length]
      simp only [impl_RandomFor.l0, if_neg (show ¬ ((m.length : Int) < (m.length : Int)) by omega)]
      exact h
    | succ d ih =>
      intro i hi
      have hil : i < m.length := by omega
      have hp := hm m[i] (List.getElem_mem hil)
      have hx := ih (i + 1) (by omega)
      have e : K.svals (m.take (i + 1)) s = K.svals (m.take i) s ++ [m[i].2 ^^^ s] := by
        unfold K.svals
        rw [K.take_succ' _ _ hil, List.map_append, List.map_cons, List.map_nil]
      rw [e, ← K.il_snoc] at hx
      apply K.Ev.succ
      simp only [impl_RandomFor.l0, shl_length, if_pos (show (i : Int) < (m.length : Int) by omega), if_pos (show (0 : Int) ≤ (i : Int) by omega), K.il_length, if_pos (show (K.svals (m.take i) s).length < 140737488355328 by simp [K.svals]; omega), rd_shl hil, K.xor_u8 hp.2 hs, K.w64s i (show i < 9223372036854775807 by omega)]
      exact hx
  exact key m.length 0 (by omega)
theorem l2Own_ev (R : List (List Nat)) {n c : Nat} (h : K.Mat n c R) (hn : n ≤ 100000) (hc : c ≤ 1000000) : Ev (fun k => spec_l2Own.f k (K.ill R)) (K.ill R) := by
  have key : ∀ (d i : Nat), i + d = R.length → Ev (fun k => spec_l2Own.l0 k (K.ill R) (R.length : Int) (i : Int) (K.ill (R.take i))) (K.ill R) := by
    intro d
    induction d with
    | zero =>
      intro i hd
      apply K.Ev.succ
      simp only [spec_l2Own.l0, if_neg (show ¬ ((i : Int) < (R.length : Int)) by omega)]
      rw [List.take_of_length_le (by omega)]
      exact Ev.now _
    | succ d ih =>
      intro i hd
      have hn' := h.len
      have hi : i < R.length := by omega
      have hx := ih (i + 1) (by omega)
      rw [K.take_succ' _ _ hi, ← K.row_eq hi] at hx
      have hw := h.row_wid (i := i) (by omega)
      have hr : rd_L2 (K.ill R) (i : Int) = K.il (K.row R i) := K.ill_row R i
      apply K.Ev.succ
      simp only [spec_l2Own.l0, K.ill_length, if_pos (show (i : Int) < (R.length : Int) by omega), if_pos (show (0 : Int) ≤ (i : Int) by omega), Option.bind_some, hr, List.length_nil, K.il_length, hw, if_pos (show 0 + c < 140737488355328 by omega), if_pos (show (R.take i).length < 5864062014805 by simp; omega), List.nil_append, K.w64s i (show i < 9223372036854775807 by omega), K.ill_snoc]
      exact hx
  have := key R.length 0 (by omega)
  simp only [spec_l2Own.f, K.ill_length]
  exact this

theorem l1Times_ev (a b : Nat) (ha : a < 256) (hb : b < 256) : Ev (fun k => spec_l1Times.f k (a : Int) (b : Int)) ((K.gmul a b : Nat) : Int) := by
  have key : ∀ (n x y o : Nat), x < 256 → o < 256 → y < 2 ^ n → n ≤ 8 → Ev (fun k => spec_l1Times.l0 k (o : Int) (x : Int) (y : Int)) ((K.gstep n x y o : Nat) : Int) := by
    intro n
    induction n with
    | zero =>
      intro x y o hx ho hy _
      obtain rfl : y = 0 := by simpa using hy
      apply K.Ev.succ
      simp only [spec_l1Times.l0, show ¬ (((0 : Nat) : Int) > 0) by omega, if_false, K.gstep]
      exact K.Ev.const (by rw [show (o : Int) % 256 = (o : Int) by omega])
    | succ n ih =>
      intro x y o hx ho hy hn
      by_cases h0 : y = 0
      · subst h0
        apply K.Ev.succ
        rw [K.gstep_zero]
        simp only [spec_l1Times.l0, show ¬ (((0 : Nat) : Int) > 0) by omega, if_false]
        exact K.Ev.const (by rw [show (o : Int) % 256 = (o : Int) by omega])
      have hy2 : y < 512 := Nat.lt_of_lt_of_le hy (by
        have : 2 ^ (n + 1) ≤ 2 ^ 9 := Nat.pow_le_pow_right (by omega) (by omega)
        omega)
      have w : K.Eqn (wrap64 ((x : Int) * 2)) ((2 * x : Nat) : Int) := ⟨by rw [K.w64 (by omega) (by omega)]; omega⟩
      have hx2 : (if ((2 * x : Nat) : Int) > 255 then Go.bits .xor .i64 ((2 * x : Nat) : Int) 283 else ((2 * x : Nat) : Int)) = ((K.xt x : Nat) : Int) := by
        unfold K.xt
        by_cases h : 2 * x > 255
        · rw [if_pos (by omega), if_pos h]
          exact K.xor_i64 (b := 283) (by omega) (by omega)
        · rw [if_neg (by omega), if_neg h]
      have hy' : (y : Int) / 2 = ((y / 2 : Nat) : Int) := by omega
      have hnext := ih (K.xt x) (y / 2) (if y % 2 = 1 then o ^^^ x else o) (K.xt_lt hx) (by
        split
        · exact Nat.xor_lt_two_pow (n := 8) ho hx
        · exact ho) (by rw [Nat.pow_succ] at hy; omega) (by omega)
      apply K.Ev.succ
      simp only [spec_l1Times.l0, if_pos (show (y : Int) > 0 by omega), K.and_i64_1 (show y < 1024 by omega), w.out, K.xor_i64 (show o < 1024 by omega) (show x < 1024 by omega), hy']
      by_cases h1 : y % 2 = 1
      · rw [if_pos h1] at hnext
        simp only [h1, show (((1 : Nat) : Int) = 1) = True by simp, if_true, K.gstep]
        by_cases h2 : ((2 * x : Nat) : Int) > 255
        · rw [if_pos h2] at hx2
          simp only [if_pos h2]
          simp only [hx2]
          exact hnext
        · rw [if_neg h2] at hx2
          simp only [if_neg h2]
          simp only [hx2]
          exact hnext
      · rw [if_neg h1] at hnext
        have h1' : ¬ (((y % 2 : Nat) : Int) = 1) := by omega
        simp only [if_neg h1', K.gstep, if_neg h1]
        by_cases h2 : ((2 * x : Nat) : Int) > 255
        · rw [if_pos h2] at hx2
          simp only [if_pos h2]
          simp only [hx2]
          exact hnext
        · rw [if_neg h2] at hx2
          simp only [if_neg h2]
          simp only [hx2]
          exact hnext
  have wa : K.Eqn (wrap64 (a : Int)) (a : Int) := ⟨K.w64 (by omega) (by omega)⟩
  have wb : K.Eqn (wrap64 (b : Int)) (b : Int) := ⟨K.w64 (by omega) (by omega)⟩
  simp only [spec_l1Times.f, wa.out, wb.out]
  exact key 8 a b 0 ha (by omega) (by omega) (by omega)

theorem l1Power_ev (a n : Nat) (ha : a < 256) (hn : n < 1024) : Ev (fun k => spec_l1Power.f k (a : Int) (n : Int)) ((K.gpow a n : Nat) : Int) := by
  have key : ∀ (n o : Nat), n < 1024 → o < 256 → Ev (fun k => spec_l1Power.l0 k (a : Int) (n : Int) (o : Int)) ((K.gmul o (K.gpow a n) : Nat) : Int) := by
    intro n
    induction n with
    | zero =>
      intro o _ ho
      apply K.Ev.succ
      simp only [spec_l1Power.l0, show ¬ (((0 : Nat) : Int) > 0) by omega, if_false, K.gpow, K.gmul_one ho]
      exact Ev.now _
    | succ n ih =>
      intro o h ho
      have w : K.Eqn (wrap64 (((n + 1 : Nat) : Int) - 1)) (n : Int) := ⟨by rw [K.w64 (by omega) (by omega)]; omega⟩
      have e : K.gmul o (K.gpow a (n + 1)) = K.gmul (K.gmul o a) (K.gpow a n) := by
        rw [K.gmul_assoc ho ha (K.gpow_lt n), K.gmul_comm ha (K.gpow_lt n)]; rfl
      apply K.Ev.succ
      simp only [spec_l1Power.l0, if_pos (show ((n + 1 : Nat) : Int) > 0 by omega), w.out]
      refine Ev.bind (l1Times_ev o a ho ha) ?_
      rw [e]
      exact ih _ (by omega) (K.gmul_lt ho)
  have := key n 1 hn (by omega)
  rw [K.one_gmul (K.gpow_lt n)] at this
  simp only [spec_l1Power.f]
  exact this

theorem l1Inverse_ev (a : Nat) (ha : a < 256) : Ev (fun k => spec_l1Inverse.f k (a : Int)) ((K.ginv a : Nat) : Int) := by
  simp only [spec_l1Inverse.f]
  by_cases h : (a : Int) = 0
  · simp only [if_pos h]
    obtain rfl : a = 0 := by omega
    have : K.ginv 0 = 0 := K.gpow_zero 254 (by omega)
    rw [this]
    exact Ev.now _
  · simp only [if_neg h]
    exact Ev.bind (l1Power_ev a 254 ha (by omega)) (Ev.now _)

theorem l1Scale_ev (f : Nat) (r : List Nat) (hf : f < 256) (hr : K.Bytes r) (hl : r.length ≤ 1000000) : Ev (fun k => spec_l1Scale.f k (f : Int) (K.il r)) (K.il (K.scl f r)) := by
  have key : ∀ (d i : Nat), i + d = r.length → Ev (fun k => spec_l1Scale.l0 k (f : Int) (K.il (K.scl f (r.take i))) (K.il r) (r.length : Int) (i : Int)) (K.il (K.scl f r)) := by
    intro d
    induction d with
    | zero =>
      intro i h
      apply K.Ev.succ
      simp only [spec_l1Scale.l0, if_neg (show ¬ ((i : Int) < (r.length : Int)) by omega)]
      rw [List.take_of_length_le (by omega)]
      exact Ev.now _
    | succ d ih =>
      intro i h
      have hi : i < r.length := by omega
      have hx := ih (i + 1) (by omega)
      rw [K.take_succ' _ _ hi, K.scl_snoc] at hx
      apply K.Ev.succ
      simp only [spec_l1Scale.l0, K.il_length, if_pos (show (i : Int) < (r.length : Int) by omega), if_pos (show (0 : Int) ≤ (i : Int) by omega), K.rd_il hi]
      refine Ev.bind (l1Times_ev f r[i] hf (hr _ (List.getElem_mem hi))) ?_
      simp only [K.scl_length, if_pos (show (r.take i).length < 140737488355328 by simp; omega), K.w64s i (show i < 9223372036854775807 by omega), K.il_snoc]
      exact hx
  simp only [spec_l1Scale.f, K.il_length]
  exact key r.length 0 (by omega)

theorem l2_lft_row (c : Nat) (R : List (List Nat)) (i : Nat) : rd_L2 (K.ill (K.lft c R)) (i : Int) = K.il ((K.row R i).take c) := by
  rw [← K.lft_row]; exact K.ill_row _ i
theorem l2_rgt_row (c : Nat) (R : List (List Nat)) (i : Nat) : rd_L2 (K.ill (K.rgt c R)) (i : Int) = K.il ((K.row R i).drop c) := by
  rw [← K.rgt_row]; exact K.ill_row _ i
theorem l1Add_ev (a b : List Nat) (ha : K.Bytes a) (hb : K.Bytes b) (hl : a.length ≤ 1000000) (he : a.length = b.length) : Ev (fun k => spec_l1Add.f k (K.il a) (K.il b)) (K.il (K.addr a b)) := by
  have key : ∀ (d i : Nat), i + d = a.length → Ev (fun k => spec_l1Add.l0 k (K.il a) (K.il b) (K.il (K.addr (a.take i) (b.take i))) (a.length : Int) (i : Int)) (K.il (K.addr a b)) := by
    intro d
    induction d with
    | zero =>
      intro i h
      apply K.Ev.succ
      simp only [spec_l1Add.l0, if_neg (show ¬ ((i : Int) < (a.length : Int)) by omega)]
      rw [List.take_of_length_le (by omega), List.take_of_length_le (by omega)]
      exact Ev.now _
    | succ d ih =>
      intro i h
      have hi : i < a.length := by omega
      have hj : i < b.length := by omega
      have hx := ih (i + 1) (by omega)
      rw [K.addr_succ hi hj] at hx
      apply K.Ev.succ
      simp only [spec_l1Add.l0, K.il_length, if_pos (show (i : Int) < (a.length : Int) by omega), if_pos (show (i : Int) < (b.length : Int) by omega), if_pos (show (0 : Int) ≤ (i : Int) by omega), K.rd_il hi, K.rd_il hj, K.xor_u8 (ha _ (List.getElem_mem hi)) (hb _ (List.getElem_mem hj))]
      simp only [if_pos (show (K.addr (a.take i) (b.take i)).length < 140737488355328 by simp [K.addr]; omega), K.w64s i (show i < 9223372036854775807 by omega), K.il_snoc]
      exact hx
  simp only [spec_l1Add.f, K.il_length]
  exact key a.length 0 (by omega)

theorem l2_clears {n w c : Nat} (hn : n ≤ 100000) (hw : w ≤ 1000000) (hc : c ≤ w) (a j : Nat) (ha : a < n) (hj : j < c) (X : (List (List Int)) × (List (List Int)) × Int) : ∀ (d i : Nat) (R : List (List Nat)), K.Mat n w R → i + d = n → Ev (fun k => spec_l2Reduce.l0 k ((a + 1 : Nat) : Int) ((j + 1 : Nat) : Int) (K.ill (K.lft c (K.clrs a j d i R))) (K.ill (K.rgt c (K.clrs a j d i R)))) X → Ev (fun k => spec_l2Reduce.l2 k (a : Int) (j : Int) (n : Int) (i : Int) (K.ill (K.lft c R)) (K.ill (K.rgt c R))) X := by
  intro d
  induction d with
  | zero =>
    intro i R h hd hx
    apply K.Ev.succ
    simp only [spec_l2Reduce.l2, if_neg (show ¬ ((i : Int) < (n : Int)) by omega), K.w64s a (show a < 9223372036854775807 by omega), K.w64s j (show j < 9223372036854775807 by omega)]
    exact hx
  | succ d ih =>
    intro i R h hd hx
    have hi : i < n := by omega
    have wi : (K.row R i).length = w := h.row_wid hi
    have wa : (K.row R a).length = w := h.row_wid ha
    have hl : (K.ill (K.lft c R)).length = n := by rw [K.ill_length, K.lft_length, h.len]
    have hl2 : (K.ill (K.rgt c R)).length = n := by rw [K.ill_length, K.rgt_length, h.len]
    have ent : rd (K.il ((K.row R i).take c)) (j : Int) = ((K.ent R i j : Nat) : Int) := by rw [K.il_getD, K.take_getD hj]; rfl
    have he := h.ent_lt i j
    have hx' := ih (i + 1) _ (K.clr_mat (j := j) h ha hi) (by omega) hx
    clear ih hx
    apply K.Ev.succ
    simp only [spec_l2Reduce.l2, hl, if_pos (show (i : Int) < (n : Int) by omega), if_pos (show (0 : Int) ≤ (i : Int) by omega), if_pos (show (0 : Int) ≤ (j : Int) by omega), l2_lft_row, K.il_length, List.length_take, wi, if_pos (show (j : Int) < ((min c w : Nat) : Int) by omega), ent]
    by_cases e : i = a ∨ K.ent R i j = 0
    · have e1 : K.clr a j i R = R := by unfold K.clr; rw [if_pos e]
      rw [e1] at hx'
      have done : Ev (fun k => spec_l2Reduce.j5 k (a : Int) (j : Int) (i : Int) ((K.ent R i j : Nat) : Int) (n : Int) (i : Int) false (K.ill (K.lft c R)) (K.ill (K.rgt c R))) X := by
        apply K.Ev.succ
        simp only [spec_l2Reduce.j5, Bool.false_eq_true, if_false, K.w64s i (show i < 9223372036854775807 by omega)]
        exact hx'
      by_cases q : (i : Int) = (a : Int)
      · simp only [if_pos q]; exact done
      · simp only [if_neg q]
        have z : (((K.ent R i j : Nat) : Int) != 0) = false := by
          rcases e with e | e
          · omega
          · rw [e]; rfl
        rw [z]; exact done
    · have e1 : K.clr a j i R = R.set i (K.addr (K.row R i) (K.scl (K.ent R i j) (K.row R a))) := by unfold K.clr; rw [if_neg e]
      have q : ¬ (i : Int) = (a : Int) := fun q => e (Or.inl (by omega))
      have z : (((K.ent R i j : Nat) : Int) != 0) = true := by
        rw [bne_iff_ne]; intro q; exact e (Or.inr (by omega))
      rw [e1, ← K.lft_set, ← K.rgt_set, K.addr_take, K.addr_drop, K.scl_take, K.scl_drop, ← K.ill_set, ← K.ill_set] at hx'
      simp only [if_neg q, z]
      apply K.Ev.succ
      simp only [spec_l2Reduce.j5, if_true, hl, hl2, if_pos (show (i : Int) < (n : Int) by omega), if_pos (show (0 : Int) ≤ (i : Int) by omega), if_pos (show (a : Int) < (n : Int) by omega), if_pos (show (0 : Int) ≤ (a : Int) by omega), l2_lft_row, l2_rgt_row]
      refine Ev.bind (l1Scale_ev (K.ent R i j) ((K.row R a).take c) he ((h.row_byt a).take c) (by simp; omega)) ?_
      refine Ev.bind (l1Add_ev ((K.row R i).take c) (K.scl (K.ent R i j) ((K.row R a).take c)) ((h.row_byt i).take c) (K.scl_bytes he _) (by simp; omega) (by rw [K.scl_length, List.length_take, List.length_take, wi, wa])) ?_
      refine Ev.bind (l1Scale_ev (K.ent R i j) ((K.row R a).drop c) he ((h.row_byt a).drop c) (by simp; omega)) ?_
      refine Ev.bind (l1Add_ev ((K.row R i).drop c) (K.scl (K.ent R i j) ((K.row R a).drop c)) ((h.row_byt i).drop c) (K.scl_bytes he _) (by simp; omega) (by rw [K.scl_length, List.length_drop, List.length_drop, wi, wa])) ?_
      simp only [Int.toNat_natCast, K.w64s i (show i < 9223372036854775807 by omega)]
      exact hx'
theorem l2_seeks {n w c : Nat} (hn : n ≤ 100000) (hc : c ≤ w) (a j : Nat) (hj : j < c) (X : (List (List Int)) × (List (List Int)) × Int) (R : List (List Nat)) (h : K.Mat n w R) : ∀ (d i : Nat), i + d = n → Ev (fun k => spec_l2Reduce.j3 k (a : Int) (j : Int) ((K.piv R j d i : Nat) : Int) (K.ill (K.lft c R)) (K.ill (K.rgt c R))) X → Ev (fun k => spec_l2Reduce.l1 k (a : Int) (j : Int) (i : Int) (K.ill (K.lft c R)) (K.ill (K.rgt c R))) X := by
  have hl : (K.ill (K.lft c R)).length = n := by rw [K.ill_length, K.lft_length, h.len]
  intro d
  induction d with
  | zero =>
    intro i hd hx
    apply K.Ev.succ
    simp only [spec_l2Reduce.l1, hl, if_neg (show ¬ ((i : Int) < (n : Int)) by omega)]
    exact hx
  | succ d ih =>
    intro i hd hx
    have wi : (K.row R i).length = w := h.row_wid (by omega)
    have ent : rd (K.il ((K.row R i).take c)) (j : Int) = ((K.ent R i j : Nat) : Int) := by rw [K.il_getD, K.take_getD hj]; rfl
    apply K.Ev.succ
    simp only [spec_l2Reduce.l1, hl, if_pos (show (i : Int) < (n : Int) by omega), if_pos (show (0 : Int) ≤ (i : Int) by omega), if_pos (show (0 : Int) ≤ (j : Int) by omega), l2_lft_row, K.il_length, List.length_take, wi, if_pos (show (j : Int) < ((min c w : Nat) : Int) by omega), ent]
    unfold K.piv at hx
    by_cases e : K.ent R i j = 0
    · rw [if_pos e] at hx
      simp only [if_pos (show ((K.ent R i j : Nat) : Int) = 0 by omega), K.w64s i (show i < 9223372036854775807 by omega)]
      exact ih (i + 1) (by omega) hx
    · rw [if_neg e] at hx
      simp only [if_neg (show ¬ ((K.ent R i j : Nat) : Int) = 0 by omega)]
      exact hx
theorem l2_loop {n w c : Nat} (hn : n ≤ 100000) (hn0 : 0 < n) (hw : w ≤ 1000000) (hc : c ≤ w) : ∀ (d a j : Nat) (R : List (List Nat)), K.Mat n w R → j + d = c → a ≤ n → Ev (fun k => spec_l2Reduce.l0 k (a : Int) (j : Int) (K.ill (K.lft c R)) (K.ill (K.rgt c R))) (K.ill (K.lft c (K.elim d a j R).1), K.ill (K.rgt c (K.elim d a j R).1), (((K.elim d a j R).2 : Nat) : Int)) := by
  intro d
  induction d with
  | zero =>
    intro a j R h hd ha
    have hl : (K.ill (K.lft c R)).length = n := by rw [K.ill_length, K.lft_length, h.len]
    have r0 := l2_lft_row c R 0
    have w0 : (K.row R 0).length = w := h.row_wid hn0
    apply K.Ev.succ
    simp only [Int.natCast_zero] at r0
    simp only [spec_l2Reduce.l0, hl, if_pos (show (0 : Int) < (n : Int) by omega), r0, K.il_length, List.length_take, w0, if_neg (show ¬ ((j : Int) < ((min c w : Nat) : Int)) by omega)]
    apply K.Ev.succ
    simp only [spec_l2Reduce.j1, Bool.false_eq_true, if_false, K.elim]
    exact Ev.now _
  | succ d ih =>
    intro a j R h hd ha
    have hl : (K.ill (K.lft c R)).length = n := by rw [K.ill_length, K.lft_length, h.len]
    have hl2 : (K.ill (K.rgt c R)).length = n := by rw [K.ill_length, K.rgt_length, h.len]
    have r0 := l2_lft_row c R 0
    have w0 : (K.row R 0).length = w := h.row_wid hn0
    apply K.Ev.succ
    simp only [Int.natCast_zero] at r0
    simp only [spec_l2Reduce.l0, hl, if_pos (show (0 : Int) < (n : Int) by omega), r0, K.il_length, List.length_take, w0, if_pos (show ((j : Int) < ((min c w : Nat) : Int)) by omega)]
    apply K.Ev.succ
    unfold K.elim
    rw [h.len]
    by_cases h1 : a < n
    · simp only [spec_l2Reduce.j1, decide_eq_true (show (a : Int) < (n : Int) by omega), if_true, if_pos h1]
      refine l2_seeks hn hc a j (by omega) _ R h (n - a) a (by omega) ?_
      have pg := K.piv_ge R j (n - a) a
      have pn := K.piv_ne R j (n - a) a
      generalize K.piv R j (n - a) a = p at pg pn ⊢
      apply K.Ev.succ
      by_cases h2 : p < n
      · have wp : (K.row R p).length = w := h.row_wid h2
        have ent : rd (K.il ((K.row R p).take c)) (j : Int) = ((K.ent R p j : Nat) : Int) := by rw [K.il_getD, K.take_getD (by omega)]; rfl
        have he := h.ent_lt p j
        simp only [spec_l2Reduce.j3, hl, hl2, if_neg (show ¬ ((p : Int) = (n : Int)) by omega), if_pos (show (p : Int) < (n : Int) by omega), if_pos (show (a : Int) < (n : Int) by omega), if_pos (show (0 : Int) ≤ (p : Int) by omega), if_pos (show (0 : Int) ≤ (a : Int) by omega), if_pos (show (0 : Int) ≤ (j : Int) by omega), l2_lft_row, l2_rgt_row, K.il_length, List.length_take, wp, if_pos (show ((j : Int) < ((min c w : Nat) : Int)) by omega), ent, if_pos h2]
        refine Ev.bind (l1Inverse_ev (K.ent R p j) he) ?_
        refine Ev.bind (l1Scale_ev (K.ginv (K.ent R p j)) ((K.row R p).take c) (K.ginv_lt _) ((h.row_byt p).take c) (by simp; omega)) ?_
        refine Ev.bind (l1Scale_ev (K.ginv (K.ent R p j)) ((K.row R p).drop c) (K.ginv_lt _) ((h.row_byt p).drop c) (by simp; omega)) ?_
        simp only [Int.toNat_natCast]
        have hx := ih (a + 1) (j + 1) (K.estep a j p R) (K.estep_mat h h1 h2) (by omega) (by omega)
        have es : K.estep a j p R = K.clrs a j n 0 (K.lead a j p R) := by unfold K.estep; rw [h.len]
        have g := l2_clears hn hw hc a j h1 (by omega) _ n 0 (K.lead a j p R) (K.lead_mat h h1 h2) (by omega) (by rw [← es]; exact hx)
        have e1 : K.ill (K.lft c (K.lead a j p R)) = ((K.ill (K.lft c R)).set p (K.il ((K.row R a).take c))).set a (K.il (K.scl (K.ginv (K.ent R p j)) ((K.row R p).take c))) := by
          unfold K.lead; rw [← K.lft_set, ← K.lft_set, K.scl_take, K.ill_set, K.ill_set]
        have e2 : K.ill (K.rgt c (K.lead a j p R)) = ((K.ill (K.rgt c R)).set p (K.il ((K.row R a).drop c))).set a (K.il (K.scl (K.ginv (K.ent R p j)) ((K.row R p).drop c))) := by
          unfold K.lead; rw [← K.rgt_set, ← K.rgt_set, K.scl_drop, K.ill_set, K.ill_set]
        rw [e1, e2] at g
        exact g
      · simp only [spec_l2Reduce.j3, hl, if_pos (show ((p : Int) = (n : Int)) by omega), if_neg h2, K.w64s j (show j < 9223372036854775807 by omega)]
        exact ih a (j + 1) R h (by omega) ha
    · simp only [spec_l2Reduce.j1, decide_eq_false (show ¬ (a : Int) < (n : Int) by omega), Bool.false_eq_true, if_false, if_neg h1]
      exact Ev.now _
/-- The reference's elimination of A, with B carried along. -/
theorem l2Reduce_ev (A B : List (List Nat)) {n u v : Nat} (hA : K.Mat n u A) (hB : K.Mat n v B) (hn : n ≤ 100000) (hn0 : 0 < n) (hw : u + v ≤ 1000000) : Ev (fun k => spec_l2Reduce.f k (K.ill A) (K.ill B)) (K.ill (K.lft u (K.elim u 0 0 (K.beside A B)).1), K.ill (K.rgt u (K.elim u 0 0 (K.beside A B)).1), (((K.elim u 0 0 (K.beside A B)).2 : Nat) : Int)) := by
  simp only [spec_l2Reduce.f]
  refine Ev.bind (l2Own_ev A hA hn (by omega)) ?_
  refine Ev.bind (l2Own_ev B hB hn (by omega)) ?_
  have := l2_loop hn hn0 hw (Nat.le_add_right u v) u 0 0 (K.beside A B) (K.beside_mat hA hB) (by omega) (by omega)
  rw [K.beside_lft hA hB, K.beside_rgt hA hB] at this
  exact this

theorem l2Blank_ev (n c : Nat) (hn : n ≤ 100000) (hc : c ≤ 1000000) : Ev (fun k => spec_l2Blank.f k (n : Int) (c : Int)) (K.ill (List.replicate n (List.replicate c 0))) := by
  have key : ∀ (d i : Nat), i + d = n → Ev (fun k => spec_l2Blank.l0 k (n : Int) (c : Int) (i : Int) (K.ill (List.replicate i (List.replicate c 0)))) (K.ill (List.replicate n (List.replicate c 0))) := by
    intro d
    induction d with
    | zero =>
      intro i hd
      apply K.Ev.succ
      simp only [spec_l2Blank.l0, if_neg (show ¬ ((i : Int) < (n : Int)) by omega)]
      obtain rfl : i = n := by omega
      exact Ev.now _
    | succ d ih =>
      intro i hd
      have hx := ih (i + 1) (by omega)
      rw [List.replicate_succ'] at hx
      apply K.Ev.succ
      simp only [spec_l2Blank.l0, K.ill_length, if_pos (show (i : Int) < (n : Int) by omega), if_pos (show (0 : Int) ≤ (c : Int) by omega), Int.toNat_natCast, if_pos (show c ≤ 281474976710656 by omega), List.length_replicate, if_pos (show i < 5864062014805 by omega), K.w64s i (show i < 9223372036854775807 by omega), K.il_zeros, K.ill_snoc]
      exact hx
  have := key n 0 (by omega)
  simp only [spec_l2Blank.f]
  exact this

theorem l2Identity_ev (n : Nat) (hn : n ≤ 100000) : Ev (fun k => spec_l2Identity.f k (n : Int)) (K.ill (K.idm n)) := by
  have key : ∀ (d i : Nat) (R : List (List Nat)), i + d = n → R.length = n → (∀ j, j < i → K.row R j = K.unit n j) → (∀ j, i ≤ j → j < n → K.row R j = List.replicate n 0) → Ev (fun k => spec_l2Identity.l0 k (n : Int) (i : Int) (K.ill R)) (K.ill (K.idm n)) := by
    intro d
    induction d with
    | zero =>
      intro i R hd hl h1 h2
      apply K.Ev.succ
      simp only [spec_l2Identity.l0, if_neg (show ¬ ((i : Int) < (n : Int)) by omega)]
      have e : R = K.idm n := by
        apply List.ext_getElem
        · rw [hl, (K.idm_mat n).len]
        · intro j g1 g2
          have := h1 j (by omega)
          rw [K.row_eq g1] at this
          rw [this, ← K.row_eq g2, K.idm_row (by omega)]
      rw [e]; exact Ev.now _
    | succ d ih =>
      intro i R hd hl h1 h2
      have hi : i < R.length := by omega
      have hr : rd_L2 (K.ill R) (i : Int) = K.il (List.replicate n 0) := by
        rw [← h2 i (by omega) (by omega)]; exact K.ill_row R i
      have hx := ih (i + 1) (R.set i (K.unit n i)) (by omega) (by simpa using hl) (fun j hj => by
        rw [K.row_set hi]
        by_cases e : i = j
        · subst e; rw [if_pos rfl]
        · rw [if_neg e]; exact h1 j (by omega)) (fun j g1 g2 => by
        rw [K.row_set hi, if_neg (by omega)]; exact h2 j (by omega) g2)
      rw [← K.ill_set, ← K.il_unit, K.il_zeros] at hx
      apply K.Ev.succ
      simp only [spec_l2Identity.l0, K.ill_length, hl, if_pos (show (i : Int) < (n : Int) by omega), if_pos (show (0 : Int) ≤ (i : Int) by omega), hr, K.il_length, List.length_replicate, K.w64s i (show i < 9223372036854775807 by omega), Int.toNat_natCast]
      exact hx
  simp only [spec_l2Identity.f]
  refine Ev.bind (l2Blank_ev n n hn (by omega)) ?_
  simp only [K.ill_length, List.length_replicate]
  exact key n 0 _ (by omega) (by simp) (fun j hj => by omega) (fun j _ hj => by simp [K.row, hj])

theorem l2Inverse_ev (A : List (List Nat)) {n : Nat} (hA : K.Mat n n A) (hn : n ≤ 100000) (hn0 : 0 < n) : Ev (fun k => spec_l2Inverse.f k (K.ill A)) (K.ill (K.minv A).1, decide ((K.minv A).2 = n)) := by
  simp only [spec_l2Inverse.f, K.ill_length, hA.len]
  refine Ev.bind (l2Identity_ev n hn) ?_
  refine Ev.bind (l2Reduce_ev A (K.idm n) hA (K.idm_mat n) hn hn0 (by omega)) ?_
  unfold K.minv
  rw [hA.len]
  refine K.Ev.to (Ev.now _) ?_
  congr 1
  generalize (K.elim n 0 0 (K.beside A (K.idm n))).2 = q
  show ((q : Int) == (n : Int)) = decide (q = n)
  by_cases e : q = n
  · subst e; simp
  · rw [decide_eq_false e, beq_eq_false_iff_ne]; omega

theorem l1Dot_ev (a b : List Nat) (ha : K.Bytes a) (hb : K.Bytes b) (hl : a.length ≤ 1000000) (he : a.length ≤ b.length) : Ev (fun k => spec_l1Dot.f k (K.il a) (K.il b)) ((K.dotp a b : Nat) : Int) := by
  have key : ∀ (d i o : Nat), i + d = a.length → o < 256 → Ev (fun k => spec_l1Dot.l0 k (K.il a) (K.il b) (o : Int) (a.length : Int) (i : Int)) ((o ^^^ K.dotp (a.drop i) (b.drop i) : Nat) : Int) := by
    intro d
    induction d with
    | zero =>
      intro i o h ho
      apply K.Ev.succ
      simp only [spec_l1Dot.l0, if_neg (show ¬ ((i : Int) < (a.length : Int)) by omega)]
      rw [List.drop_of_length_le (by omega)]
      simp only [K.dotp, Nat.xor_zero]
      exact Ev.now _
    | succ d ih =>
      intro i o h ho
      have hi : i < a.length := by omega
      have hj : i < b.length := by omega
      have hlt := K.gmul_lt (b := b[i]) (ha _ (List.getElem_mem hi))
      have hx := ih (i + 1) (o ^^^ K.gmul a[i] b[i]) (by omega) (K.xlt ho hlt)
      rw [Nat.xor_assoc, ← K.dotp_drop hi hj] at hx
      apply K.Ev.succ
      simp only [spec_l1Dot.l0, K.il_length, if_pos (show (i : Int) < (a.length : Int) by omega), if_pos (show (i : Int) < (b.length : Int) by omega), if_pos (show (0 : Int) ≤ (i : Int) by omega), K.rd_il hi, K.rd_il hj]
      refine Ev.bind (l1Times_ev a[i] b[i] (ha _ (List.getElem_mem hi)) (hb _ (List.getElem_mem hj))) ?_
      simp only [K.xor_u8 ho hlt, K.w64s i (show i < 9223372036854775807 by omega)]
      exact hx
  have := key a.length 0 0 (by omega) (by omega)
  simp only [spec_l1Dot.f, K.il_length]
  simpa using this

theorem l2Apply_ev (R : List (List Nat)) (v : List Nat) {n c : Nat} (h : K.Mat n c R) (hv : K.Bytes v) (hw : c ≤ v.length) (hn : n ≤ 100000) (hc : c ≤ 1000000) : Ev (fun k => spec_l2Apply.f k (K.ill R) (K.il v)) (K.il (K.app R v)) := by
  have key : ∀ (d i : Nat), i + d = R.length → Ev (fun k => spec_l2Apply.l0 k (K.il v) (K.il (K.app (R.take i) v)) (K.ill R) (R.length : Int) (i : Int)) (K.il (K.app R v)) := by
    intro d
    induction d with
    | zero =>
      intro i hd
      apply K.Ev.succ
      simp only [spec_l2Apply.l0, if_neg (show ¬ ((i : Int) < (R.length : Int)) by omega)]
      rw [List.take_of_length_le (by omega)]
      exact Ev.now _
    | succ d ih =>
      intro i hd
      have hn' := h.len
      have hi : i < R.length := by omega
      have hx := ih (i + 1) (by omega)
      have e : K.app (R.take (i + 1)) v = K.app (R.take i) v ++ [K.dotp (K.row R i) v] := by
        rw [K.take_succ' _ _ hi, ← K.row_eq hi]; simp [K.app]
      rw [e, ← K.il_snoc] at hx
      have hw := h.row_wid (i := i) (by omega)
      have hr : rd_L2 (K.ill R) (i : Int) = K.il (K.row R i) := K.ill_row R i
      apply K.Ev.succ
      simp only [spec_l2Apply.l0, K.ill_length, if_pos (show (i : Int) < (R.length : Int) by omega), if_pos (show (0 : Int) ≤ (i : Int) by omega), hr]
      refine Ev.bind (l1Dot_ev (K.row R i) v (h.row_byt i) hv (by omega) (by omega)) ?_
      simp only [K.il_length, if_pos (show (K.app (R.take i) v).length < 140737488355328 by simp [K.app]; omega), K.w64s i (show i < 9223372036854775807 by omega)]
      exact hx
  have := key R.length 0 (by omega)
  simp only [spec_l2Apply.f, K.ill_length]
  exact this

theorem specRandRow_ev (m : List (Nat × Nat)) (hm : ∀ p ∈ m, p.1 < 256 ∧ p.2 < 256) (hn : m.length ≤ 20) (s : Nat) (hs : s < 256) (i : Nat) (hi : i < m.length) (A : List (List Nat)) (hA : A.length = i) (v : List Nat) (hv : v.length = i) (X : List Int × Bool)
    (h : Ev (fun k => spec_RandomFor.l0 k (shl m) (s : Int) (K.il (v ++ [m[i].2 ^^^ s])) (shl m) (m.length : Int) ((i + 1 : Nat) : Int) (K.ill (A ++ [K.srow m.length m[i].1]))) X) :
    Ev (fun k => spec_RandomFor.l1 k (shl m) (s : Int) (K.il v) ([] : List Int) (shl m) (m.length : Int) (i : Int) (m.length : Int) 0 (K.ill A) ((m[i].1 : Nat) : Int) ((m[i].2 : Nat) : Int)) X := by
  have hp := hm m[i] (List.getElem_mem hi)
  have key : ∀ (d j : Nat), j + d = m.length → Ev (fun k => spec_RandomFor.l1 k (shl m) (s : Int) (K.il v) (K.il (K.srow j m[i].1)) (shl m) (m.length : Int) (i : Int) (m.length : Int) (j : Int) (K.ill A) ((m[i].1 : Nat) : Int) ((m[i].2 : Nat) : Int)) X := by
    intro d
    induction d with
    | zero =>
      intro j hj
      obtain rfl : j = m.length := by omega
      apply K.Ev.succ
      simp only [spec_RandomFor.l1, if_neg (show ¬ ((m.length : Int) < (m.length : Int)) by omega), K.ill_length, if_pos (show A.length < 5864062014805 by omega), K.il_length, if_pos (show v.length < 140737488355328 by omega), K.xor_u8 hp.2 hs, K.il_snoc, K.ill_snoc, K.w64s i (show i < 9223372036854775807 by omega)]
      exact h
    | succ d ih =>
      intro j hj
      have hx := ih (j + 1) (by omega)
      have e : K.srow (j + 1) m[i].1 = K.srow j m[i].1 ++ [K.gpow m[i].1 (j + 1)] := by
        unfold K.srow
        rw [List.range_succ, List.map_append, List.map_cons, List.map_nil]
      rw [e, ← K.il_snoc] at hx
      apply K.Ev.succ
      simp only [spec_RandomFor.l1, if_pos (show (j : Int) < (m.length : Int) by omega), K.w64s j (show j < 9223372036854775807 by omega)]
      refine Ev.bind (l1Power_ev _ (j + 1) hp.1 (by omega)) ?_
      simp only [K.il_length, K.srow_length, if_pos (show j < 140737488355328 by omega)]
      exact hx
  exact key m.length 0 (by omega)
theorem specRand_ev (m : List (Nat × Nat)) (hm : ∀ p ∈ m, p.1 < 256 ∧ p.2 < 256) (hn : m.length ≤ 20) (h0 : 0 < m.length) (s : Nat) (hs : s < 256) : Ev (fun k => spec_RandomFor.l0 k (shl m) (s : Int) ([] : List Int) (shl m) (m.length : Int) 0 ([] : List (List Int))) (K.il (K.app (K.minv (K.smat m)).1 (K.svals m s)), true) := by
  have hM := K.smat_mat m
  have hV := K.svals_vec hm hs
  have key : ∀ (d i : Nat), i + d = m.length → Ev (fun k => spec_RandomFor.l0 k (shl m) (s : Int) (K.il (K.svals (m.take i) s)) (shl m) (m.length : Int) (i : Int) (K.ill ((m.take i).map (fun p => K.srow m.length p.1)))) (K.il (K.app (K.minv (K.smat m)).1 (K.svals m s)), true) := by
    intro d
    induction d with
    | zero =>
      intro i hi
      obtain rfl : i = m.length := by omega
      apply K.Ev.succ
      rw [List.take_length]
      simp only [spec_RandomFor.l0, if_neg (show ¬ ((m.length : Int) < (m.length : Int)) by omega)]
      refine Ev.bind (l2Inverse_ev (K.smat m) hM (by omega) h0) ?_
      refine Ev.bind (l2Apply_ev _ (K.svals m s) (K.minv_mat hM) hV.byt (by rw [hV.len]; exact Nat.le_refl _) (by omega) (by omega)) ?_
      exact Ev.now _
    | succ d ih =>
      intro i hi
      have hil : i < m.length := by omega
      have hx := ih (i + 1) (by omega)
      have e1 : K.svals (m.take (i + 1)) s = K.svals (m.take i) s ++ [m[i].2 ^^^ s] := by
        unfold K.svals
        rw [K.take_succ' _ _ hil, List.map_append, List.map_cons, List.map_nil]
      have e2 : (m.take (i + 1)).map (fun p => K.srow m.length p.1) = (m.take i).map (fun p => K.srow m.length p.1) ++ [K.srow m.length m[i].1] := by
        rw [K.take_succ' _ _ hil, List.map_append, List.map_cons, List.map_nil]
      rw [e1, e2] at hx
      apply K.Ev.succ
      simp only [spec_RandomFor.l0, shl_length, if_pos (show (i : Int) < (m.length : Int) by omega), if_pos (show (0 : Int) ≤ (i : Int) by omega), rd_shl hil]
      exact specRandRow_ev m hm hn s hs i hil _ (by simp; omega) _ (by simp [K.svals]; omega) _ hx
  exact key m.length 0 (by omega)
theorem randomFor_both (m : List (Nat × Nat)) (hm : ∀ p ∈ m, p.1 < 256 ∧ p.2 < 256) (hl : m.length ≤ 1048576) (s : Nat) (hs : s < 256) :
    (¬ (GoodShares m ∧ m.length ≤ 8) → Ev (fun k => spec_RandomFor.f k (shl m) (s : Int)) (([] : List Int), false) ∧ Ev (fun k => impl_RandomFor.f k (shl m) (s : Int)) (([] : List Int), false)) ∧
    (GoodShares m → m.length ≤ 8 → Ev (fun k => spec_RandomFor.f k (shl m) (s : Int)) (K.il (K.app (K.minv (K.smat m)).1 (K.svals m s)), true) ∧ Ev (fun k => impl_RandomFor.f k (shl m) (s : Int)) (K.il (K.app (K.minv (K.smat m)).1 (K.svals m s)), true)) := by
  obtain ⟨b, i1, i2, i3⟩ := areShares_ev m hl
  have bad : Ev (fun k => spec_RandomFor.j0 k (shl m) (s : Int) true) (([] : List Int), false) ∧ Ev (fun k => impl_RandomFor.j0 k (s : Int) (shl m) true) (([] : List Int), false) := by
    constructor <;> apply K.Ev.succ
    · simp only [spec_RandomFor.j0, if_true]; exact Ev.now _
    · simp only [impl_RandomFor.j0, if_true]; exact Ev.now _
  constructor
  · intro g
    cases b with
    | false =>
      constructor
      · simp only [spec_RandomFor.f]; refine Ev.bind i1 ?_; simp only [Bool.false_eq_true, if_false]; exact bad.1
      · simp only [impl_RandomFor.f]; refine Ev.bind i2 ?_; simp only [Bool.false_eq_true, if_false]; exact bad.2
    | true =>
      have h8 : (m.length : Int) > 8 := by
        rcases Nat.lt_or_ge 8 m.length with q | q
        · omega
        · exact absurd ⟨i3.1 rfl, q⟩ g
      constructor
      · simp only [spec_RandomFor.f]; refine Ev.bind i1 ?_; simp only [if_true, shl_length, decide_eq_true h8]; exact bad.1
      · simp only [impl_RandomFor.f]; refine Ev.bind i2 ?_; simp only [if_true, shl_length, decide_eq_true h8]; exact bad.2
  · intro good g8
    obtain rfl := i3.2 good
    have h8 : ¬ (m.length : Int) > 8 := by omega
    have gi := (goodShares_iff m).1 good
    have hM := K.smat_mat m
    have hV := K.svals_vec hm hs
    by_cases h0 : (m.length : Int) = 0
    · have e0 : m = [] := List.length_eq_zero_iff.1 (by omega)
      have ea : K.app (K.minv (K.smat m)).1 (K.svals m s) = [] := List.length_eq_zero_iff.1 (by rw [K.app_length, (K.minv_mat hM).len]; omega)
      rw [ea]
      constructor
      · simp only [spec_RandomFor.f]; refine Ev.bind i1 ?_; simp only [if_true, shl_length, decide_eq_false h8]
        apply K.Ev.succ
        simp only [spec_RandomFor.j0, Bool.false_eq_true, if_false, shl_length, if_pos h0]; exact Ev.now _
      · simp only [impl_RandomFor.f]; refine Ev.bind i2 ?_; simp only [if_true, shl_length, decide_eq_false h8]
        apply K.Ev.succ
        simp only [impl_RandomFor.j0, Bool.false_eq_true, if_false, shl_length, if_pos h0]; exact Ev.now _
    have hfull := K.smat_full hm (fun p hp => by
      obtain ⟨i, hi, rfl⟩ := List.mem_iff_getElem.1 hp
      exact (gi.2 i hi).1) good.nodup (by omega)
    constructor
    · simp only [spec_RandomFor.f]; refine Ev.bind i1 ?_; simp only [if_true, shl_length, decide_eq_false h8]
      apply K.Ev.succ
      simp only [spec_RandomFor.j0, Bool.false_eq_true, if_false, shl_length, if_neg h0]
      exact specRand_ev m hm (by omega) (by omega) s hs
    · simp only [impl_RandomFor.f]; refine Ev.bind i2 ?_; simp only [if_true, shl_length, decide_eq_false h8]
      apply K.Ev.succ
      simp only [impl_RandomFor.j0, Bool.false_eq_true, if_false, shl_length, if_neg h0]
      refine Ev.bind (randRows_ev m hm (by omega)) ?_
      refine randVals_ev m hm (by omega) s hs _ _ ?_
      refine Ev.bind (solve_ev (K.smat m) (K.svals m s) hM hV.byt (by rw [hV.len]; exact Nat.le_refl _) (by omega)) ?_
      simp only [if_pos hfull]
      exact Ev.now _

theorem next_ok (c : List Int) (hc : K.Code c) (a : Int) (h0 : 0 ≤ a) (h1 : a ≤ 1152921504606846976) (sd : Int) : ∃ v sd', spec_l1Cur_next.f c a sd = some (v, a + 1, sd') ∧ 0 ≤ v ∧ v ≤ 255 := by
  have hl := hc.len
  have w : K.Eqn (wrap64 (a + 1)) (a + 1) := ⟨K.w64 (by omega) (by omega)⟩
  by_cases h : a < (c.length : Int)
  · have hr := hc.rd_rng a
    have wr : K.Eqn (wrap64 (rd c a)) (rd c a) := ⟨K.w64 (by omega) (by omega)⟩
    have h2 : a + 1 ≤ (c.length : Int) := by omega
    simp only [spec_l1Cur_next.f, if_pos h, if_pos h0, w.out, if_pos h2, wr.out]
    exact ⟨_, _, rfl, hr.1, hr.2⟩
  · have h2 : ¬ (a + 1 ≤ (c.length : Int)) := by omega
    have hb : ∀ y : Int, wrap64 (Go.bits .and .u64 y 255) = Go.bits .and .u64 y 255 ∧ 0 ≤ Go.bits .and .u64 y 255 ∧ Go.bits .and .u64 y 255 ≤ 255 := fun y => by
      have := K.u64_and255 y
      exact ⟨K.w64 (by omega) (by omega), this⟩
    simp only [spec_l1Cur_next.f, if_neg h, w.out, if_neg h2, (hb _).1]
    exact ⟨_, _, rfl, (hb _).2.1, (hb _).2.2⟩

theorem pick_ok (c : List Int) (hc : K.Code c) (a : Int) (h0 : 0 ≤ a) (h1 : a ≤ 1000000000000000000) (sd : Int) (n : Int) (hn : n ≤ 1000000) : ∃ v a' sd', spec_l1Cur_pick.f c a sd n = some (v, a', sd') ∧ 0 ≤ v ∧ (v < n ∨ v = 0) ∧ a ≤ a' ∧ a' ≤ a + 2 := by
  by_cases h : n ≤ 1
  · exact ⟨0, a, sd, by simp only [spec_l1Cur_pick.f, if_pos h], by omega, .inr rfl, by omega, by omega⟩
  obtain ⟨v, sd1, e1, v0, v1⟩ := next_ok c hc a h0 (by omega) sd
  have hnz : ¬ n = 0 := by omega
  have tm : ∀ x : Int, 0 ≤ x → 0 ≤ Int.tmod x n ∧ Int.tmod x n < n := fun x hx => by
    rw [Int.tmod_eq_emod_of_nonneg hx]
    exact ⟨Int.emod_nonneg _ (by omega), Int.emod_lt_of_pos _ (by omega)⟩
  by_cases h2 : n > 200
  · obtain ⟨u, sd2, e2, u0, u1⟩ := next_ok c hc (a + 1) (by omega) (by omega) sd1
    have w1 : K.Eqn (wrap64 (v * 256)) (v * 256) := ⟨K.w64 (by omega) (by omega)⟩
    have w2 : K.Eqn (wrap64 (v * 256 + u)) (v * 256 + u) := ⟨K.w64 (by omega) (by omega)⟩
    have t := tm (v * 256 + u) (by omega)
    refine ⟨_, a + 1 + 1, sd2, by simp only [spec_l1Cur_pick.f, if_neg h, e1, Option.bind_some, if_pos h2, e2, if_neg hnz, w1.out, w2.out], t.1, .inl t.2, by omega, by omega⟩
  · have t := tm v v0
    exact ⟨_, a + 1, sd1, by simp only [spec_l1Cur_pick.f, if_neg h, e1, Option.bind_some, if_neg h2, if_neg hnz], t.1, .inl t.2, by omega, by omega⟩

theorem among_ok (c : List Int) (hc : K.Code c) (a : Int) (h0 : 0 ≤ a) (h1 : a ≤ 1000000000000000000) (sd : Int) (l : List Int) (hl : 0 < l.length) (hl2 : l.length ≤ 1000000) : ∃ (x a' sd' : Int), spec_l1Cur_among.f c a sd l = some (x, a', sd') ∧ x ∈ l ∧ a ≤ a' ∧ a' ≤ a + 2 := by
  obtain ⟨v, a', sd', e, v0, v1, g1, g2⟩ := pick_ok c hc a h0 h1 sd (l.length : Int) (by omega)
  have hv : v.toNat < l.length := by omega
  refine ⟨rd l v, a', sd', by simp only [spec_l1Cur_among.f, e, Option.bind_some, if_pos v0, if_pos (show v < (l.length : Int) by omega)], ?_, g1, g2⟩
  simp only [rd, List.getD_eq_getElem?_getD, List.getElem?_eq_getElem hv, Option.getD_some]
  exact List.getElem_mem hv

theorem one_ok (c : List Int) (hc : K.Code c) (a : Int) (h0 : 0 ≤ a) (h1 : a ≤ 1000000000000000000) (sd : Int) (n : Int) (hn : n ≤ 1000000) : ∃ (b : Bool) (a' sd' : Int), spec_l1Cur_one.f c a sd n = some (b, a', sd') ∧ a ≤ a' ∧ a' ≤ a + 2 := by
  obtain ⟨v, a', sd', e, _, _, g1, g2⟩ := pick_ok c hc a h0 h1 sd n hn
  exact ⟨v == 0, a', sd', by simp only [spec_l1Cur_one.f, e, Option.bind_some], g1, g2⟩

theorem byte_ok (c : List Int) (hc : K.Code c) (a : Int) (h0 : 0 ≤ a) (h1 : a ≤ 900000000000000000) (sd : Int) : ∃ (x a' sd' : Int), spec_l1Cur_byte.f c a sd = some (x, a', sd') ∧ 0 ≤ x ∧ x ≤ 255 ∧ a ≤ a' ∧ a' ≤ a + 4 := by
  obtain ⟨b, a1, sd1, e1, g1, g2⟩ := one_ok c hc a h0 (by omega) sd 5 (by omega)
  cases b with
  | true =>
    obtain ⟨x, a2, sd2, e2, _, g3, g4⟩ := among_ok c hc a1 (by omega) (by omega) sd1 ([0, 1, 2, 3, 255, 27] : List Int) (by simp) (by simp)
    exact ⟨x % 256, a2, sd2, by simp only [spec_l1Cur_byte.f, e1, Option.bind_some, if_true, e2], by omega, by omega, by omega, by omega⟩
  | false =>
    obtain ⟨x, a2, sd2, e2, _, _, g3, g4⟩ := pick_ok c hc a1 (by omega) (by omega) sd1 256 (by omega)
    exact ⟨x % 256, a2, sd2, by simp only [spec_l1Cur_byte.f, e1, Option.bind_some, Bool.false_eq_true, if_false, e2], by omega, by omega, by omega, by omega⟩

/-- The shares 1, 2 .. n of a polynomial. -/
def sharesOf (p : List Nat) (n : Nat) : List (Nat × Nat) := (List.range n).map (fun i => (i + 1, K.peval p (i + 1)))
theorem sharesOf_length (p : List Nat) (n : Nat) : (sharesOf p n).length = n := by simp [sharesOf]
theorem sharesOf_pts (p : List Nat) (hb : K.Bytes p) (n : Nat) (hn : n ≤ 255) : K.Pts (sharesOf p n) := by
  intro q hq
  obtain ⟨i, hi, rfl⟩ := List.mem_map.1 hq
  have := List.mem_range.1 hi
  exact ⟨by simp only; omega, K.peval_lt hb _⟩
theorem shl_snoc (m : List (Nat × Nat)) (a b : Nat) : shl m ++ [⟨(a : Int), (b : Int)⟩] = shl (m ++ [(a, b)]) := by simp [shl]
theorem l7At_ev (l : List Nat) (hl : l.length ≤ 1048576) (hb : K.Bytes l) (x : Nat) (hx : x < 256) : Ev (fun k => spec_l7At.f k (K.il l) (x : Int)) ((K.peval l x : Nat) : Int) := by
  have key : ∀ (n : Nat), n ≤ l.length → Ev (fun k => spec_l7At.l0 k (K.il l) (x : Int) ((K.peval (l.drop n) x : Nat) : Int) ((n : Int) - 1)) ((K.peval l x : Nat) : Int) := by
    intro n
    induction n with
    | zero =>
      intro _
      apply K.Ev.succ
      simp only [spec_l7At.l0, show ¬ (((0 : Nat) : Int) - 1 ≥ 0) by omega, if_false, List.drop_zero]
      exact Ev.now _
    | succ n ih =>
      intro h
      have hn : n < l.length := by omega
      have hd : K.Bytes (l.drop (n + 1)) := fun y hy => hb y (List.mem_of_mem_drop hy)
      have e : (((n + 1 : Nat) : Int) - 1) = (n : Int) := by omega
      have w : K.Eqn (wrap64 ((n : Int) - 1)) ((n : Int) - 1) := ⟨K.w64 (by omega) (by omega)⟩
      have hp := K.peval_lt hd x
      apply K.Ev.succ
      simp only [spec_l7At.l0, e, if_pos (show (n : Int) ≥ 0 by omega)]
      refine Ev.bind (l1Times_ev _ x hp hx) ?_
      simp only [if_pos (show 0 ≤ (n : Int) by omega), K.il_length, if_pos (show (n : Int) < (l.length : Int) by omega), K.rd_il hn, K.xor_u8 (K.gmul_lt (b := x) hp) (hb l[n] (List.getElem_mem hn)), w.out]
      have := ih (by omega)
      rw [List.drop_eq_getElem_cons hn] at this
      exact this
  have w : K.Eqn (wrap64 ((l.length : Int) - 1)) ((l.length : Int) - 1) := ⟨K.w64 (by omega) (by omega)⟩
  simp only [spec_l7At.f, K.il_length, w.out]
  have := key l.length (Nat.le_refl _)
  rw [List.drop_length] at this
  exact this

theorem sharesOf_succ (p : List Nat) (n : Nat) : sharesOf p (n + 1) = sharesOf p n ++ [(n + 1, K.peval p (n + 1))] := by simp [sharesOf, List.range_succ]
theorem specShare_loop (p : List Nat) (hb : K.Bytes p) (hl : p.length ≤ 1000) (n : Nat) (hn : n ≤ 20) : Ev (fun k => spec_ShareSecret.l0 k (n : Int) (K.il p) [] 1) (shl (sharesOf p n), true) := by
  have key : ∀ (d i : Nat), i + d = n → Ev (fun k => spec_ShareSecret.l0 k (n : Int) (K.il p) (shl (sharesOf p i)) ((i + 1 : Nat) : Int)) (shl (sharesOf p n), true) := by
    intro d
    induction d with
    | zero =>
      intro i h
      obtain rfl : i = n := by omega
      apply K.Ev.succ
      simp only [spec_ShareSecret.l0, if_neg (show ¬ (((i + 1 : Nat) : Int) ≤ (i : Int)) by omega)]; exact Ev.now _
    | succ d ih =>
      intro i h
      have r1 := ih (i + 1) (by omega)
      have w1 := K.w64s i (show i < 9223372036854775807 by omega)
      have w2 := K.w64s (i + 1) (show i + 1 < 9223372036854775807 by omega)
      have e : ((i + 1 : Nat) : Int) % 256 = ((i + 1 : Nat) : Int) := by omega
      have hs : (shl (sharesOf p i)).length < 70368744177664 := by rw [shl_length, sharesOf_length]; omega
      rw [sharesOf_succ, ← shl_snoc] at r1
      apply K.Ev.succ
      simp only [spec_ShareSecret.l0, if_pos (show ((i + 1 : Nat) : Int) ≤ (n : Int) by omega), w2, e, if_pos hs]
      exact Ev.bind (l7At_ev p (by omega) hb (i + 1) (by omega)) r1
  exact key n 0 (by omega)
theorem specShare_ev (a : Nat) (r : List Nat) (ha : a < 256) (hb : K.Bytes r) (hr : r.length ≤ 8) (n : Nat) (h1 : 1 ≤ n) (h2 : n ≤ 20) : Ev (fun k => spec_ShareSecret.f k (a : Int) (K.il r) (n : Int)) (shl (sharesOf (a :: r) n), true) := by
  have hb' : K.Bytes (a :: r) := fun y hy => by
    rcases List.mem_cons.1 hy with rfl | hy
    · exact ha
    · exact hb y hy
  have i1 := specShare_loop (a :: r) hb' (by simp; omega) n h2
  have h8 : ¬ ((K.il r).length : Int) > 8 := by rw [K.il_length]; omega
  have q1 : spec_l1In.f (n : Int) 1 20 = some true := by
    unfold spec_l1In.f; rw [if_pos (show (n : Int) ≥ 1 by omega)]; simp; omega
  have hs : ([(a : Int)] : List Int).length + (K.il r).length < 140737488355328 := by rw [K.il_length]; simp; omega
  have e : [(a : Int)] ++ K.il r = K.il (a :: r) := rfl
  simp only [spec_ShareSecret.f, if_neg h8, q1, Option.bind_some, Bool.not_true]
  apply K.Ev.succ
  simp only [spec_ShareSecret.j0, Bool.false_eq_true, if_false, Option.bind_some, if_pos hs, e]
  exact i1

theorem vector_ok (c : List Int) (hc : K.Code c) (n : Nat) (hn : n ≤ 1000) (a : Int) (h0 : 0 ≤ a) (h1 : a ≤ 800000000000000000) (sd : Int) : ∃ (l : List Int) (a' sd' : Int), Ev (fun k => spec_l1Cur_vector.f k c a sd (n : Int)) (l, a', sd') ∧ l.length = n ∧ (∀ x ∈ l, 0 ≤ x ∧ x ≤ 255) ∧ a ≤ a' ∧ a' ≤ a + 4 * n := by
  have key : ∀ (d : Nat) (acc : List Int) (a sd : Int), d ≤ 1000 → acc.length + d ≤ 1000000 → (∀ x ∈ acc, 0 ≤ x ∧ x ≤ 255) → 0 ≤ a → a + 4 * d ≤ 850000000000000000 → ∃ (l : List Int) (a' sd' : Int), Ev (fun k => spec_l1Cur_vector.l0 k (d : Int) acc c a sd) (l, a', sd') ∧ l.length = acc.length + d ∧ (∀ x ∈ l, 0 ≤ x ∧ x ≤ 255) ∧ a ≤ a' ∧ a' ≤ a + 4 * d := by
    intro d
    induction d with
    | zero =>
      intro acc a sd _ g1 g2 g3 g4
      refine ⟨acc, a, sd, ?_, rfl, g2, by omega, by omega⟩
      apply K.Ev.succ
      simp only [spec_l1Cur_vector.l0, if_neg (show ¬ (((0 : Nat) : Int) > 0) by omega)]
      exact Ev.now _
    | succ d ih =>
      intro acc a sd g0 g1 g2 g3 g4
      obtain ⟨x, a1, sd1, e1, x0, x1, b1, b2⟩ := byte_ok c hc a g3 (by omega) sd
      have w : K.Eqn (wrap64 (((d + 1 : Nat) : Int) - 1)) (d : Int) := ⟨K.w64p d (by omega)⟩
      obtain ⟨l, a', sd', e2, l1, l2, b3, b4⟩ := ih (acc ++ [x]) a1 sd1 (by omega) (by
        -- only as many as there are
        have : acc.length + (d + 1) ≤ 1000000 := g1
        simp only [List.length_append, List.length_cons, List.length_nil]
        omega) (fun y hy => by
        rcases List.mem_append.1 hy with h | h
        · exact g2 y h
        · simp only [List.mem_singleton] at h; subst h; exact ⟨x0, x1⟩) (by omega) (by omega)
      refine ⟨l, a', sd', ?_, by rw [l1]; simp; omega, l2, by omega, by omega⟩
      apply K.Ev.succ
      simp only [spec_l1Cur_vector.l0, if_pos (show ((d + 1 : Nat) : Int) > 0 by omega), e1, Option.bind_some, if_pos (show acc.length < 140737488355328 by omega), w.out]
      exact e2
  obtain ⟨l, a', sd', e, l1, l2, b1, b2⟩ := key n [] a sd hn (by simp; omega) (by simp) h0 (by omega)
  exact ⟨l, a', sd', by simp only [spec_l1Cur_vector.f]; exact e, by simpa using l1, l2, b1, b2⟩

theorem shl_set (m : List (Nat × Nat)) (n a b : Nat) : (shl m).set n ⟨(a : Int), (b : Int)⟩ = shl (m.set n (a, b)) := by simp [shl, List.map_set]
theorem pts_set {m : List (Nat × Nat)} (h : K.Pts m) (n a b : Nat) (ha : a < 256) (hb : b < 256) : K.Pts (m.set n (a, b)) := by
  intro p hp
  rcases List.mem_or_eq_of_mem_set hp with h1 | h1
  · exact h p h1
  · subst h1; exact ⟨ha, hb⟩
theorem curShares_j2 (c : List Int) (hc : K.Code c) (m : List (Nat × Nat)) (hm : K.Pts m) (hl : m.length ≤ 20) (a : Int) (h0 : 0 ≤ a) (h1 : a ≤ 800000000000000000) (sd : Int) : ∃ (m2 : List (Nat × Nat)) (a' sd' : Int), Ev (fun k => spec_l1Cur_shares.j2 k (shl m) c a sd) (shl m2, a', sd') ∧ K.Pts m2 ∧ m2.length ≤ 20 ∧ a ≤ a' ∧ a' ≤ a + 10 := by
  by_cases h : (m.length : Int) > 1
  · obtain ⟨b, a1, sd1, e1, b1, b2⟩ := one_ok c hc a h0 (by omega) sd 20 (by omega)
    cases b with
    | true =>
      obtain ⟨v, a2, sd2, e2, v0, v1, b3, b4⟩ := pick_ok c hc a1 (by omega) (by omega) sd1 3 (by omega)
      obtain ⟨n, rfl⟩ := Int.eq_ofNat_of_zero_le v0
      have hz : 0 < m.length := by omega
      have e : rd_T61 (shl m) 0 = ⟨((m[0].1 : Nat) : Int), ((m[0].2 : Nat) : Int)⟩ := rd_shl (n := 0) hz
      have em : (n : Int) % 256 = (n : Int) := by omega
      refine ⟨m.set 0 (n, m[0].2), a2, sd2, ?_, pts_set hm 0 n _ (by omega) (hm _ (List.getElem_mem hz)).2, by simpa using hl, by omega, by omega⟩
      apply K.Ev.succ
      simp only [spec_l1Cur_shares.j2, shl_length, if_pos h, e1, Option.bind_some, if_true, e2, if_pos (show 0 < (m.length : Int) by omega), e, em]
      rw [← shl_set]
      exact Ev.now _
    | false =>
      refine ⟨m, a1, sd1, ?_, hm, hl, by omega, by omega⟩
      apply K.Ev.succ
      simp only [spec_l1Cur_shares.j2, shl_length, if_pos h, e1, Option.bind_some, Bool.false_eq_true, if_false]
      exact Ev.now _
  · refine ⟨m, a, sd, ?_, hm, hl, by omega, by omega⟩
    apply K.Ev.succ
    simp only [spec_l1Cur_shares.j2, shl_length, if_neg h]
    exact Ev.now _
theorem curShares_j1 (c : List Int) (hc : K.Code c) (m : List (Nat × Nat)) (hm : K.Pts m) (hl : m.length ≤ 20) (b : Bool) (hb : b = true → 0 < m.length) (a : Int) (h0 : 0 ≤ a) (h1 : a ≤ 700000000000000000) (sd : Int) : ∃ (m2 : List (Nat × Nat)) (a' sd' : Int), Ev (fun k => spec_l1Cur_shares.j1 k (shl m) b c a sd) (shl m2, a', sd') ∧ K.Pts m2 ∧ m2.length ≤ 20 ∧ a ≤ a' ∧ a' ≤ a + 20 := by
  cases b with
  | false =>
    obtain ⟨m2, a', sd', e, r1, r2, r3, r4⟩ := curShares_j2 c hc m hm hl a h0 (by omega) sd
    refine ⟨m2, a', sd', ?_, r1, r2, by omega, by omega⟩
    apply K.Ev.succ
    simp only [spec_l1Cur_shares.j1, Bool.false_eq_true, if_false]; exact e
  | true =>
    have hz := hb rfl
    obtain ⟨v, a1, sd1, e1, v0, v1, b1, b2⟩ := pick_ok c hc a h0 (by omega) sd (m.length : Int) (by omega)
    obtain ⟨y, a2, sd2, e2, y0, y1, b3, b4⟩ := byte_ok c hc a1 (by omega) (by omega) sd1
    obtain ⟨n, rfl⟩ := Int.eq_ofNat_of_zero_le v0
    obtain ⟨y, rfl⟩ := Int.eq_ofNat_of_zero_le y0
    have hn : n < m.length := by omega
    obtain ⟨m2, a', sd', e, r1, r2, r3, r4⟩ := curShares_j2 c hc (m.set n (m[n].1, y)) (pts_set hm n _ _ (hm _ (List.getElem_mem hn)).1 (by omega)) (by simpa using hl) a2 (by omega) (by omega) sd2
    refine ⟨m2, a', sd', ?_, r1, r2, by omega, by omega⟩
    apply K.Ev.succ
    simp only [spec_l1Cur_shares.j1, if_true, shl_length, e1, Option.bind_some, e2, if_pos (show 0 ≤ (n : Int) by omega), if_pos (show (n : Int) < (m.length : Int) by omega), rd_shl hn, Int.toNat_natCast, shl_set]
    exact e
theorem curShares_loop (c : List Int) (hc : K.Code c) (s : List (Nat × Nat)) (hs : K.Pts s) (hsl : s.length ≤ 20) : ∀ (d i : Nat) (m : List (Nat × Nat)) (a sd : Int), i + d = s.length → K.Pts m → m.length ≤ i → 0 ≤ a → a + 4 * d ≤ 600000000000000000 → ∃ (m2 : List (Nat × Nat)) (a' sd' : Int), Ev (fun k => spec_l1Cur_shares.l0 k (shl m) (shl s) (s.length : Int) (i : Int) c a sd) (shl m2, a', sd') ∧ K.Pts m2 ∧ m2.length ≤ 20 ∧ a ≤ a' ∧ a' ≤ a + 4 * d + 30 := by
  intro d
  induction d with
  | zero =>
    intro i m a sd h1 hm hl h0 h2
    have c0 : ¬ ((i : Int) < (s.length : Int)) := by omega
    by_cases h : (m.length : Int) > 0
    · obtain ⟨b, a1, sd1, e1, b1, b2⟩ := one_ok c hc a h0 (by omega) sd 5 (by omega)
      obtain ⟨m2, a', sd', e, r1, r2, r3, r4⟩ := curShares_j1 c hc m hm (by omega) b (fun _ => by omega) a1 (by omega) (by omega) sd1
      refine ⟨m2, a', sd', ?_, r1, r2, by omega, by omega⟩
      apply K.Ev.succ
      simp only [spec_l1Cur_shares.l0, if_neg c0, shl_length, if_pos h, e1, Option.bind_some]; exact e
    · obtain ⟨m2, a', sd', e, r1, r2, r3, r4⟩ := curShares_j1 c hc m hm (by omega) false (fun h => by cases h) a h0 (by omega) sd
      refine ⟨m2, a', sd', ?_, r1, r2, by omega, by omega⟩
      apply K.Ev.succ
      simp only [spec_l1Cur_shares.l0, if_neg c0, shl_length, if_neg h]; exact e
  | succ d ih =>
    intro i m a sd h1 hm hl h0 h2
    have hi : i < s.length := by omega
    have ws := K.w64s i (show i < 9223372036854775807 by omega)
    obtain ⟨b, a1, sd1, e1, b1, b2⟩ := one_ok c hc a h0 (by omega) sd 4 (by omega)
    cases b with
    | true =>
      obtain ⟨m2, a', sd', e, r1, r2, r3, r4⟩ := ih (i + 1) m a1 sd1 (by omega) hm (by omega) (by omega) (by omega)
      refine ⟨m2, a', sd', ?_, r1, r2, by omega, by omega⟩
      apply K.Ev.succ
      simp only [spec_l1Cur_shares.l0, if_pos (show (i : Int) < (s.length : Int) by omega), if_pos (show 0 ≤ (i : Int) by omega), shl_length, e1, Option.bind_some, if_true, ws]; exact e
    | false =>
      obtain ⟨m2, a', sd', e, r1, r2, r3, r4⟩ := ih (i + 1) (m ++ [(s[i].1, s[i].2)]) a1 sd1 (by omega) (fun p hp => by
        rcases List.mem_append.1 hp with h | h
        · exact hm p h
        · rw [List.mem_singleton.1 h]; exact hs _ (List.getElem_mem hi)) (by simp; omega) (by omega) (by omega)
      refine ⟨m2, a', sd', ?_, r1, r2, by omega, by omega⟩
      apply K.Ev.succ
      simp only [spec_l1Cur_shares.l0, if_pos (show (i : Int) < (s.length : Int) by omega), if_pos (show 0 ≤ (i : Int) by omega), shl_length, e1, Option.bind_some, Bool.false_eq_true, if_false, ws, rd_shl hi, shl_snoc, if_pos (show m.length < 70368744177664 by omega)]; exact e
theorem shares_ok (c : List Int) (hc : K.Code c) (a : Int) (h0 : 0 ≤ a) (h1 : a ≤ 500000000000000000) (sd : Int) : ∃ (m : List (Nat × Nat)) (a' sd' : Int), Ev (fun k => spec_l1Cur_shares.f k c a sd) (shl m, a', sd') ∧ K.Pts m ∧ m.length ≤ 20 ∧ a ≤ a' ∧ a' ≤ a + 1000 := by
  obtain ⟨x, a1, sd1, e1, x0, x1, b1, b2⟩ := byte_ok c hc a h0 (by omega) sd
  obtain ⟨v, a2, sd2, e2, v0, v1, b3, b4⟩ := pick_ok c hc a1 (by omega) (by omega) sd1 5 (by omega)
  obtain ⟨n, rfl⟩ := Int.eq_ofNat_of_zero_le v0
  obtain ⟨x, rfl⟩ := Int.eq_ofNat_of_zero_le x0
  obtain ⟨l, a3, sd3, e3, l1, l2, b5, b6⟩ := vector_ok c hc n (by omega) a2 (by omega) (by omega) sd2
  obtain ⟨l, rfl, hb⟩ := K.il_of l2
  rw [K.il_length] at l1
  obtain ⟨u, a4, sd4, e4, u0, u1, b7, b8⟩ := pick_ok c hc a3 (by omega) (by omega) sd3 8 (by omega)
  obtain ⟨u, rfl⟩ := Int.eq_ofNat_of_zero_le u0
  have hu : wrap64 (1 + (u : Int)) = ((u + 1 : Nat) : Int) := by rw [K.w64 (by omega) (by omega)]; omega
  have hb2 : K.Bytes (x :: l) := fun y hy => by
    rcases List.mem_cons.1 hy with rfl | hy
    · omega
    · exact hb y hy
  have es := specShare_ev x l (by omega) hb (by omega) (u + 1) (by omega) (by omega)
  obtain ⟨m2, a', sd', e, r1, r2, r3, r4⟩ := curShares_loop c hc (sharesOf (x :: l) (u + 1)) (sharesOf_pts _ hb2 _ (by omega)) (by rw [sharesOf_length]; omega) (u + 1) 0 [] a4 sd4 (by rw [sharesOf_length]; omega) (fun p hp => by cases hp) (by simp) (by omega) (by omega)
  refine ⟨m2, a', sd', ?_, r1, r2, by omega, by omega⟩
  simp only [spec_l1Cur_shares.f, e1, Option.bind_some, e2]
  refine Ev.bind e3 ?_
  simp only [e4, Option.bind_some, hu]
  refine Ev.bind es ?_
  simp only [shl_length]
  exact e

theorem drawInterpolate_ok (c : List Int) (hc : K.Code c) : ∃ (m : List (Nat × Nat)) (x : Nat), Ev (fun k => spec_DrawInterpolate.f k c) (shl m, (x : Int)) ∧ K.Pts m ∧ m.length ≤ 20 ∧ x < 256 := by
  obtain ⟨m, a1, sd1, e1, r1, r2, b1, b2⟩ := shares_ok c hc 0 (by omega) (by omega) 0
  obtain ⟨x, a2, sd2, e2, x0, x1, _, _⟩ := byte_ok c hc a1 (by omega) (by omega) sd1
  obtain ⟨x, rfl⟩ := Int.eq_ofNat_of_zero_le x0
  refine ⟨m, x, ?_, r1, r2, by omega⟩
  simp only [spec_DrawInterpolate.f]
  refine Ev.bind e1 ?_
  simp only [e2, Option.bind_some]
  exact Ev.now _

theorem sameB_self (l : List Int) : laws_sameBytes.f l l = some true := by simp [laws_sameBytes.f]
theorem numberOf_ok (c : List Int) (hc : K.Code c) : ∃ v : Int, Ev (fun k => laws_numberOf.f k c) v ∧ 0 ≤ v := by
  have hlen := hc.len
  have key : ∀ (d n : Nat) (v : Int), n + d = c.length → 0 ≤ v → v ≤ 1000003 → ∃ r : Int, Ev (fun k => laws_numberOf.l0 k v c (c.length : Int) (n : Int)) r ∧ 0 ≤ r := by
    intro d
    induction d with
    | zero =>
      intro n v h1 h2 h3
      refine ⟨v, ?_, h2⟩
      apply K.Ev.succ
      simp only [laws_numberOf.l0, if_neg (show ¬ ((n : Int) < (c.length : Int)) by omega)]
      exact Ev.now _
    | succ d ih =>
      intro n v h1 h2 h3
      have hr := hc.rd_rng (n : Int)
      have w1 : K.Eqn (wrap64 (31 * v)) (31 * v) := ⟨K.w64 (by omega) (by omega)⟩
      have w2 : K.Eqn (wrap64 (rd c (n : Int))) (rd c (n : Int)) := ⟨K.w64 (by omega) (by omega)⟩
      have w3 : K.Eqn (wrap64 (31 * v + rd c (n : Int))) (31 * v + rd c (n : Int)) := ⟨K.w64 (by omega) (by omega)⟩
      have t1 : 0 ≤ Int.tmod (31 * v + rd c (n : Int)) 1000003 := Int.tmod_nonneg _ (by omega)
      have t2 : Int.tmod (31 * v + rd c (n : Int)) 1000003 < 1000003 := Int.tmod_lt_of_pos _ (by omega)
      obtain ⟨r, e, h⟩ := ih (n + 1) _ (by omega) t1 (by omega)
      refine ⟨r, ?_, h⟩
      apply K.Ev.succ
      simp only [laws_numberOf.l0, if_pos (show (n : Int) < (c.length : Int) by omega), if_pos (show (0 : Int) ≤ (n : Int) by omega), w1.out, w2.out, w3.out, K.w64s n (show n < 9223372036854775807 by omega)]
      exact e
  obtain ⟨v, e, h⟩ := key c.length 0 0 (by omega) (by omega) (by omega)
  exact ⟨v, by simp only [laws_numberOf.f]; exact e, h⟩

/-- Whether a polynomial goes through points. -/
def thru (p : List Nat) (m : List (Nat × Nat)) : Bool := m.all (fun q => K.peval p q.1 == q.2)
theorem secret_l0 (c : List Int) (m : List (Nat × Nat)) (hm : ∀ p ∈ m, p.1 < 256 ∧ p.2 < 256) (hl : m.length ≤ 20) (r : List Int) (p : List Nat) (hp : K.Bytes p) (hpl : p.length ≤ 20) (ht : ∀ q ∈ m, K.peval p q.1 = q.2) (X : Bool)
    (fin : Ev (fun k => laws_FnSecret.l0 k c (shl m) r (K.il p) (shl m) (m.length : Int) (m.length : Int)) X) : Ev (fun k => laws_FnSecret.l0 k c (shl m) r (K.il p) (shl m) (m.length : Int) 0) X := by
  have key : ∀ (d i : Nat), i + d = m.length → Ev (fun k => laws_FnSecret.l0 k c (shl m) r (K.il p) (shl m) (m.length : Int) (i : Int)) X := by
    intro d
    induction d with
    | zero =>
      intro i hi
      obtain rfl : i = m.length := by omega
      exact fin
    | succ d ih =>
      intro i hi
      have hil : i < m.length := by omega
      have hq := hm m[i] (List.getElem_mem hil)
      have he := ht m[i] (List.getElem_mem hil)
      have hx := ih (i + 1) (by omega)
      have hv := polyAt_good p hpl hp m[i].1 hq.1
      rw [he] at hv
      apply K.Ev.succ
      simp only [laws_FnSecret.l0, if_pos (show (i : Int) < (m.length : Int) by omega), if_pos (show (0 : Int) ≤ (i : Int) by omega), shl_length, rd_shl hil]
      refine Ev.bind hv ?_
      simp only [if_true, K.w64s i (show i < 9223372036854775807 by omega)]
      exact hx
  exact key m.length 0 (by omega)
theorem secret_l1 (m : List (Nat × Nat)) (hm : ∀ p ∈ m, p.1 < 256 ∧ p.2 < 256) (hl : m.length ≤ 20) (r : List Int) (p : List Nat) (hp : K.Bytes p) (hpl : p.length ≤ 20) (X : Bool)
    (fin : Ev (fun k => laws_FnSecret.l1 k (shl m) r (K.il p) (thru p m) (shl m) (m.length : Int) (m.length : Int)) X) : Ev (fun k => laws_FnSecret.l1 k (shl m) r (K.il p) true (shl m) (m.length : Int) 0) X := by
  have key : ∀ (d i : Nat), i + d = m.length → Ev (fun k => laws_FnSecret.l1 k (shl m) r (K.il p) (thru p (m.take i)) (shl m) (m.length : Int) (i : Int)) X := by
    intro d
    induction d with
    | zero =>
      intro i hi
      obtain rfl : i = m.length := by omega
      rw [List.take_length]
      exact fin
    | succ d ih =>
      intro i hi
      have hil : i < m.length := by omega
      have hq := hm m[i] (List.getElem_mem hil)
      have hx := ih (i + 1) (by omega)
      have hv := polyAt_good p hpl hp m[i].1 hq.1
      have e : thru p (m.take (i + 1)) = (thru p (m.take i) && (K.peval p m[i].1 == m[i].2)) := by
        unfold thru
        rw [K.take_succ' _ _ hil, List.all_append, List.all_cons, List.all_nil, Bool.and_true]
      have eb : ((((K.peval p m[i].1 : Nat) : Int)) == ((m[i].2 : Nat) : Int)) = (K.peval p m[i].1 == m[i].2) := by
        by_cases q : K.peval p m[i].1 = m[i].2
        · simp [q]
        · have : ((K.peval p m[i].1 : Nat) : Int) ≠ ((m[i].2 : Nat) : Int) := by omega
          rw [beq_false_of_ne this, beq_false_of_ne q]
      rw [e] at hx
      apply K.Ev.succ
      simp only [laws_FnSecret.l1, if_pos (show (i : Int) < (m.length : Int) by omega), if_pos (show (0 : Int) ≤ (i : Int) by omega), shl_length, rd_shl hil]
      refine Ev.bind hv ?_
      simp only [K.w64s i (show i < 9223372036854775807 by omega), eb]
      cases hb : thru p (m.take i) with
      | true =>
        rw [hb, Bool.true_and] at hx
        simp only [if_true]
        exact hx
      | false =>
        rw [hb, Bool.false_and] at hx
        simp only [Bool.false_eq_true, if_false]
        exact hx
  exact key m.length 0 (by omega)
theorem FnSecret : laws_FnSecret.Pure := by
  intro c1 c2 _ hl1 hw1 _ hl2 hw2
  have hc1 : K.Code c1 := ⟨by omega, fun x h => K.b_u8 (hw1 x h)⟩
  have hc2 : K.Code c2 := ⟨by omega, fun x h => K.b_u8 (hw2 x h)⟩
  refine Ev.rounds (?_ : Ev (fun k => laws_FnSecret.f k c1 c2) true)
  unfold laws_FnSecret.f
  by_cases h : (wrap64 ((c1.length : Int) + (c2.length : Int))) > 1048576
  · simp only [if_pos h]; exact Ev.now _
  simp only [if_neg h]
  obtain ⟨m, s, e1, m1, m2, hs⟩ := drawInterpolate_ok c1 hc1
  have e2 : Ev (fun k => spec_DrawRandomFor.f k c1) (shl m, (s : Int)) := by
    simp only [spec_DrawRandomFor.f]
    exact Ev.bind e1 (Ev.now _)
  obtain ⟨r1, r2⟩ := randomFor_both m m1 (by omega) s hs
  refine Ev.bind e2 ?_
  by_cases g : GoodShares m ∧ m.length ≤ 8
  case neg =>
    refine Ev.bind (r1 g).2 ?_
    refine Ev.bind (r1 g).1 ?_
    simp only [bne_self_eq_false, Bool.false_eq_true, if_false, sameB_self, Option.bind_some, Bool.not_true]
    apply K.Ev.succ
    simp only [laws_FnSecret.j0, Bool.false_eq_true, if_false]
    exact Ev.now _
  obtain ⟨good, g8⟩ := g
  have gi := (goodShares_iff m).1 good
  have h0 : ∀ p ∈ m, p.1 ≠ 0 := fun p hp => by
    obtain ⟨i, hi, rfl⟩ := List.mem_iff_getElem.1 hp
    exact (gi.2 i hi).1
  have hM := K.smat_mat m
  have hV := K.svals_vec m1 hs
  have found := K.shares_found m1 h0 good.nodup (by omega) hs
  have uniq := fun (l : List Nat) (hv : K.Vec m.length l) hh => K.shares_unique (l := l) m1 h0 good.nodup (by omega) hs hv hh
  have rl : (K.app (K.minv (K.smat m)).1 (K.svals m s)).length = m.length := by rw [K.app_length, (K.minv_mat hM).len]
  have rb : K.Bytes (K.app (K.minv (K.smat m)).1 (K.svals m s)) := K.app_bytes (K.minv_mat hM) _
  have y := r2 good g8
  clear r1 r2
  generalize K.app (K.minv (K.smat m)).1 (K.svals m s) = r at found uniq rl rb y
  refine Ev.bind y.2 ?_
  refine Ev.bind y.1 ?_
  simp only [bne_self_eq_false, Bool.false_eq_true, if_false, sameB_self, Option.bind_some, Bool.not_true]
  have pb : K.Bytes (s :: r) := fun z hz => by
    rcases List.mem_cons.1 hz with rfl | hz
    · exact hs
    · exact rb z hz
  have e : [(s : Int)] ++ K.il r = K.il (s :: r) := rfl
  apply K.Ev.succ
  simp only [laws_FnSecret.j0, Bool.false_eq_true, if_false, if_true, Option.bind_some, e, K.il_length, List.length_cons, List.length_nil, if_pos (show 0 + 1 + r.length < 140737488355328 by omega), shl_length]
  refine secret_l0 c2 m m1 m2 (K.il r) (s :: r) pb (by simp; omega) found true ?_
  apply K.Ev.succ
  simp only [laws_FnSecret.l0, if_neg (show ¬ ((m.length : Int) < (m.length : Int)) by omega), K.il_length, rl, shl_length]
  by_cases hz : (m.length : Int) > 0
  case neg =>
    simp only [if_neg hz, beq_self_eq_true]
    exact Ev.now _
  simp only [if_pos hz]
  obtain ⟨v, ev, v0⟩ := numberOf_ok c2 hc2
  obtain ⟨v, rfl⟩ := Int.eq_ofNat_of_zero_le v0
  have hj : v % m.length < m.length := Nat.mod_lt _ (by omega)
  have tm : K.Eqn (Int.tmod (v : Int) (m.length : Int)) ((v % m.length : Nat) : Int) := ⟨by
    rw [Int.tmod_eq_emod_of_nonneg (by omega)]; rfl⟩
  generalize v % m.length = j at hj tm
  have wj : K.Eqn (wrap64 (1 + (j : Int))) ((j + 1 : Nat) : Int) := ⟨by rw [K.w64 (by omega) (by omega)]; omega⟩
  simp only [Option.bind_some, List.nil_append, List.length_cons, List.length_nil, K.il_length, if_pos (show 0 + (r.length + 1) < 140737488355328 by omega)]
  refine Ev.bind ev ?_
  have hjr : j < r.length := by rw [rl]; exact hj
  have hx1 := K.xor_u8 (rb r[j] (List.getElem_mem hjr)) (show (1 : Nat) < 256 by omega)
  have rdj : rd (K.il (s :: r)) ((j + 1 : Nat) : Int) = ((r[j] : Nat) : Int) := by
    rw [K.rd_il (by simp; omega)]; simp
  have hset : (K.il (s :: r)).set (j + 1) (((r[j] ^^^ 1 : Nat)) : Int) = K.il (s :: r.set j (r[j] ^^^ 1)) := by simp [K.il, List.map_set]
  have one : ((1 : Nat) : Int) = 1 := rfl
  rw [one] at hx1
  simp only [tm.out, wj.out, if_neg (show ¬ (m.length : Int) = 0 by omega), if_pos (show (0 : Int) ≤ ((j + 1 : Nat) : Int) by omega), if_pos (show ((j + 1 : Nat) : Int) < ((r.length + 1 : Nat) : Int) by omega), Int.toNat_natCast, rdj, hx1, hset]
  have qb : K.Bytes (r.set j (r[j] ^^^ 1)) := fun z hz => by
    rcases List.mem_or_eq_of_mem_set hz with q | rfl
    · exact rb z q
    · exact K.xlt (rb _ (List.getElem_mem hjr)) (by omega)
  have qb2 : K.Bytes (s :: r.set j (r[j] ^^^ 1)) := fun z hz => by
    rcases List.mem_cons.1 hz with rfl | hz
    · exact hs
    · exact qb z hz
  refine secret_l1 m m1 m2 (K.il r) (s :: r.set j (r[j] ^^^ 1)) qb2 (by simp; omega) true ?_
  have nt : thru (s :: r.set j (r[j] ^^^ 1)) m = false := by
    cases ht : thru (s :: r.set j (r[j] ^^^ 1)) m with
    | false => rfl
    | true =>
      exfalso
      have hh : ∀ p ∈ m, K.peval (s :: r.set j (r[j] ^^^ 1)) p.1 = p.2 := fun p hp => by
        have := List.all_eq_true.1 ht p hp
        simpa using this
      have u := uniq (r.set j (r[j] ^^^ 1)) ⟨by simp [rl], qb⟩ hh
      have u2 : (r.set j (r[j] ^^^ 1))[j]'(by simp; exact hjr) = r[j] ^^^ 1 := by simp
      have u3 : r[j] = r[j] ^^^ 1 := by
        rw [← u2]
        exact List.getElem_of_eq u hjr
      have u4 : r[j] ^^^ r[j] = r[j] ^^^ (r[j] ^^^ 1) := by rw [← u3]
      rw [← Nat.xor_assoc, Nat.xor_self, Nat.zero_xor] at u4
      omega
  rw [nt]
  apply K.Ev.succ
  simp only [laws_FnSecret.l1, if_neg (show ¬ ((m.length : Int) < (m.length : Int)) by omega), Bool.false_eq_true, if_false, K.il_length, rl, shl_length, beq_self_eq_true]
  exact Ev.now _

end Go.Proofs.Ytekaaoeojbclfaa.Pure
