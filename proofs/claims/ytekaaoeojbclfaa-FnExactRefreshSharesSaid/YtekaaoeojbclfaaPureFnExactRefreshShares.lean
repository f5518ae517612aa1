/- The law FnExactRefreshShares answers true for every slice of shares and every slice of bytes: the program's fresh shares are the reference's, both arguments stay, and no later call changes what was handed back. -/
import Derived.Test.YtekaaoeojbclfaaPFnExactRefreshSharesx5
import Derived.Test.YtekaaoeojbclfaaKKit
import Derived.Test.YtekaaoeojbclfaaKGF
set_option linter.unusedVariables false
set_option linter.unusedSimpArgs false
namespace Go.Proofs.Ytekaaoeojbclfaa.Pure
open Go Go.RowKit Go.Proofs.Ytekaaoeojbclfaa Go.Proofs.Ytekaaoeojbclfaa.PFnExactRefreshShares Go.Proofs.YtekaaoeojbclfaaW.PrintWords Go.Proofs.YtekaaoeojbclfaaW.PrintLast Go.Proofs.YtekaaoeojbclfaaW.PrintMore


theorem laws_toByteS_ev (l : List Int) (hl : l.length ≤ 1048576) : Ev (fun k => laws_toByteS.f k l) (l) := by
  have key : ∀ (d n : Nat) (x : List _), n + d = l.length → x.length = l.length → x.take n = (l).take n → Ev (fun k => laws_toByteS.l0 k l x (n : Int)) (l) := by
    intro d
    induction d with
    | zero =>
      intro n x h1 h2 h3
      apply K.Ev.succ
      simp only [laws_toByteS.l0, if_neg (show ¬ ((n : Int) < (l.length : Int)) by omega)]
      have e : x = (l) := by
        rw [List.take_of_length_le (by omega), List.take_of_length_le (by first | omega | (simp; omega))] at h3; exact h3
      rw [e]; exact Ev.now _
    | succ d ih =>
      intro n x h1 h2 h3
      apply K.Ev.succ
      have hn : n < l.length := by omega
      simp only [laws_toByteS.l0, if_pos (show (n : Int) < (l.length : Int) by omega), if_pos (show (0 : Int) ≤ (n : Int) by omega), if_pos (show (n : Int) < (x.length : Int) by omega), Int.toNat_natCast]
      
      rw [K.w64s n (by omega)]
      refine ih (n + 1) _ (by omega) (by simpa using h2) ?_
      rw [K.take_set _ _ _ (by omega), K.take_succ' (l) n (by simpa using hn), h3]
      rw [K.rd_nat hn]
  unfold laws_toByteS.f
  simp only [if_pos (show (0 : Int) ≤ (l.length : Int) by omega), Int.toNat_natCast, if_pos (show l.length ≤ 281474976710656 by omega)]
  exact key l.length 0 _ (by omega) (by simp) (by simp)


theorem laws_eqByteS_self (l : List Int) (hl : l.length ≤ 140737488355328) : Ev (fun k => laws_eqByteS.f k l l) true := by
  have key : ∀ (d n : Nat), n + d = l.length → Ev (fun k => laws_eqByteS.l0 k l l (n : Int)) true := by
    intro d
    induction d with
    | zero =>
      intro n h1
      apply K.Ev.succ
      simp only [laws_eqByteS.l0, if_neg (show ¬ ((n : Int) < (l.length : Int)) by omega)]
      exact Ev.now _
    | succ d ih =>
      intro n h1
      apply K.Ev.succ
      simp only [laws_eqByteS.l0, if_pos (show (n : Int) < (l.length : Int) by omega), if_pos (show (0 : Int) ≤ (n : Int) by omega), if_true]
      rw [K.w64s n (by omega)]
      exact ih (n + 1) (by omega)
  unfold laws_eqByteS.f
  simp only [if_true]
  exact key l.length 0 (by omega)

theorem szShareS_eq (l : List S87) (hl : l.length ≤ maxLen) : laws_szShareS.f l 1048576 = some (if l.length ≤ 1048576 then 1048576 - (l.length : Int) else -1) := by
  have h : l.length ≤ 9223372036854775807 := hl
  have w : wrap64 (1048576 - (l.length : Int)) = 1048576 - (l.length : Int) := K.w64 (by omega) (by omega)
  simp only [laws_szShareS.f, w]
  by_cases h2 : l.length ≤ 1048576
  · rw [if_neg (by omega), if_pos h2]
  · rw [if_pos (by omega), if_neg h2]

/-- The law's shares as the program's. -/
def shareOf (r : S87) : S61 := ⟨r.f0, r.f1⟩
theorem laws_toShareS_ev (l : List S87) (hl : l.length ≤ 1048576) : Ev (fun k => laws_toShareS.f k l) (l.map shareOf) := by
  have key : ∀ (d n : Nat) (x : List S61), n + d = l.length → x.length = l.length → x.take n = (l.map shareOf).take n → Ev (fun k => laws_toShareS.l0 k l x (n : Int)) (l.map shareOf) := by
    intro d
    induction d with
    | zero =>
      intro n x h1 h2 h3
      apply K.Ev.succ
      simp only [laws_toShareS.l0, if_neg (show ¬ ((n : Int) < (l.length : Int)) by omega)]
      have e : x = l.map shareOf := by
        rw [List.take_of_length_le (by omega), List.take_of_length_le (by simp; omega)] at h3; exact h3
      rw [e]; exact Ev.now _
    | succ d ih =>
      intro n x h1 h2 h3
      apply K.Ev.succ
      have hn : n < l.length := by omega
      have hr : rd_T87 l (n : Int) = l[n] := by simp [rd_T87, List.getElem?_eq_getElem hn]
      simp only [laws_toShareS.l0, if_pos (show (n : Int) < (l.length : Int) by omega), if_pos (show (0 : Int) ≤ (n : Int) by omega), laws_toShare.f, Option.bind_some, if_pos (show (n : Int) < (x.length : Int) by omega), Int.toNat_natCast, hr]
      rw [K.w64s n (by omega)]
      refine ih (n + 1) _ (by omega) (by simpa using h2) ?_
      rw [K.take_set _ _ _ (by omega), K.take_succ' (l.map shareOf) n (by simpa using hn), h3]
      simp [shareOf]
  unfold laws_toShareS.f
  simp only [if_pos (show (0 : Int) ≤ (l.length : Int) by omega), Int.toNat_natCast, if_pos (show l.length ≤ 140737488355328 by omega)]
  exact key l.length 0 _ (by omega) (by simp) (by simp)

theorem laws_eqShareS_self (l : List S61) (hl : l.length ≤ 140737488355328) : Ev (fun k => laws_eqShareS.f k l l) true := by
  have key : ∀ (d n : Nat), n + d = l.length → Ev (fun k => laws_eqShareS.l0 k l l (n : Int)) true := by
    intro d
    induction d with
    | zero =>
      intro n h1
      apply K.Ev.succ
      simp only [laws_eqShareS.l0, if_neg (show ¬ ((n : Int) < (l.length : Int)) by omega)]
      exact Ev.now _
    | succ d ih =>
      intro n h1
      apply K.Ev.succ
      simp only [laws_eqShareS.l0, if_pos (show (n : Int) < (l.length : Int) by omega), if_pos (show (0 : Int) ≤ (n : Int) by omega), laws_eqShare.f, if_true, Option.bind_some]
      rw [K.w64s n (by omega)]
      exact ih (n + 1) (by omega)
  unfold laws_eqShareS.f
  simp only [if_true]
  exact key l.length 0 (by omega)

theorem l1Times_ev (a b : Nat) (ha : a < 256) (hb : b < 256) : Ev (fun k => spec_l1Times.f k (a : Int) (b : Int)) ((K.gmul a b : Nat) : Int) := by
  have key : ∀ (n x y o : Nat), x < 256 → o < 256 → y < 2 ^ n → n ≤ 8 → Ev (fun k => spec_l1Times.l0 k (o : Int) (x : Int) (y : Int)) ((K.gstep n x y o : Nat) : Int) := by
    intro n
    induction n with
    | zero =>
      intro x y o hx ho hy _
      obtain rfl : y = 0 := by simpa using hy
      apply K.Ev.succ
      simp only [spec_l1Times.l0, show ¬ (((0 : Nat) : Int) > 0) by omega, if_false, K.gstep]
      exact K.Ev.const (by rw [show (o : Int) % 256 = (o : Int) by omega])
    | succ n ih =>
      intro x y o hx ho hy hn
      by_cases h0 : y = 0
      · subst h0
        apply K.Ev.succ
        rw [K.gstep_zero]
        simp only [spec_l1Times.l0, show ¬ (((0 : Nat) : Int) > 0) by omega, if_false]
        exact K.Ev.const (by rw [show (o : Int) % 256 = (o : Int) by omega])
      have hy2 : y < 512 := Nat.lt_of_lt_of_le hy (by
        have : 2 ^ (n + 1) ≤ 2 ^ 9 := Nat.pow_le_pow_right (by omega) (by omega)
        omega)
      have w : K.Eqn (wrap64 ((x : Int) * 2)) ((2 * x : Nat) : Int) := ⟨by rw [K.w64 (by omega) (by omega)]; omega⟩
      have hx2 : (if ((2 * x : Nat) : Int) > 255 then Go.bits .xor .i64 ((2 * x : Nat) : Int) 283 else ((2 * x : Nat) : Int)) = ((K.xt x : Nat) : Int) := by
        unfold K.xt
        by_cases h : 2 * x > 255
        · rw [if_pos (by omega), if_pos h]
          exact K.xor_i64 (b := 283) (by omega) (by omega)
        · rw [if_neg (by omega), if_neg h]
      have hy' : (y : Int) / 2 = ((y / 2 : Nat) : Int) := by omega
      have hnext := ih (K.xt x) (y / 2) (if y % 2 = 1 then o ^^^ x else o) (K.xt_lt hx) (by
        split
        · exact Nat.xor_lt_two_pow (n := 8) ho hx
        · exact ho) (by rw [Nat.pow_succ] at hy; omega) (by omega)
      apply K.Ev.succ
      simp only [spec_l1Times.l0, if_pos (show (y : Int) > 0 by omega), K.and_i64_1 (show y < 1024 by omega), w.out, K.xor_i64 (show o < 1024 by omega) (show x < 1024 by omega), hy']
      by_cases h1 : y % 2 = 1
      · rw [if_pos h1] at hnext
        simp only [h1, show (((1 : Nat) : Int) = 1) = True by simp, if_true, K.gstep]
        by_cases h2 : ((2 * x : Nat) : Int) > 255
        · rw [if_pos h2] at hx2
          simp only [if_pos h2]
          simp only [hx2]
          exact hnext
        · rw [if_neg h2] at hx2
          simp only [if_neg h2]
          simp only [hx2]
          exact hnext
      · rw [if_neg h1] at hnext
        have h1' : ¬ (((y % 2 : Nat) : Int) = 1) := by omega
        simp only [if_neg h1', K.gstep, if_neg h1]
        by_cases h2 : ((2 * x : Nat) : Int) > 255
        · rw [if_pos h2] at hx2
          simp only [if_pos h2]
          simp only [hx2]
          exact hnext
        · rw [if_neg h2] at hx2
          simp only [if_neg h2]
          simp only [hx2]
          exact hnext
  have wa : K.Eqn (wrap64 (a : Int)) (a : Int) := ⟨K.w64 (by omega) (by omega)⟩
  have wb : K.Eqn (wrap64 (b : Int)) (b : Int) := ⟨K.w64 (by omega) (by omega)⟩
  simp only [spec_l1Times.f, wa.out, wb.out]
  exact key 8 a b 0 ha (by omega) (by omega) (by omega)

theorem l7At_ev (l : List Nat) (hl : l.length ≤ 1048576) (hb : K.Bytes l) (x : Nat) (hx : x < 256) : Ev (fun k => spec_l7At.f k (K.il l) (x : Int)) ((K.peval l x : Nat) : Int) := by
  have key : ∀ (n : Nat), n ≤ l.length → Ev (fun k => spec_l7At.l0 k (K.il l) (x : Int) ((K.peval (l.drop n) x : Nat) : Int) ((n : Int) - 1)) ((K.peval l x : Nat) : Int) := by
    intro n
    induction n with
    | zero =>
      intro _
      apply K.Ev.succ
      simp only [spec_l7At.l0, show ¬ (((0 : Nat) : Int) - 1 ≥ 0) by omega, if_false, List.drop_zero]
      exact Ev.now _
    | succ n ih =>
      intro h
      have hn : n < l.length := by omega
      have hd : K.Bytes (l.drop (n + 1)) := fun y hy => hb y (List.mem_of_mem_drop hy)
      have e : (((n + 1 : Nat) : Int) - 1) = (n : Int) := by omega
      have w : K.Eqn (wrap64 ((n : Int) - 1)) ((n : Int) - 1) := ⟨K.w64 (by omega) (by omega)⟩
      have hp := K.peval_lt hd x
      apply K.Ev.succ
      simp only [spec_l7At.l0, e, if_pos (show (n : Int) ≥ 0 by omega)]
      refine Ev.bind (l1Times_ev _ x hp hx) ?_
      simp only [if_pos (show 0 ≤ (n : Int) by omega), K.il_length, if_pos (show (n : Int) < (l.length : Int) by omega), K.rd_il hn, K.xor_u8 (K.gmul_lt (b := x) hp) (hb l[n] (List.getElem_mem hn)), w.out]
      have := ih (by omega)
      rw [List.drop_eq_getElem_cons hn] at this
      exact this
  have w : K.Eqn (wrap64 ((l.length : Int) - 1)) ((l.length : Int) - 1) := ⟨K.w64 (by omega) (by omega)⟩
  simp only [spec_l7At.f, K.il_length, w.out]
  have := key l.length (Nat.le_refl _)
  rw [List.drop_length] at this
  exact this

theorem areShares_same (l : List S61) (hl : l.length ≤ 1048576) : ∃ b : Bool, Ev (fun k => spec_l7Shares.f k l) b ∧ Ev (fun k => impl_areShares.f k l) b ∧ (b = true → l.length ≤ 20) := by
  have key : ∀ (d n : Nat), n + d = l.length → ∃ b : Bool, Ev (fun k => spec_l7Shares.l0 k l l (l.length : Int) (n : Int)) b ∧ Ev (fun k => impl_areShares.l0 k l l (l.length : Int) (n : Int)) b ∧ (b = true → l.length ≤ 20) := by
    intro d
    induction d with
    | zero =>
      intro n h1
      refine ⟨decide ((l.length : Int) ≤ 20), ?_, ?_, fun h => by simp at h; omega⟩ <;> apply K.Ev.succ
      · simp only [spec_l7Shares.l0, if_neg (show ¬ ((n : Int) < (l.length : Int)) by omega)]; exact Ev.now _
      · simp only [impl_areShares.l0, if_neg (show ¬ ((n : Int) < (l.length : Int)) by omega)]; exact Ev.now _
    | succ d ih =>
      intro n h1
      have c1 : (n : Int) < (l.length : Int) := by omega
      have c2 : 0 ≤ (n : Int) := by omega
      have ws := K.w64s n (show n < 9223372036854775807 by omega)
      obtain ⟨b, i1, i2, i3⟩ := ih (n + 1) (by omega)
      by_cases h0 : (rd_T61 l (n : Int)).f0 = 0
      · refine ⟨false, ?_, ?_, fun h => by cases h⟩ <;> apply K.Ev.succ
        · simp only [spec_l7Shares.l0, if_pos c1, if_pos c2, if_pos h0]; exact Ev.now _
        · simp only [impl_areShares.l0, if_pos c1, if_pos c2, if_pos h0]; exact Ev.now _
      by_cases hn : (n : Int) > 0
      · have w : wrap64 ((n : Int) - 1) = (n : Int) - 1 := K.w64 (by omega) (by omega)
        have c3 : 0 ≤ (n : Int) - 1 := by omega
        have c4 : (n : Int) - 1 < (l.length : Int) := by omega
        by_cases hc : (rd_T61 l ((n : Int) - 1)).f0 ≥ (rd_T61 l (n : Int)).f0
        · have hc' : (rd_T61 l (n : Int)).f0 ≤ (rd_T61 l ((n : Int) - 1)).f0 := hc
          refine ⟨false, ?_, ?_, fun h => by cases h⟩ <;> apply K.Ev.succ
          · simp only [spec_l7Shares.l0, if_pos c1, if_pos c2, if_neg h0, if_pos hn, w, if_pos c3, if_pos c4, if_pos hc]; exact Ev.now _
          · simp only [impl_areShares.l0, if_pos c1, if_pos c2, if_neg h0, if_pos hn, w, if_pos c3, if_pos c4, if_pos hc']; exact Ev.now _
        · have hc' : ¬ (rd_T61 l (n : Int)).f0 ≤ (rd_T61 l ((n : Int) - 1)).f0 := hc
          refine ⟨b, ?_, ?_, i3⟩ <;> apply K.Ev.succ
          · simp only [spec_l7Shares.l0, if_pos c1, if_pos c2, if_neg h0, if_pos hn, w, if_pos c3, if_pos c4, if_neg hc, ws]; exact i1
          · simp only [impl_areShares.l0, if_pos c1, if_pos c2, if_neg h0, if_pos hn, w, if_pos c3, if_pos c4, if_neg hc', ws]; exact i2
      · refine ⟨b, ?_, ?_, i3⟩ <;> apply K.Ev.succ
        · simp only [spec_l7Shares.l0, if_pos c1, if_pos c2, if_neg h0, if_neg hn, ws]; exact i1
        · simp only [impl_areShares.l0, if_pos c1, if_pos c2, if_neg h0, if_neg hn, ws]; exact i2
  obtain ⟨b, i1, i2, i3⟩ := key l.length 0 (by omega)
  exact ⟨b, by simp only [spec_l7Shares.f]; exact i1, by simp only [impl_areShares.f]; exact i2, i3⟩
/-- Shares of pairs of bytes. -/
def shl (m : List (Nat × Nat)) : List S61 := m.map (fun p => ⟨(p.1 : Int), (p.2 : Int)⟩)
theorem shl_of (l : List S87) (h : ∀ x ∈ l, (Lit.int .u8 x.f0).wf = true ∧ (Lit.int .u8 x.f1).wf = true) : ∃ m : List (Nat × Nat), l.map shareOf = shl m ∧ m.length = l.length ∧ ∀ p ∈ m, p.1 < 256 ∧ p.2 < 256 := by
  refine ⟨l.map (fun x => (x.f0.toNat, x.f1.toNat)), ?_, by simp, ?_⟩
  · simp only [shl, List.map_map]
    refine List.map_congr_left fun x hx => ?_
    have h1 := K.b_u8 (h x hx).1
    have h2 := K.b_u8 (h x hx).2
    simp only [Function.comp_apply, shareOf]
    congr 1 <;> omega
  · intro p hp
    obtain ⟨x, hx, rfl⟩ := List.mem_map.1 hp
    have h1 := K.b_u8 (h x hx).1
    have h2 := K.b_u8 (h x hx).2
    constructor <;> simp only <;> omega
theorem shl_length (m : List (Nat × Nat)) : (shl m).length = m.length := by simp [shl]
theorem rd_shl {m : List (Nat × Nat)} {n : Nat} (h : n < m.length) : rd_T61 (shl m) (n : Int) = ⟨((m[n].1 : Nat) : Int), ((m[n].2 : Nat) : Int)⟩ := by
  simp [rd_T61, shl, List.getElem?_eq_getElem h]
theorem shl_snoc (m : List (Nat × Nat)) (a b : Nat) : shl m ++ [⟨(a : Int), (b : Int)⟩] = shl (m ++ [(a, b)]) := by simp [shl]

theorem Times_ev (a b : Nat) (ha : a < 256) (hb : b < 256) : Ev (fun k => impl_Times.f k (a : Int) (b : Int)) ((K.gmul a b : Nat) : Int) := by
  have key : ∀ (n j x o : Nat), j + n = 8 → x < 256 → o < 256 → Ev (fun k => impl_Times.l0 k (b : Int) (o : Int) (j : Int) (x : Int)) ((K.gstep n x (b / 2 ^ j) o : Nat) : Int) := by
    intro n
    induction n with
    | zero =>
      intro j x o hj hx ho
      apply K.Ev.succ
      simp only [impl_Times.l0, if_neg (show ¬ ((j : Int) < 8) by omega), K.gstep]
      exact K.Ev.const (by rw [show (o : Int) % 256 = (o : Int) by omega])
    | succ n ih =>
      intro j x o hj hx ho
      have w : K.Eqn (wrap64 ((x : Int) * 2)) ((2 * x : Nat) : Int) := ⟨by rw [K.w64 (by omega) (by omega)]; omega⟩
      have hx2 : (if ((2 * x : Nat) : Int) > 255 then Go.bits .xor .i64 ((2 * x : Nat) : Int) 283 else ((2 * x : Nat) : Int)) = ((K.xt x : Nat) : Int) := by
        unfold K.xt
        by_cases h : 2 * x > 255
        · rw [if_pos (by omega), if_pos h]
          exact K.xor_i64 (b := 283) (by omega) (by omega)
        · rw [if_neg (by omega), if_neg h]
      have hs : shr .u8 (b : Int) (j : Int) = ((b / 2 ^ j : Nat) : Int) := K.shr_u8 b j (by omega)
      have hbj : b / 2 ^ j < 256 := Nat.lt_of_le_of_lt (Nat.div_le_self _ _) hb
      have hnext := ih (j + 1) (K.xt x) (if (b / 2 ^ j) % 2 = 1 then o ^^^ x else o) (by omega) (K.xt_lt hx) (by
        split
        · exact Nat.xor_lt_two_pow (n := 8) ho hx
        · exact ho)
      rw [Nat.pow_succ, ← Nat.div_div_eq_div_mul] at hnext
      apply K.Ev.succ
      simp only [impl_Times.l0, if_pos (show (j : Int) < 8 by omega), if_pos (show 0 ≤ (j : Int) by omega), hs, K.and_u8_1 hbj, w.out, K.xor_i64 (show o < 1024 by omega) (show x < 1024 by omega), K.w64s j (show j < 9223372036854775807 by omega)]
      by_cases h1 : (b / 2 ^ j) % 2 = 1
      · rw [if_pos h1] at hnext
        simp only [h1, show (((1 : Nat) : Int) = 1) = True by simp, if_true, K.gstep]
        by_cases h2 : ((2 * x : Nat) : Int) > 255
        · rw [if_pos h2] at hx2
          simp only [if_pos h2]
          simp only [hx2]
          exact hnext
        · rw [if_neg h2] at hx2
          simp only [if_neg h2]
          simp only [hx2]
          exact hnext
      · rw [if_neg h1] at hnext
        have h1' : ¬ (((b / 2 ^ j % 2 : Nat) : Int) = 1) := by omega
        simp only [if_neg h1', K.gstep, if_neg h1]
        by_cases h2 : ((2 * x : Nat) : Int) > 255
        · rw [if_pos h2] at hx2
          simp only [if_pos h2]
          simp only [hx2]
          exact hnext
        · rw [if_neg h2] at hx2
          simp only [if_neg h2]
          simp only [hx2]
          exact hnext
  have wa : K.Eqn (wrap64 (a : Int)) (a : Int) := ⟨K.w64 (by omega) (by omega)⟩
  simp only [impl_Times.f, wa.out]
  have := key 8 0 a 0 (by omega) ha (by omega)
  rw [Nat.pow_zero, Nat.div_one] at this
  exact this

theorem valueAt_ev (l : List Nat) (hl : l.length ≤ 1048576) (hb : K.Bytes l) (x : Nat) (hx : x < 256) : Ev (fun k => impl_valueAt.f k (K.il l) (x : Int)) ((K.peval l x : Nat) : Int) := by
  have key : ∀ (n : Nat), n ≤ l.length → Ev (fun k => impl_valueAt.l0 k (K.il l) (x : Int) ((K.peval (l.drop n) x : Nat) : Int) ((n : Int) - 1)) ((K.peval l x : Nat) : Int) := by
    intro n
    induction n with
    | zero =>
      intro _
      apply K.Ev.succ
      simp only [impl_valueAt.l0, show ¬ (((0 : Nat) : Int) - 1 ≥ 0) by omega, if_false, List.drop_zero]
      exact Ev.now _
    | succ n ih =>
      intro h
      have hn : n < l.length := by omega
      have hd : K.Bytes (l.drop (n + 1)) := fun y hy => hb y (List.mem_of_mem_drop hy)
      have e : (((n + 1 : Nat) : Int) - 1) = (n : Int) := by omega
      have w : K.Eqn (wrap64 ((n : Int) - 1)) ((n : Int) - 1) := ⟨K.w64 (by omega) (by omega)⟩
      have hp := K.peval_lt hd x
      apply K.Ev.succ
      simp only [impl_valueAt.l0, e, if_pos (show (n : Int) ≥ 0 by omega)]
      refine Ev.bind (Times_ev _ x hp hx) ?_
      simp only [if_pos (show 0 ≤ (n : Int) by omega), K.il_length, if_pos (show (n : Int) < (l.length : Int) by omega), K.rd_il hn, K.xor_u8 (K.gmul_lt (b := x) hp) (hb l[n] (List.getElem_mem hn)), w.out]
      have := ih (by omega)
      rw [List.drop_eq_getElem_cons hn] at this
      exact this
  have w : K.Eqn (wrap64 ((l.length : Int) - 1)) ((l.length : Int) - 1) := ⟨K.w64 (by omega) (by omega)⟩
  simp only [impl_valueAt.f, K.il_length, w.out]
  have := key l.length (Nat.le_refl _)
  rw [List.drop_length] at this
  exact this

theorem laws_markShareS_held (l : List S61) (hl : l.length ≤ 140737488355328) : ∃ (m : Int) (g : List S61), Ev (fun k => laws_markShareS.f k l 1) (m, g) ∧ Ev (fun k => laws_heldShareS.f k g 1) m ∧ 0 ≤ m ∧ m ≤ 1 + l.length * 2 := by
  have key : ∀ (d n : Nat) (x : List S61) (c : Int), n + d = x.length → 0 ≤ c → c + d * 2 ≤ 9000000000000000000 → x.length ≤ 140737488355328 → ∃ (m : Int) (g : List S61), Ev (fun k => laws_markShareS.l0 k x c (n : Int)) (m, g) ∧ g.length = x.length ∧ (∀ j, j < n → g[j]? = x[j]?) ∧ Ev (fun k => laws_heldShareS.l0 k g c (n : Int)) m ∧ 0 ≤ m ∧ m ≤ c + d * 2 := by
    intro d
    induction d with
    | zero =>
      intro n x c h1 h2 h3 h4
      refine ⟨c, x, ?_, rfl, fun _ _ => rfl, ?_, h2, by omega⟩
      · apply K.Ev.succ
        simp only [laws_markShareS.l0, if_neg (show ¬ ((n : Int) < (x.length : Int)) by omega)]
        exact Ev.now _
      · apply K.Ev.succ
        simp only [laws_heldShareS.l0, if_neg (show ¬ ((n : Int) < (x.length : Int)) by omega)]
        exact Ev.now _
    | succ d ih =>
      intro n x c h1 h2 h3 h4
      have hn : n < x.length := by omega
      have w1 : wrap64 (c + 1) = c + 1 := K.w64 (by omega) (by omega)
      have w2 : wrap64 (c + 1 + 1) = c + 2 := by rw [K.w64 (by omega) (by omega)]; omega
      obtain ⟨m, g, e1, e2, e3, e4, e5, e6⟩ := ih (n + 1) (x.set n ⟨c % 256, (c + 1) % 256⟩) (c + 2) (by simp; omega) (by omega) (by omega) (by simpa using h4)
      have hg : g[n]? = some ⟨c % 256, (c + 1) % 256⟩ := by rw [e3 n (by omega)]; simp [hn]
      have hgl : g.length = x.length := by simpa using e2
      refine ⟨m, g, ?_, hgl, ?_, ?_, e5, by omega⟩
      · apply K.Ev.succ
        simp only [laws_markShareS.l0, if_pos (show (n : Int) < (x.length : Int) by omega), if_pos (show (0 : Int) ≤ (n : Int) by omega), Int.toNat_natCast, Option.bind_some, w1, w2, K.w64s n (show n < 9223372036854775807 by omega), List.set_set]
        simp only [rd_T61, Int.toNat_natCast, List.getD_eq_getElem?_getD, List.getElem?_set_self hn, Option.getD_some]
        exact e1
      · intro j hj
        rw [e3 j (by omega)]
        rw [List.getElem?_set_ne (by omega)]
      · apply K.Ev.succ
        simp only [laws_heldShareS.l0, if_pos (show (n : Int) < (g.length : Int) by omega), if_pos (show (0 : Int) ≤ (n : Int) by omega), w1, w2, K.w64s n (show n < 9223372036854775807 by omega)]
        simp only [rd_T61, Int.toNat_natCast, List.getD_eq_getElem?_getD, hg, Option.getD_some, if_true]
        exact e4
  obtain ⟨m, g, e1, _, _, e4, e5, e6⟩ := key l.length 0 l 1 (by omega) (by omega) (by omega) hl
  exact ⟨m, g, by simp only [laws_markShareS.f]; exact e1, by simp only [laws_heldShareS.f]; exact e4, e5, by omega⟩

theorem markByteS_from (l : List Int) (hl : l.length ≤ 1048576) (c : Int) (h0 : 0 ≤ c) (h1 : c ≤ 1000000000) : ∃ (w : Int) (g : List Int), Ev (fun k => laws_markByteS.f k l c) (w, g) ∧ 0 ≤ w := by
  have key : ∀ (d n : Nat) (x : List Int) (c : Int), n + d = x.length → x.length ≤ 1048576 → 0 ≤ c → c + d ≤ 2000000000 → ∃ (w : Int) (g : List Int), Ev (fun k => laws_markByteS.l0 k x c (n : Int)) (w, g) ∧ 0 ≤ w := by
    intro d
    induction d with
    | zero =>
      intro n x c h1 h2 h3 h4
      refine ⟨c, x, ?_, h3⟩
      apply K.Ev.succ
      simp only [laws_markByteS.l0, if_neg (show ¬ ((n : Int) < (x.length : Int)) by omega)]
      exact Ev.now _
    | succ d ih =>
      intro n x c h1 h2 h3 h4
      obtain ⟨w, g, e1, e2⟩ := ih (n + 1) (x.set n (c % 256)) (c + 1) (by simp; omega) (by simpa using h2) (by omega) (by omega)
      refine ⟨w, g, ?_, e2⟩
      have w1 : wrap64 (c + 1) = c + 1 := K.w64 (by omega) (by omega)
      apply K.Ev.succ
      simp only [laws_markByteS.l0, if_pos (show (n : Int) < (x.length : Int) by omega), if_pos (show (0 : Int) ≤ (n : Int) by omega), Int.toNat_natCast, w1, K.w64s n (show n < 9223372036854775807 by omega)]
      exact e1
  obtain ⟨w, g, e1, e2⟩ := key l.length 0 l c (by omega) hl h0 (by omega)
  exact ⟨w, g, by simp only [laws_markByteS.f]; exact e1, e2⟩
theorem refresh_same (m : List (Nat × Nat)) (hm : ∀ p ∈ m, p.1 < 256 ∧ p.2 < 256) (hl : m.length ≤ 20) (c : List Nat) (hc : K.Bytes c) (hcl : c.length ≤ 8) : ∃ r : List (Nat × Nat), r.length ≤ 20 ∧ Ev (fun k => spec_RefreshShares.l0 k (K.il c) [] (shl m) (m.length : Int) 0) (shl r, true) ∧ Ev (fun k => impl_RefreshShares.l0 k (K.il c) [] (shl m) (m.length : Int) 0) (shl r, true) := by
  have key : ∀ (d n : Nat) (acc : List (Nat × Nat)), n + d = m.length → acc.length = n → ∃ r : List (Nat × Nat), r.length ≤ 20 ∧ Ev (fun k => spec_RefreshShares.l0 k (K.il c) (shl acc) (shl m) (m.length : Int) (n : Int)) (shl r, true) ∧ Ev (fun k => impl_RefreshShares.l0 k (K.il c) (shl acc) (shl m) (m.length : Int) (n : Int)) (shl r, true) := by
    intro d
    induction d with
    | zero =>
      intro n acc h1 h2
      refine ⟨acc, by omega, ?_, ?_⟩ <;> apply K.Ev.succ
      · simp only [spec_RefreshShares.l0, if_neg (show ¬ ((n : Int) < (m.length : Int)) by omega)]; exact Ev.now _
      · simp only [impl_RefreshShares.l0, if_neg (show ¬ ((n : Int) < (m.length : Int)) by omega)]; exact Ev.now _
    | succ d ih =>
      intro n acc h1 h2
      have hn : n < m.length := by omega
      have hp := hm m[n] (List.getElem_mem hn)
      have c1 : (n : Int) < (m.length : Int) := by omega
      have c2 : 0 ≤ (n : Int) := by omega
      have ws := K.w64s n (show n < 9223372036854775807 by omega)
      have hv := K.peval_lt hc m[n].1
      have hx : K.gmul m[n].1 (K.peval c m[n].1) < 256 := K.gmul_lt hp.1
      obtain ⟨r, r0, r1, r2⟩ := ih (n + 1) (acc ++ [(m[n].1, m[n].2 ^^^ K.gmul m[n].1 (K.peval c m[n].1))]) (by omega) (by simp; omega)
      refine ⟨r, r0, ?_, ?_⟩ <;> apply K.Ev.succ
      · simp only [spec_RefreshShares.l0, shl_length, if_pos c1, if_pos c2, rd_shl hn]
        refine Ev.bind (l7At_ev c (by omega) hc _ hp.1) ?_
        refine Ev.bind (l1Times_ev _ _ hp.1 hv) ?_
        simp only [if_pos (show acc.length < 70368744177664 by omega), K.xor_u8 hp.2 hx, shl_snoc, ws]
        exact r1
      · simp only [impl_RefreshShares.l0, shl_length, if_pos c1, if_pos c2, rd_shl hn]
        refine Ev.bind (valueAt_ev c (by omega) hc _ hp.1) ?_
        refine Ev.bind (Times_ev _ _ hp.1 hv) ?_
        simp only [if_pos (show acc.length < 70368744177664 by omega), K.xor_u8 hp.2 hx, shl_snoc, ws]
        exact r2
  exact key m.length 0 [] (by omega) rfl
theorem refresh_eq (m : List (Nat × Nat)) (hm : ∀ p ∈ m, p.1 < 256 ∧ p.2 < 256) (hl : m.length ≤ 1048576) (c : List Int) (hc : ∀ x ∈ c, 0 ≤ x ∧ x ≤ 255) (hcl : c.length ≤ 1048576) : ∃ r : List S61 × Bool, r.1.length ≤ 20 ∧ Ev (fun k => spec_RefreshShares.f k (shl m) c) r ∧ Ev (fun k => impl_RefreshShares.f k (shl m) c) r := by
  obtain ⟨b, i1, i2, i3⟩ := areShares_same (shl m) (by rw [shl_length]; exact hl)
  have bad : Ev (fun k => spec_RefreshShares.j0 k (shl m) c true) (([] : List S61), false) ∧ Ev (fun k => impl_RefreshShares.j0 k (shl m) c true) (([] : List S61), false) := by
    constructor <;> apply K.Ev.succ
    · simp only [spec_RefreshShares.j0, if_true]; exact Ev.now _
    · simp only [impl_RefreshShares.j0, if_true]; exact Ev.now _
  cases b with
  | false =>
    refine ⟨([], false), by simp, ?_, ?_⟩
    · simp only [spec_RefreshShares.f]; refine Ev.bind i1 ?_; simp only [Bool.false_eq_true, if_false]; exact bad.1
    · simp only [impl_RefreshShares.f]; refine Ev.bind i2 ?_; simp only [Bool.false_eq_true, if_false]; exact bad.2
  | true =>
    have hl2 := i3 rfl
    rw [shl_length] at hl2
    by_cases h8 : (c.length : Int) > 8
    · refine ⟨([], false), by simp, ?_, ?_⟩
      · simp only [spec_RefreshShares.f]; refine Ev.bind i1 ?_; simp only [if_true, decide_eq_true h8]; exact bad.1
      · simp only [impl_RefreshShares.f]; refine Ev.bind i2 ?_; simp only [if_true, decide_eq_true h8]; exact bad.2
    · obtain ⟨n, rfl, hn⟩ := K.il_of hc
      rw [K.il_length] at h8
      obtain ⟨r, r0, r1, r2⟩ := refresh_same m hm hl2 n hn (by omega)
      refine ⟨(shl r, true), by rw [shl_length]; exact r0, ?_, ?_⟩
      · simp only [spec_RefreshShares.f]; refine Ev.bind i1 ?_; simp only [if_true, K.il_length, decide_eq_false h8]
        apply K.Ev.succ
        simp only [spec_RefreshShares.j0, Bool.false_eq_true, if_false, shl_length]; exact r1
      · simp only [impl_RefreshShares.f]; refine Ev.bind i2 ?_; simp only [if_true, K.il_length, decide_eq_false h8]
        apply K.Ev.succ
        simp only [impl_RefreshShares.j0, Bool.false_eq_true, if_false, shl_length]; exact r2
theorem FnExactRefreshShares : ∀ (l : List S87) (c : List Int), l.length ≤ maxLen → (∀ x ∈ l, (Lit.int .u8 x.f0).wf = true ∧ (Lit.int .u8 x.f1).wf = true) → c.length ≤ maxLen → c.length * 1 ≤ 140737488351232 → (∀ x ∈ c, (Lit.int .u8 x).wf = true) → ∃ k, laws_FnExactRefreshShares.f k l c = some true := by
  intro l c hl hw hcl _ hcw
  have hx : ∀ x ∈ c, 0 ≤ x ∧ x ≤ 255 := fun x h => K.b_u8 (hcw x h)
  refine Ev.rounds (?_ : Ev (fun k => laws_FnExactRefreshShares.f k l c) true)
  unfold laws_FnExactRefreshShares.f
  by_cases hc : (c.length : Int) > 1048576
  · simp only [if_pos hc]; exact Ev.now _
  simp only [if_neg hc]
  have hc' : c.length ≤ 1048576 := by omega
  rw [szShareS_eq l hl]
  simp only [Option.bind_some]
  by_cases h : l.length ≤ 1048576
  · simp only [if_pos h, if_neg (show ¬ (1048576 - (l.length : Int) < 0) by omega)]
    obtain ⟨m, hm, hml, hmb⟩ := shl_of l hw
    have ht := laws_toShareS_ev l h
    rw [hm] at ht
    have hsl : (shl m).length ≤ 1048576 := by rw [shl_length, hml]; exact h
    obtain ⟨r, e0, e1, e2⟩ := refresh_eq m hmb (by omega) c hx hc'
    obtain ⟨v, g, v1, v2, v3, v4⟩ := laws_markShareS_held r.1 (by omega)
    obtain ⟨v', g', v1', v2', v3', v4'⟩ := laws_markShareS_held (shl m) (by omega)
    refine Ev.bind ht ?_
    refine Ev.bind (laws_toByteS_ev c hc') ?_
    refine Ev.bind e1 ?_
    refine Ev.bind ht ?_
    refine Ev.bind (laws_toByteS_ev c hc') ?_
    refine Ev.bind e2 ?_
    refine Ev.bind (laws_eqShareS_self _ (by omega)) ?_
    simp only [if_true, bne_self_eq_false]
    apply K.Ev.succ
    simp only [laws_FnExactRefreshShares.j0, Bool.false_eq_true, if_false]
    refine Ev.bind ht ?_
    refine Ev.bind (laws_eqShareS_self _ (by omega)) ?_
    simp only [if_true]
    refine Ev.bind (laws_toByteS_ev c hc') ?_
    refine Ev.bind (laws_eqByteS_self c (by omega)) ?_
    simp only [if_true]
    refine Ev.bind v1' ?_
    obtain ⟨w, g2, w1, w3⟩ := markByteS_from c hc' v' v3' (by rw [shl_length, hml] at v4'; omega)
    refine Ev.bind w1 ?_
    simp only [if_neg (show ¬ w < 0 by omega)]
    refine Ev.bind (laws_eqShareS_self _ (by omega)) ?_
    simp only [if_true, bne_self_eq_false]
    apply K.Ev.succ
    simp only [laws_FnExactRefreshShares.j1, Bool.false_eq_true, if_false]
    refine Ev.bind v1 ?_
    refine Ev.bind v2 ?_
    simp only [if_neg (show ¬ v < 0 by omega), if_true]
    refine Ev.bind ht ?_
    refine Ev.bind (laws_toByteS_ev c hc') ?_
    refine Ev.bind e2 ?_
    refine Ev.bind (laws_eqShareS_self _ (by omega)) ?_
    simp only [if_true, bne_self_eq_false]
    apply K.Ev.succ
    simp only [laws_FnExactRefreshShares.j2, Bool.false_eq_true, if_false]
    refine Ev.bind v2 ?_
    simp only [if_neg (show ¬ v < 0 by omega), if_true]
    exact Ev.now _
  · simp only [if_neg h, if_pos (show (-1 : Int) < 0 by omega)]
    exact Ev.now _

end Go.Proofs.Ytekaaoeojbclfaa.Pure
