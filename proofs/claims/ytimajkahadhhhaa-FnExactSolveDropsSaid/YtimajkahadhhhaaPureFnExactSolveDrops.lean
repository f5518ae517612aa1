/- The law FnExactSolveDrops answers true for all drops and all counts: the texts that the drops tell are found as by the reference, the drops stay, and no later call changes what was handed back. -/
import Derived.Test.YtimajkahadhhhaaPFnExactSolveDropsx18
import Derived.Test.YtimajkahadhhhaaKKit
import Derived.Test.YtimajkahadhhhaaKElim
import Derived.Test.YtimajkahadhhhaaKEch
import Derived.Test.YtimajkahadhhhaaKRank
import Derived.Test.YtimajkahadhhhaaKGF
import Derived.Test.YtimajkahadhhhaaKGFL
import Derived.Test.YtimajkahadhhhaaKSorted
set_option linter.unusedVariables false
set_option linter.unusedSimpArgs false
namespace Go.Proofs.Ytimajkahadhhhaa.Pure
open Go Go.RowKit Go.Proofs.Ytimajkahadhhhaa Go.Proofs.Ytimajkahadhhhaa.PFnExactSolveDrops Go.Proofs.YtimajkahadhhhaaW.PrintWords Go.Proofs.YtimajkahadhhhaaW.PrintLast Go.Proofs.YtimajkahadhhhaaW.PrintMore

/-- The size that the law reckons: below nought where a list of drops is too great. -/
theorem laws_szDropS_ev (l : List S60) (hl : l.length ≤ maxLen) (hs : ∀ s ∈ l, s.f1.size ≤ maxLen) : ∃ r : Int, Ev (fun k => laws_szDropS.f k l 1048576) r ∧ (0 ≤ r → l.length ≤ 1048576 ∧ ∀ s ∈ l, s.f1.size ≤ 1048576) := by
  have hl' : l.length ≤ 9223372036854775807 := hl
  have hw : wrap64 (1048576 - (l.length : Int)) = 1048576 - (l.length : Int) := K.w64 (by omega) (by omega)
  by_cases hneg : 1048576 - (l.length : Int) < 0
  · refine ⟨-1, ?_, fun h => absurd h (by decide)⟩
    simp only [laws_szDropS.f, hw, if_pos hneg]
    exact Ev.now _
  · have key : ∀ (d n : Nat) (x : Int), n + d = l.length → 0 ≤ x → x ≤ 1048576 → ∃ r : Int, Ev (fun k => laws_szDropS.l0 k l x (n : Int)) r ∧ (0 ≤ r → ∀ j, n ≤ j → (h : j < l.length) → l[j].f1.size ≤ 1048576) := by
      intro d
      induction d with
      | zero =>
        intro n x h1 h2 h3
        refine ⟨x, ?_, fun _ j hj h => by omega⟩
        apply K.Ev.succ
        simp only [laws_szDropS.l0, if_neg (show ¬ ((n : Int) < (l.length : Int)) by omega)]
        exact Ev.now _
      | succ d ih =>
        intro n x h1 h2 h3
        have hn : n < l.length := by omega
        have hr : rd_T60 l (n : Int) = l[n] := by simp [rd_T60, hn]
        have hz : l[n].f1.size ≤ 9223372036854775807 := hs _ (List.getElem_mem hn)
        have hwx : K.Eqn (wrap64 (x - (l[n].f1.size : Int))) (x - (l[n].f1.size : Int)) := ⟨K.w64 (by omega) (by omega)⟩
        have hwn : K.Eqn (wrap64 ((n : Int) + 1)) ((n + 1 : Nat) : Int) := ⟨K.w64s n (by omega)⟩
        by_cases hx : x - (l[n].f1.size : Int) < 0
        · refine ⟨-1, ?_, fun h => absurd h (by decide)⟩
          apply K.Ev.succ
          simp only [laws_szDropS.l0, if_pos (show (n : Int) < (l.length : Int) by omega), if_pos (show (0 : Int) ≤ (n : Int) by omega), hr, laws_szDrop.f, hwx.out, if_pos hx, Option.bind_some, if_pos (show (-1 : Int) < 0 by decide)]
          exact Ev.now _
        · obtain ⟨r, e1, e2⟩ := ih (n + 1) (x - (l[n].f1.size : Int)) (by omega) (by omega) (by omega)
          refine ⟨r, ?_, fun h0 j hj h => ?_⟩
          · apply K.Ev.succ
            simp only [laws_szDropS.l0, if_pos (show (n : Int) < (l.length : Int) by omega), if_pos (show (0 : Int) ≤ (n : Int) by omega), hr, laws_szDrop.f, hwx.out, if_neg hx, Option.bind_some, hwn.out]
            exact e1
          · rcases Nat.lt_or_ge n j with q | q
            · exact e2 h0 j (by omega) h
            · obtain rfl : j = n := by omega
              omega
    obtain ⟨r, e1, e2⟩ := key l.length 0 (1048576 - (l.length : Int)) (by omega) (by omega) (by omega)
    refine ⟨r, ?_, fun h0 => ⟨by omega, fun s hs' => ?_⟩⟩
    · simp only [laws_szDropS.f, hw, if_neg hneg]
      exact e1
    · obtain ⟨j, hj, rfl⟩ := List.mem_iff_getElem.mp hs'
      exact e2 h0 j (by omega) hj

/-- The law's drops as the program's. -/
def dropIn (r : S60) : S54 := ⟨r.f0, r.f1⟩
theorem laws_toDropS_ev (l : List S60) (hl : l.length ≤ 1048576) : Ev (fun k => laws_toDropS.f k l) (l.map dropIn) := by
  have key : ∀ (d n : Nat) (x : List S54), n + d = l.length → x.length = l.length → x.take n = (l.map dropIn).take n → Ev (fun k => laws_toDropS.l0 k l x (n : Int)) (l.map dropIn) := by
    intro d
    induction d with
    | zero =>
      intro n x h1 h2 h3
      apply K.Ev.succ
      simp only [laws_toDropS.l0, if_neg (show ¬ ((n : Int) < (l.length : Int)) by omega)]
      have e : x = l.map dropIn := by
        rw [List.take_of_length_le (by omega), List.take_of_length_le (by simp; omega)] at h3; exact h3
      rw [e]; exact Ev.now _
    | succ d ih =>
      intro n x h1 h2 h3
      apply K.Ev.succ
      have hn : n < l.length := by omega
      have hr : rd_T60 l (n : Int) = l[n] := by simp [rd_T60, List.getElem?_eq_getElem hn]
      simp only [laws_toDropS.l0, if_pos (show (n : Int) < (l.length : Int) by omega), if_pos (show (0 : Int) ≤ (n : Int) by omega), laws_toDrop.f, Option.bind_some, if_pos (show (n : Int) < (x.length : Int) by omega), Int.toNat_natCast, hr]
      rw [K.w64s n (by omega)]
      refine ih (n + 1) _ (by omega) (by simpa using h2) ?_
      rw [K.take_set _ _ _ (by omega), K.take_succ' (l.map dropIn) n (by simpa using hn), h3]
      simp [dropIn]
  unfold laws_toDropS.f
  simp only [if_pos (show (0 : Int) ≤ (l.length : Int) by omega), Int.toNat_natCast, if_pos (show l.length ≤ 11728124029610 by omega)]
  exact key l.length 0 _ (by omega) (by simp) (by simp)

theorem laws_eqDropS_self (l : List S54) (hl : l.length ≤ 140737488355328) : Ev (fun k => laws_eqDropS.f k l l) true := by
  have key : ∀ (d n : Nat), n + d = l.length → Ev (fun k => laws_eqDropS.l0 k l l (n : Int)) true := by
    intro d
    induction d with
    | zero =>
      intro n h1
      apply K.Ev.succ
      simp only [laws_eqDropS.l0, if_neg (show ¬ ((n : Int) < (l.length : Int)) by omega)]
      exact Ev.now _
    | succ d ih =>
      intro n h1
      apply K.Ev.succ
      simp only [laws_eqDropS.l0, if_pos (show (n : Int) < (l.length : Int) by omega), if_pos (show (0 : Int) ≤ (n : Int) by omega), laws_eqDrop.f, if_true, Option.bind_some]
      rw [K.w64s n (by omega)]
      exact ih (n + 1) (by omega)
  unfold laws_eqDropS.f
  simp only [if_true]
  exact key l.length 0 (by omega)

theorem markText_loop : ∀ (m x : Nat) (acc : ByteArray), x ≤ m → x + acc.size ≤ 4000000000000 → ∃ r : ByteArray, Ev (fun k => laws_markText.l0 k (x : Int) acc) r
  | 0, x, acc, hx, hs => by
    obtain rfl : x = 0 := by omega
    refine ⟨(⟨#[109]⟩ : ByteArray) ++ acc, ?_⟩
    apply K.Ev.succ
    simp only [laws_markText.l0, if_neg (show ¬ (((0 : Nat) : Int) > 0) by omega), if_pos (show 1 + acc.size ≤ 9223372036854775807 by omega)]
    exact Ev.now _
  | m + 1, x, acc, hx, hs => by
    by_cases h0 : x = 0
    · exact markText_loop m x acc (by omega) hs
    · have td : K.Eqn (Int.tdiv (x : Int) 10) ((x / 10 : Nat) : Int) := ⟨by rw [Int.tdiv_eq_ediv_of_nonneg (by omega)]; omega⟩
      have wd : K.Eqn (wrap64 ((x / 10 : Nat) : Int)) ((x / 10 : Nat) : Int) := ⟨K.w64 (by omega) (by omega)⟩
      have sz : ∀ c : Int, (strOfNums [c]).size = 1 := fun c => by rw [strOfNums_size]; rfl
      obtain ⟨r, e⟩ := markText_loop m (x / 10) ((strOfNums [(wrap64 (48 + (Int.tmod (x : Int) 10))) % 256]) ++ acc) (by omega) (by rw [ByteArray.size_append, sz]; omega)
      refine ⟨r, ?_⟩
      apply K.Ev.succ
      simp only [laws_markText.l0, if_pos (show (x : Int) > 0 by omega), Option.bind_some, sz, if_pos (show 1 + acc.size ≤ 9223372036854775807 by omega), td.out, wd.out]
      exact e
theorem markText_ok (x : Int) (h0 : 0 ≤ x) (h1 : x ≤ 3000000000000) : ∃ r : ByteArray, Ev (fun k => laws_markText.f k x) r := by
  obtain ⟨n, rfl⟩ := Int.eq_ofNat_of_zero_le h0
  by_cases h : (n : Int) ≤ 0
  · exact ⟨_, by simp only [laws_markText.f, if_pos h]; exact Ev.now _⟩
  · obtain ⟨r, e⟩ := markText_loop n n ByteArray.empty (Nat.le_refl _) (by simp [ByteArray.size]; omega)
    exact ⟨r, by simp only [laws_markText.f, if_neg h]; exact e⟩

theorem laws_markDropS_marks (l : List S54) (hl : l.length ≤ 1048576) : ∃ (m : Int) (g : List S54), Ev (fun k => laws_markDropS.f k l 1) (m, g) ∧ 0 ≤ m := by
  have key : ∀ (d n : Nat) (x : List S54) (c : Int), n + d = x.length → 0 ≤ c → c + d * 2 ≤ 1000000000000 → x.length ≤ 1048576 → ∃ (m : Int) (g : List S54), Ev (fun k => laws_markDropS.l0 k x c (n : Int)) (m, g) ∧ 0 ≤ m := by
    intro d
    induction d with
    | zero =>
      intro n x c h1 h2 h3 h4
      refine ⟨c, x, ?_, h2⟩
      apply K.Ev.succ
      simp only [laws_markDropS.l0, if_neg (show ¬ ((n : Int) < (x.length : Int)) by omega)]
      exact Ev.now _
    | succ d ih =>
      intro n x c h1 h2 h3 h4
      have hn : n < x.length := by omega
      have w1 : K.Eqn (wrap64 (c + 1)) (c + 1) := ⟨K.w64 (by omega) (by omega)⟩
      have w2 : K.Eqn (wrap64 (c + 1 + 1)) (c + 2) := ⟨by rw [K.w64 (by omega) (by omega)]; omega⟩
      obtain ⟨s, es⟩ := markText_ok (c + 1) (by omega) (by omega)
      obtain ⟨m, g, e1, e5⟩ := ih (n + 1) ((x.set n ⟨c, (rd_T54 x (n : Int)).f1⟩).set n ⟨(rd_T54 (x.set n ⟨c, (rd_T54 x (n : Int)).f1⟩) (n : Int)).f0, s⟩) (c + 2) (by simp; omega) (by omega) (by omega) (by simpa using h4)
      refine ⟨m, g, ?_, e5⟩
      apply K.Ev.succ
      simp only [laws_markDropS.l0, if_pos (show (n : Int) < (x.length : Int) by omega), if_pos (show (0 : Int) ≤ (n : Int) by omega), Int.toNat_natCast, Option.bind_some, w1.out, w2.out, K.w64s n (show n < 9223372036854775807 by omega)]
      exact Ev.bind es e1
  obtain ⟨m, g, e1, e5⟩ := key l.length 0 l 1 (by omega) (by omega) (by omega) hl
  exact ⟨m, g, by simp only [laws_markDropS.f]; exact e1, e5⟩

/-- The rows that are taken, with their texts. -/
def greedyD (w : Nat) : List (List Nat) → List ByteArray → List (List Nat × ByteArray) → List (List Nat) × List ByteArray
  | C, D, [] => (C, D)
  | C, D, p :: ps => if (K.elim w 0 0 (C ++ [p.1])).2 = C.length + 1 then greedyD w (C ++ [p.1]) (D ++ [p.2]) ps else greedyD w C D ps
theorem greedyD_cons (w : Nat) (C : List (List Nat)) (D : List ByteArray) (p : List Nat × ByteArray) (ps : List (List Nat × ByteArray)) : greedyD w C D (p :: ps) = if (K.elim w 0 0 (C ++ [p.1])).2 = C.length + 1 then greedyD w (C ++ [p.1]) (D ++ [p.2]) ps else greedyD w C D ps := rfl
theorem greedyD_fst (w : Nat) : ∀ (ps : List (List Nat × ByteArray)) (C : List (List Nat)) (D : List ByteArray), (greedyD w C D ps).1 = K.greedy w C (ps.map Prod.fst)
  | [], _, _ => rfl
  | p :: ps, C, D => by
    rw [List.map_cons]
    unfold greedyD K.greedy
    split
    · exact greedyD_fst w ps _ _
    · exact greedyD_fst w ps _ _
theorem greedyD_len (w : Nat) : ∀ (ps : List (List Nat × ByteArray)) (C : List (List Nat)) (D : List ByteArray), C.length = D.length → (greedyD w C D ps).1.length = (greedyD w C D ps).2.length ∧ (greedyD w C D ps).1.length ≤ C.length + ps.length
  | [], C, D, h => ⟨h, Nat.le_refl _⟩
  | p :: ps, C, D, h => by
    unfold greedyD
    split
    · have := greedyD_len w ps (C ++ [p.1]) (D ++ [p.2]) (by simp [h])
      refine ⟨this.1, Nat.le_trans this.2 ?_⟩
      simp; omega
    · have := greedyD_len w ps C D h
      refine ⟨this.1, Nat.le_trans this.2 ?_⟩
      simp
theorem greedyD_mem (w : Nat) : ∀ (ps : List (List Nat × ByteArray)) (C : List (List Nat)) (D : List ByteArray), ∀ s ∈ (greedyD w C D ps).2, s ∈ D ∨ s ∈ ps.map Prod.snd
  | [], C, D, s, h => Or.inl h
  | p :: ps, C, D, s, h => by
    unfold greedyD at h
    split at h
    · rcases greedyD_mem w ps _ _ s h with q | q
      · rcases List.mem_append.1 q with q | q
        · exact Or.inl q
        · exact Or.inr (by rw [List.mem_singleton.1 q]; simp)
      · exact Or.inr (by simp at q ⊢; exact Or.inr q)
    · rcases greedyD_mem w ps _ _ s h with q | q
      · exact Or.inl q
      · exact Or.inr (by simp at q ⊢; exact Or.inr q)
theorem l2Own_ev (R : List (List Nat)) {n c : Nat} (h : K.Mat n c R) (hn : n ≤ 100000) (hc : c ≤ 1000000) : Ev (fun k => spec_l2Own.f k (K.ill R)) (K.ill R) := by
  have key : ∀ (d i : Nat), i + d = R.length → Ev (fun k => spec_l2Own.l0 k (K.ill R) (R.length : Int) (i : Int) (K.ill (R.take i))) (K.ill R) := by
    intro d
    induction d with
    | zero =>
      intro i hd
      apply K.Ev.succ
      simp only [spec_l2Own.l0, if_neg (show ¬ ((i : Int) < (R.length : Int)) by omega)]
      rw [List.take_of_length_le (by omega)]
      exact Ev.now _
    | succ d ih =>
      intro i hd
      have hn' := h.len
      have hi : i < R.length := by omega
      have hx := ih (i + 1) (by omega)
      rw [K.take_succ' _ _ hi, ← K.row_eq hi] at hx
      have hw := h.row_wid (i := i) (by omega)
      have hr : rd_L5 (K.ill R) (i : Int) = K.il (K.row R i) := K.ill_row R i
      apply K.Ev.succ
      simp only [spec_l2Own.l0, K.ill_length, if_pos (show (i : Int) < (R.length : Int) by omega), if_pos (show (0 : Int) ≤ (i : Int) by omega), Option.bind_some, hr, List.length_nil, K.il_length, hw, if_pos (show 0 + c < 140737488355328 by omega), if_pos (show (R.take i).length < 5864062014805 by simp; omega), List.nil_append, K.w64s i (show i < 9223372036854775807 by omega), K.ill_snoc]
      exact hx
  have := key R.length 0 (by omega)
  simp only [spec_l2Own.f, K.ill_length]
  exact this

theorem l1Times_ev (a b : Nat) (ha : a < 256) (hb : b < 256) : Ev (fun k => spec_l1Times.f k (a : Int) (b : Int)) ((K.gmul a b : Nat) : Int) := by
  have key : ∀ (n x y o : Nat), x < 256 → o < 256 → y < 2 ^ n → n ≤ 8 → Ev (fun k => spec_l1Times.l0 k (o : Int) (x : Int) (y : Int)) ((K.gstep n x y o : Nat) : Int) := by
    intro n
    induction n with
    | zero =>
      intro x y o hx ho hy _
      obtain rfl : y = 0 := by simpa using hy
      apply K.Ev.succ
      simp only [spec_l1Times.l0, show ¬ (((0 : Nat) : Int) > 0) by omega, if_false, K.gstep]
      exact K.Ev.const (by rw [show (o : Int) % 256 = (o : Int) by omega])
    | succ n ih =>
      intro x y o hx ho hy hn
      by_cases h0 : y = 0
      · subst h0
        apply K.Ev.succ
        rw [K.gstep_zero]
        simp only [spec_l1Times.l0, show ¬ (((0 : Nat) : Int) > 0) by omega, if_false]
        exact K.Ev.const (by rw [show (o : Int) % 256 = (o : Int) by omega])
      have hy2 : y < 512 := Nat.lt_of_lt_of_le hy (by
        have : 2 ^ (n + 1) ≤ 2 ^ 9 := Nat.pow_le_pow_right (by omega) (by omega)
        omega)
      have w : K.Eqn (wrap64 ((x : Int) * 2)) ((2 * x : Nat) : Int) := ⟨by rw [K.w64 (by omega) (by omega)]; omega⟩
      have hx2 : (if ((2 * x : Nat) : Int) > 255 then Go.bits .xor .i64 ((2 * x : Nat) : Int) 283 else ((2 * x : Nat) : Int)) = ((K.xt x : Nat) : Int) := by
        unfold K.xt
        by_cases h : 2 * x > 255
        · rw [if_pos (by omega), if_pos h]
          exact K.xor_i64 (b := 283) (by omega) (by omega)
        · rw [if_neg (by omega), if_neg h]
      have hy' : (y : Int) / 2 = ((y / 2 : Nat) : Int) := by omega
      have hnext := ih (K.xt x) (y / 2) (if y % 2 = 1 then o ^^^ x else o) (K.xt_lt hx) (by
        split
        · exact Nat.xor_lt_two_pow (n := 8) ho hx
        · exact ho) (by rw [Nat.pow_succ] at hy; omega) (by omega)
      apply K.Ev.succ
      simp only [spec_l1Times.l0, if_pos (show (y : Int) > 0 by omega), K.and_i64_1 (show y < 1024 by omega), w.out, K.xor_i64 (show o < 1024 by omega) (show x < 1024 by omega), hy']
      by_cases h1 : y % 2 = 1
      · rw [if_pos h1] at hnext
        simp only [h1, show (((1 : Nat) : Int) = 1) = True by simp, if_true, K.gstep]
        by_cases h2 : ((2 * x : Nat) : Int) > 255
        · rw [if_pos h2] at hx2
          simp only [if_pos h2]
          simp only [hx2]
          exact hnext
        · rw [if_neg h2] at hx2
          simp only [if_neg h2]
          simp only [hx2]
          exact hnext
      · rw [if_neg h1] at hnext
        have h1' : ¬ (((y % 2 : Nat) : Int) = 1) := by omega
        simp only [if_neg h1', K.gstep, if_neg h1]
        by_cases h2 : ((2 * x : Nat) : Int) > 255
        · rw [if_pos h2] at hx2
          simp only [if_pos h2]
          simp only [hx2]
          exact hnext
        · rw [if_neg h2] at hx2
          simp only [if_neg h2]
          simp only [hx2]
          exact hnext
  have wa : K.Eqn (wrap64 (a : Int)) (a : Int) := ⟨K.w64 (by omega) (by omega)⟩
  have wb : K.Eqn (wrap64 (b : Int)) (b : Int) := ⟨K.w64 (by omega) (by omega)⟩
  simp only [spec_l1Times.f, wa.out, wb.out]
  exact key 8 a b 0 ha (by omega) (by omega) (by omega)

theorem l1Power_ev (a n : Nat) (ha : a < 256) (hn : n < 1024) : Ev (fun k => spec_l1Power.f k (a : Int) (n : Int)) ((K.gpow a n : Nat) : Int) := by
  have key : ∀ (n o : Nat), n < 1024 → o < 256 → Ev (fun k => spec_l1Power.l0 k (a : Int) (n : Int) (o : Int)) ((K.gmul o (K.gpow a n) : Nat) : Int) := by
    intro n
    induction n with
    | zero =>
      intro o _ ho
      apply K.Ev.succ
      simp only [spec_l1Power.l0, show ¬ (((0 : Nat) : Int) > 0) by omega, if_false, K.gpow, K.gmul_one ho]
      exact Ev.now _
    | succ n ih =>
      intro o h ho
      have w : K.Eqn (wrap64 (((n + 1 : Nat) : Int) - 1)) (n : Int) := ⟨by rw [K.w64 (by omega) (by omega)]; omega⟩
      have e : K.gmul o (K.gpow a (n + 1)) = K.gmul (K.gmul o a) (K.gpow a n) := by
        rw [K.gmul_assoc ho ha (K.gpow_lt n), K.gmul_comm ha (K.gpow_lt n)]; rfl
      apply K.Ev.succ
      simp only [spec_l1Power.l0, if_pos (show ((n + 1 : Nat) : Int) > 0 by omega), w.out]
      refine Ev.bind (l1Times_ev o a ho ha) ?_
      rw [e]
      exact ih _ (by omega) (K.gmul_lt ho)
  have := key n 1 hn (by omega)
  rw [K.one_gmul (K.gpow_lt n)] at this
  simp only [spec_l1Power.f]
  exact this

theorem l1Inverse_ev (a : Nat) (ha : a < 256) : Ev (fun k => spec_l1Inverse.f k (a : Int)) ((K.ginv a : Nat) : Int) := by
  simp only [spec_l1Inverse.f]
  by_cases h : (a : Int) = 0
  · simp only [if_pos h]
    obtain rfl : a = 0 := by omega
    have : K.ginv 0 = 0 := K.gpow_zero 254 (by omega)
    rw [this]
    exact Ev.now _
  · simp only [if_neg h]
    exact Ev.bind (l1Power_ev a 254 ha (by omega)) (Ev.now _)

theorem l1Scale_ev (f : Nat) (r : List Nat) (hf : f < 256) (hr : K.Bytes r) (hl : r.length ≤ 1000000) : Ev (fun k => spec_l1Scale.f k (f : Int) (K.il r)) (K.il (K.scl f r)) := by
  have key : ∀ (d i : Nat), i + d = r.length → Ev (fun k => spec_l1Scale.l0 k (f : Int) (K.il (K.scl f (r.take i))) (K.il r) (r.length : Int) (i : Int)) (K.il (K.scl f r)) := by
    intro d
    induction d with
    | zero =>
      intro i h
      apply K.Ev.succ
      simp only [spec_l1Scale.l0, if_neg (show ¬ ((i : Int) < (r.length : Int)) by omega)]
      rw [List.take_of_length_le (by omega)]
      exact Ev.now _
    | succ d ih =>
      intro i h
      have hi : i < r.length := by omega
      have hx := ih (i + 1) (by omega)
      rw [K.take_succ' _ _ hi, K.scl_snoc] at hx
      apply K.Ev.succ
      simp only [spec_l1Scale.l0, K.il_length, if_pos (show (i : Int) < (r.length : Int) by omega), if_pos (show (0 : Int) ≤ (i : Int) by omega), K.rd_il hi]
      refine Ev.bind (l1Times_ev f r[i] hf (hr _ (List.getElem_mem hi))) ?_
      simp only [K.scl_length, if_pos (show (r.take i).length < 140737488355328 by simp; omega), K.w64s i (show i < 9223372036854775807 by omega), K.il_snoc]
      exact hx
  simp only [spec_l1Scale.f, K.il_length]
  exact key r.length 0 (by omega)

theorem l2_lft_row (c : Nat) (R : List (List Nat)) (i : Nat) : rd_L5 (K.ill (K.lft c R)) (i : Int) = K.il ((K.row R i).take c) := by
  rw [← K.lft_row]; exact K.ill_row _ i
theorem l2_rgt_row (c : Nat) (R : List (List Nat)) (i : Nat) : rd_L5 (K.ill (K.rgt c R)) (i : Int) = K.il ((K.row R i).drop c) := by
  rw [← K.rgt_row]; exact K.ill_row _ i
theorem l1Add_ev (a b : List Nat) (ha : K.Bytes a) (hb : K.Bytes b) (hl : a.length ≤ 1000000) (he : a.length = b.length) : Ev (fun k => spec_l1Add.f k (K.il a) (K.il b)) (K.il (K.addr a b)) := by
  have key : ∀ (d i : Nat), i + d = a.length → Ev (fun k => spec_l1Add.l0 k (K.il a) (K.il b) (K.il (K.addr (a.take i) (b.take i))) (a.length : Int) (i : Int)) (K.il (K.addr a b)) := by
    intro d
    induction d with
    | zero =>
      intro i h
      apply K.Ev.succ
      simp only [spec_l1Add.l0, if_neg (show ¬ ((i : Int) < (a.length : Int)) by omega)]
      rw [List.take_of_length_le (by omega), List.take_of_length_le (by omega)]
      exact Ev.now _
    | succ d ih =>
      intro i h
      have hi : i < a.length := by omega
      have hj : i < b.length := by omega
      have hx := ih (i + 1) (by omega)
      rw [K.addr_succ hi hj] at hx
      apply K.Ev.succ
      simp only [spec_l1Add.l0, K.il_length, if_pos (show (i : Int) < (a.length : Int) by omega), if_pos (show (i : Int) < (b.length : Int) by omega), if_pos (show (0 : Int) ≤ (i : Int) by omega), K.rd_il hi, K.rd_il hj, K.xor_u8 (ha _ (List.getElem_mem hi)) (hb _ (List.getElem_mem hj))]
      simp only [if_pos (show (K.addr (a.take i) (b.take i)).length < 140737488355328 by simp [K.addr]; omega), K.w64s i (show i < 9223372036854775807 by omega), K.il_snoc]
      exact hx
  simp only [spec_l1Add.f, K.il_length]
  exact key a.length 0 (by omega)

theorem l2_clears {n w c : Nat} (hn : n ≤ 100000) (hw : w ≤ 1000000) (hc : c ≤ w) (a j : Nat) (ha : a < n) (hj : j < c) (X : (List (List Int)) × (List (List Int)) × Int) : ∀ (d i : Nat) (R : List (List Nat)), K.Mat n w R → i + d = n → Ev (fun k => spec_l2Reduce.l0 k ((a + 1 : Nat) : Int) ((j + 1 : Nat) : Int) (K.ill (K.lft c (K.clrs a j d i R))) (K.ill (K.rgt c (K.clrs a j d i R)))) X → Ev (fun k => spec_l2Reduce.l2 k (a : Int) (j : Int) (n : Int) (i : Int) (K.ill (K.lft c R)) (K.ill (K.rgt c R))) X := by
  intro d
  induction d with
  | zero =>
    intro i R h hd hx
    apply K.Ev.succ
    simp only [spec_l2Reduce.l2, if_neg (show ¬ ((i : Int) < (n : Int)) by omega), K.w64s a (show a < 9223372036854775807 by omega), K.w64s j (show j < 9223372036854775807 by omega)]
    exact hx
  | succ d ih =>
    intro i R h hd hx
    have hi : i < n := by omega
    have wi : (K.row R i).length = w := h.row_wid hi
    have wa : (K.row R a).length = w := h.row_wid ha
    have hl : (K.ill (K.lft c R)).length = n := by rw [K.ill_length, K.lft_length, h.len]
    have hl2 : (K.ill (K.rgt c R)).length = n := by rw [K.ill_length, K.rgt_length, h.len]
    have ent : rd (K.il ((K.row R i).take c)) (j : Int) = ((K.ent R i j : Nat) : Int) := by rw [K.il_getD, K.take_getD hj]; rfl
    have he := h.ent_lt i j
    have hx' := ih (i + 1) _ (K.clr_mat (j := j) h ha hi) (by omega) hx
    clear ih hx
    apply K.Ev.succ
    simp only [spec_l2Reduce.l2, hl, if_pos (show (i : Int) < (n : Int) by omega), if_pos (show (0 : Int) ≤ (i : Int) by omega), if_pos (show (0 : Int) ≤ (j : Int) by omega), l2_lft_row, K.il_length, List.length_take, wi, if_pos (show (j : Int) < ((min c w : Nat) : Int) by omega), ent]
    by_cases e : i = a ∨ K.ent R i j = 0
    · have e1 : K.clr a j i R = R := by unfold K.clr; rw [if_pos e]
      rw [e1] at hx'
      have done : Ev (fun k => spec_l2Reduce.j5 k (a : Int) (j : Int) (i : Int) ((K.ent R i j : Nat) : Int) (n : Int) (i : Int) false (K.ill (K.lft c R)) (K.ill (K.rgt c R))) X := by
        apply K.Ev.succ
        simp only [spec_l2Reduce.j5, Bool.false_eq_true, if_false, K.w64s i (show i < 9223372036854775807 by omega)]
        exact hx'
      by_cases q : (i : Int) = (a : Int)
      · simp only [if_pos q]; exact done
      · simp only [if_neg q]
        have z : (((K.ent R i j : Nat) : Int) != 0) = false := by
          rcases e with e | e
          · omega
          · rw [e]; rfl
        rw [z]; exact done
    · have e1 : K.clr a j i R = R.set i (K.addr (K.row R i) (K.scl (K.ent R i j) (K.row R a))) := by unfold K.clr; rw [if_neg e]
      have q : ¬ (i : Int) = (a : Int) := fun q => e (Or.inl (by omega))
      have z : (((K.ent R i j : Nat) : Int) != 0) = true := by
        rw [bne_iff_ne]; intro q; exact e (Or.inr (by omega))
      rw [e1, ← K.lft_set, ← K.rgt_set, K.addr_take, K.addr_drop, K.scl_take, K.scl_drop, ← K.ill_set, ← K.ill_set] at hx'
      simp only [if_neg q, z]
      apply K.Ev.succ
      simp only [spec_l2Reduce.j5, if_true, hl, hl2, if_pos (show (i : Int) < (n : Int) by omega), if_pos (show (0 : Int) ≤ (i : Int) by omega), if_pos (show (a : Int) < (n : Int) by omega), if_pos (show (0 : Int) ≤ (a : Int) by omega), l2_lft_row, l2_rgt_row]
      refine Ev.bind (l1Scale_ev (K.ent R i j) ((K.row R a).take c) he ((h.row_byt a).take c) (by simp; omega)) ?_
      refine Ev.bind (l1Add_ev ((K.row R i).take c) (K.scl (K.ent R i j) ((K.row R a).take c)) ((h.row_byt i).take c) (K.scl_bytes he _) (by simp; omega) (by rw [K.scl_length, List.length_take, List.length_take, wi, wa])) ?_
      refine Ev.bind (l1Scale_ev (K.ent R i j) ((K.row R a).drop c) he ((h.row_byt a).drop c) (by simp; omega)) ?_
      refine Ev.bind (l1Add_ev ((K.row R i).drop c) (K.scl (K.ent R i j) ((K.row R a).drop c)) ((h.row_byt i).drop c) (K.scl_bytes he _) (by simp; omega) (by rw [K.scl_length, List.length_drop, List.length_drop, wi, wa])) ?_
      simp only [Int.toNat_natCast, K.w64s i (show i < 9223372036854775807 by omega)]
      exact hx'
theorem l2_seeks {n w c : Nat} (hn : n ≤ 100000) (hc : c ≤ w) (a j : Nat) (hj : j < c) (X : (List (List Int)) × (List (List Int)) × Int) (R : List (List Nat)) (h : K.Mat n w R) : ∀ (d i : Nat), i + d = n → Ev (fun k => spec_l2Reduce.j3 k (a : Int) (j : Int) ((K.piv R j d i : Nat) : Int) (K.ill (K.lft c R)) (K.ill (K.rgt c R))) X → Ev (fun k => spec_l2Reduce.l1 k (a : Int) (j : Int) (i : Int) (K.ill (K.lft c R)) (K.ill (K.rgt c R))) X := by
  have hl : (K.ill (K.lft c R)).length = n := by rw [K.ill_length, K.lft_length, h.len]
  intro d
  induction d with
  | zero =>
    intro i hd hx
    apply K.Ev.succ
    simp only [spec_l2Reduce.l1, hl, if_neg (show ¬ ((i : Int) < (n : Int)) by omega)]
    exact hx
  | succ d ih =>
    intro i hd hx
    have wi : (K.row R i).length = w := h.row_wid (by omega)
    have ent : rd (K.il ((K.row R i).take c)) (j : Int) = ((K.ent R i j : Nat) : Int) := by rw [K.il_getD, K.take_getD hj]; rfl
    apply K.Ev.succ
    simp only [spec_l2Reduce.l1, hl, if_pos (show (i : Int) < (n : Int) by omega), if_pos (show (0 : Int) ≤ (i : Int) by omega), if_pos (show (0 : Int) ≤ (j : Int) by omega), l2_lft_row, K.il_length, List.length_take, wi, if_pos (show (j : Int) < ((min c w : Nat) : Int) by omega), ent]
    unfold K.piv at hx
    by_cases e : K.ent R i j = 0
    · rw [if_pos e] at hx
      simp only [if_pos (show ((K.ent R i j : Nat) : Int) = 0 by omega), K.w64s i (show i < 9223372036854775807 by omega)]
      exact ih (i + 1) (by omega) hx
    · rw [if_neg e] at hx
      simp only [if_neg (show ¬ ((K.ent R i j : Nat) : Int) = 0 by omega)]
      exact hx
theorem l2_loop {n w c : Nat} (hn : n ≤ 100000) (hn0 : 0 < n) (hw : w ≤ 1000000) (hc : c ≤ w) : ∀ (d a j : Nat) (R : List (List Nat)), K.Mat n w R → j + d = c → a ≤ n → Ev (fun k => spec_l2Reduce.l0 k (a : Int) (j : Int) (K.ill (K.lft c R)) (K.ill (K.rgt c R))) (K.ill (K.lft c (K.elim d a j R).1), K.ill (K.rgt c (K.elim d a j R).1), (((K.elim d a j R).2 : Nat) : Int)) := by
  intro d
  induction d with
  | zero =>
    intro a j R h hd ha
    have hl : (K.ill (K.lft c R)).length = n := by rw [K.ill_length, K.lft_length, h.len]
    have r0 := l2_lft_row c R 0
    have w0 : (K.row R 0).length = w := h.row_wid hn0
    apply K.Ev.succ
    simp only [Int.natCast_zero] at r0
    simp only [spec_l2Reduce.l0, hl, if_pos (show (0 : Int) < (n : Int) by omega), r0, K.il_length, List.length_take, w0, if_neg (show ¬ ((j : Int) < ((min c w : Nat) : Int)) by omega)]
    apply K.Ev.succ
    simp only [spec_l2Reduce.j1, Bool.false_eq_true, if_false, K.elim]
    exact Ev.now _
  | succ d ih =>
    intro a j R h hd ha
    have hl : (K.ill (K.lft c R)).length = n := by rw [K.ill_length, K.lft_length, h.len]
    have hl2 : (K.ill (K.rgt c R)).length = n := by rw [K.ill_length, K.rgt_length, h.len]
    have r0 := l2_lft_row c R 0
    have w0 : (K.row R 0).length = w := h.row_wid hn0
    apply K.Ev.succ
    simp only [Int.natCast_zero] at r0
    simp only [spec_l2Reduce.l0, hl, if_pos (show (0 : Int) < (n : Int) by omega), r0, K.il_length, List.length_take, w0, if_pos (show ((j : Int) < ((min c w : Nat) : Int)) by omega)]
    apply K.Ev.succ
    unfold K.elim
    rw [h.len]
    by_cases h1 : a < n
    · simp only [spec_l2Reduce.j1, decide_eq_true (show (a : Int) < (n : Int) by omega), if_true, if_pos h1]
      refine l2_seeks hn hc a j (by omega) _ R h (n - a) a (by omega) ?_
      have pg := K.piv_ge R j (n - a) a
      have pn := K.piv_ne R j (n - a) a
      generalize K.piv R j (n - a) a = p at pg pn ⊢
      apply K.Ev.succ
      by_cases h2 : p < n
      · have wp : (K.row R p).length = w := h.row_wid h2
        have ent : rd (K.il ((K.row R p).take c)) (j : Int) = ((K.ent R p j : Nat) : Int) := by rw [K.il_getD, K.take_getD (by omega)]; rfl
        have he := h.ent_lt p j
        simp only [spec_l2Reduce.j3, hl, hl2, if_neg (show ¬ ((p : Int) = (n : Int)) by omega), if_pos (show (p : Int) < (n : Int) by omega), if_pos (show (a : Int) < (n : Int) by omega), if_pos (show (0 : Int) ≤ (p : Int) by omega), if_pos (show (0 : Int) ≤ (a : Int) by omega), if_pos (show (0 : Int) ≤ (j : Int) by omega), l2_lft_row, l2_rgt_row, K.il_length, List.length_take, wp, if_pos (show ((j : Int) < ((min c w : Nat) : Int)) by omega), ent, if_pos h2]
        refine Ev.bind (l1Inverse_ev (K.ent R p j) he) ?_
        refine Ev.bind (l1Scale_ev (K.ginv (K.ent R p j)) ((K.row R p).take c) (K.ginv_lt _) ((h.row_byt p).take c) (by simp; omega)) ?_
        refine Ev.bind (l1Scale_ev (K.ginv (K.ent R p j)) ((K.row R p).drop c) (K.ginv_lt _) ((h.row_byt p).drop c) (by simp; omega)) ?_
        simp only [Int.toNat_natCast]
        have hx := ih (a + 1) (j + 1) (K.estep a j p R) (K.estep_mat h h1 h2) (by omega) (by omega)
        have es : K.estep a j p R = K.clrs a j n 0 (K.lead a j p R) := by unfold K.estep; rw [h.len]
        have g := l2_clears hn hw hc a j h1 (by omega) _ n 0 (K.lead a j p R) (K.lead_mat h h1 h2) (by omega) (by rw [← es]; exact hx)
        have e1 : K.ill (K.lft c (K.lead a j p R)) = ((K.ill (K.lft c R)).set p (K.il ((K.row R a).take c))).set a (K.il (K.scl (K.ginv (K.ent R p j)) ((K.row R p).take c))) := by
          unfold K.lead; rw [← K.lft_set, ← K.lft_set, K.scl_take, K.ill_set, K.ill_set]
        have e2 : K.ill (K.rgt c (K.lead a j p R)) = ((K.ill (K.rgt c R)).set p (K.il ((K.row R a).drop c))).set a (K.il (K.scl (K.ginv (K.ent R p j)) ((K.row R p).drop c))) := by
          unfold K.lead; rw [← K.rgt_set, ← K.rgt_set, K.scl_drop, K.ill_set, K.ill_set]
        rw [e1, e2] at g
        exact g
      · simp only [spec_l2Reduce.j3, hl, if_pos (show ((p : Int) = (n : Int)) by omega), if_neg h2, K.w64s j (show j < 9223372036854775807 by omega)]
        exact ih a (j + 1) R h (by omega) ha
    · simp only [spec_l2Reduce.j1, decide_eq_false (show ¬ (a : Int) < (n : Int) by omega), Bool.false_eq_true, if_false, if_neg h1]
      exact Ev.now _
/-- The reference's elimination of A, with B carried along. -/
theorem l2Reduce_ev (A B : List (List Nat)) {n u v : Nat} (hA : K.Mat n u A) (hB : K.Mat n v B) (hn : n ≤ 100000) (hn0 : 0 < n) (hw : u + v ≤ 1000000) : Ev (fun k => spec_l2Reduce.f k (K.ill A) (K.ill B)) (K.ill (K.lft u (K.elim u 0 0 (K.beside A B)).1), K.ill (K.rgt u (K.elim u 0 0 (K.beside A B)).1), (((K.elim u 0 0 (K.beside A B)).2 : Nat) : Int)) := by
  simp only [spec_l2Reduce.f]
  refine Ev.bind (l2Own_ev A hA hn (by omega)) ?_
  refine Ev.bind (l2Own_ev B hB hn (by omega)) ?_
  have := l2_loop hn hn0 hw (Nat.le_add_right u v) u 0 0 (K.beside A B) (K.beside_mat hA hB) (by omega) (by omega)
  rw [K.beside_lft hA hB, K.beside_rgt hA hB] at this
  exact this

theorem l2Rank_ev (R : List (List Nat)) {n w : Nat} (h : K.Mat n w R) (hn0 : 0 < n) (hn : n ≤ 1000) (hw : w ≤ 1000) : Ev (fun k => spec_l2Rank.f k (K.ill R)) (((K.elim w 0 0 R).2 : Nat) : Int) := by
  simp only [spec_l2Rank.f]
  refine Ev.bind (l2Reduce_ev R R h h (by omega) hn0 (by omega)) ?_
  rw [K.beside_rank h h]
  exact Ev.now _

theorem first_ev (n : Nat) (hn : n ≤ 12) (l : List S54) (hl : l.length ≤ 40) (ps : List (List Nat × ByteArray)) (p1 : ps.length = l.length) (p2 : ∀ p ∈ ps, p.1.length = n ∧ K.Bytes p.1) (p3 : ps.map Prod.snd = l.map (·.f1))
    (p4 : ∀ i (h : i < l.length) (h' : i < ps.length), Ev (fun k => spec_l9Row.f k l[i].f0 (n : Int)) (K.il ps[i].1)) : Ev (fun k => spec_l9First.f k l (n : Int)) (K.ill (greedyD n [] [] ps).1, (greedyD n [] [] ps).2) := by
  have key : ∀ (d i : Nat) (C : List (List Nat)) (D : List ByteArray), i + d = l.length → K.Mat C.length n C → C.length ≤ i → D.length ≤ i → Ev (fun k => spec_l9First.l0 k (n : Int) D l (l.length : Int) (i : Int) (K.ill C)) (K.ill (greedyD n C D (ps.drop i)).1, (greedyD n C D (ps.drop i)).2) := by
    intro d
    induction d with
    | zero =>
      intro i C D hi hC hc hd
      obtain rfl : i = l.length := by omega
      apply K.Ev.succ
      rw [List.drop_of_length_le (by omega)]
      simp only [spec_l9First.l0, if_neg (show ¬ ((l.length : Int) < (l.length : Int)) by omega)]
      exact Ev.now _
    | succ d ih =>
      intro i C D hi hC hc hd
      have hil : i < l.length := by omega
      have hip : i < ps.length := by omega
      have hr : rd_T54 l (i : Int) = l[i] := by simp [rd_T54, hil]
      obtain ⟨q1, q2⟩ := p2 _ (List.getElem_mem hip)
      have q3 : ps[i].2 = l[i].f1 := by
        have := List.getElem_of_eq p3 (show i < (ps.map Prod.snd).length by simpa using hip)
        simpa using this
      have hM := K.snoc_mat hC q1 q2
      rw [List.drop_eq_getElem_cons hip]
      have hil2 : (C ++ [ps[i].1]).length = C.length + 1 := by simp
      apply K.Ev.succ
      simp only [spec_l9First.l0, if_pos (show (i : Int) < (l.length : Int) by omega), if_pos (show (0 : Int) ≤ (i : Int) by omega), hr, K.w64s i (show i < 9223372036854775807 by omega)]
      refine Ev.bind (l2Own_ev C hC (by omega) (by omega)) ?_
      refine Ev.bind (p4 i hil hip) ?_
      simp only [K.ill_length, if_pos (show C.length < 5864062014805 by omega), Option.bind_some, K.ill_snoc, hil2]
      refine Ev.bind (l2Rank_ev _ hM (by omega) (by omega) (by omega)) ?_
      unfold greedyD
      by_cases e : (K.elim n 0 0 (C ++ [ps[i].1])).2 = C.length + 1
      · rw [if_pos e]
        simp only [if_pos (show (((K.elim n 0 0 (C ++ [ps[i].1])).2 : Nat) : Int) = ((C.length + 1 : Nat) : Int) by omega), if_pos (show D.length < 8796093022208 by omega)]
        have := ih (i + 1) (C ++ [ps[i].1]) (D ++ [ps[i].2]) (by omega) (by rw [hil2]; exact hM) (by omega) (by simp; omega)
        rw [q3] at this ⊢
        exact this
      · rw [if_neg e]
        simp only [if_neg (show ¬ (((K.elim n 0 0 (C ++ [ps[i].1])).2 : Nat) : Int) = ((C.length + 1 : Nat) : Int) by omega)]
        exact ih (i + 1) C D (by omega) hC (by omega) (by omega)
  have m0 : K.Mat ([] : List (List Nat)).length n [] := ⟨rfl, fun r hr => by simp at hr, fun r hr => by simp at hr⟩
  have := key l.length 0 [] [] (by omega) m0 (by simp) (by simp)
  rw [List.drop_zero] at this
  exact this

theorem l2Blank_ev (n c : Nat) (hn : n ≤ 100000) (hc : c ≤ 1000000) : Ev (fun k => spec_l2Blank.f k (n : Int) (c : Int)) (K.ill (List.replicate n (List.replicate c 0))) := by
  have key : ∀ (d i : Nat), i + d = n → Ev (fun k => spec_l2Blank.l0 k (n : Int) (c : Int) (i : Int) (K.ill (List.replicate i (List.replicate c 0)))) (K.ill (List.replicate n (List.replicate c 0))) := by
    intro d
    induction d with
    | zero =>
      intro i hd
      apply K.Ev.succ
      simp only [spec_l2Blank.l0, if_neg (show ¬ ((i : Int) < (n : Int)) by omega)]
      obtain rfl : i = n := by omega
      exact Ev.now _
    | succ d ih =>
      intro i hd
      have hx := ih (i + 1) (by omega)
      rw [List.replicate_succ'] at hx
      apply K.Ev.succ
      simp only [spec_l2Blank.l0, K.ill_length, if_pos (show (i : Int) < (n : Int) by omega), if_pos (show (0 : Int) ≤ (c : Int) by omega), Int.toNat_natCast, if_pos (show c ≤ 281474976710656 by omega), List.length_replicate, if_pos (show i < 5864062014805 by omega), K.w64s i (show i < 9223372036854775807 by omega), K.il_zeros, K.ill_snoc]
      exact hx
  have := key n 0 (by omega)
  simp only [spec_l2Blank.f]
  exact this

theorem l2Identity_ev (n : Nat) (hn : n ≤ 100000) : Ev (fun k => spec_l2Identity.f k (n : Int)) (K.ill (K.idm n)) := by
  have key : ∀ (d i : Nat) (R : List (List Nat)), i + d = n → R.length = n → (∀ j, j < i → K.row R j = K.unit n j) → (∀ j, i ≤ j → j < n → K.row R j = List.replicate n 0) → Ev (fun k => spec_l2Identity.l0 k (n : Int) (i : Int) (K.ill R)) (K.ill (K.idm n)) := by
    intro d
    induction d with
    | zero =>
      intro i R hd hl h1 h2
      apply K.Ev.succ
      simp only [spec_l2Identity.l0, if_neg (show ¬ ((i : Int) < (n : Int)) by omega)]
      have e : R = K.idm n := by
        apply List.ext_getElem
        · rw [hl, (K.idm_mat n).len]
        · intro j g1 g2
          have := h1 j (by omega)
          rw [K.row_eq g1] at this
          rw [this, ← K.row_eq g2, K.idm_row (by omega)]
      rw [e]; exact Ev.now _
    | succ d ih =>
      intro i R hd hl h1 h2
      have hi : i < R.length := by omega
      have hr : rd_L5 (K.ill R) (i : Int) = K.il (List.replicate n 0) := by
        rw [← h2 i (by omega) (by omega)]; exact K.ill_row R i
      have hx := ih (i + 1) (R.set i (K.unit n i)) (by omega) (by simpa using hl) (fun j hj => by
        rw [K.row_set hi]
        by_cases e : i = j
        · subst e; rw [if_pos rfl]
        · rw [if_neg e]; exact h1 j (by omega)) (fun j g1 g2 => by
        rw [K.row_set hi, if_neg (by omega)]; exact h2 j (by omega) g2)
      rw [← K.ill_set, ← K.il_unit, K.il_zeros] at hx
      apply K.Ev.succ
      simp only [spec_l2Identity.l0, K.ill_length, hl, if_pos (show (i : Int) < (n : Int) by omega), if_pos (show (0 : Int) ≤ (i : Int) by omega), hr, K.il_length, List.length_replicate, K.w64s i (show i < 9223372036854775807 by omega), Int.toNat_natCast]
      exact hx
  simp only [spec_l2Identity.f]
  refine Ev.bind (l2Blank_ev n n hn (by omega)) ?_
  simp only [K.ill_length, List.length_replicate]
  exact key n 0 _ (by omega) (by simp) (fun j hj => by omega) (fun j _ hj => by simp [K.row, hj])

theorem l2Inverse_ev (A : List (List Nat)) {n : Nat} (hA : K.Mat n n A) (hn : n ≤ 100000) (hn0 : 0 < n) : Ev (fun k => spec_l2Inverse.f k (K.ill A)) (K.ill (K.minv A).1, decide ((K.minv A).2 = n)) := by
  simp only [spec_l2Inverse.f, K.ill_length, hA.len]
  refine Ev.bind (l2Identity_ev n hn) ?_
  refine Ev.bind (l2Reduce_ev A (K.idm n) hA (K.idm_mat n) hn hn0 (by omega)) ?_
  unfold K.minv
  rw [hA.len]
  refine K.Ev.to (Ev.now _) ?_
  congr 1
  generalize (K.elim n 0 0 (K.beside A (K.idm n))).2 = q
  show ((q : Int) == (n : Int)) = decide (q = n)
  by_cases e : q = n
  · subst e; simp
  · rw [decide_eq_false e, beq_eq_false_iff_ne]; omega

theorem mix_set (X Y : List Nat) (h : X.length = Y.length) (p : Nat) (hp : p < X.length) : (K.il (Y.take p ++ X.drop p)).set p ((Y.getD p 0 : Nat) : Int) = K.il (Y.take (p + 1) ++ X.drop (p + 1)) := by
  have g : Y.getD p 0 = Y[p]'(by omega) := by simp [show p < Y.length by omega]
  have hl : (K.il (Y.take p)).length = p := by rw [K.il_length, List.length_take]; omega
  rw [K.take_succ' Y p (by omega), List.drop_eq_getElem_cons hp, g]
  have e1 : K.il (Y.take p ++ X[p] :: X.drop (p + 1)) = K.il (Y.take p) ++ ((X[p] : Nat) : Int) :: K.il (X.drop (p + 1)) := by simp only [K.il, List.map_append, List.map_cons, List.map_nil, List.append_assoc, List.cons_append, List.nil_append]
  have e2 : K.il (Y.take p ++ [Y[p]'(by omega)] ++ X.drop (p + 1)) = K.il (Y.take p) ++ ((Y[p]'(by omega) : Nat) : Int) :: K.il (X.drop (p + 1)) := by simp only [K.il, List.map_append, List.map_cons, List.map_nil, List.append_assoc, List.cons_append, List.nil_append]
  rw [e1, e2, List.set_append_right _ _ (by rw [hl]; exact Nat.le_refl _), hl, Nat.sub_self]
  rfl
def nb (s : ByteArray) : List Nat := s.data.toList.map (fun b => b.toNat)
theorem bytesOf_nb (s : ByteArray) : bytesOf s = K.il (nb s) := by simp [bytesOf, nb, K.il]
theorem nb_length (s : ByteArray) : (nb s).length = s.size := by
  have := bytesOf_length s
  rw [bytesOf_nb, K.il_length] at this
  exact this
theorem nb_bytes (s : ByteArray) : K.Bytes (nb s) := by
  intro x hx
  obtain ⟨b, _, rfl⟩ := List.mem_map.1 hx
  exact b.toNat_lt
theorem l3Inner (D : List ByteArray) (O : List ByteArray) (M : List (List Int)) (a b c e : Int) (r : List Int) (j : Nat) (hj : j < D.length) (x : Nat) (hx : x < 256) (X : List Nat) (hX : K.Bytes X) (hs : (rdOf ByteArray.empty D (j : Int)).size = X.length) (hl : X.length ≤ 1000) (R : List ByteArray)
    (h : Ev (fun k => spec_l3Rows.l1 k D O (K.il (K.addr X (K.scl x (nb (rdOf ByteArray.empty D (j : Int)))))) M a b r c (wrap64 (e + 1))) R) : Ev (fun k => spec_l3Rows.l2 k D O (K.il X) (j : Int) (x : Int) M a b r c e (X.length : Int) 0) R := by
  have hY : X.length = (K.addr X (K.scl x (nb (rdOf ByteArray.empty D (j : Int))))).length := by
    rw [K.addr_length (by rw [K.scl_length, nb_length, hs])]
  have hyp : ∀ p (hp : p < X.length), (K.addr X (K.scl x (nb (rdOf ByteArray.empty D (j : Int))))).getD p 0 = X[p] ^^^ K.gmul x ((nb (rdOf ByteArray.empty D (j : Int)))[p]'(by rw [nb_length, hs]; exact hp)) := by
    intro p hp
    have hnb : p < (nb (rdOf ByteArray.empty D (j : Int))).length := by rw [nb_length]; omega
    have hpl : p < (K.addr X (K.scl x (nb (rdOf ByteArray.empty D (j : Int))))).length := by omega
    rw [List.getD_eq_getElem?_getD, List.getElem?_eq_getElem hpl]
    simp [K.addr, K.scl]
  generalize K.addr X (K.scl x (nb (rdOf ByteArray.empty D (j : Int)))) = Y at h hY hyp
  have key : ∀ (d p : Nat), p + d = X.length → Ev (fun k => spec_l3Rows.l2 k D O (K.il (Y.take p ++ X.drop p)) (j : Int) (x : Int) M a b r c e (X.length : Int) (p : Int)) R := by
    intro d
    induction d with
    | zero =>
      intro p hp
      obtain rfl : p = X.length := by omega
      apply K.Ev.succ
      rw [List.take_of_length_le (by omega), List.drop_of_length_le (Nat.le_refl _), List.append_nil]
      simp only [spec_l3Rows.l2, if_neg (show ¬ ((X.length : Int) < (X.length : Int)) by omega)]
      exact h
    | succ d ih =>
      intro p hp
      have hpl : p < X.length := by omega
      have hq := ih (p + 1) (by omega)
      have hnb : p < (nb (rdOf ByteArray.empty D (j : Int))).length := by rw [nb_length]; omega
      have hbt : bt (rdOf ByteArray.empty D (j : Int)) (p : Int) = (((nb (rdOf ByteArray.empty D (j : Int)))[p] : Nat) : Int) := by
        rw [← rd_bytesOf, bytesOf_nb, K.rd_il hnb]
      have hbl := nb_bytes (rdOf ByteArray.empty D (j : Int)) _ (List.getElem_mem hnb)
      have hml : (K.il (Y.take p ++ X.drop p)).length = X.length := by rw [K.il_length, List.length_append, List.length_take, List.length_drop]; omega
      have hrd : rd (K.il (Y.take p ++ X.drop p)) (p : Int) = ((X[p] : Nat) : Int) := by
        rw [K.rd_il (by rw [K.il_length] at hml; omega)]
        congr 1
        rw [List.getElem_append_right (by simp; omega)]
        simp only [List.getElem_drop, List.length_take]
        congr 1
        omega
      apply K.Ev.succ
      simp only [spec_l3Rows.l2, if_pos (show (p : Int) < (X.length : Int) by omega), if_pos (show (0 : Int) ≤ (p : Int) by omega), hml, if_pos (show (0 : Int) ≤ (j : Int) by omega), if_pos (show (j : Int) < (D.length : Int) by omega), hs, hbt, K.w64s p (show p < 9223372036854775807 by omega)]
      refine Ev.bind (l1Times_ev x _ hx hbl) ?_
      rw [hrd, K.xor_u8 (hX _ (List.getElem_mem hpl)) (K.gmul_lt hx), Int.toNat_natCast, ← hyp p hpl, mix_set X Y hY p hpl]
      exact hq
  have := key X.length 0 (by omega)
  rw [List.take_zero, List.nil_append, List.drop_zero] at this
  exact this
/-- The bytes of a row's text, summed up to place j. -/
def trN (s : Nat) (r : List Nat) (D : List ByteArray) : Nat → List Nat
  | 0 => List.replicate s 0
  | j + 1 => K.addr (trN s r D j) (K.scl (r.getD j 0) (nb (rdOf ByteArray.empty D (j : Int))))
theorem trN_ok {s n : Nat} {r : List Nat} {D : List ByteArray} (hr : K.Bytes r) (hs : ∀ j : Nat, j < n → (rdOf ByteArray.empty D (j : Int)).size = s) : ∀ j, j ≤ n → (trN s r D j).length = s ∧ K.Bytes (trN s r D j)
  | 0, _ => ⟨by simp [trN], fun y hy => by rw [(List.mem_replicate.1 hy).2]; omega⟩
  | j + 1, h => by
    have ih := trN_ok hr hs j (by omega)
    have e : (K.scl (r.getD j 0) (nb (rdOf ByteArray.empty D (j : Int)))).length = s := by rw [K.scl_length, nb_length, hs j (by omega)]
    exact ⟨by unfold trN; rw [K.addr_length (by rw [ih.1, e])]; exact ih.1, K.addr_bytes ih.2 (K.scl_bytes (hr.getD j) _)⟩
theorem l3Rows_ev (M : List (List Nat)) (D : List ByteArray) (n s : Nat) (hM : K.Mat n n M) (hD : D.length = n) (hs : ∀ j : Nat, j < n → (rdOf ByteArray.empty D (j : Int)).size = s) (hs2 : s ≤ 1000) (hn : 1 ≤ n) (hn2 : n ≤ 12) : Ev (fun k => spec_l3Rows.f k (K.ill M) D) (M.map (fun r => strOfNums (K.il (trN s r D n)))) := by
  have key : ∀ (d i : Nat), i + d = n → Ev (fun k => spec_l3Rows.l0 k D ((M.take i).map (fun r => strOfNums (K.il (trN s r D n)))) (K.ill M) (n : Int) (i : Int)) (M.map (fun r => strOfNums (K.il (trN s r D n)))) := by
    intro d
    induction d with
    | zero =>
      intro i hi
      obtain rfl : i = n := by omega
      apply K.Ev.succ
      rw [List.take_of_length_le (by rw [hM.len]; omega)]
      simp only [spec_l3Rows.l0, if_neg (show ¬ ((i : Int) < (i : Int)) by omega)]
      exact Ev.now _
    | succ d ih =>
      intro i hi
      have hi' : i < n := by omega
      have hx := ih (i + 1) (by omega)
      have hb := hM.row_byt i
      have hw := hM.row_wid hi'
      have rr : rd_L5 (K.ill M) (i : Int) = K.il (K.row M i) := K.ill_row M i
      have e : (M.take (i + 1)).map (fun r => strOfNums (K.il (trN s r D n))) = (M.take i).map (fun r => strOfNums (K.il (trN s r D n))) ++ [strOfNums (K.il (trN s (K.row M i) D n))] := by
        rw [K.take_succ' _ _ (by rw [hM.len]; omega), List.map_append, K.row_eq (by rw [hM.len]; omega)]; rfl
      rw [e] at hx
      have hlen : ((M.take i).map (fun r => strOfNums (K.il (trN s r D n)))).length < 8796093022208 := by rw [List.length_map, List.length_take]; omega
      have sum : ∀ (c j : Nat), j + c = n → Ev (fun k => spec_l3Rows.l1 k D ((M.take i).map (fun r => strOfNums (K.il (trN s r D n)))) (K.il (trN s (K.row M i) D j)) (K.ill M) (n : Int) (i : Int) (K.il (K.row M i)) (n : Int) (j : Int)) (M.map (fun r => strOfNums (K.il (trN s r D n)))) := by
        intro c
        induction c with
        | zero =>
          intro j hj
          obtain rfl : j = n := by omega
          apply K.Ev.succ
          simp only [spec_l3Rows.l1, if_neg (show ¬ ((j : Int) < (j : Int)) by omega), if_pos hlen, K.w64s i (show i < 9223372036854775807 by omega)]
          exact hx
        | succ c ihc =>
          intro j hj
          have hj' : j < n := by omega
          have hjr : j < (K.row M i).length := by omega
          have hy := ihc (j + 1) (by omega)
          have t0 := trN_ok hb hs j (by omega)
          have g : (K.row M i).getD j 0 = (K.row M i)[j] := by simp [hjr]
          have hlt := hb _ (List.getElem_mem hjr)
          have e2 : trN s (K.row M i) D (j + 1) = K.addr (trN s (K.row M i) D j) (K.scl (K.row M i)[j] (nb (rdOf ByteArray.empty D (j : Int)))) := by rw [trN, g]
          rw [e2] at hy
          apply K.Ev.succ
          simp only [spec_l3Rows.l1, if_pos (show (j : Int) < (n : Int) by omega), if_pos (show (0 : Int) ≤ (j : Int) by omega), K.il_length, hw, K.rd_il hjr]
          refine l3Inner D _ _ _ _ _ _ _ j (by omega) _ hlt _ t0.2 (by rw [hs j hj', t0.1]) (by omega) _ ?_
          rw [K.w64s j (show j < 9223372036854775807 by omega)]
          exact hy
      have h0 := hs 0 (by omega)
      rw [show ((0 : Nat) : Int) = 0 from rfl] at h0
      apply K.Ev.succ
      simp only [spec_l3Rows.l0, if_pos (show (i : Int) < (n : Int) by omega), if_pos (show (0 : Int) ≤ (i : Int) by omega), K.ill_length, hM.len, hD, if_pos (show (0 : Int) < (n : Int) by omega), h0, if_pos (show (0 : Int) ≤ (s : Int) by omega), Int.toNat_natCast, if_pos (show s ≤ 281474976710656 by omega), rr, K.il_length, hw]
      have := sum n 0 (by omega)
      have z : K.il (trN s (K.row M i) D 0) = List.replicate s 0 := by simp [trN, K.il]
      rw [z] at this
      exact this
  simp only [spec_l3Rows.f, K.ill_length, hM.len]
  exact key n 0 (by omega)

theorem inRd (x lo hi : Int) : spec_l1In.f x lo hi = some (decide (lo ≤ x ∧ x ≤ hi)) := by
  unfold spec_l1In.f
  by_cases h : x ≥ lo
  · rw [if_pos h]; congr 1; rw [decide_eq_decide]; omega
  · rw [if_neg h, decide_eq_false (by omega)]
theorem inId (x lo hi : Int) : impl_within.f x lo hi = some (decide (lo ≤ x ∧ x ≤ hi)) := inRd x lo hi
/-- Whether texts have one length, which is not too great. -/
def evenB (l : List ByteArray) : Bool := l.all fun s => decide (s.size = (rdOf ByteArray.empty l 0).size) && decide (s.size ≤ 40)
/-- Whether drops are valid. -/
def dropsB (l : List S54) : Bool := l.all (fun d => decide (0 ≤ d.f0 ∧ d.f0 ≤ 100000)) && (decide (l.length ≤ 40) && evenB (l.map (·.f1)))
theorem areEqual_eq (l : List ByteArray) : impl_areEqual.f l = some (evenB l) := by
  unfold impl_areEqual.f evenB
  congr 1
  rw [List.all_eq_not_any_not]
  congr 1
  refine congrArg (List.any l) (funext fun s => ?_)
  unfold impl_areEqual.bad
  have e1 : decide (40 < s.size) = !decide (s.size ≤ 40) := by rw [← decide_not]; exact decide_eq_decide.mpr (by omega)
  have e2 : decide (s.size ≠ (rdOf ByteArray.empty l 0).size) = !decide (s.size = (rdOf ByteArray.empty l 0).size) := decide_not
  rw [e1, e2]
  cases decide (s.size ≤ 40) <;> cases decide (s.size = (rdOf ByteArray.empty l 0).size) <;> rfl
theorem areDrops_ev (l : List S54) (hl : l.length ≤ 1048576) : Ev (fun k => impl_areDrops.f k l) (dropsB l) := by
  have key : ∀ (d i : Nat), i + d = l.length → Ev (fun k => impl_areDrops.l0 k l ((l.take i).map (·.f1)) l (l.length : Int) (i : Int)) ((l.drop i).all (fun d => decide (0 ≤ d.f0 ∧ d.f0 ≤ 100000)) && (decide (l.length ≤ 40) && evenB (l.map (·.f1)))) := by
    intro d
    induction d with
    | zero =>
      intro i hi
      apply K.Ev.succ
      simp only [impl_areDrops.l0, if_neg (show ¬ ((i : Int) < (l.length : Int)) by omega)]
      rw [List.drop_of_length_le (by omega), List.take_of_length_le (by omega), List.all_nil, Bool.true_and]
      by_cases h : (l.length : Int) ≤ 40
      · simp only [if_pos h, areEqual_eq, Option.bind_some, decide_eq_true (show l.length ≤ 40 by omega), Bool.true_and]
        exact Ev.now _
      · simp only [if_neg h, decide_eq_false (show ¬ l.length ≤ 40 by omega), Bool.false_and]
        exact Ev.now _
    | succ d ih =>
      intro i hi
      have hil : i < l.length := by omega
      have hr : rd_T54 l (i : Int) = l[i] := by simp [rd_T54, hil]
      have ht : ((l.take i).map (·.f1)) ++ [l[i].f1] = (l.take (i + 1)).map (·.f1) := by
        rw [K.take_succ' l i hil, List.map_append]; rfl
      have hlen : ((l.take i).map (·.f1)).length < 8796093022208 := by rw [List.length_map, List.length_take]; omega
      apply K.Ev.succ
      simp only [impl_areDrops.l0, if_pos (show (i : Int) < (l.length : Int) by omega), if_pos (show (0 : Int) ≤ (i : Int) by omega), hr, impl_isSeed.f, inId, Option.bind_some, K.w64s i (show i < 9223372036854775807 by omega), if_pos hlen, ht]
      rw [List.drop_eq_getElem_cons hil, List.all_cons]
      by_cases h : 0 ≤ l[i].f0 ∧ l[i].f0 ≤ 100000
      · simp only [decide_eq_true h, if_true, Bool.true_and]
        exact ih (i + 1) (by omega)
      · simp only [decide_eq_false h, Bool.false_eq_true, if_false, Bool.false_and]
        exact Ev.now _
  simp only [impl_areDrops.f]
  have := key l.length 0 (by omega)
  rw [List.drop_zero, List.take_zero] at this
  exact this
theorem l9Drops_ev (l : List S54) (hl : l.length ≤ 1048576) : Ev (fun k => spec_l9Drops.f k l) (dropsB l) := by
  have key : ∀ (d i : Nat), i + d = l.length → ∃ b : Bool, Ev (fun k => spec_l9Drops.l0 k l l (l.length : Int) (i : Int)) b ∧ b = ((l.drop i).all (fun d => decide (0 ≤ d.f0 ∧ d.f0 ≤ 100000)) && (decide (l.length ≤ 40) && ((l.drop i).map (·.f1)).all fun s => decide (s.size = (rdOf ByteArray.empty (l.map (·.f1)) 0).size) && decide (s.size ≤ 40))) := by
    intro d
    induction d with
    | zero =>
      intro i hi
      refine ⟨decide ((l.length : Int) ≤ 40), ?_, ?_⟩
      · apply K.Ev.succ
        simp only [spec_l9Drops.l0, if_neg (show ¬ ((i : Int) < (l.length : Int)) by omega)]
        exact Ev.now _
      · rw [List.drop_of_length_le (by omega), List.all_nil, List.map_nil, List.all_nil, Bool.true_and, Bool.and_true]
        exact decide_eq_decide.mpr (by omega)
    | succ d ih =>
      intro i hi
      have hil : i < l.length := by omega
      have hr : rd_T54 l (i : Int) = l[i] := by simp [rd_T54, hil]
      have h0 : rdOf ByteArray.empty (l.map (·.f1)) 0 = (rd_T54 l 0).f1 := by
        have : 0 < l.length := by omega
        simp [rdOf, rd_T54, this]
      obtain ⟨b, e1, e2⟩ := ih (i + 1) (by omega)
      rw [List.drop_eq_getElem_cons hil, List.all_cons, List.map_cons, List.all_cons, h0]
      rw [h0] at e2
      by_cases h : 0 ≤ l[i].f0 ∧ l[i].f0 ≤ 100000
      · by_cases h1 : (l[i].f1.size : Int) = ((rd_T54 l 0).f1.size : Int)
        · by_cases h2 : (l[i].f1.size : Int) > 40
          · refine ⟨false, ?_, ?_⟩
            · apply K.Ev.succ
              simp only [spec_l9Drops.l0, if_pos (show (i : Int) < (l.length : Int) by omega), if_pos (show (0 : Int) ≤ (i : Int) by omega), hr, spec_l9Seed.f, inRd, Option.bind_some, decide_eq_true h, if_true, if_pos (show (0 : Int) < (l.length : Int) by omega), if_pos h1, if_pos h2]
              exact Ev.now _
            · rw [decide_eq_false (show ¬ l[i].f1.size ≤ 40 by omega)]; simp
          · refine ⟨b, ?_, ?_⟩
            · apply K.Ev.succ
              simp only [spec_l9Drops.l0, if_pos (show (i : Int) < (l.length : Int) by omega), if_pos (show (0 : Int) ≤ (i : Int) by omega), hr, spec_l9Seed.f, inRd, Option.bind_some, decide_eq_true h, if_true, if_pos (show (0 : Int) < (l.length : Int) by omega), if_pos h1, if_neg h2, K.w64s i (show i < 9223372036854775807 by omega)]
              exact e1
            · rw [decide_eq_true h, decide_eq_true (show l[i].f1.size ≤ 40 by omega), decide_eq_true (show l[i].f1.size = (rd_T54 l 0).f1.size by omega), e2]; simp
        · refine ⟨false, ?_, ?_⟩
          · apply K.Ev.succ
            simp only [spec_l9Drops.l0, if_pos (show (i : Int) < (l.length : Int) by omega), if_pos (show (0 : Int) ≤ (i : Int) by omega), hr, spec_l9Seed.f, inRd, Option.bind_some, decide_eq_true h, if_true, if_pos (show (0 : Int) < (l.length : Int) by omega), if_neg h1]
            exact Ev.now _
          · rw [decide_eq_false (show ¬ l[i].f1.size = (rd_T54 l 0).f1.size by omega)]; simp
      · refine ⟨false, ?_, ?_⟩
        · apply K.Ev.succ
          simp only [spec_l9Drops.l0, if_pos (show (i : Int) < (l.length : Int) by omega), if_pos (show (0 : Int) ≤ (i : Int) by omega), hr, spec_l9Seed.f, inRd, Option.bind_some, decide_eq_false h, Bool.false_eq_true, if_false]
          exact Ev.now _
        · rw [decide_eq_false h]; simp
  simp only [spec_l9Drops.f]
  obtain ⟨b, e1, e2⟩ := key l.length 0 (by omega)
  rw [List.drop_zero] at e2
  subst e2
  exact e1

theorem l9Collect (l : List Bool) (hl : l.length ≤ 1000) : Ev (fun k => spec_l9Blocks.l1 k ([] : List Int) l (l.length : Int) 0) (K.trues 0 l) := by
  have key : ∀ (d i : Nat) (acc : List Int), i + d = l.length → acc.length ≤ i → Ev (fun k => spec_l9Blocks.l1 k acc l (l.length : Int) (i : Int)) (acc ++ K.trues i (l.drop i)) := by
    intro d
    induction d with
    | zero =>
      intro i acc h _
      apply K.Ev.succ
      simp only [spec_l9Blocks.l1, if_neg (show ¬ ((i : Int) < (l.length : Int)) by omega)]
      rw [List.drop_of_length_le (by omega), K.trues, List.append_nil]
      exact Ev.now _
    | succ d ih =>
      intro i acc h ha
      have hi : i < l.length := by omega
      have hr : rdOf false l (i : Int) = l[i] := by simp [rdOf, hi]
      apply K.Ev.succ
      simp only [spec_l9Blocks.l1, if_pos (show (i : Int) < (l.length : Int) by omega), if_pos (show (0 : Int) ≤ (i : Int) by omega), hr, K.w64s i (by omega)]
      rw [List.drop_eq_getElem_cons hi]
      cases hb : l[i] with
      | true =>
        simp only [if_true, if_pos (show acc.length < 17592186044416 by omega), K.trues]
        have := ih (i + 1) (acc ++ [(i : Int)]) (by omega) (by simp; omega)
        rw [List.append_assoc] at this
        exact this
      | false =>
        simp only [Bool.false_eq_true, if_false, K.trues]
        exact ih (i + 1) acc (by omega) (by omega)
  have := key l.length 0 [] (by omega) (by simp)
  rw [List.nil_append, List.drop_zero] at this
  exact this

theorem nxS_eq (s : Int) (h0 : 0 ≤ s) (h1 : s ≤ 100000) : nxS s = (75 * s + 74) % 65537 := by
  unfold nxS
  rw [K.w64 (x := 75 * s) (by omega) (by omega), K.w64 (by omega) (by omega), Int.tmod_eq_emod_of_nonneg (by omega)]
theorem nxS_rng (s : Int) (h0 : 0 ≤ s) (h1 : s ≤ 100000) : 0 ≤ nxS s ∧ nxS s ≤ 65536 := by
  rw [nxS_eq s h0 h1]; omega
theorem tmod_rng (s : Int) (n : Nat) (h0 : 0 ≤ s) (hn : 0 < n) : ∃ j : Nat, Int.tmod s (n : Int) = (j : Int) ∧ j < n := by
  obtain ⟨a, rfl⟩ := Int.eq_ofNat_of_zero_le h0
  refine ⟨a % n, ?_, Nat.mod_lt _ hn⟩
  rw [Int.tmod_eq_emod_of_nonneg (by omega)]; omega
/-- What the two choices of blocks hold alike. -/
structure Same (n : Nat) (out : List Int) (inn : List Bool) : Prop where
  len : inn.length = n
  nodup : out.Nodup
  mem : ∀ j : Nat, (j : Int) ∈ out ↔ inn[j]? = some true
  rng : ∀ x ∈ out, ∃ j : Nat, x = (j : Int) ∧ j < n
/-- Valid shares. -/
structure GoodShares (m : List (Nat × Nat)) : Prop where
  len : m.length ≤ 20
  nz : ∀ p ∈ m, p.1 ≠ 0
  up : (m.map Prod.fst).Pairwise (· < ·)
theorem GoodShares.nodup {m : List (Nat × Nat)} (h : GoodShares m) : (m.map Prod.fst).Nodup := h.up.imp (fun h e => by omega)

theorem Same.end_ {n : Nat} {out : List Int} {inn : List Bool} (h : Same n out inn) : sortI out = K.trues 0 inn := by
  refine K.sort_unique h.nodup (K.trues_sorted inn 0) (fun x => ?_)
  rw [K.trues_mem]
  constructor
  · intro hx
    obtain ⟨j, rfl, hj⟩ := h.rng x hx
    exact ⟨j, by omega, (h.mem j).mp hx⟩
  · rintro ⟨j, rfl, hj⟩
    rw [Nat.zero_add]
    exact (h.mem j).mpr hj
theorem contains_int_ev (l : List Int) (x : Int) (hl : l.length ≤ 140737488355328) : Ev (fun k => slices_Contains_int_int.f k l x) (decide (x ∈ l)) := by
  have key : ∀ (d n : Nat), n + d = l.length → (∀ j, j < n → l[j]? ≠ some x) → ∃ r : Int, Ev (fun k => slices_Index_int_int.l0 k l x (l.length : Int) (n : Int)) r ∧ (r ≥ 0 ↔ x ∈ l) := by
    intro d
    induction d with
    | zero =>
      intro n h1 h2
      refine ⟨-1, ?_, ?_⟩
      · apply K.Ev.succ
        simp only [slices_Index_int_int.l0, if_neg (show ¬ ((n : Int) < (l.length : Int)) by omega)]
        exact Ev.now _
      · refine ⟨fun h => by omega, fun h => ?_⟩
        obtain ⟨j, hj⟩ := List.getElem?_of_mem h
        exact absurd hj (h2 j (by have := (List.getElem?_eq_some_iff.1 hj).1; omega))
    | succ d ih =>
      intro n h1 h2
      have hn : n < l.length := by omega
      by_cases hc : x = l[n]
      · refine ⟨(n : Int), ?_, fun _ => hc ▸ List.getElem_mem hn, fun _ => by omega⟩
        apply K.Ev.succ
        simp only [slices_Index_int_int.l0, if_pos (show (n : Int) < (l.length : Int) by omega), if_pos (show (0 : Int) ≤ (n : Int) by omega), K.rd_nat hn, if_pos hc]
        exact Ev.now _
      · obtain ⟨r, e1, e2⟩ := ih (n + 1) (by omega) (fun j hj => by
          rcases Nat.lt_or_ge j n with q | q
          · exact h2 j q
          · obtain rfl : j = n := by omega
            rw [List.getElem?_eq_getElem hn]; simpa using fun h => hc h.symm)
        refine ⟨r, ?_, e2⟩
        apply K.Ev.succ
        simp only [slices_Index_int_int.l0, if_pos (show (n : Int) < (l.length : Int) by omega), if_pos (show (0 : Int) ≤ (n : Int) by omega), K.rd_nat hn, if_neg hc, K.w64s n (show n < 9223372036854775807 by omega)]
        exact e1
  obtain ⟨r, e1, e2⟩ := key l.length 0 (by omega) (fun j hj => by omega)
  simp only [slices_Contains_int_int.f, slices_Index_int_int.f]
  refine Ev.bind e1 ?_
  rw [decide_eq_decide.mpr e2]
  exact Ev.now _

theorem Same.add {n : Nat} {out : List Int} {inn : List Bool} (h : Same n out inn) (j : Nat) (hj : j < n) (hn : ¬ (j : Int) ∈ out) : Same n (out ++ [(j : Int)]) (inn.set j true) := by
  refine ⟨by simpa using h.len, ?_, ?_, ?_⟩
  · rw [List.nodup_append]
    refine ⟨h.nodup, by simp, ?_⟩
    intro a ha b hb e
    rw [List.mem_singleton] at hb
    subst hb; subst e
    exact hn ha
  · intro i
    rw [List.mem_append, List.mem_singleton, List.getElem?_set]
    by_cases e : j = i
    · subst e
      simp [h.len, hj]
    · simp only [e, if_false]
      rw [← h.mem i]
      constructor
      · rintro (h | h)
        · exact h
        · omega
      · exact .inl
  · intro x hx
    rcases List.mem_append.mp hx with hx | hx
    · exact h.rng x hx
    · exact ⟨j, List.mem_singleton.mp hx, hj⟩
theorem blocks_loop (n : Nat) (hn : 0 < n) (hn2 : n ≤ 12) (c : Nat) (hc : 1 ≤ c) (hc4 : c ≤ 4) : ∀ (d u : Nat) (s : Int) (out : List Int) (inn : List Bool), u + d = 200 → 0 ≤ s → s ≤ 100000 → Same n out inn → out.length ≤ c → (out ≠ [] ∨ 0 < d) →
    ∃ out' inn', Same n out' inn' ∧ out'.length ≤ c ∧ out' ≠ [] ∧ Ev (fun k => impl_blocksOf.l0 k (n : Int) s out (c : Int) (u : Int)) out' ∧ ∀ R, Ev (fun k => spec_l9Blocks.l1 k ([] : List Int) inn' (inn'.length : Int) 0) R → Ev (fun k => spec_l9Blocks.l0 k (n : Int) s (c : Int) inn (out.length : Int) (u : Int)) R := by
  intro d
  induction d with
  | zero =>
    intro u s out inn hu h0 h1 hS hle hne
    obtain rfl : u = 200 := by omega
    refine ⟨out, inn, hS, hle, by rcases hne with h | h; exact h; omega, ?_, fun R hR => ?_⟩
    · apply K.Ev.succ
      simp only [impl_blocksOf.l0, if_neg (show ¬ (((200 : Nat) : Int) < 200) by omega)]
      apply K.Ev.succ
      simp only [impl_blocksOf.j1, Bool.false_eq_true, if_false]
      exact Ev.now _
    · apply K.Ev.succ
      simp only [spec_l9Blocks.l0, if_neg (show ¬ (((200 : Nat) : Int) < 200) by omega)]
      apply K.Ev.succ
      simp only [spec_l9Blocks.j2, Bool.false_eq_true, if_false]
      exact hR
  | succ d ih =>
    intro u s out inn hu h0 h1 hS hle hne
    have hu2 : (u : Int) < 200 := by omega
    by_cases hlt : out.length < c
    · obtain ⟨p0, p1⟩ := nxS_rng s h0 h1
      obtain ⟨j, hj, hjn⟩ := tmod_rng (nxS s) n p0 hn
      have hz : ¬ (n : Int) = 0 := by omega
      have hjl : j < inn.length := by rw [hS.len]; exact hjn
      have hw := K.Eqn.mk (K.w64s u (by omega))
      have hwl := K.Eqn.mk (K.w64s out.length (by omega))
      have hd : decide ((out.length : Int) < (c : Int)) = true := decide_eq_true (by omega)
      have hnx : spec_l9Next.f s = some (nxS s) := rfl
      have hrd : rdOf false inn (j : Int) = inn[j] := by simp [rdOf, hjl]
      have ho : out.length ≤ 140737488355328 := by omega
      by_cases hin : (j : Int) ∈ out
      · obtain ⟨out', inn', q1, q2, q3, q4, q5⟩ := ih (u + 1) (nxS s) out inn (by omega) p0 (by omega) hS hle (by left; intro e; rw [e] at hin; simp at hin)
        refine ⟨out', inn', q1, q2, q3, ?_, fun R hR => ?_⟩
        · apply K.Ev.succ
          simp only [impl_blocksOf.l0, if_pos hu2, hd]
          apply K.Ev.succ
          simp only [impl_blocksOf.j1, if_true, if_neg hz, hj]
          refine Ev.bind (contains_int_ev out (j : Int) ho) ?_
          simp only [decide_eq_true hin, if_true, hw.out]
          exact q4
        · apply K.Ev.succ
          simp only [spec_l9Blocks.l0, if_pos hu2, hd]
          apply K.Ev.succ
          have ht : inn[j] = true := by
            have := (hS.mem j).mp hin
            rw [List.getElem?_eq_getElem hjl] at this
            exact Option.some.inj this
          simp only [spec_l9Blocks.j2, if_true, hnx, Option.bind_some, if_neg hz, hj, if_pos (show (0 : Int) ≤ (j : Int) by omega), if_pos (show (j : Int) < (inn.length : Int) by omega), hrd, ht, hw.out]
          exact q5 R hR
      · have hS' := hS.add j hjn hin
        obtain ⟨out', inn', q1, q2, q3, q4, q5⟩ := ih (u + 1) (nxS s) (out ++ [(j : Int)]) (inn.set j true) (by omega) p0 (by omega) hS' (by simp; omega) (by left; simp)
        refine ⟨out', inn', q1, q2, q3, ?_, fun R hR => ?_⟩
        · apply K.Ev.succ
          simp only [impl_blocksOf.l0, if_pos hu2, hd]
          apply K.Ev.succ
          simp only [impl_blocksOf.j1, if_true, if_neg hz, hj]
          refine Ev.bind (contains_int_ev out (j : Int) ho) ?_
          simp only [decide_eq_false hin, Bool.false_eq_true, if_false, if_pos (show out.length < 17592186044416 by omega), hw.out]
          exact q4
        · apply K.Ev.succ
          simp only [spec_l9Blocks.l0, if_pos hu2, hd]
          apply K.Ev.succ
          have ht : inn[j] = false := by
            cases e : inn[j] with
            | false => rfl
            | true => exact absurd ((hS.mem j).mpr (by rw [List.getElem?_eq_getElem hjl, e])) hin
          simp only [spec_l9Blocks.j2, if_true, hnx, Option.bind_some, if_neg hz, hj, if_pos (show (0 : Int) ≤ (j : Int) by omega), if_pos (show (j : Int) < (inn.length : Int) by omega), hrd, ht, Bool.false_eq_true, if_false, Int.toNat_natCast, hw.out, hwl.out]
          have := q5 R hR
          rw [List.length_append, List.length_singleton] at this
          exact this
    · have hd : decide ((out.length : Int) < (c : Int)) = false := decide_eq_false (by omega)
      refine ⟨out, inn, hS, hle, by intro e; rw [e] at hlt; simp at hlt; omega, ?_, fun R hR => ?_⟩
      · apply K.Ev.succ
        simp only [impl_blocksOf.l0, if_pos hu2, hd]
        apply K.Ev.succ
        simp only [impl_blocksOf.j1, Bool.false_eq_true, if_false]
        exact Ev.now _
      · apply K.Ev.succ
        simp only [spec_l9Blocks.l0, if_pos hu2, hd]
        apply K.Ev.succ
        simp only [spec_l9Blocks.j2, Bool.false_eq_true, if_false]
        exact hR
/-- The blocks of a drop: the program's are the reference's; they are places in the list, increasing, and one to four. -/
theorem blocks_same (a : Int) (n : Nat) (h0 : 0 ≤ a) (h1 : a ≤ 100000) (hn : 1 ≤ n) (hn2 : n ≤ 12) : ∃ L : List Int, Ev (fun k => spec_l9Blocks.f k a (n : Int)) L ∧ Ev (fun k => impl_blocksOf.f k a (n : Int)) L ∧ (∀ x ∈ L, ∃ j : Nat, x = (j : Int) ∧ j < n) ∧ L.Pairwise (· < ·) ∧ 1 ≤ L.length ∧ L.length ≤ 4 := by
  obtain ⟨p0, p1⟩ := nxS_rng a h0 h1
  obtain ⟨m, hm, hm4⟩ := tmod_rng (nxS a) 4 p0 (by omega)
  have hwm : K.Eqn (wrap64 (Int.tmod (nxS a) 4 + 1)) ((m + 1 : Nat) : Int) := ⟨by
    rw [show (4 : Int) = ((4 : Nat) : Int) from rfl, hm]; exact K.w64s m (by omega)⟩
  have hS : Same n ([] : List Int) (List.replicate n false) := ⟨by simp, by simp, fun j => by simp [List.getElem?_replicate], by simp⟩
  have hmn : mn (n : Int) ((m + 1 : Nat) : Int) = ((min n (m + 1) : Nat) : Int) := by
    unfold mn
    split <;> omega
  have hnx : spec_l9Next.f a = some (nxS a) := rfl
  obtain ⟨out, inn, q1, q2, q3, q4, q5⟩ := blocks_loop n hn hn2 (min n (m + 1)) (by omega) (by omega) 200 0 (nxS a) [] (List.replicate n false) (by omega) p0 (by omega) hS (by simp) (.inr (by omega))
  have hL := q1.end_
  have hlen : (sortI out).length = out.length := List.length_mergeSort _
  have hpos : 0 < out.length := List.length_pos_iff.mpr q3
  refine ⟨sortI out, ?_, ?_, ?_, ?_, by omega, by omega⟩
  · have e := q5 _ (l9Collect inn (by rw [q1.len]; omega))
    rw [← hL] at e
    have e2 : Ev (fun k => spec_l9Blocks.j0 k (n : Int) (nxS a) ((min n (m + 1) : Nat) : Int)) (sortI out) := by
      apply K.Ev.succ
      simp only [spec_l9Blocks.j0, if_pos (show (0 : Int) ≤ (n : Int) by omega), Int.toNat_natCast, if_pos (show n ≤ 281474976710656 by omega)]
      exact e
    simp only [spec_l9Blocks.f, hnx, Option.bind_some, hwm.out]
    by_cases h : ((m + 1 : Nat) : Int) > (n : Int)
    · simp only [if_pos h]
      rw [show min n (m + 1) = n by omega] at e2
      exact e2
    · simp only [if_neg h]
      rw [show min n (m + 1) = m + 1 by omega] at e2
      exact e2
  · simp only [impl_blocksOf.f, impl_blocksOf.f0, hwm.out, hmn]
    refine Ev.bind q4 ?_
    simp only [if_pos hpos, if_pos (show out.length ≤ 17592186044416 by omega)]
    exact Ev.now _
  · intro x hx
    exact q1.rng x ((List.mergeSort_perm out _).mem_iff.mp hx)
  · rw [hL]; exact K.trues_sorted inn 0

/-- The row of a drop. -/
def rowB (n : Nat) (L : List Int) : List Nat := L.foldl (fun r x => r.set x.toNat 1) (List.replicate n 0)
theorem fold_sets : ∀ (L : List Int) (r : List Nat), K.Bytes r → (L.foldl (fun r x => r.set x.toNat 1) r).length = r.length ∧ K.Bytes (L.foldl (fun r x => r.set x.toNat 1) r)
  | [], r, h => ⟨rfl, h⟩
  | x :: L, r, h => by
    rw [List.foldl_cons]
    have := fold_sets L (r.set x.toNat 1) (fun y hy => by
      rcases List.mem_or_eq_of_mem_set hy with q | rfl
      · exact h y q
      · omega)
    rw [List.length_set] at this
    exact this
theorem rowB_ok (n : Nat) (L : List Int) : (rowB n L).length = n ∧ K.Bytes (rowB n L) := by
  have := fold_sets L (List.replicate n 0) (fun y hy => by rw [(List.mem_replicate.1 hy).2]; omega)
  rw [List.length_replicate] at this
  exact this
theorem rowB_snoc (n : Nat) (L : List Int) (x : Int) : rowB n (L ++ [x]) = (rowB n L).set x.toNat 1 := by
  unfold rowB
  rw [List.foldl_append]; rfl
theorem rowLoop (F : Nat → List Int → List Int → Int → Int → Option (List Int)) (hF : ∀ k x5 x12 x13 x14, F (k + 1) x5 x12 x13 x14 = if x14 < x13 then (if 0 ≤ x14 then (if x14 < (x12.length : Int) then (if 0 ≤ (rd x12 x14) then (if (rd x12 x14) < (x5.length : Int) then (F k (x5.set ((rd x12 x14) : Int).toNat 1) x12 x13 (wrap64 (x14 + 1))) else (none)) else (none)) else (none)) else (none)) else (some x5))
    (n : Nat) (L : List Int) (hL : ∀ x ∈ L, ∃ j : Nat, x = (j : Int) ∧ j < n) (hl : L.length ≤ 100) : Ev (fun k => F k (List.replicate n 0) L (L.length : Int) 0) (K.il (rowB n L)) := by
  have key : ∀ (d i : Nat), i + d = L.length → Ev (fun k => F k (K.il (rowB n (L.take i))) L (L.length : Int) (i : Int)) (K.il (rowB n L)) := by
    intro d
    induction d with
    | zero =>
      intro i hi
      obtain rfl : i = L.length := by omega
      apply K.Ev.succ
      simp only [hF, if_neg (show ¬ ((L.length : Int) < (L.length : Int)) by omega), List.take_length]
      exact Ev.now _
    | succ d ih =>
      intro i hi
      have hil : i < L.length := by omega
      obtain ⟨j, hj, hjn⟩ := hL L[i] (List.getElem_mem hil)
      have hr : rd L (i : Int) = (j : Int) := by rw [K.rd_nat hil, hj]
      have hx := ih (i + 1) (by omega)
      have hlen := (rowB_ok n (L.take i)).1
      have e : K.il (rowB n (L.take (i + 1))) = (K.il (rowB n (L.take i))).set j 1 := by
        rw [K.take_succ' _ _ hil, rowB_snoc, hj, Int.toNat_natCast]
        simp [K.il, List.map_set]
      rw [e] at hx
      apply K.Ev.succ
      simp only [hF, if_pos (show (i : Int) < (L.length : Int) by omega), if_pos (show (0 : Int) ≤ (i : Int) by omega), hr, if_pos (show (0 : Int) ≤ (j : Int) by omega), K.il_length, hlen, if_pos (show (j : Int) < (n : Int) by omega), Int.toNat_natCast, K.w64s i (show i < 9223372036854775807 by omega)]
      exact hx
  have := key L.length 0 (by omega)
  have e0 : K.il (rowB n (L.take 0)) = List.replicate n 0 := by simp [rowB, K.il]
  rw [e0] at this
  exact this
theorem rows_same (a : Int) (n : Nat) (h0 : 0 ≤ a) (h1 : a ≤ 100000) (hn : 1 ≤ n) (hn2 : n ≤ 12) : ∃ r : List Nat, r.length = n ∧ K.Bytes r ∧ Ev (fun k => spec_l9Row.f k a (n : Int)) (K.il r) ∧ Ev (fun k => impl_rowOf.f k a (n : Int)) (K.il r) := by
  obtain ⟨L, b1, b2, b3, _, _, b6⟩ := blocks_same a n h0 h1 hn hn2
  refine ⟨rowB n L, (rowB_ok n L).1, (rowB_ok n L).2, ?_, ?_⟩
  · simp only [spec_l9Row.f, if_pos (show (0 : Int) ≤ (n : Int) by omega), Int.toNat_natCast, if_pos (show n ≤ 281474976710656 by omega)]
    exact Ev.bind b1 (rowLoop spec_l9Row.l0 (fun _ _ _ _ _ => rfl) n L b3 (by omega))
  · simp only [impl_rowOf.f, if_pos (show (0 : Int) ≤ (n : Int) by omega), Int.toNat_natCast, if_pos (show n ≤ 281474976710656 by omega)]
    exact Ev.bind b2 (rowLoop impl_rowOf.l0 (fun _ _ _ _ _ => rfl) n L b3 (by omega))
/-- The rows of drops, with their texts. -/
theorem rows_of (n : Nat) (hn : 1 ≤ n) (hn2 : n ≤ 12) : ∀ (l : List S54), (∀ d ∈ l, 0 ≤ d.f0 ∧ d.f0 ≤ 100000) → ∃ ps : List (List Nat × ByteArray), ps.length = l.length ∧ (∀ p ∈ ps, p.1.length = n ∧ K.Bytes p.1) ∧ ps.map Prod.snd = l.map (·.f1) ∧
    ∀ i (h : i < l.length) (h' : i < ps.length), Ev (fun k => spec_l9Row.f k l[i].f0 (n : Int)) (K.il ps[i].1) ∧ Ev (fun k => impl_rowOf.f k l[i].f0 (n : Int)) (K.il ps[i].1)
  | [], _ => ⟨[], rfl, fun _ h => by simp at h, rfl, fun i h => by simp at h⟩
  | d :: l, h => by
    obtain ⟨ps, p1, p2, p3, p4⟩ := rows_of n hn hn2 l (fun x hx => h x (by simp [hx]))
    have hd := h d (by simp)
    obtain ⟨r, r1, r2, r3, r4⟩ := rows_same d.f0 n hd.1 hd.2 hn hn2
    refine ⟨(r, d.f1) :: ps, by simp [p1], fun p hp => ?_, by simp [p3], fun i hi hi' => ?_⟩
    · rcases List.mem_cons.1 hp with rfl | q
      · exact ⟨r1, r2⟩
      · exact p2 p q
    · cases i with
      | zero => exact ⟨r3, r4⟩
      | succ i => exact p4 i (by simpa using hi) (by simpa using hi')

theorem cloneR_eq (l : List (List Int)) (h : l.length < 5864062014805) : slices_Clone_rows.f l = some l := by
  simp [slices_Clone_rows.f, h]

theorem idxNZ_ev (R : List (List Nat)) (j : Nat) {n w : Nat} (h : K.Mat n w R) (hj : j < w) : ∀ (d i m : Nat), i + d = n → idxNZ (j : Int) ((K.ill R).drop i) m = some (if K.piv R j d i < n then ((m + (K.piv R j d i - i) : Nat) : Int) else -1) := by
  intro d
  induction d with
  | zero =>
    intro i m hd
    have e : (K.ill R).drop i = [] := List.drop_of_length_le (by rw [K.ill_length, h.len]; omega)
    rw [e]
    show some (-1 : Int) = some (if i < n then ((m + (i - i) : Nat) : Int) else -1)
    rw [if_neg (show ¬ i < n by omega)]
  | succ d ih =>
    intro i m hd
    have hi : i < R.length := by rw [h.len]; omega
    have hi' : i < (K.ill R).length := by rw [K.ill_length]; exact hi
    have wi : (K.row R i).length = w := h.row_wid (by omega)
    have er : (K.ill R)[i] = K.il (K.row R i) := by rw [K.row_eq hi]; simp [K.ill]
    have ent : rd (K.il (K.row R i)) (j : Int) = ((K.ent R i j : Nat) : Int) := K.il_getD _ _
    rw [List.drop_eq_getElem_cons hi', er]
    have pg := K.piv_ge R j d (i + 1)
    simp only [idxNZ, if_pos (show (0 : Int) ≤ (j : Int) by omega), K.il_length, wi, if_pos (show (j : Int) < (w : Int) by omega), ent, K.piv]
    by_cases e : K.ent R i j = 0
    · simp only [if_pos (show ((K.ent R i j : Nat) : Int) = 0 by omega), if_pos e]
      rw [ih (i + 1) (m + 1) (by omega)]
      by_cases q : K.piv R j d (i + 1) < n
      · simp only [if_pos q]; congr 2; omega
      · simp only [if_neg q]
    · simp only [if_neg (show ¬ ((K.ent R i j : Nat) : Int) = 0 by omega), if_neg e, if_pos (show i < n by omega)]
      congr 2; omega
theorem index_eq (R : List (List Nat)) (a j : Nat) {n w : Nat} (h : K.Mat n w R) (hj : j < w) (ha : a ≤ n) : slices_IndexFunc_byte_byte.f (K.ill R) (a : Int) (j : Int) = some (if K.piv R j (n - a) a < n then ((K.piv R j (n - a) a - a : Nat) : Int) else -1) := by
  simp only [slices_IndexFunc_byte_byte.f, K.ill_length, h.len, if_pos (show (0 : Int) ≤ (a : Int) by omega), if_pos (show (a : Int) ≤ (n : Int) by omega), Int.toNat_natCast]
  rw [idxNZ_ev R j h hj (n - a) a 0 (by omega), Nat.zero_add]

theorem Times_ev (a b : Nat) (ha : a < 256) (hb : b < 256) : Ev (fun k => impl_Times.f k (a : Int) (b : Int)) ((K.gmul a b : Nat) : Int) := by
  have key : ∀ (n j x o : Nat), j + n = 8 → x < 256 → o < 256 → Ev (fun k => impl_Times.l0 k (b : Int) (o : Int) (j : Int) (x : Int)) ((K.gstep n x (b / 2 ^ j) o : Nat) : Int) := by
    intro n
    induction n with
    | zero =>
      intro j x o hj hx ho
      apply K.Ev.succ
      simp only [impl_Times.l0, if_neg (show ¬ ((j : Int) < 8) by omega), K.gstep]
      exact K.Ev.const (by rw [show (o : Int) % 256 = (o : Int) by omega])
    | succ n ih =>
      intro j x o hj hx ho
      have w : K.Eqn (wrap64 ((x : Int) * 2)) ((2 * x : Nat) : Int) := ⟨by rw [K.w64 (by omega) (by omega)]; omega⟩
      have hx2 : (if ((2 * x : Nat) : Int) > 255 then Go.bits .xor .i64 ((2 * x : Nat) : Int) 283 else ((2 * x : Nat) : Int)) = ((K.xt x : Nat) : Int) := by
        unfold K.xt
        by_cases h : 2 * x > 255
        · rw [if_pos (by omega), if_pos h]
          exact K.xor_i64 (b := 283) (by omega) (by omega)
        · rw [if_neg (by omega), if_neg h]
      have hs : shr .u8 (b : Int) (j : Int) = ((b / 2 ^ j : Nat) : Int) := K.shr_u8 b j (by omega)
      have hbj : b / 2 ^ j < 256 := Nat.lt_of_le_of_lt (Nat.div_le_self _ _) hb
      have hnext := ih (j + 1) (K.xt x) (if (b / 2 ^ j) % 2 = 1 then o ^^^ x else o) (by omega) (K.xt_lt hx) (by
        split
        · exact Nat.xor_lt_two_pow (n := 8) ho hx
        · exact ho)
      rw [Nat.pow_succ, ← Nat.div_div_eq_div_mul] at hnext
      apply K.Ev.succ
      simp only [impl_Times.l0, if_pos (show (j : Int) < 8 by omega), if_pos (show 0 ≤ (j : Int) by omega), hs, K.and_u8_1 hbj, w.out, K.xor_i64 (show o < 1024 by omega) (show x < 1024 by omega), K.w64s j (show j < 9223372036854775807 by omega)]
      by_cases h1 : (b / 2 ^ j) % 2 = 1
      · rw [if_pos h1] at hnext
        simp only [h1, show (((1 : Nat) : Int) = 1) = True by simp, if_true, K.gstep]
        by_cases h2 : ((2 * x : Nat) : Int) > 255
        · rw [if_pos h2] at hx2
          simp only [if_pos h2]
          simp only [hx2]
          exact hnext
        · rw [if_neg h2] at hx2
          simp only [if_neg h2]
          simp only [hx2]
          exact hnext
      · rw [if_neg h1] at hnext
        have h1' : ¬ (((b / 2 ^ j % 2 : Nat) : Int) = 1) := by omega
        simp only [if_neg h1', K.gstep, if_neg h1]
        by_cases h2 : ((2 * x : Nat) : Int) > 255
        · rw [if_pos h2] at hx2
          simp only [if_pos h2]
          simp only [hx2]
          exact hnext
        · rw [if_neg h2] at hx2
          simp only [if_neg h2]
          simp only [hx2]
          exact hnext
  have wa : K.Eqn (wrap64 (a : Int)) (a : Int) := ⟨K.w64 (by omega) (by omega)⟩
  simp only [impl_Times.f, wa.out]
  have := key 8 0 a 0 (by omega) ha (by omega)
  rw [Nat.pow_zero, Nat.div_one] at this
  exact this

theorem scaled_ev (f : Nat) (r : List Nat) (hf : f < 256) (hr : K.Bytes r) (hl : r.length ≤ 1000000) : Ev (fun k => impl_scaled.f k (f : Int) (K.il r)) (K.il (K.scl f r)) := by
  have key : ∀ (d i : Nat), i + d = r.length → Ev (fun k => impl_scaled.l0 k (f : Int) (K.il (K.scl f (r.take i))) (K.il r) (r.length : Int) (i : Int)) (K.il (K.scl f r)) := by
    intro d
    induction d with
    | zero =>
      intro i h
      apply K.Ev.succ
      simp only [impl_scaled.l0, if_neg (show ¬ ((i : Int) < (r.length : Int)) by omega)]
      rw [List.take_of_length_le (by omega)]
      exact Ev.now _
    | succ d ih =>
      intro i h
      have hi : i < r.length := by omega
      have hx := ih (i + 1) (by omega)
      rw [K.take_succ' _ _ hi, K.scl_snoc] at hx
      apply K.Ev.succ
      simp only [impl_scaled.l0, K.il_length, if_pos (show (i : Int) < (r.length : Int) by omega), if_pos (show (0 : Int) ≤ (i : Int) by omega), K.rd_il hi]
      refine Ev.bind (Times_ev f r[i] hf (hr _ (List.getElem_mem hi))) ?_
      simp only [K.scl_length, if_pos (show (r.take i).length < 140737488355328 by simp; omega), K.w64s i (show i < 9223372036854775807 by omega), K.il_snoc]
      exact hx
  simp only [impl_scaled.f, K.il_length]
  exact key r.length 0 (by omega)

theorem power_ev (a n : Nat) (ha : a < 256) (hn : n < 1024) : Ev (fun k => impl_power.f k (a : Int) (n : Int)) ((K.gpow a n : Nat) : Int) := by
  have key : ∀ (d n a o : Nat), n ≤ d → n < 1024 → a < 256 → o < 256 → Ev (fun k => impl_power.l0 k (a : Int) (n : Int) (o : Int)) ((K.gmul o (K.gpow a n) : Nat) : Int) := by
    intro d
    induction d with
    | zero =>
      intro n a o hd _ ha ho
      obtain rfl : n = 0 := by omega
      apply K.Ev.succ
      simp only [impl_power.l0, show ¬ (((0 : Nat) : Int) > 0) by omega, if_false, K.gpow, K.gmul_one ho]
      exact Ev.now _
    | succ d ih =>
      intro n a o hd hn ha ho
      by_cases h0 : n = 0
      · subst h0
        apply K.Ev.succ
        simp only [impl_power.l0, show ¬ (((0 : Nat) : Int) > 0) by omega, if_false, K.gpow, K.gmul_one ho]
        exact Ev.now _
      have hh : (n : Int) / 2 = ((n / 2 : Nat) : Int) := by omega
      apply K.Ev.succ
      simp only [impl_power.l0, if_pos (show (n : Int) > 0 by omega), K.and_i64_1 hn, hh]
      by_cases h1 : n % 2 = 1
      · simp only [if_pos (show ((n % 2 : Nat) : Int) = 1 by omega)]
        refine Ev.bind (Times_ev o a ho ha) ?_
        refine Ev.bind (Times_ev a a ha ha) ?_
        have e : K.gmul o (K.gpow a n) = K.gmul (K.gmul o a) (K.gpow (K.gmul a a) (n / 2)) := by
          rw [K.gpow_sq ha, K.gmul_assoc ho ha (K.gpow_lt _), K.gmul_comm ha (K.gpow_lt _)]
          have h : n = (n / 2 + n / 2) + 1 := by omega
          rw [show K.gpow a n = K.gpow a ((n / 2 + n / 2) + 1) by rw [← h]]
          rfl
        rw [e]
        exact ih _ _ _ (by omega) (by omega) (K.gmul_lt ha) (K.gmul_lt ho)
      · simp only [if_neg (show ¬ ((n % 2 : Nat) : Int) = 1 by omega)]
        refine Ev.bind (Times_ev a a ha ha) ?_
        have e : K.gmul o (K.gpow a n) = K.gmul o (K.gpow (K.gmul a a) (n / 2)) := by
          rw [K.gpow_sq ha]
          have h : n = (n / 2 + n / 2) := by omega
          rw [show K.gpow a n = K.gpow a (n / 2 + n / 2) by rw [← h]]
        rw [e]
        exact ih _ _ _ (by omega) (by omega) (K.gmul_lt ha) ho
  have := key n n a 1 (by omega) hn ha (by omega)
  rw [K.one_gmul (K.gpow_lt n)] at this
  simp only [impl_power.f]
  exact this

theorem Inverse_ev (a : Nat) (ha : a < 256) : Ev (fun k => impl_Inverse.f k (a : Int)) ((K.ginv a : Nat) : Int) := by
  simp only [impl_Inverse.f]
  exact Ev.bind (power_ev a 254 ha (by omega)) (Ev.now _)

theorem el_row (R : List (List Nat)) (i : Nat) : rd_L5 (K.ill R) (i : Int) = K.il (K.row R i) := K.ill_row R i
theorem added_ev (a b : List Nat) (ha : K.Bytes a) (hb : K.Bytes b) (hl : a.length ≤ 1000000) (he : a.length = b.length) : Ev (fun k => impl_added.f k (K.il a) (K.il b)) (K.il (K.addr a b)) := by
  have key : ∀ (d i : Nat), i + d = a.length → Ev (fun k => impl_added.l0 k (K.il b) (K.il (K.addr (a.take i) (b.take i))) (K.il a) (a.length : Int) (i : Int)) (K.il (K.addr a b)) := by
    intro d
    induction d with
    | zero =>
      intro i h
      apply K.Ev.succ
      simp only [impl_added.l0, if_neg (show ¬ ((i : Int) < (a.length : Int)) by omega)]
      rw [List.take_of_length_le (by omega), List.take_of_length_le (by omega)]
      exact Ev.now _
    | succ d ih =>
      intro i h
      have hi : i < a.length := by omega
      have hj : i < b.length := by omega
      have hx := ih (i + 1) (by omega)
      rw [K.addr_succ hi hj] at hx
      apply K.Ev.succ
      simp only [impl_added.l0, K.il_length, if_pos (show (i : Int) < (a.length : Int) by omega), if_pos (show (i : Int) < (b.length : Int) by omega), if_pos (show (0 : Int) ≤ (i : Int) by omega), K.rd_il hi, K.rd_il hj, K.xor_u8 (ha _ (List.getElem_mem hi)) (hb _ (List.getElem_mem hj))]
      simp only [if_pos (show (K.addr (a.take i) (b.take i)).length < 140737488355328 by simp [K.addr]; omega), K.w64s i (show i < 9223372036854775807 by omega), K.il_snoc]
      exact hx
  simp only [impl_added.f, K.il_length]
  exact key a.length 0 (by omega)

theorem el_clears {n w c : Nat} (hn : n ≤ 100000) (hw : w ≤ 1000000) (a j : Nat) (ha : a < n) (hj : j < w) (X : List (List Int) × Int) : ∀ (d i : Nat) (R : List (List Nat)), K.Mat n w R → i + d = n → Ev (fun k => impl_eliminate.l0 k (K.ill (K.clrs a j d i R)) (c : Int) ((a + 1 : Nat) : Int) ((j + 1 : Nat) : Int)) X → Ev (fun k => impl_eliminate.l1 k (K.ill R) (c : Int) (a : Int) (j : Int) (n : Int) (i : Int)) X := by
  intro d
  induction d with
  | zero =>
    intro i R h hd hx
    apply K.Ev.succ
    simp only [impl_eliminate.l1, if_neg (show ¬ ((i : Int) < (n : Int)) by omega), K.w64s a (show a < 9223372036854775807 by omega), K.w64s j (show j < 9223372036854775807 by omega)]
    exact hx
  | succ d ih =>
    intro i R h hd hx
    have hi : i < n := by omega
    have wi : (K.row R i).length = w := h.row_wid hi
    have wa : (K.row R a).length = w := h.row_wid ha
    have hl : (K.ill R).length = n := by rw [K.ill_length, h.len]
    have ent : rd (K.il (K.row R i)) (j : Int) = ((K.ent R i j : Nat) : Int) := K.il_getD _ _
    have he := h.ent_lt i j
    have hx' := ih (i + 1) _ (K.clr_mat (j := j) h ha hi) (by omega) hx
    clear ih hx
    apply K.Ev.succ
    simp only [impl_eliminate.l1, hl, if_pos (show (i : Int) < (n : Int) by omega), if_pos (show (0 : Int) ≤ (i : Int) by omega), if_pos (show (0 : Int) ≤ (j : Int) by omega), el_row, K.il_length, wi, if_pos (show (j : Int) < (w : Int) by omega), ent, K.w64s i (show i < 9223372036854775807 by omega)]
    by_cases e : i = a ∨ K.ent R i j = 0
    · have e1 : K.clr a j i R = R := by unfold K.clr; rw [if_pos e]
      rw [e1] at hx'
      by_cases q : (i : Int) = (a : Int)
      · simp only [if_pos q]; exact hx'
      · simp only [if_neg q, if_pos (show ((K.ent R i j : Nat) : Int) = 0 by omega)]; exact hx'
    · have e1 : K.clr a j i R = R.set i (K.addr (K.row R i) (K.scl (K.ent R i j) (K.row R a))) := by unfold K.clr; rw [if_neg e]
      have q : ¬ (i : Int) = (a : Int) := fun q => e (Or.inl (by omega))
      have z : ¬ (((K.ent R i j : Nat) : Int) = 0) := fun q => e (Or.inr (by omega))
      rw [e1, ← K.ill_set] at hx'
      simp only [if_neg q, if_neg z, if_pos (show (a : Int) < (n : Int) by omega), if_pos (show (0 : Int) ≤ (a : Int) by omega)]
      refine Ev.bind (scaled_ev (K.ent R i j) (K.row R a) he (h.row_byt a) (by omega)) ?_
      refine Ev.bind (added_ev (K.row R i) (K.scl (K.ent R i j) (K.row R a)) (h.row_byt i) (K.scl_bytes he _) (by omega) (by rw [K.scl_length, wi, wa])) ?_
      simp only [Int.toNat_natCast]
      exact hx'
theorem el_loop {n w c : Nat} (hn : n ≤ 100000) (hw : w ≤ 1000000) (hc : c ≤ w) : ∀ (d a j : Nat) (R : List (List Nat)), K.Mat n w R → j + d = c → a ≤ n → Ev (fun k => impl_eliminate.l0 k (K.ill R) (c : Int) (a : Int) (j : Int)) (K.ill (K.elim d a j R).1, (((K.elim d a j R).2 : Nat) : Int)) := by
  intro d
  induction d with
  | zero =>
    intro a j R h hd ha
    apply K.Ev.succ
    simp only [impl_eliminate.l0, if_neg (show ¬ ((j : Int) < (c : Int)) by omega)]
    apply K.Ev.succ
    simp only [impl_eliminate.j1, Bool.false_eq_true, if_false, K.elim]
    exact Ev.now _
  | succ d ih =>
    intro a j R h hd ha
    have hl : (K.ill R).length = n := by rw [K.ill_length, h.len]
    apply K.Ev.succ
    simp only [impl_eliminate.l0, if_pos (show (j : Int) < (c : Int) by omega), hl]
    apply K.Ev.succ
    unfold K.elim
    rw [h.len]
    by_cases h1 : a < n
    · have pg := K.piv_ge R j (n - a) a
      have ie := index_eq R a j h (by omega) ha
      simp only [impl_eliminate.j1, decide_eq_true (show (a : Int) < (n : Int) by omega), if_true, if_pos h1, ie, Option.bind_some]
      generalize K.piv R j (n - a) a = p at pg ⊢
      by_cases h2 : p < n
      · have wp : (K.row R p).length = w := h.row_wid h2
        have ent : rd (K.il (K.row R p)) (j : Int) = ((K.ent R p j : Nat) : Int) := K.il_getD _ _
        have he := h.ent_lt p j
        have wr : K.Eqn (wrap64 ((a : Int) + ((p - a : Nat) : Int))) (p : Int) := ⟨by rw [K.w64 (by omega) (by omega)]; omega⟩
        have hra : a < ((K.ill R).set a (K.il (K.row R p))).length := by simp [hl, h1]
        have y1 : rd_L5 (((K.ill R).set a (K.il (K.row R p))).set p (K.il (K.row R a))) (a : Int) = K.il (K.row R p) := by
          rw [K.ill_set, K.ill_set, el_row, K.row_set (by simp [h.len, h2]), K.row_set (by rw [h.len]; exact h1)]
          by_cases e : p = a
          · rw [if_pos e, e]
          · rw [if_neg e, if_pos rfl]
        simp only [if_pos h2, if_neg (show ¬ (((p - a : Nat) : Int) < 0) by omega), wr.out, hl, if_pos (show (p : Int) < (n : Int) by omega), if_pos (show (a : Int) < (n : Int) by omega), if_pos (show (0 : Int) ≤ (p : Int) by omega), if_pos (show (0 : Int) ≤ (a : Int) by omega), if_pos (show (0 : Int) ≤ (j : Int) by omega), el_row, Int.toNat_natCast, y1, K.il_length, wp, if_pos (show (j : Int) < (w : Int) by omega), ent, Option.bind_some]
        refine Ev.bind (Inverse_ev (K.ent R p j) he) ?_
        refine Ev.bind (scaled_ev (K.ginv (K.ent R p j)) (K.row R p) (K.ginv_lt _) (h.row_byt p) (by omega)) ?_
        have hx := ih (a + 1) (j + 1) (K.estep a j p R) (K.estep_mat h h1 h2) (by omega) (by omega)
        have es : K.estep a j p R = K.clrs a j n 0 (K.lead a j p R) := by unfold K.estep; rw [h.len]
        have g := el_clears hn hw a j h1 (by omega) _ n 0 (K.lead a j p R) (K.lead_mat h h1 h2) (by omega) (by rw [← es]; exact hx)
        have e1 : K.ill (K.lead a j p R) = (((K.ill R).set a (K.il (K.row R p))).set p (K.il (K.row R a))).set a (K.il (K.scl (K.ginv (K.ent R p j)) (K.row R p))) := by
          rw [K.ill_set, K.ill_set, K.ill_set, K.swap_set R a p _ _ _ (fun e => by rw [e])]
          rfl
        rw [e1] at g
        exact g
      · simp only [if_neg h2, if_pos (show ((-1 : Int) < 0) by omega), K.w64s j (show j < 9223372036854775807 by omega)]
        exact ih a (j + 1) R h (by omega) ha
    · simp only [impl_eliminate.j1, decide_eq_false (show ¬ (a : Int) < (n : Int) by omega), Bool.false_eq_true, if_false, if_neg h1]
      exact Ev.now _
theorem eliminate_ev (R : List (List Nat)) {n w : Nat} (c : Nat) (h : K.Mat n w R) (hn : n ≤ 100000) (hw : w ≤ 1000000) (hc : c ≤ w) : Ev (fun k => impl_eliminate.f k (K.ill R) (c : Int)) (K.ill (K.elim c 0 0 R).1, (((K.elim c 0 0 R).2 : Nat) : Int)) := by
  simp only [impl_eliminate.f]
  exact el_loop hn hw hc c 0 0 R h (by omega) (by omega)

theorem rankOf_ev (R : List (List Nat)) {n w : Nat} (h : K.Mat n w R) (hn : n ≤ 1000) (hw : w ≤ 1000) : Ev (fun k => impl_rankOf.f k (K.ill R)) (((K.elim w 0 0 R).2 : Nat) : Int) := by
  by_cases h0 : R.length = 0
  · have e := List.length_eq_zero_iff.1 h0
    subst e
    simp only [impl_rankOf.f, K.ill_length, if_pos (show (([] : List (List Nat)).length : Int) = 0 by simp), K.elim_none]
    exact Ev.now _
  · have hl := h.len
    have r0 : rd_L5 (K.ill R) 0 = K.il (K.row R 0) := K.ill_row R 0
    have w0 := h.row_wid (show 0 < n by omega)
    simp only [impl_rankOf.f, K.ill_length, if_neg (show ¬ (R.length : Int) = 0 by omega), cloneR_eq (K.ill R) (by rw [K.ill_length]; omega), Option.bind_some, if_pos (show (0 : Int) < (R.length : Int) by omega), r0, K.il_length, w0]
    refine Ev.bind (eliminate_ev R w h (by omega) (by omega) (Nat.le_refl _)) ?_
    exact Ev.now _

theorem identity_ev (n : Nat) (hn : n ≤ 100000) : Ev (fun k => impl_identity.f k (n : Int)) (K.ill (K.idm n)) := by
  have key : ∀ (d i : Nat), i + d = n → Ev (fun k => impl_identity.l0 k (n : Int) (K.ill ((List.range i).map (K.unit n))) (n : Int) (i : Int)) (K.ill (K.idm n)) := by
    intro d
    induction d with
    | zero =>
      intro i hd
      apply K.Ev.succ
      simp only [impl_identity.l0, if_neg (show ¬ ((i : Int) < (n : Int)) by omega)]
      obtain rfl : i = n := by omega
      exact Ev.now _
    | succ d ih =>
      intro i hd
      have hx := ih (i + 1) (by omega)
      rw [List.range_succ, List.map_append, List.map_cons, List.map_nil] at hx
      apply K.Ev.succ
      simp only [impl_identity.l0, K.ill_length, if_pos (show (i : Int) < (n : Int) by omega), if_pos (show (0 : Int) ≤ (n : Int) by omega), if_pos (show (0 : Int) ≤ (i : Int) by omega), Int.toNat_natCast, if_pos (show n ≤ 281474976710656 by omega), Option.bind_some, List.length_replicate, List.length_map, List.length_range, if_pos (show i < 5864062014805 by omega), K.w64s i (show i < 9223372036854775807 by omega), K.il_unit, K.ill_snoc]
      exact hx
  have := key n 0 (by omega)
  simp only [impl_identity.f]
  exact this

theorem clone_eq (l : List Int) (h : l.length < 140737488355328) : slices_Clone_byte_byte.f l = some l := by
  simp [slices_Clone_byte_byte.f, h]

theorem io_joins (A : List (List Nat)) {n : Nat} (hA : K.Mat n n A) (hn : n ≤ 100000) (X : (List (List Int)) × Bool) (hx : Ev (fun k => (impl_eliminate.f k (K.ill (K.beside A (K.idm n))) (n : Int)).bind fun bt154 => (if bt154.2 < (n : Int) then (some (([] : List (List Int)), false)) else (impl_inverseOf.l1 k (n : Int) (([] : List (List Int))) bt154.1 (bt154.1.length : Int) 0))) X) : ∀ (d i : Nat), i + d = n → Ev (fun k => impl_inverseOf.l0 k (K.ill A) (n : Int) (K.ill ((K.beside A (K.idm n)).take i)) (K.ill (K.idm n)) (n : Int) (i : Int)) X := by
  have hI := K.idm_mat n
  have hB := K.beside_mat hA hI
  intro d
  induction d with
  | zero =>
    intro i hd
    apply K.Ev.succ
    simp only [impl_inverseOf.l0, if_neg (show ¬ ((i : Int) < (n : Int)) by omega)]
    rw [List.take_of_length_le (by rw [hB.len]; omega)]
    exact hx
  | succ d ih =>
    intro i hd
    have hi : i < n := by omega
    have r1 : rd_L5 (K.ill A) (i : Int) = K.il (K.row A i) := K.ill_row A i
    have r2 : rd_L5 (K.ill (K.idm n)) (i : Int) = K.il (K.row (K.idm n) i) := K.ill_row _ i
    have w1 := hA.row_wid hi
    have w2 := hI.row_wid hi
    have hg := ih (i + 1) (by omega)
    have e : (K.beside A (K.idm n)).take (i + 1) = (K.beside A (K.idm n)).take i ++ [K.row A i ++ K.row (K.idm n) i] := by
      rw [K.take_succ' _ _ (by rw [hB.len]; omega), K.row_eq (by rw [hA.len]; omega), K.row_eq (by rw [hI.len]; omega)]
      simp [K.beside]
    rw [e, ← K.ill_snoc, ← K.il_append] at hg
    apply K.Ev.succ
    simp only [impl_inverseOf.l0, K.ill_length, hA.len, hI.len, if_pos (show (i : Int) < (n : Int) by omega), if_pos (show (0 : Int) ≤ (i : Int) by omega), r1, r2, clone_eq (K.il (K.row A i)) (by rw [K.il_length, w1]; omega), Option.bind_some, K.il_length, w1, w2, if_pos (show n + n < 140737488355328 by omega), if_pos (show ((K.beside A (K.idm n)).take i).length < 5864062014805 by rw [List.length_take, hB.len]; omega), K.w64s i (show i < 9223372036854775807 by omega)]
    exact hg
theorem io_cuts (R : List (List Nat)) {n w c : Nat} (h : K.Mat n w R) (hc : c ≤ w) (hn : n ≤ 100000) (hw : w ≤ 1000000) : Ev (fun k => impl_inverseOf.l1 k (c : Int) (([] : List (List Int))) (K.ill R) (n : Int) 0) (K.ill (K.rgt c R), true) := by
  have key : ∀ (d i : Nat), i + d = n → Ev (fun k => impl_inverseOf.l1 k (c : Int) (K.ill (K.rgt c (R.take i))) (K.ill R) (n : Int) (i : Int)) (K.ill (K.rgt c R), true) := by
    intro d
    induction d with
    | zero =>
      intro i hd
      apply K.Ev.succ
      simp only [impl_inverseOf.l1, if_neg (show ¬ ((i : Int) < (n : Int)) by omega)]
      rw [List.take_of_length_le (by rw [h.len]; omega)]
      exact Ev.now _
    | succ d ih =>
      intro i hd
      have hi : i < n := by omega
      have r1 : rd_L5 (K.ill R) (i : Int) = K.il (K.row R i) := K.ill_row R i
      have w1 := h.row_wid hi
      have hg := ih (i + 1) (by omega)
      have e : K.rgt c (R.take (i + 1)) = K.rgt c (R.take i) ++ [(K.row R i).drop c] := by
        rw [K.take_succ' _ _ (by rw [h.len]; omega), K.row_eq (by rw [h.len]; omega)]
        simp only [K.rgt, List.map_append, List.map_cons, List.map_nil]
      rw [e, ← K.ill_snoc, ← K.il_drop] at hg
      apply K.Ev.succ
      simp only [impl_inverseOf.l1, K.ill_length, h.len, if_pos (show (i : Int) < (n : Int) by omega), if_pos (show (0 : Int) ≤ (i : Int) by omega), if_pos (show (0 : Int) ≤ (c : Int) by omega), r1, K.il_length, w1, if_pos (show (c : Int) ≤ (w : Int) by omega), Int.toNat_natCast, clone_eq ((K.il (K.row R i)).drop c) (by rw [List.length_drop, K.il_length, w1]; omega), Option.bind_some, if_pos (show (K.rgt c (R.take i)).length < 5864062014805 by rw [K.rgt_length, List.length_take, h.len]; omega), K.w64s i (show i < 9223372036854775807 by omega)]
      exact hg
  exact key n 0 (by omega)
theorem inverseOf_ev (A : List (List Nat)) {n : Nat} (hA : K.Mat n n A) (hn : n ≤ 100000) : Ev (fun k => impl_inverseOf.f k (K.ill A)) (if (K.minv A).2 < n then ([], false) else (K.ill (K.minv A).1, true)) := by
  have hI := K.idm_mat n
  have hB := K.beside_mat hA hI
  have hm := K.elim_mat n 0 0 _ hB
  simp only [impl_inverseOf.f, K.ill_length, hA.len]
  refine Ev.bind (identity_ev n hn) ?_
  simp only [K.ill_length, hI.len]
  refine io_joins A hA hn _ ?_ n 0 (by omega)
  refine Ev.bind (eliminate_ev _ n hB hn (by omega) (by omega)) ?_
  simp only [K.ill_length, hm.len]
  unfold K.minv
  rw [hA.len]
  by_cases e : (K.elim n 0 0 (K.beside A (K.idm n))).2 < n
  · rw [if_pos e]
    simp only [if_pos (show (((K.elim n 0 0 (K.beside A (K.idm n))).2 : Nat) : Int) < (n : Int) by omega)]
    exact Ev.now _
  · rw [if_neg e]
    simp only [if_neg (show ¬ (((K.elim n 0 0 (K.beside A (K.idm n))).2 : Nat) : Int) < (n : Int) by omega)]
    exact io_cuts _ hm (by omega) hn (by omega)

/-- The sum of two texts, byte for byte. -/
def xorT (x y : ByteArray) : ByteArray := strOfNums (List.zipWith (fun a b => Go.bits .xor .u8 a b) (bytesOf x) (bytesOf y))
theorem sumOf_ev (x y : ByteArray) (h : x.size = y.size) (hx : x.size ≤ 1048576) : Ev (fun k => impl_sumOf.f k x y) (xorT x y) := by
  have hbx := bytesOf_length x
  have hby := bytesOf_length y
  have key : ∀ (d i : Nat) (acc : List Int), i + d = x.size → acc = (List.zipWith (fun a b => Go.bits .xor .u8 a b) (bytesOf x) (bytesOf y)).take i → Ev (fun k => impl_added.l0 k (bytesOf y) acc (bytesOf x) ((bytesOf x).length : Int) (i : Int)) (List.zipWith (fun a b => Go.bits .xor .u8 a b) (bytesOf x) (bytesOf y)) := by
    intro d
    induction d with
    | zero =>
      intro i acc hi ha
      rw [List.take_of_length_le (by rw [List.length_zipWith]; omega)] at ha
      subst ha
      apply K.Ev.succ
      simp only [impl_added.l0, if_neg (show ¬ ((i : Int) < ((bytesOf x).length : Int)) by omega)]
      exact Ev.now _
    | succ d ih =>
      intro i acc hi ha
      have hal : acc.length ≤ i := by rw [ha, List.length_take]; omega
      apply K.Ev.succ
      simp only [impl_added.l0, if_pos (show (i : Int) < ((bytesOf x).length : Int) by omega), if_pos (show (0 : Int) ≤ (i : Int) by omega), if_pos (show (i : Int) < ((bytesOf y).length : Int) by omega), if_pos (show acc.length < 140737488355328 by omega), K.w64s i (by omega)]
      refine ih (i + 1) _ (by omega) ?_
      rw [K.rd_nat (show i < (bytesOf x).length by omega), K.rd_nat (show i < (bytesOf y).length by omega), K.take_succ' _ i (by rw [List.length_zipWith]; omega), ha, List.getElem_zipWith]
  unfold impl_sumOf.f conv_bytes.f
  simp only [if_pos (show x.size ≤ 9223372036854775807 by omega), if_pos (show y.size ≤ 9223372036854775807 by omega), Option.bind_some, impl_added.f]
  exact Ev.bind (key x.size 0 [] (by omega) (by simp)) (Ev.now _)

theorem il_rng {l : List Nat} (h : K.Bytes l) : ∀ x ∈ K.il l, 0 ≤ x ∧ x ≤ 255 := by
  intro x hx
  obtain ⟨y, hy, rfl⟩ := List.mem_map.1 hx
  have := h y hy
  omega
theorem zipx : ∀ (X Y : List Nat), K.Bytes X → K.Bytes Y → List.zipWith (fun a b => Go.bits .xor .u8 a b) (K.il X) (K.il Y) = K.il (K.addr X Y)
  | [], _, _, _ => rfl
  | _ :: _, [], _, _ => rfl
  | x :: X, y :: Y, hX, hY => by
    have := zipx X Y (fun z hz => hX z (by simp [hz])) (fun z hz => hY z (by simp [hz]))
    show Go.bits .xor .u8 (x : Int) (y : Int) :: List.zipWith (fun a b => Go.bits .xor .u8 a b) (K.il X) (K.il Y) = ((x ^^^ y : Nat) : Int) :: K.il (K.addr X Y)
    rw [this, K.xor_u8 (hX x (by simp)) (hY y (by simp))]
theorem xorT_il (X Y : List Nat) (hX : K.Bytes X) (hY : K.Bytes Y) : xorT (strOfNums (K.il X)) (strOfNums (K.il Y)) = strOfNums (K.il (K.addr X Y)) := by
  unfold xorT
  rw [K.bytesOf_strOf _ (il_rng hX), K.bytesOf_strOf _ (il_rng hY), zipx X Y hX hY]
theorem timesOf_ev (a : Nat) (ha : a < 256) (d : ByteArray) (hd : d.size ≤ 1000) : Ev (fun k => impl_timesOf.f k (a : Int) d) (strOfNums (K.il (K.scl a (nb d)))) := by
  simp only [impl_timesOf.f, conv_bytes.f, if_pos (show d.size ≤ 9223372036854775807 by omega), Option.bind_some, bytesOf_nb]
  exact Ev.bind (scaled_ev a (nb d) ha (nb_bytes d) (by rw [nb_length]; omega)) (Ev.now _)
theorem combined_ev (M : List (List Nat)) (D : List ByteArray) (n s : Nat) (hM : K.Mat n n M) (hD : D.length = n) (hs : ∀ j : Nat, j < n → (rdOf ByteArray.empty D (j : Int)).size = s) (hs2 : s ≤ 1000) (hn : 1 ≤ n) (hn2 : n ≤ 12) : Ev (fun k => impl_combined.f k (K.ill M) D) (M.map (fun r => strOfNums (K.il (trN s r D n)))) := by
  have key : ∀ (d i : Nat), i + d = n → Ev (fun k => impl_combined.l0 k D ((M.take i).map (fun r => strOfNums (K.il (trN s r D n)))) (K.ill M) (n : Int) (i : Int)) (M.map (fun r => strOfNums (K.il (trN s r D n)))) := by
    intro d
    induction d with
    | zero =>
      intro i hi
      obtain rfl : i = n := by omega
      apply K.Ev.succ
      rw [List.take_of_length_le (by rw [hM.len]; omega)]
      simp only [impl_combined.l0, if_neg (show ¬ ((i : Int) < (i : Int)) by omega)]
      exact Ev.now _
    | succ d ih =>
      intro i hi
      have hi' : i < n := by omega
      have hx := ih (i + 1) (by omega)
      have hb := hM.row_byt i
      have hw := hM.row_wid hi'
      have rr : rd_L5 (K.ill M) (i : Int) = K.il (K.row M i) := K.ill_row M i
      have e : (M.take (i + 1)).map (fun r => strOfNums (K.il (trN s r D n))) = (M.take i).map (fun r => strOfNums (K.il (trN s r D n))) ++ [strOfNums (K.il (trN s (K.row M i) D n))] := by
        rw [K.take_succ' _ _ (by rw [hM.len]; omega), List.map_append, K.row_eq (by rw [hM.len]; omega)]; rfl
      rw [e] at hx
      have hlen : ((M.take i).map (fun r => strOfNums (K.il (trN s r D n)))).length < 8796093022208 := by rw [List.length_map, List.length_take]; omega
      have sum : ∀ (c j : Nat), j + c = n → Ev (fun k => impl_combined.l1 k D ((M.take i).map (fun r => strOfNums (K.il (trN s r D n)))) (K.il (K.row M i)) (strOfNums (K.il (trN s (K.row M i) D j))) (K.ill M) (n : Int) (i : Int) D (n : Int) (j : Int)) (M.map (fun r => strOfNums (K.il (trN s r D n)))) := by
        intro c
        induction c with
        | zero =>
          intro j hj
          obtain rfl : j = n := by omega
          apply K.Ev.succ
          simp only [impl_combined.l1, if_neg (show ¬ ((j : Int) < (j : Int)) by omega), if_pos hlen, K.w64s i (show i < 9223372036854775807 by omega)]
          exact hx
        | succ c ihc =>
          intro j hj
          have hj' : j < n := by omega
          have hjr : j < (K.row M i).length := by omega
          have hy := ihc (j + 1) (by omega)
          have t0 := trN_ok hb hs j (by omega)
          have g : (K.row M i).getD j 0 = (K.row M i)[j] := by simp [hjr]
          have hlt := hb _ (List.getElem_mem hjr)
          have sz : (strOfNums (K.il (K.scl (K.row M i)[j] (nb (rdOf ByteArray.empty D (j : Int)))))).size = s := by rw [strOfNums_size, K.il_length, K.scl_length, nb_length, hs j hj']
          have sz0 : (strOfNums (K.il (trN s (K.row M i) D j))).size = s := by rw [strOfNums_size, K.il_length, t0.1]
          apply K.Ev.succ
          simp only [impl_combined.l1, if_pos (show (j : Int) < (n : Int) by omega), if_pos (show (0 : Int) ≤ (j : Int) by omega), hD, K.il_length, hw, K.rd_il hjr, K.w64s j (show j < 9223372036854775807 by omega)]
          refine Ev.bind (timesOf_ev _ hlt _ (by rw [hs j hj']; exact hs2)) ?_
          refine Ev.bind (sumOf_ev _ _ (by rw [sz0, sz]) (by rw [sz0]; omega)) ?_
          rw [xorT_il _ _ t0.2 (K.scl_bytes hlt _)]
          have e2 : trN s (K.row M i) D (j + 1) = K.addr (trN s (K.row M i) D j) (K.scl (K.row M i)[j] (nb (rdOf ByteArray.empty D (j : Int)))) := by rw [trN, g]
          rw [e2] at hy
          exact hy
      have h0 := hs 0 (by omega)
      rw [show ((0 : Nat) : Int) = 0 from rfl] at h0
      apply K.Ev.succ
      simp only [impl_combined.l0, if_pos (show (i : Int) < (n : Int) by omega), if_pos (show (0 : Int) ≤ (i : Int) by omega), K.ill_length, hM.len, hD, if_pos (show (0 : Int) < (n : Int) by omega), h0, if_pos (show (0 : Int) ≤ (s : Int) by omega), Int.toNat_natCast, if_pos (show s ≤ 281474976710656 by omega), rr]
      have := sum n 0 (by omega)
      have z : K.il (trN s (K.row M i) D 0) = List.replicate s 0 := by simp [trN, K.il]
      rw [z] at this
      exact this
  simp only [impl_combined.f, K.ill_length, hM.len]
  exact key n 0 (by omega)

theorem laws_eqStringS_self (l : List ByteArray) (hl : l.length ≤ 140737488355328) : Ev (fun k => laws_eqStringS.f k l l) true := by
  have key : ∀ (d n : Nat), n + d = l.length → Ev (fun k => laws_eqStringS.l0 k l l (n : Int)) true := by
    intro d
    induction d with
    | zero =>
      intro n h1
      apply K.Ev.succ
      simp only [laws_eqStringS.l0, if_neg (show ¬ ((n : Int) < (l.length : Int)) by omega)]
      exact Ev.now _
    | succ d ih =>
      intro n h1
      apply K.Ev.succ
      simp only [laws_eqStringS.l0, if_pos (show (n : Int) < (l.length : Int) by omega), if_pos (show (0 : Int) ≤ (n : Int) by omega), if_true]
      rw [K.w64s n (by omega)]
      exact ih (n + 1) (by omega)
  unfold laws_eqStringS.f
  simp only [if_true]
  exact key l.length 0 (by omega)

theorem laws_markStringS_held (l : List ByteArray) (hl : l.length ≤ 1048576) : ∃ (m : Int) (g : List ByteArray), Ev (fun k => laws_markStringS.f k l 1) (m, g) ∧ Ev (fun k => laws_heldStringS.f k g 1) m ∧ 0 ≤ m := by
  have key : ∀ (d n : Nat) (x : List ByteArray) (c : Int), n + d = x.length → 0 ≤ c → c + d ≤ 1000000000000 → x.length ≤ 1048576 → ∃ (m : Int) (g : List ByteArray), Ev (fun k => laws_markStringS.l0 k x c (n : Int)) (m, g) ∧ g.length = x.length ∧ (∀ j, j < n → g[j]? = x[j]?) ∧ Ev (fun k => laws_heldStringS.l0 k g c (n : Int)) m ∧ 0 ≤ m := by
    intro d
    induction d with
    | zero =>
      intro n x c h1 h2 h3 h4
      refine ⟨c, x, ?_, rfl, fun _ _ => rfl, ?_, h2⟩
      · apply K.Ev.succ
        simp only [laws_markStringS.l0, if_neg (show ¬ ((n : Int) < (x.length : Int)) by omega)]
        exact Ev.now _
      · apply K.Ev.succ
        simp only [laws_heldStringS.l0, if_neg (show ¬ ((n : Int) < (x.length : Int)) by omega)]
        exact Ev.now _
    | succ d ih =>
      intro n x c h1 h2 h3 h4
      have hn : n < x.length := by omega
      have w1 : K.Eqn (wrap64 (c + 1)) (c + 1) := ⟨K.w64 (by omega) (by omega)⟩
      obtain ⟨s, es⟩ := markText_ok c (by omega) (by omega)
      obtain ⟨m, g, e1, e2, e3, e4, e5⟩ := ih (n + 1) (x.set n s) (c + 1) (by simp; omega) (by omega) (by omega) (by simpa using h4)
      have hg : g[n]? = some s := by rw [e3 n (by omega)]; simp [hn]
      have hgl : g.length = x.length := by simpa using e2
      refine ⟨m, g, ?_, hgl, ?_, ?_, e5⟩
      · apply K.Ev.succ
        simp only [laws_markStringS.l0, if_pos (show (n : Int) < (x.length : Int) by omega), if_pos (show (0 : Int) ≤ (n : Int) by omega), Int.toNat_natCast, w1.out, K.w64s n (show n < 9223372036854775807 by omega)]
        exact Ev.bind es e1
      · intro j hj
        rw [e3 j (by omega)]
        rw [List.getElem?_set_ne (by omega)]
      · have hr : rdOf ByteArray.empty g (n : Int) = s := by simp [rdOf, hg]
        apply K.Ev.succ
        simp only [laws_heldStringS.l0, if_pos (show (n : Int) < (g.length : Int) by omega), if_pos (show (0 : Int) ≤ (n : Int) by omega), w1.out, K.w64s n (show n < 9223372036854775807 by omega), hr]
        refine Ev.bind es ?_
        simp only [if_true]
        exact e4
  obtain ⟨m, g, e1, _, _, e4, e5⟩ := key l.length 0 l 1 (by omega) (by omega) (by omega) hl
  exact ⟨m, g, by simp only [laws_markStringS.f]; exact e1, by simp only [laws_heldStringS.f]; exact e4, e5⟩

theorem solveDrops_same (l : List S54) (hl : l.length ≤ 1048576) (a : Int) : ∃ r : List ByteArray × Bool, r.1.length ≤ 1048576 ∧ Ev (fun k => spec_SolveDrops.f k l a) r ∧ Ev (fun k => impl_SolveDrops.f k l a) r := by
  have d1 := l9Drops_ev l hl
  have d2 := areDrops_ev l hl
  have bad : Ev (fun k => spec_SolveDrops.j0 k l a true) (([] : List ByteArray), false) ∧ Ev (fun k => impl_SolveDrops.j0 k l a true) (([] : List ByteArray), false) := by
    constructor <;> apply K.Ev.succ
    · simp only [spec_SolveDrops.j0, if_true]; exact Ev.now _
    · simp only [impl_SolveDrops.j0, if_true]; exact Ev.now _
  by_cases hb : dropsB l = true
  case neg =>
    rw [Bool.not_eq_true] at hb
    rw [hb] at d1 d2
    refine ⟨([], false), by simp, ?_, ?_⟩
    · simp only [spec_SolveDrops.f]
      refine Ev.bind d1 ?_
      simp only [Bool.false_eq_true, if_false]
      exact bad.1
    · simp only [impl_SolveDrops.f]
      refine Ev.bind d2 ?_
      simp only [Bool.false_eq_true, if_false]
      exact bad.2
  rw [hb] at d1 d2
  by_cases ha : 1 ≤ a ∧ a ≤ 12
  case neg =>
    refine ⟨([], false), by simp, ?_, ?_⟩
    · simp only [spec_SolveDrops.f]
      refine Ev.bind d1 ?_
      simp only [if_true, inRd, decide_eq_false ha, Option.bind_some, Bool.not_false]
      exact bad.1
    · simp only [impl_SolveDrops.f]
      refine Ev.bind d2 ?_
      simp only [if_true, impl_areBlocks.f, inId, decide_eq_false ha, Option.bind_some, Bool.not_false]
      exact bad.2
  clear bad
  obtain ⟨n, rfl⟩ := Int.eq_ofNat_of_zero_le (show 0 ≤ a by omega)
  unfold dropsB at hb
  rw [Bool.and_eq_true, List.all_eq_true, Bool.and_eq_true, decide_eq_true_iff] at hb
  have hl40 := hb.2.1
  have hev := hb.2.2
  obtain ⟨ps, p1, p2, p3, p4⟩ := rows_of n (by omega) (by omega) l (fun d hd => by have := hb.1 d hd; simpa using this)
  have f1 := first_ev n (by omega) l hl40 ps p1 p2 p3 (fun i h h' => (p4 i h h').1)
  have hrs : ∀ r ∈ ps.map Prod.fst, r.length = n ∧ K.Bytes r := fun r hr => by
    obtain ⟨p, hp, rfl⟩ := List.mem_map.1 hr
    exact p2 p hp
  obtain ⟨g1, g2, _⟩ := K.greedy_all (ps.map Prod.fst) hrs
  rw [← greedyD_fst n ps [] []] at g1 g2
  obtain ⟨z1, z2⟩ := greedyD_len n ps [] [] rfl
  have zm := greedyD_mem n ps [] []
  -- the texts are of one length
  have sizes : ∀ s ∈ (greedyD n [] [] ps).2, s.size = (rdOf ByteArray.empty (l.map (·.f1)) 0).size ∧ s.size ≤ 40 := by
    intro s hs
    rcases zm s hs with q | q
    · simp at q
    · rw [p3] at q
      unfold evenB at hev
      rw [List.all_eq_true] at hev
      have := hev s q
      simpa using this
  have loop : ∀ (X : List ByteArray × Bool), Ev (fun k => if ((greedyD n [] [] ps).1.length : Int) < (n : Int) then (some (([] : List ByteArray), false)) else ((impl_inverseOf.f k (K.ill (greedyD n [] [] ps).1)).bind fun bt373 => ((impl_combined.f k bt373.1 (greedyD n [] [] ps).2).bind fun t377 => (some (t377, true))))) X → Ev (fun k => impl_SolveDrops.l0 k (n : Int) (([] : List (List Int))) (([] : List ByteArray)) l (l.length : Int) 0) X := by
    intro X hX
    have key : ∀ (d i : Nat) (C : List (List Nat)) (D : List ByteArray), i + d = l.length → K.Mat C.length n C → C.length ≤ i → D.length ≤ i → greedyD n C D (ps.drop i) = greedyD n [] [] ps → Ev (fun k => impl_SolveDrops.l0 k (n : Int) (K.ill C) D l (l.length : Int) (i : Int)) X := by
      intro d
      induction d with
      | zero =>
        intro i C D hi hC hc hd hg
        obtain rfl : i = l.length := by omega
        rw [List.drop_of_length_le (by omega)] at hg
        rw [← hg] at hX
        apply K.Ev.succ
        simp only [impl_SolveDrops.l0, if_neg (show ¬ ((l.length : Int) < (l.length : Int)) by omega), K.ill_length]
        exact hX
      | succ d ih =>
        intro i C D hi hC hc hd hg
        have hil : i < l.length := by omega
        have hip : i < ps.length := by omega
        have hr : rd_T54 l (i : Int) = l[i] := by simp [rd_T54, hil]
        obtain ⟨q1, q2⟩ := p2 _ (List.getElem_mem hip)
        have q3 : ps[i].2 = l[i].f1 := by
          have := List.getElem_of_eq p3 (show i < (ps.map Prod.snd).length by simpa using hip)
          simpa using this
        have hM := K.snoc_mat hC q1 q2
        rw [List.drop_eq_getElem_cons hip] at hg
        have hil2 : (C ++ [ps[i].1]).length = C.length + 1 := by simp
        apply K.Ev.succ
        simp only [impl_SolveDrops.l0, if_pos (show (i : Int) < (l.length : Int) by omega), if_pos (show (0 : Int) ≤ (i : Int) by omega), hr, K.w64s i (show i < 9223372036854775807 by omega), cloneR_eq (K.ill C) (by rw [K.ill_length]; omega), Option.bind_some]
        refine Ev.bind (p4 i hil hip).2 ?_
        simp only [K.ill_length, if_pos (show C.length < 5864062014805 by omega), Option.bind_some, K.ill_snoc, hil2]
        refine Ev.bind (rankOf_ev _ hM (by omega) (by omega)) ?_
        rw [greedyD_cons] at hg
        by_cases e : (K.elim n 0 0 (C ++ [ps[i].1])).2 = C.length + 1
        · rw [if_pos e] at hg
          simp only [if_pos (show (((K.elim n 0 0 (C ++ [ps[i].1])).2 : Nat) : Int) = ((C.length + 1 : Nat) : Int) by omega), if_pos (show D.length < 8796093022208 by omega)]
          rw [← q3]
          exact ih (i + 1) (C ++ [ps[i].1]) (D ++ [ps[i].2]) (by omega) (by rw [hil2]; exact hM) (by omega) (by simp; omega) hg
        · rw [if_neg e] at hg
          simp only [if_neg (show ¬ (((K.elim n 0 0 (C ++ [ps[i].1])).2 : Nat) : Int) = ((C.length + 1 : Nat) : Int) by omega)]
          exact ih (i + 1) C D (by omega) hC (by omega) (by omega) hg
    have m0 : K.Mat ([] : List (List Nat)).length n [] := ⟨rfl, fun r hr => by simp at hr, fun r hr => by simp at hr⟩
    exact key l.length 0 [] [] (by omega) m0 (by simp) (by simp) (by rw [List.drop_zero])
  have enter : ∀ (X : List ByteArray × Bool), Ev (fun k => impl_SolveDrops.l0 k (n : Int) (([] : List (List Int))) (([] : List ByteArray)) l (l.length : Int) 0) X → Ev (fun k => impl_SolveDrops.f k l (n : Int)) X := by
    intro X hX
    simp only [impl_SolveDrops.f]
    refine Ev.bind d2 ?_
    simp only [if_true, impl_areBlocks.f, inId, decide_eq_true ha, Option.bind_some, Bool.not_true]
    apply K.Ev.succ
    simp only [impl_SolveDrops.j0, Bool.false_eq_true, if_false]
    exact hX
  have enterS : ∀ (X : List ByteArray × Bool), Ev (fun k => if ((greedyD n [] [] ps).1.length : Int) < (n : Int) then (some (([] : List ByteArray), false)) else ((spec_l2Inverse.f k (K.ill (greedyD n [] [] ps).1)).bind fun bt243 => ((spec_l3Rows.f k bt243.1 (greedyD n [] [] ps).2).bind fun t248 => (some (t248, true))))) X → Ev (fun k => spec_SolveDrops.f k l (n : Int)) X := by
    intro X hX
    simp only [spec_SolveDrops.f]
    refine Ev.bind d1 ?_
    simp only [if_true, inRd, decide_eq_true ha, Option.bind_some, Bool.not_true]
    apply K.Ev.succ
    simp only [spec_SolveDrops.j0, Bool.false_eq_true, if_false]
    refine Ev.bind f1 ?_
    simp only [K.ill_length]
    exact hX
  have rk := (K.elim_rank n 0 0 (greedyD n [] [] ps).1 g1 (Nat.zero_le _)).2.2
  generalize greedyD n [] [] ps = G at *
  obtain ⟨C, D⟩ := G
  simp only at *
  by_cases hlt : (C.length : Int) < (n : Int)
  · refine ⟨([], false), by simp, enterS _ ?_, enter _ (loop _ ?_)⟩
    · simp only [if_pos hlt]; exact Ev.now _
    · simp only [if_pos hlt]; exact Ev.now _
  · have hcn : C.length = n := by omega
    rw [hcn] at g1 g2
    have hD : D.length = n := by omega
    have hinv : (K.minv C).2 = n := by
      unfold K.minv
      rw [hcn, K.beside_rank g1 (K.idm_mat n), g2]
    have hs : ∀ j : Nat, j < n → (rdOf ByteArray.empty D (j : Int)).size = (rdOf ByteArray.empty (l.map (·.f1)) 0).size := by
      intro j hj
      have : rdOf ByteArray.empty D (j : Int) = D[j] := by simp [rdOf, show j < D.length by omega]
      rw [this]
      exact (sizes _ (List.getElem_mem _)).1
    have hs2 : (rdOf ByteArray.empty (l.map (·.f1)) 0).size ≤ 1000 := by
      have h0 : 0 < D.length := by omega
      have := sizes _ (List.getElem_mem h0)
      omega
    have hm := K.minv_mat g1
    refine ⟨((K.minv C).1.map (fun r => strOfNums (K.il (trN (rdOf ByteArray.empty (l.map (·.f1)) 0).size r D n))), true), by rw [List.length_map, hm.len]; omega, enterS _ ?_, enter _ (loop _ ?_)⟩
    · simp only [if_neg hlt]
      refine Ev.bind (l2Inverse_ev C g1 (by omega) (by omega)) ?_
      refine Ev.bind (l3Rows_ev (K.minv C).1 D n _ hm hD hs hs2 (by omega) (by omega)) ?_
      exact Ev.now _
    · simp only [if_neg hlt]
      have iv := inverseOf_ev C g1 (by omega)
      rw [hinv, if_neg (Nat.lt_irrefl _)] at iv
      refine Ev.bind iv ?_
      refine Ev.bind (combined_ev (K.minv C).1 D n _ hm hD hs hs2 (by omega) (by omega)) ?_
      exact Ev.now _
theorem FnExactSolveDrops : ∀ (l : List S60) (a : Int), l.length ≤ maxLen → (∀ x ∈ l, (Lit.int .i64 x.f0).wf = true ∧ x.f1.size ≤ maxLen) → (Lit.int .i64 a).wf = true → ∃ k, laws_FnExactSolveDrops.f k l a = some true := by
  intro l a hl hw _
  refine Ev.rounds (?_ : Ev (fun k => laws_FnExactSolveDrops.f k l a) true)
  unfold laws_FnExactSolveDrops.f
  obtain ⟨c, c1, c2⟩ := laws_szDropS_ev l hl (fun s hs => (hw s hs).2)
  refine Ev.bind c1 ?_
  by_cases hc : c < 0
  · simp only [if_pos hc]; exact Ev.now _
  simp only [if_neg hc]
  obtain ⟨q1, q2⟩ := c2 (by omega)
  have ht := laws_toDropS_ev l q1
  have hml : (l.map dropIn).length ≤ 1048576 := by rw [List.length_map]; exact q1
  obtain ⟨r, e0, e1, e2⟩ := solveDrops_same (l.map dropIn) hml a
  obtain ⟨v, g, v1, v2, v3⟩ := laws_markStringS_held r.1 e0
  obtain ⟨v', g', v1', v2'⟩ := laws_markDropS_marks (l.map dropIn) hml
  refine Ev.bind ht ?_
  refine Ev.bind e1 ?_
  refine Ev.bind ht ?_
  refine Ev.bind e2 ?_
  refine Ev.bind (laws_eqStringS_self _ (by omega)) ?_
  simp only [if_true, bne_self_eq_false]
  apply K.Ev.succ
  simp only [laws_FnExactSolveDrops.j0, Bool.false_eq_true, if_false]
  refine Ev.bind ht ?_
  refine Ev.bind (laws_eqDropS_self _ (by omega)) ?_
  simp only [if_true]
  refine Ev.bind v1' ?_
  simp only [if_neg (show ¬ v' < 0 by omega)]
  refine Ev.bind (laws_eqStringS_self _ (by omega)) ?_
  simp only [if_true, bne_self_eq_false]
  apply K.Ev.succ
  simp only [laws_FnExactSolveDrops.j1, Bool.false_eq_true, if_false]
  refine Ev.bind v1 ?_
  refine Ev.bind v2 ?_
  simp only [if_neg (show ¬ v < 0 by omega), if_true]
  refine Ev.bind ht ?_
  refine Ev.bind e2 ?_
  refine Ev.bind (laws_eqStringS_self _ (by omega)) ?_
  simp only [if_true, bne_self_eq_false]
  apply K.Ev.succ
  simp only [laws_FnExactSolveDrops.j2, Bool.false_eq_true, if_false]
  refine Ev.bind v2 ?_
  simp only [if_neg (show ¬ v < 0 by omega), if_true]
  exact Ev.now _

end Go.Proofs.Ytimajkahadhhhaa.Pure
