/- The law FnExactBlocksOf answers true for all numbers: the blocks that the program chooses for a seed are the reference's, and no later call changes what was handed back. -/
import Derived.Test.YtimajkahadhhhaaPFnExactBlocksOfx3
import Derived.Test.YtimajkahadhhhaaKKit
import Derived.Test.YtimajkahadhhhaaKSorted
set_option linter.unusedVariables false
set_option linter.unusedSimpArgs false
namespace Go.Proofs.Ytimajkahadhhhaa.Pure
open Go Go.RowKit Go.Proofs.Ytimajkahadhhhaa Go.Proofs.Ytimajkahadhhhaa.PFnExactBlocksOf Go.Proofs.YtimajkahadhhhaaW.PrintWords Go.Proofs.YtimajkahadhhhaaW.PrintLast Go.Proofs.YtimajkahadhhhaaW.PrintMore

theorem l9Collect (l : List Bool) (hl : l.length ≤ 1000) : Ev (fun k => spec_l9Blocks.l1 k ([] : List Int) l (l.length : Int) 0) (K.trues 0 l) := by
  have key : ∀ (d i : Nat) (acc : List Int), i + d = l.length → acc.length ≤ i → Ev (fun k => spec_l9Blocks.l1 k acc l (l.length : Int) (i : Int)) (acc ++ K.trues i (l.drop i)) := by
    intro d
    induction d with
    | zero =>
      intro i acc h _
      apply K.Ev.succ
      simp only [spec_l9Blocks.l1, if_neg (show ¬ ((i : Int) < (l.length : Int)) by omega)]
      rw [List.drop_of_length_le (by omega), K.trues, List.append_nil]
      exact Ev.now _
    | succ d ih =>
      intro i acc h ha
      have hi : i < l.length := by omega
      have hr : rdOf false l (i : Int) = l[i] := by simp [rdOf, hi]
      apply K.Ev.succ
      simp only [spec_l9Blocks.l1, if_pos (show (i : Int) < (l.length : Int) by omega), if_pos (show (0 : Int) ≤ (i : Int) by omega), hr, K.w64s i (by omega)]
      rw [List.drop_eq_getElem_cons hi]
      cases hb : l[i] with
      | true =>
        simp only [if_true, if_pos (show acc.length < 17592186044416 by omega), K.trues]
        have := ih (i + 1) (acc ++ [(i : Int)]) (by omega) (by simp; omega)
        rw [List.append_assoc] at this
        exact this
      | false =>
        simp only [Bool.false_eq_true, if_false, K.trues]
        exact ih (i + 1) acc (by omega) (by omega)
  have := key l.length 0 [] (by omega) (by simp)
  rw [List.nil_append, List.drop_zero] at this
  exact this

theorem contains_int_ev (l : List Int) (x : Int) (hl : l.length ≤ 140737488355328) : Ev (fun k => slices_Contains_int_int.f k l x) (decide (x ∈ l)) := by
  have key : ∀ (d n : Nat), n + d = l.length → (∀ j, j < n → l[j]? ≠ some x) → ∃ r : Int, Ev (fun k => slices_Index_int_int.l0 k l x (l.length : Int) (n : Int)) r ∧ (r ≥ 0 ↔ x ∈ l) := by
    intro d
    induction d with
    | zero =>
      intro n h1 h2
      refine ⟨-1, ?_, ?_⟩
      · apply K.Ev.succ
        simp only [slices_Index_int_int.l0, if_neg (show ¬ ((n : Int) < (l.length : Int)) by omega)]
        exact Ev.now _
      · refine ⟨fun h => by omega, fun h => ?_⟩
        obtain ⟨j, hj⟩ := List.getElem?_of_mem h
        exact absurd hj (h2 j (by have := (List.getElem?_eq_some_iff.1 hj).1; omega))
    | succ d ih =>
      intro n h1 h2
      have hn : n < l.length := by omega
      by_cases hc : x = l[n]
      · refine ⟨(n : Int), ?_, fun _ => hc ▸ List.getElem_mem hn, fun _ => by omega⟩
        apply K.Ev.succ
        simp only [slices_Index_int_int.l0, if_pos (show (n : Int) < (l.length : Int) by omega), if_pos (show (0 : Int) ≤ (n : Int) by omega), K.rd_nat hn, if_pos hc]
        exact Ev.now _
      · obtain ⟨r, e1, e2⟩ := ih (n + 1) (by omega) (fun j hj => by
          rcases Nat.lt_or_ge j n with q | q
          · exact h2 j q
          · obtain rfl : j = n := by omega
            rw [List.getElem?_eq_getElem hn]; simpa using fun h => hc h.symm)
        refine ⟨r, ?_, e2⟩
        apply K.Ev.succ
        simp only [slices_Index_int_int.l0, if_pos (show (n : Int) < (l.length : Int) by omega), if_pos (show (0 : Int) ≤ (n : Int) by omega), K.rd_nat hn, if_neg hc, K.w64s n (show n < 9223372036854775807 by omega)]
        exact e1
  obtain ⟨r, e1, e2⟩ := key l.length 0 (by omega) (fun j hj => by omega)
  simp only [slices_Contains_int_int.f, slices_Index_int_int.f]
  refine Ev.bind e1 ?_
  rw [decide_eq_decide.mpr e2]
  exact Ev.now _

theorem nxS_eq (s : Int) (h0 : 0 ≤ s) (h1 : s ≤ 100000) : nxS s = (75 * s + 74) % 65537 := by
  unfold nxS
  rw [K.w64 (x := 75 * s) (by omega) (by omega), K.w64 (by omega) (by omega), Int.tmod_eq_emod_of_nonneg (by omega)]
theorem nxS_rng (s : Int) (h0 : 0 ≤ s) (h1 : s ≤ 100000) : 0 ≤ nxS s ∧ nxS s ≤ 65536 := by
  rw [nxS_eq s h0 h1]; omega
theorem tmod_rng (s : Int) (n : Nat) (h0 : 0 ≤ s) (hn : 0 < n) : ∃ j : Nat, Int.tmod s (n : Int) = (j : Int) ∧ j < n := by
  obtain ⟨a, rfl⟩ := Int.eq_ofNat_of_zero_le h0
  refine ⟨a % n, ?_, Nat.mod_lt _ hn⟩
  rw [Int.tmod_eq_emod_of_nonneg (by omega)]; omega
/-- What the two choices of blocks hold alike. -/
structure Same (n : Nat) (out : List Int) (inn : List Bool) : Prop where
  len : inn.length = n
  nodup : out.Nodup
  mem : ∀ j : Nat, (j : Int) ∈ out ↔ inn[j]? = some true
  rng : ∀ x ∈ out, ∃ j : Nat, x = (j : Int) ∧ j < n
/-- Valid shares. -/
structure GoodShares (m : List (Nat × Nat)) : Prop where
  len : m.length ≤ 20
  nz : ∀ p ∈ m, p.1 ≠ 0
  up : (m.map Prod.fst).Pairwise (· < ·)
theorem GoodShares.nodup {m : List (Nat × Nat)} (h : GoodShares m) : (m.map Prod.fst).Nodup := h.up.imp (fun h e => by omega)

theorem Same.add {n : Nat} {out : List Int} {inn : List Bool} (h : Same n out inn) (j : Nat) (hj : j < n) (hn : ¬ (j : Int) ∈ out) : Same n (out ++ [(j : Int)]) (inn.set j true) := by
  refine ⟨by simpa using h.len, ?_, ?_, ?_⟩
  · rw [List.nodup_append]
    refine ⟨h.nodup, by simp, ?_⟩
    intro a ha b hb e
    rw [List.mem_singleton] at hb
    subst hb; subst e
    exact hn ha
  · intro i
    rw [List.mem_append, List.mem_singleton, List.getElem?_set]
    by_cases e : j = i
    · subst e
      simp [h.len, hj]
    · simp only [e, if_false]
      rw [← h.mem i]
      constructor
      · rintro (h | h)
        · exact h
        · omega
      · exact .inl
  · intro x hx
    rcases List.mem_append.mp hx with hx | hx
    · exact h.rng x hx
    · exact ⟨j, List.mem_singleton.mp hx, hj⟩
theorem Same.end_ {n : Nat} {out : List Int} {inn : List Bool} (h : Same n out inn) : sortI out = K.trues 0 inn := by
  refine K.sort_unique h.nodup (K.trues_sorted inn 0) (fun x => ?_)
  rw [K.trues_mem]
  constructor
  · intro hx
    obtain ⟨j, rfl, hj⟩ := h.rng x hx
    exact ⟨j, by omega, (h.mem j).mp hx⟩
  · rintro ⟨j, rfl, hj⟩
    rw [Nat.zero_add]
    exact (h.mem j).mpr hj
theorem blocks_loop (n : Nat) (hn : 0 < n) (hn2 : n ≤ 12) (c : Nat) (hc : 1 ≤ c) (hc4 : c ≤ 4) : ∀ (d u : Nat) (s : Int) (out : List Int) (inn : List Bool), u + d = 200 → 0 ≤ s → s ≤ 100000 → Same n out inn → out.length ≤ c → (out ≠ [] ∨ 0 < d) →
    ∃ out' inn', Same n out' inn' ∧ out'.length ≤ c ∧ out' ≠ [] ∧ Ev (fun k => impl_blocksOf.l0 k (n : Int) s out (c : Int) (u : Int)) out' ∧ ∀ R, Ev (fun k => spec_l9Blocks.l1 k ([] : List Int) inn' (inn'.length : Int) 0) R → Ev (fun k => spec_l9Blocks.l0 k (n : Int) s (c : Int) inn (out.length : Int) (u : Int)) R := by
  intro d
  induction d with
  | zero =>
    intro u s out inn hu h0 h1 hS hle hne
    obtain rfl : u = 200 := by omega
    refine ⟨out, inn, hS, hle, by rcases hne with h | h; exact h; omega, ?_, fun R hR => ?_⟩
    · apply K.Ev.succ
      simp only [impl_blocksOf.l0, if_neg (show ¬ (((200 : Nat) : Int) < 200) by omega)]
      apply K.Ev.succ
      simp only [impl_blocksOf.j1, Bool.false_eq_true, if_false]
      exact Ev.now _
    · apply K.Ev.succ
      simp only [spec_l9Blocks.l0, if_neg (show ¬ (((200 : Nat) : Int) < 200) by omega)]
      apply K.Ev.succ
      simp only [spec_l9Blocks.j2, Bool.false_eq_true, if_false]
      exact hR
  | succ d ih =>
    intro u s out inn hu h0 h1 hS hle hne
    have hu2 : (u : Int) < 200 := by omega
    by_cases hlt : out.length < c
    · obtain ⟨p0, p1⟩ := nxS_rng s h0 h1
      obtain ⟨j, hj, hjn⟩ := tmod_rng (nxS s) n p0 hn
      have hz : ¬ (n : Int) = 0 := by omega
      have hjl : j < inn.length := by rw [hS.len]; exact hjn
      have hw := K.Eqn.mk (K.w64s u (by omega))
      have hwl := K.Eqn.mk (K.w64s out.length (by omega))
      have hd : decide ((out.length : Int) < (c : Int)) = true := decide_eq_true (by omega)
      have hnx : spec_l9Next.f s = some (nxS s) := rfl
      have hrd : rdOf false inn (j : Int) = inn[j] := by simp [rdOf, hjl]
      have ho : out.length ≤ 140737488355328 := by omega
      by_cases hin : (j : Int) ∈ out
      · obtain ⟨out', inn', q1, q2, q3, q4, q5⟩ := ih (u + 1) (nxS s) out inn (by omega) p0 (by omega) hS hle (by left; intro e; rw [e] at hin; simp at hin)
        refine ⟨out', inn', q1, q2, q3, ?_, fun R hR => ?_⟩
        · apply K.Ev.succ
          simp only [impl_blocksOf.l0, if_pos hu2, hd]
          apply K.Ev.succ
          simp only [impl_blocksOf.j1, if_true, if_neg hz, hj]
          refine Ev.bind (contains_int_ev out (j : Int) ho) ?_
          simp only [decide_eq_true hin, if_true, hw.out]
          exact q4
        · apply K.Ev.succ
          simp only [spec_l9Blocks.l0, if_pos hu2, hd]
          apply K.Ev.succ
          have ht : inn[j] = true := by
            have := (hS.mem j).mp hin
            rw [List.getElem?_eq_getElem hjl] at this
            exact Option.some.inj this
          simp only [spec_l9Blocks.j2, if_true, hnx, Option.bind_some, if_neg hz, hj, if_pos (show (0 : Int) ≤ (j : Int) by omega), if_pos (show (j : Int) < (inn.length : Int) by omega), hrd, ht, hw.out]
          exact q5 R hR
      · have hS' := hS.add j hjn hin
        obtain ⟨out', inn', q1, q2, q3, q4, q5⟩ := ih (u + 1) (nxS s) (out ++ [(j : Int)]) (inn.set j true) (by omega) p0 (by omega) hS' (by simp; omega) (by left; simp)
        refine ⟨out', inn', q1, q2, q3, ?_, fun R hR => ?_⟩
        · apply K.Ev.succ
          simp only [impl_blocksOf.l0, if_pos hu2, hd]
          apply K.Ev.succ
          simp only [impl_blocksOf.j1, if_true, if_neg hz, hj]
          refine Ev.bind (contains_int_ev out (j : Int) ho) ?_
          simp only [decide_eq_false hin, Bool.false_eq_true, if_false, if_pos (show out.length < 17592186044416 by omega), hw.out]
          exact q4
        · apply K.Ev.succ
          simp only [spec_l9Blocks.l0, if_pos hu2, hd]
          apply K.Ev.succ
          have ht : inn[j] = false := by
            cases e : inn[j] with
            | false => rfl
            | true => exact absurd ((hS.mem j).mpr (by rw [List.getElem?_eq_getElem hjl, e])) hin
          simp only [spec_l9Blocks.j2, if_true, hnx, Option.bind_some, if_neg hz, hj, if_pos (show (0 : Int) ≤ (j : Int) by omega), if_pos (show (j : Int) < (inn.length : Int) by omega), hrd, ht, Bool.false_eq_true, if_false, Int.toNat_natCast, hw.out, hwl.out]
          have := q5 R hR
          rw [List.length_append, List.length_singleton] at this
          exact this
    · have hd : decide ((out.length : Int) < (c : Int)) = false := decide_eq_false (by omega)
      refine ⟨out, inn, hS, hle, by intro e; rw [e] at hlt; simp at hlt; omega, ?_, fun R hR => ?_⟩
      · apply K.Ev.succ
        simp only [impl_blocksOf.l0, if_pos hu2, hd]
        apply K.Ev.succ
        simp only [impl_blocksOf.j1, Bool.false_eq_true, if_false]
        exact Ev.now _
      · apply K.Ev.succ
        simp only [spec_l9Blocks.l0, if_pos hu2, hd]
        apply K.Ev.succ
        simp only [spec_l9Blocks.j2, Bool.false_eq_true, if_false]
        exact hR
/-- The blocks of a drop: the program's are the reference's; they are places in the list, increasing, and one to four. -/
theorem blocks_same (a : Int) (n : Nat) (h0 : 0 ≤ a) (h1 : a ≤ 100000) (hn : 1 ≤ n) (hn2 : n ≤ 12) : ∃ L : List Int, Ev (fun k => spec_l9Blocks.f k a (n : Int)) L ∧ Ev (fun k => impl_blocksOf.f k a (n : Int)) L ∧ (∀ x ∈ L, ∃ j : Nat, x = (j : Int) ∧ j < n) ∧ L.Pairwise (· < ·) ∧ 1 ≤ L.length ∧ L.length ≤ 4 := by
  obtain ⟨p0, p1⟩ := nxS_rng a h0 h1
  obtain ⟨m, hm, hm4⟩ := tmod_rng (nxS a) 4 p0 (by omega)
  have hwm : K.Eqn (wrap64 (Int.tmod (nxS a) 4 + 1)) ((m + 1 : Nat) : Int) := ⟨by
    rw [show (4 : Int) = ((4 : Nat) : Int) from rfl, hm]; exact K.w64s m (by omega)⟩
  have hS : Same n ([] : List Int) (List.replicate n false) := ⟨by simp, by simp, fun j => by simp [List.getElem?_replicate], by simp⟩
  have hmn : mn (n : Int) ((m + 1 : Nat) : Int) = ((min n (m + 1) : Nat) : Int) := by
    unfold mn
    split <;> omega
  have hnx : spec_l9Next.f a = some (nxS a) := rfl
  obtain ⟨out, inn, q1, q2, q3, q4, q5⟩ := blocks_loop n hn hn2 (min n (m + 1)) (by omega) (by omega) 200 0 (nxS a) [] (List.replicate n false) (by omega) p0 (by omega) hS (by simp) (.inr (by omega))
  have hL := q1.end_
  have hlen : (sortI out).length = out.length := List.length_mergeSort _
  have hpos : 0 < out.length := List.length_pos_iff.mpr q3
  refine ⟨sortI out, ?_, ?_, ?_, ?_, by omega, by omega⟩
  · have e := q5 _ (l9Collect inn (by rw [q1.len]; omega))
    rw [← hL] at e
    have e2 : Ev (fun k => spec_l9Blocks.j0 k (n : Int) (nxS a) ((min n (m + 1) : Nat) : Int)) (sortI out) := by
      apply K.Ev.succ
      simp only [spec_l9Blocks.j0, if_pos (show (0 : Int) ≤ (n : Int) by omega), Int.toNat_natCast, if_pos (show n ≤ 281474976710656 by omega)]
      exact e
    simp only [spec_l9Blocks.f, hnx, Option.bind_some, hwm.out]
    by_cases h : ((m + 1 : Nat) : Int) > (n : Int)
    · simp only [if_pos h]
      rw [show min n (m + 1) = n by omega] at e2
      exact e2
    · simp only [if_neg h]
      rw [show min n (m + 1) = m + 1 by omega] at e2
      exact e2
  · simp only [impl_blocksOf.f, impl_blocksOf.f0, hwm.out, hmn]
    refine Ev.bind q4 ?_
    simp only [if_pos hpos, if_pos (show out.length ≤ 17592186044416 by omega)]
    exact Ev.now _
  · intro x hx
    exact q1.rng x ((List.mergeSort_perm out _).mem_iff.mp hx)
  · rw [hL]; exact K.trues_sorted inn 0


theorem laws_eqIntS_self (l : List Int) (hl : l.length ≤ 140737488355328) : Ev (fun k => laws_eqIntS.f k l l) true := by
  have key : ∀ (d n : Nat), n + d = l.length → Ev (fun k => laws_eqIntS.l0 k l l (n : Int)) true := by
    intro d
    induction d with
    | zero =>
      intro n h1
      apply K.Ev.succ
      simp only [laws_eqIntS.l0, if_neg (show ¬ ((n : Int) < (l.length : Int)) by omega)]
      exact Ev.now _
    | succ d ih =>
      intro n h1
      apply K.Ev.succ
      simp only [laws_eqIntS.l0, if_pos (show (n : Int) < (l.length : Int) by omega), if_pos (show (0 : Int) ≤ (n : Int) by omega), if_true]
      rw [K.w64s n (by omega)]
      exact ih (n + 1) (by omega)
  unfold laws_eqIntS.f
  simp only [if_true]
  exact key l.length 0 (by omega)


theorem laws_markIntS_held (l : List Int) (hl : l.length ≤ 140737488355328) : ∃ (m : Int) (g : List Int), Ev (fun k => laws_markIntS.f k l 1) (m, g) ∧ Ev (fun k => laws_heldIntS.f k g 1) m ∧ 0 ≤ m := by
  have key : ∀ (d n : Nat) (x : List Int) (c : Int), n + d = x.length → 0 ≤ c → c + d * 1 ≤ 9000000000000000000 → x.length ≤ 140737488355328 → ∃ (m : Int) (g : List Int), Ev (fun k => laws_markIntS.l0 k x c (n : Int)) (m, g) ∧ g.length = x.length ∧ (∀ j, j < n → g[j]? = x[j]?) ∧ Ev (fun k => laws_heldIntS.l0 k g c (n : Int)) m ∧ 0 ≤ m := by
    intro d
    induction d with
    | zero =>
      intro n x c h1 h2 h3 h4
      refine ⟨c, x, ?_, rfl, fun _ _ => rfl, ?_, h2⟩
      · apply K.Ev.succ
        simp only [laws_markIntS.l0, if_neg (show ¬ ((n : Int) < (x.length : Int)) by omega)]
        exact Ev.now _
      · apply K.Ev.succ
        simp only [laws_heldIntS.l0, if_neg (show ¬ ((n : Int) < (x.length : Int)) by omega)]
        exact Ev.now _
    | succ d ih =>
      intro n x c h1 h2 h3 h4
      have hn : n < x.length := by omega
      obtain ⟨m, g, e1, e2, e3, e4, e5⟩ := ih (n + 1) (x.set n (c)) (c + 1) (by simp; omega) (by omega) (by omega) (by simpa using h4)
      have hg : g[n]? = some (c) := by rw [e3 n (by omega)]; simp [hn]
      have hgl : g.length = x.length := by simpa using e2
      refine ⟨m, g, ?_, hgl, ?_, ?_, e5⟩
      · apply K.Ev.succ
        simp only [laws_markIntS.l0, if_pos (show (n : Int) < (x.length : Int) by omega), if_pos (show (0 : Int) ≤ (n : Int) by omega), Int.toNat_natCast]
        
        rw [K.w64s n (by omega), K.w64 (x := c + 1) (by omega) (by omega)]
        exact e1
      · intro j hj
        rw [e3 j (by omega)]
        rw [List.getElem?_set_ne (by omega)]
      · apply K.Ev.succ
        simp only [laws_heldIntS.l0, if_pos (show (n : Int) < (g.length : Int) by omega), if_pos (show (0 : Int) ≤ (n : Int) by omega)]
        simp only [show rd g (n : Int) = c by simp [rd, hg], if_true]
        rw [K.w64s n (by omega), K.w64 (x := c + 1) (by omega) (by omega)]
        exact e4
  obtain ⟨m, g, e1, _, _, e4, e5⟩ := key l.length 0 l 1 (by omega) (by omega) (by omega) hl
  exact ⟨m, g, by simp only [laws_markIntS.f]; exact e1, by simp only [laws_heldIntS.f]; exact e4, e5⟩

theorem blocksOf_eq (a b : Int) : ∃ r : List Int × Bool, r.1.length ≤ 4 ∧ Ev (fun k => spec_BlocksOf.f k a b) r ∧ Ev (fun k => impl_BlocksOf.f k a b) r := by
  have inR : ∀ x lo hi : Int, spec_l1In.f x lo hi = some (decide (lo ≤ x ∧ x ≤ hi)) := by
    intro x lo hi
    unfold spec_l1In.f
    by_cases h : x ≥ lo
    · rw [if_pos h]; congr 1; rw [decide_eq_decide]; omega
    · rw [if_neg h, decide_eq_false (by omega)]
  have inI : ∀ x lo hi : Int, impl_within.f x lo hi = some (decide (lo ≤ x ∧ x ≤ hi)) := inR
  by_cases ha : 0 ≤ a ∧ a ≤ 100000
  · by_cases hb : 1 ≤ b ∧ b ≤ 12
    · obtain ⟨n, rfl⟩ := Int.eq_ofNat_of_zero_le (show 0 ≤ b by omega)
      obtain ⟨L, e1, e2, _, _, _, h4⟩ := blocks_same a n ha.1 ha.2 (by omega) (by omega)
      refine ⟨(L, true), h4, ?_, ?_⟩
      · simp only [spec_BlocksOf.f, spec_l9Seed.f, inR, decide_eq_true ha, decide_eq_true hb, Option.bind_some, if_true]
        exact Ev.bind e1 (Ev.now _)
      · simp only [impl_BlocksOf.f, impl_isSeed.f, impl_areBlocks.f, inI, decide_eq_true ha, decide_eq_true hb, Option.bind_some, if_true]
        exact Ev.bind e2 (Ev.now _)
    · refine ⟨([], false), by simp, ?_, ?_⟩
      · simp only [spec_BlocksOf.f, spec_l9Seed.f, inR, decide_eq_true ha, decide_eq_false hb, Option.bind_some, if_true, Bool.false_eq_true, if_false]
        exact Ev.now _
      · simp only [impl_BlocksOf.f, impl_isSeed.f, impl_areBlocks.f, inI, decide_eq_true ha, decide_eq_false hb, Option.bind_some, if_true, Bool.false_eq_true, if_false]
        exact Ev.now _
  · refine ⟨([], false), by simp, ?_, ?_⟩
    · simp only [spec_BlocksOf.f, spec_l9Seed.f, inR, decide_eq_false ha, Option.bind_some, Bool.false_eq_true, if_false]
      exact Ev.now _
    · simp only [impl_BlocksOf.f, impl_isSeed.f, inI, decide_eq_false ha, Option.bind_some, Bool.false_eq_true, if_false]
      exact Ev.now _
theorem FnExactBlocksOf : laws_FnExactBlocksOf.Pure := by
  intro a b _ _
  refine Ev.rounds (?_ : Ev (fun k => laws_FnExactBlocksOf.f k a b) true)
  unfold laws_FnExactBlocksOf.f
  obtain ⟨r, e0, e1, e2⟩ := blocksOf_eq a b
  obtain ⟨m, g, m1, m2, m3⟩ := laws_markIntS_held r.1 (by omega)
  refine Ev.bind e1 ?_
  refine Ev.bind e2 ?_
  refine Ev.bind (laws_eqIntS_self r.1 (by omega)) ?_
  simp only [if_true, bne_self_eq_false]
  apply K.Ev.succ
  simp only [laws_FnExactBlocksOf.j0, Bool.false_eq_true, if_false]
  refine Ev.bind m1 ?_
  refine Ev.bind m2 ?_
  simp only [if_neg (show ¬ m < 0 by omega), if_true]
  refine Ev.bind e2 ?_
  refine Ev.bind (laws_eqIntS_self r.1 (by omega)) ?_
  simp only [if_true, bne_self_eq_false]
  apply K.Ev.succ
  simp only [laws_FnExactBlocksOf.j1, Bool.false_eq_true, if_false]
  refine Ev.bind m2 ?_
  simp only [if_neg (show ¬ m < 0 by omega), if_true]
  exact Ev.now _

end Go.Proofs.Ytimajkahadhhhaa.Pure
