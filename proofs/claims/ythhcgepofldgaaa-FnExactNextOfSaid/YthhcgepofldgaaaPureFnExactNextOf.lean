/- The law FnExactNextOf answers true for all texts: the places of the sorted bytes are the reference's, and no later call changes what was handed back. -/
import Derived.Test.YthhcgepofldgaaaPFnExactNextOfx2
import Derived.Test.YthhcgepofldgaaaKKit
import Derived.Test.YthhcgepofldgaaaKStable
set_option linter.unusedVariables false
set_option linter.unusedSimpArgs false
namespace Go.Proofs.Ythhcgepofldgaaa.Pure
open Go Go.RowKit Go.Proofs.Ythhcgepofldgaaa Go.Proofs.Ythhcgepofldgaaa.PFnExactNextOf Go.Proofs.YthhcgepofldgaaaW.PrintWords Go.Proofs.YthhcgepofldgaaaW.PrintLast Go.Proofs.YthhcgepofldgaaaW.PrintMore

/-- The places below m of the text's bytes that are b. -/
def idxU (s : ByteArray) (b m : Nat) : List Int := ((List.range m).filter fun (i : Nat) => decide (bt s (i : Int) = (b : Int))).map Int.ofNat
/-- The places of the bytes below B, by byte and by place. -/
def nxB (s : ByteArray) : Nat → List Int
  | 0 => []
  | B + 1 => nxB s B ++ idxU s B s.size
theorem idxU_len (s : ByteArray) (b m : Nat) : (idxU s b m).length ≤ m := by
  unfold idxU
  rw [List.length_map]
  exact Nat.le_trans (List.length_filter_le _ _) (by simp)
theorem nxB_len (s : ByteArray) (h : s.size ≤ 120) : ∀ B, (nxB s B).length ≤ B * 120
  | 0 => Nat.le_refl _
  | B + 1 => by
    rw [nxB, List.length_append]
    have := nxB_len s h B
    have := idxU_len s B s.size
    omega
theorem idxU_mem {s : ByteArray} {b m : Nat} {x : Int} (h : x ∈ idxU s b m) : ∃ j : Nat, x = (j : Int) ∧ j < m ∧ bt s (j : Int) = (b : Int) := by
  simp only [idxU, List.mem_map, List.mem_filter, List.mem_range, decide_eq_true_iff] at h
  obtain ⟨j, ⟨h1, h2⟩, h3⟩ := h
  exact ⟨j, h3.symm, h1, h2⟩
theorem idxU_of {s : ByteArray} {b m j : Nat} (hj : j < m) (hb : bt s (j : Int) = (b : Int)) : (j : Int) ∈ idxU s b m := by
  simp only [idxU, List.mem_map, List.mem_filter, List.mem_range, decide_eq_true_iff]
  exact ⟨j, ⟨hj, hb⟩, rfl⟩
theorem nxB_mem {s : ByteArray} : ∀ {B : Nat} {x : Int}, x ∈ nxB s B → ∃ j : Nat, x = (j : Int) ∧ j < s.size ∧ bt s (j : Int) < (B : Int)
  | 0, x, h => by simp [nxB] at h
  | B + 1, x, h => by
    rw [nxB, List.mem_append] at h
    rcases h with h | h
    · obtain ⟨j, h1, h2, h3⟩ := nxB_mem h
      exact ⟨j, h1, h2, by omega⟩
    · obtain ⟨j, h1, h2, h3⟩ := idxU_mem h
      exact ⟨j, h1, h2, by omega⟩
theorem nxB_of {s : ByteArray} {j : Nat} (hj : j < s.size) : ∀ B : Nat, bt s (j : Int) < (B : Int) → (j : Int) ∈ nxB s B
  | 0, h => by have := bt_range s (j : Int); omega
  | B + 1, h => by
    rw [nxB, List.mem_append]
    by_cases c : bt s (j : Int) = (B : Int)
    · exact .inr (idxU_of hj c)
    · exact .inl (nxB_of hj B (by omega))
/-- The comparison by bytes. -/
def cfB (s : ByteArray) (x y : Int) : Int := bt s x - bt s y
theorem cfB_cmp (s : ByteArray) : K.Cmp (cfB s) := ⟨fun x y => by unfold cfB; omega, fun x y z h1 h2 => by unfold cfB at *; omega⟩
theorem nxB_lt (s : ByteArray) : ∀ B, (nxB s B).Pairwise (K.Lt (cfB s))
  | 0 => List.Pairwise.nil
  | B + 1 => by
    rw [nxB, List.pairwise_append]
    refine ⟨nxB_lt s B, ?_, fun x hx y hy => ?_⟩
    · unfold idxU
      rw [List.pairwise_map]
      refine (List.Pairwise.filter _ List.pairwise_lt_range).imp_of_mem ?_
      intro a b ha hb hab
      simp only [List.mem_filter, decide_eq_true_iff] at ha hb
      right
      unfold cfB
      exact ⟨by show bt s (a : Int) - bt s (b : Int) = 0; rw [ha.2, hb.2]; omega, by show (a : Int) < (b : Int); omega⟩
    · obtain ⟨i, rfl, _, h1⟩ := nxB_mem hx
      obtain ⟨j, rfl, _, h2⟩ := idxU_mem hy
      left
      unfold cfB
      omega
theorem lt_irrefl {cf : Int → Int → Int} (h : K.Cmp cf) (x : Int) : ¬ K.Lt cf x x := by
  have := h.self x
  unfold K.Lt
  omega
/-- A list of the numbers below n, by a comparison: it is the sorted one. -/
theorem argsort_pair {cf : Int → Int → Int} (hc : K.Cmp cf) {d : List Int} {n : Nat} (hp : d.Pairwise (K.Lt cf)) (h1 : ∀ x ∈ d, ∃ j : Nat, x = (j : Int) ∧ j < n) (h2 : ∀ j : Nat, j < n → (j : Int) ∈ d) : d = Go.Proofs.Ythhcgepofldgaaa.PSortN.argsort cf n := by
  have hn : d.Nodup := hp.imp (fun {a b} hab e => by subst e; exact lt_irrefl hc _ hab)
  have hr : (Go.Proofs.Ythhcgepofldgaaa.PSortN.rng n).Nodup := by
    unfold Go.Proofs.Ythhcgepofldgaaa.PSortN.rng List.Nodup
    rw [List.pairwise_map]
    exact List.nodup_range.imp (fun h e => h (Int.ofNat.inj e))
  have hperm : List.Perm d (Go.Proofs.Ythhcgepofldgaaa.PSortN.rng n) := by
    refine (List.perm_ext_iff_of_nodup hn hr).mpr fun x => ⟨fun hx => ?_, fun hx => ?_⟩
    · obtain ⟨j, rfl, hj⟩ := h1 x hx
      exact List.mem_map.mpr ⟨j, List.mem_range.mpr hj, rfl⟩
    · obtain ⟨j, rfl, hj⟩ := Go.Proofs.Ythhcgepofldgaaa.PSortN.rng_mem hx
      exact h2 j hj
  refine Go.Proofs.Ythhcgepofldgaaa.PSortN.argsort_of hc hperm ?_
  intro i j _ hij hj
  have hl : d.length = n := hperm.length_eq.trans (Go.Proofs.Ythhcgepofldgaaa.PSortN.rng_length n)
  have := (List.pairwise_iff_getElem.mp hp) i j (by omega) (by omega) hij
  unfold K.at_
  rw [List.getD_eq_getElem?_getD, List.getD_eq_getElem?_getD, List.getElem?_eq_getElem (show i < d.length by omega), List.getElem?_eq_getElem (show j < d.length by omega)]
  exact this
theorem nxB_argsort (s : ByteArray) : nxB s 256 = Go.Proofs.Ythhcgepofldgaaa.PSortN.argsort (cfB s) s.size := by
  refine argsort_pair (cfB_cmp s) (nxB_lt s 256) (fun x hx => ?_) (fun j hj => nxB_of hj 256 (by have := bt_range s (j : Int); omega))
  obtain ⟨j, h1, h2, _⟩ := nxB_mem hx
  exact ⟨j, h1, h2⟩
theorem l11Next_ev (s : ByteArray) (h : s.size ≤ 120) : Ev (fun k => spec_l11Next.f k s) (nxB s 256) := by
  have outer : ∀ (d B : Nat), B + d = 256 → Ev (fun k => spec_l11Next.l0 k s (nxB s B) (B : Int)) (nxB s 256) := by
    intro d
    induction d with
    | zero =>
      intro B hB
      obtain rfl : B = 256 := by omega
      apply K.Ev.succ
      simp only [spec_l11Next.l0, if_neg (show ¬ (((256 : Nat) : Int) < 256) by omega)]
      exact Ev.now _
    | succ d ih =>
      intro B hB
      have inner : ∀ (e i : Nat), i + e = s.size → Ev (fun k => spec_l11Next.l1 k s (nxB s B ++ idxU s B i) (B : Int) (i : Int)) (nxB s 256) := by
        intro e
        induction e with
        | zero =>
          intro i hi
          apply K.Ev.succ
          simp only [spec_l11Next.l1, if_neg (show ¬ ((i : Int) < (s.size : Int)) by omega), K.w64s B (show B < 9223372036854775807 by omega)]
          have := ih (B + 1) (by omega)
          rw [nxB, show s.size = i by omega] at this
          exact this
        | succ e ihe =>
          intro i hi
          have hr := bt_range s (i : Int)
          have hw : wrap64 (bt s (i : Int)) = bt s (i : Int) := K.w64 (by omega) (by omega)
          have hlen : (nxB s B ++ idxU s B i).length < 17592186044416 := by
            have := nxB_len s h B
            have := idxU_len s B i
            rw [List.length_append]; omega
          have hs : idxU s B (i + 1) = idxU s B i ++ (if bt s (i : Int) = (B : Int) then [(i : Int)] else []) := by
            unfold idxU
            rw [List.range_succ, List.filter_append, List.map_append]
            by_cases c : bt s (i : Int) = (B : Int) <;> simp [c]
          have hn := ihe (i + 1) (by omega)
          apply K.Ev.succ
          simp only [spec_l11Next.l1, if_pos (show (i : Int) < (s.size : Int) by omega), if_pos (show (0 : Int) ≤ (i : Int) by omega), hw, K.w64s i (show i < 9223372036854775807 by omega)]
          by_cases c : bt s (i : Int) = (B : Int)
          · simp only [if_pos c, if_pos hlen]
            rw [hs, if_pos c, ← List.append_assoc] at hn
            exact hn
          · simp only [if_neg c]
            rw [hs, if_neg c, List.append_nil] at hn
            exact hn
      apply K.Ev.succ
      simp only [spec_l11Next.l0, if_pos (show (B : Int) < 256 by omega)]
      have := inner s.size 0 (by omega)
      have e : idxU s B 0 = [] := rfl
      rw [e, List.append_nil] at this
      exact this
  simp only [spec_l11Next.f]
  exact outer 256 0 (by omega)


theorem laws_eqIntS_self (l : List Int) (hl : l.length ≤ 140737488355328) : Ev (fun k => laws_eqIntS.f k l l) true := by
  have key : ∀ (d n : Nat), n + d = l.length → Ev (fun k => laws_eqIntS.l0 k l l (n : Int)) true := by
    intro d
    induction d with
    | zero =>
      intro n h1
      apply K.Ev.succ
      simp only [laws_eqIntS.l0, if_neg (show ¬ ((n : Int) < (l.length : Int)) by omega)]
      exact Ev.now _
    | succ d ih =>
      intro n h1
      apply K.Ev.succ
      simp only [laws_eqIntS.l0, if_pos (show (n : Int) < (l.length : Int) by omega), if_pos (show (0 : Int) ≤ (n : Int) by omega), if_true]
      rw [K.w64s n (by omega)]
      exact ih (n + 1) (by omega)
  unfold laws_eqIntS.f
  simp only [if_true]
  exact key l.length 0 (by omega)


theorem laws_markIntS_held (l : List Int) (hl : l.length ≤ 140737488355328) : ∃ (m : Int) (g : List Int), Ev (fun k => laws_markIntS.f k l 1) (m, g) ∧ Ev (fun k => laws_heldIntS.f k g 1) m ∧ 0 ≤ m := by
  have key : ∀ (d n : Nat) (x : List Int) (c : Int), n + d = x.length → 0 ≤ c → c + d * 1 ≤ 9000000000000000000 → x.length ≤ 140737488355328 → ∃ (m : Int) (g : List Int), Ev (fun k => laws_markIntS.l0 k x c (n : Int)) (m, g) ∧ g.length = x.length ∧ (∀ j, j < n → g[j]? = x[j]?) ∧ Ev (fun k => laws_heldIntS.l0 k g c (n : Int)) m ∧ 0 ≤ m := by
    intro d
    induction d with
    | zero =>
      intro n x c h1 h2 h3 h4
      refine ⟨c, x, ?_, rfl, fun _ _ => rfl, ?_, h2⟩
      · apply K.Ev.succ
        simp only [laws_markIntS.l0, if_neg (show ¬ ((n : Int) < (x.length : Int)) by omega)]
        exact Ev.now _
      · apply K.Ev.succ
        simp only [laws_heldIntS.l0, if_neg (show ¬ ((n : Int) < (x.length : Int)) by omega)]
        exact Ev.now _
    | succ d ih =>
      intro n x c h1 h2 h3 h4
      have hn : n < x.length := by omega
      obtain ⟨m, g, e1, e2, e3, e4, e5⟩ := ih (n + 1) (x.set n (c)) (c + 1) (by simp; omega) (by omega) (by omega) (by simpa using h4)
      have hg : g[n]? = some (c) := by rw [e3 n (by omega)]; simp [hn]
      have hgl : g.length = x.length := by simpa using e2
      refine ⟨m, g, ?_, hgl, ?_, ?_, e5⟩
      · apply K.Ev.succ
        simp only [laws_markIntS.l0, if_pos (show (n : Int) < (x.length : Int) by omega), if_pos (show (0 : Int) ≤ (n : Int) by omega), Int.toNat_natCast]
        
        rw [K.w64s n (by omega), K.w64 (x := c + 1) (by omega) (by omega)]
        exact e1
      · intro j hj
        rw [e3 j (by omega)]
        rw [List.getElem?_set_ne (by omega)]
      · apply K.Ev.succ
        simp only [laws_heldIntS.l0, if_pos (show (n : Int) < (g.length : Int) by omega), if_pos (show (0 : Int) ≤ (n : Int) by omega)]
        simp only [show rd g (n : Int) = c by simp [rd, hg], if_true]
        rw [K.w64s n (by omega), K.w64 (x := c + 1) (by omega) (by omega)]
        exact e4
  obtain ⟨m, g, e1, _, _, e4, e5⟩ := key l.length 0 l 1 (by omega) (by omega) (by omega) hl
  exact ⟨m, g, by simp only [laws_markIntS.f]; exact e1, by simp only [laws_heldIntS.f]; exact e4, e5⟩

theorem nextOf_same (s : ByteArray) : ∃ r : List Int × Bool, r.1.length ≤ 120 ∧ Ev (fun k => spec_NextOf.f k s) r ∧ impl_NextOf.f s = some r := by
  by_cases h : s.size ≤ 120
  · refine ⟨(nxB s 256, true), ?_, ?_, ?_⟩
    · rw [nxB_argsort]
      show (Go.Proofs.Ythhcgepofldgaaa.PSortN.argsort _ _).length ≤ 120
      rw [Go.Proofs.Ythhcgepofldgaaa.PSortN.argsort, List.length_mergeSort, Go.Proofs.Ythhcgepofldgaaa.PSortN.rng_length]
      exact h
    · simp only [spec_NextOf.f, if_neg (show ¬ (s.size : Int) > 120 by omega)]
      exact Ev.bind (l11Next_ev s h) (Ev.now _)
    · simp only [impl_NextOf.f, impl_isTurnable.f, decide_eq_true (show (s.size : Int) ≤ 120 by omega), Option.bind_some, if_true, impl_nextOf.f, if_pos h]
      rw [nxB_argsort]; rfl
  · refine ⟨([], false), by simp, ?_, ?_⟩
    · simp only [spec_NextOf.f, if_pos (show (s.size : Int) > 120 by omega)]
      exact Ev.now _
    · simp only [impl_NextOf.f, impl_isTurnable.f, decide_eq_false (show ¬ (s.size : Int) ≤ 120 by omega), Option.bind_some, Bool.false_eq_true, if_false]
theorem FnExactNextOf : laws_FnExactNextOf.Pure := by
  intro s _
  refine Ev.rounds (?_ : Ev (fun k => laws_FnExactNextOf.f k s) true)
  simp only [laws_FnExactNextOf.f]
  by_cases hs : (s.size : Int) > 1048576
  · simp only [if_pos hs]; exact Ev.now _
  obtain ⟨r, e0, e1, e2⟩ := nextOf_same s
  obtain ⟨m, g, m1, m2, m3⟩ := laws_markIntS_held r.1 (by omega)
  simp only [if_neg hs, e2, Option.bind_some]
  refine Ev.bind e1 ?_
  refine Ev.bind (laws_eqIntS_self r.1 (by omega)) ?_
  simp only [if_true, bne_self_eq_false]
  apply K.Ev.succ
  simp only [laws_FnExactNextOf.j0, Bool.false_eq_true, if_false]
  refine Ev.bind m1 ?_
  refine Ev.bind m2 ?_
  simp only [if_neg (show ¬ m < 0 by omega), if_true, e2, Option.bind_some]
  refine Ev.bind (laws_eqIntS_self r.1 (by omega)) ?_
  simp only [if_true, bne_self_eq_false]
  apply K.Ev.succ
  simp only [laws_FnExactNextOf.j1, Bool.false_eq_true, if_false]
  refine Ev.bind m2 ?_
  simp only [if_neg (show ¬ m < 0 by omega), if_true]
  exact Ev.now _

end Go.Proofs.Ythhcgepofldgaaa.Pure
