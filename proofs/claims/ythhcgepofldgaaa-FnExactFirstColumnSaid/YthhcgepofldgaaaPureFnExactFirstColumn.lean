/- The law FnExactFirstColumn answers true for all texts: the sorted bytes are the reference's. -/
import Derived.Test.YthhcgepofldgaaaPFnExactFirstColumnx1
import Derived.Test.YthhcgepofldgaaaKKit
import Derived.Test.YthhcgepofldgaaaKStable
set_option linter.unusedVariables false
set_option linter.unusedSimpArgs false
namespace Go.Proofs.Ythhcgepofldgaaa.Pure
open Go Go.RowKit Go.Proofs.Ythhcgepofldgaaa Go.Proofs.Ythhcgepofldgaaa.PFnExactFirstColumn Go.Proofs.YthhcgepofldgaaaW.PrintWords Go.Proofs.YthhcgepofldgaaaW.PrintLast Go.Proofs.YthhcgepofldgaaaW.PrintMore

/-- The places below m of the text's bytes that are b. -/
def idxU (s : ByteArray) (b m : Nat) : List Int := ((List.range m).filter fun (i : Nat) => decide (bt s (i : Int) = (b : Int))).map Int.ofNat
/-- The places of the bytes below B, by byte and by place. -/
def nxB (s : ByteArray) : Nat → List Int
  | 0 => []
  | B + 1 => nxB s B ++ idxU s B s.size
theorem idxU_len (s : ByteArray) (b m : Nat) : (idxU s b m).length ≤ m := by
  unfold idxU
  rw [List.length_map]
  exact Nat.le_trans (List.length_filter_le _ _) (by simp)
theorem nxB_len (s : ByteArray) (h : s.size ≤ 120) : ∀ B, (nxB s B).length ≤ B * 120
  | 0 => Nat.le_refl _
  | B + 1 => by
    rw [nxB, List.length_append]
    have := nxB_len s h B
    have := idxU_len s B s.size
    omega
theorem idxU_mem {s : ByteArray} {b m : Nat} {x : Int} (h : x ∈ idxU s b m) : ∃ j : Nat, x = (j : Int) ∧ j < m ∧ bt s (j : Int) = (b : Int) := by
  simp only [idxU, List.mem_map, List.mem_filter, List.mem_range, decide_eq_true_iff] at h
  obtain ⟨j, ⟨h1, h2⟩, h3⟩ := h
  exact ⟨j, h3.symm, h1, h2⟩
theorem idxU_of {s : ByteArray} {b m j : Nat} (hj : j < m) (hb : bt s (j : Int) = (b : Int)) : (j : Int) ∈ idxU s b m := by
  simp only [idxU, List.mem_map, List.mem_filter, List.mem_range, decide_eq_true_iff]
  exact ⟨j, ⟨hj, hb⟩, rfl⟩
theorem nxB_mem {s : ByteArray} : ∀ {B : Nat} {x : Int}, x ∈ nxB s B → ∃ j : Nat, x = (j : Int) ∧ j < s.size ∧ bt s (j : Int) < (B : Int)
  | 0, x, h => by simp [nxB] at h
  | B + 1, x, h => by
    rw [nxB, List.mem_append] at h
    rcases h with h | h
    · obtain ⟨j, h1, h2, h3⟩ := nxB_mem h
      exact ⟨j, h1, h2, by omega⟩
    · obtain ⟨j, h1, h2, h3⟩ := idxU_mem h
      exact ⟨j, h1, h2, by omega⟩
theorem nxB_of {s : ByteArray} {j : Nat} (hj : j < s.size) : ∀ B : Nat, bt s (j : Int) < (B : Int) → (j : Int) ∈ nxB s B
  | 0, h => by have := bt_range s (j : Int); omega
  | B + 1, h => by
    rw [nxB, List.mem_append]
    by_cases c : bt s (j : Int) = (B : Int)
    · exact .inr (idxU_of hj c)
    · exact .inl (nxB_of hj B (by omega))
/-- The comparison by bytes. -/
def cfB (s : ByteArray) (x y : Int) : Int := bt s x - bt s y
theorem cfB_cmp (s : ByteArray) : K.Cmp (cfB s) := ⟨fun x y => by unfold cfB; omega, fun x y z h1 h2 => by unfold cfB at *; omega⟩
theorem nxB_lt (s : ByteArray) : ∀ B, (nxB s B).Pairwise (K.Lt (cfB s))
  | 0 => List.Pairwise.nil
  | B + 1 => by
    rw [nxB, List.pairwise_append]
    refine ⟨nxB_lt s B, ?_, fun x hx y hy => ?_⟩
    · unfold idxU
      rw [List.pairwise_map]
      refine (List.Pairwise.filter _ List.pairwise_lt_range).imp_of_mem ?_
      intro a b ha hb hab
      simp only [List.mem_filter, decide_eq_true_iff] at ha hb
      right
      unfold cfB
      exact ⟨by show bt s (a : Int) - bt s (b : Int) = 0; rw [ha.2, hb.2]; omega, by show (a : Int) < (b : Int); omega⟩
    · obtain ⟨i, rfl, _, h1⟩ := nxB_mem hx
      obtain ⟨j, rfl, _, h2⟩ := idxU_mem hy
      left
      unfold cfB
      omega
theorem lt_irrefl {cf : Int → Int → Int} (h : K.Cmp cf) (x : Int) : ¬ K.Lt cf x x := by
  have := h.self x
  unfold K.Lt
  omega
/-- A list of the numbers below n, by a comparison: it is the sorted one. -/
theorem argsort_pair {cf : Int → Int → Int} (hc : K.Cmp cf) {d : List Int} {n : Nat} (hp : d.Pairwise (K.Lt cf)) (h1 : ∀ x ∈ d, ∃ j : Nat, x = (j : Int) ∧ j < n) (h2 : ∀ j : Nat, j < n → (j : Int) ∈ d) : d = Go.Proofs.Ythhcgepofldgaaa.PSortN.argsort cf n := by
  have hn : d.Nodup := hp.imp (fun {a b} hab e => by subst e; exact lt_irrefl hc _ hab)
  have hr : (Go.Proofs.Ythhcgepofldgaaa.PSortN.rng n).Nodup := by
    unfold Go.Proofs.Ythhcgepofldgaaa.PSortN.rng List.Nodup
    rw [List.pairwise_map]
    exact List.nodup_range.imp (fun h e => h (Int.ofNat.inj e))
  have hperm : List.Perm d (Go.Proofs.Ythhcgepofldgaaa.PSortN.rng n) := by
    refine (List.perm_ext_iff_of_nodup hn hr).mpr fun x => ⟨fun hx => ?_, fun hx => ?_⟩
    · obtain ⟨j, rfl, hj⟩ := h1 x hx
      exact List.mem_map.mpr ⟨j, List.mem_range.mpr hj, rfl⟩
    · obtain ⟨j, rfl, hj⟩ := Go.Proofs.Ythhcgepofldgaaa.PSortN.rng_mem hx
      exact h2 j hj
  refine Go.Proofs.Ythhcgepofldgaaa.PSortN.argsort_of hc hperm ?_
  intro i j _ hij hj
  have hl : d.length = n := hperm.length_eq.trans (Go.Proofs.Ythhcgepofldgaaa.PSortN.rng_length n)
  have := (List.pairwise_iff_getElem.mp hp) i j (by omega) (by omega) hij
  unfold K.at_
  rw [List.getD_eq_getElem?_getD, List.getD_eq_getElem?_getD, List.getElem?_eq_getElem (show i < d.length by omega), List.getElem?_eq_getElem (show j < d.length by omega)]
  exact this
theorem nxB_argsort (s : ByteArray) : nxB s 256 = Go.Proofs.Ythhcgepofldgaaa.PSortN.argsort (cfB s) s.size := by
  refine argsort_pair (cfB_cmp s) (nxB_lt s 256) (fun x hx => ?_) (fun j hj => nxB_of hj 256 (by have := bt_range s (j : Int); omega))
  obtain ⟨j, h1, h2, _⟩ := nxB_mem hx
  exact ⟨j, h1, h2⟩
theorem l11Next_ev (s : ByteArray) (h : s.size ≤ 120) : Ev (fun k => spec_l11Next.f k s) (nxB s 256) := by
  have outer : ∀ (d B : Nat), B + d = 256 → Ev (fun k => spec_l11Next.l0 k s (nxB s B) (B : Int)) (nxB s 256) := by
    intro d
    induction d with
    | zero =>
      intro B hB
      obtain rfl : B = 256 := by omega
      apply K.Ev.succ
      simp only [spec_l11Next.l0, if_neg (show ¬ (((256 : Nat) : Int) < 256) by omega)]
      exact Ev.now _
    | succ d ih =>
      intro B hB
      have inner : ∀ (e i : Nat), i + e = s.size → Ev (fun k => spec_l11Next.l1 k s (nxB s B ++ idxU s B i) (B : Int) (i : Int)) (nxB s 256) := by
        intro e
        induction e with
        | zero =>
          intro i hi
          apply K.Ev.succ
          simp only [spec_l11Next.l1, if_neg (show ¬ ((i : Int) < (s.size : Int)) by omega), K.w64s B (show B < 9223372036854775807 by omega)]
          have := ih (B + 1) (by omega)
          rw [nxB, show s.size = i by omega] at this
          exact this
        | succ e ihe =>
          intro i hi
          have hr := bt_range s (i : Int)
          have hw : wrap64 (bt s (i : Int)) = bt s (i : Int) := K.w64 (by omega) (by omega)
          have hlen : (nxB s B ++ idxU s B i).length < 17592186044416 := by
            have := nxB_len s h B
            have := idxU_len s B i
            rw [List.length_append]; omega
          have hs : idxU s B (i + 1) = idxU s B i ++ (if bt s (i : Int) = (B : Int) then [(i : Int)] else []) := by
            unfold idxU
            rw [List.range_succ, List.filter_append, List.map_append]
            by_cases c : bt s (i : Int) = (B : Int) <;> simp [c]
          have hn := ihe (i + 1) (by omega)
          apply K.Ev.succ
          simp only [spec_l11Next.l1, if_pos (show (i : Int) < (s.size : Int) by omega), if_pos (show (0 : Int) ≤ (i : Int) by omega), hw, K.w64s i (show i < 9223372036854775807 by omega)]
          by_cases c : bt s (i : Int) = (B : Int)
          · simp only [if_pos c, if_pos hlen]
            rw [hs, if_pos c, ← List.append_assoc] at hn
            exact hn
          · simp only [if_neg c]
            rw [hs, if_neg c, List.append_nil] at hn
            exact hn
      apply K.Ev.succ
      simp only [spec_l11Next.l0, if_pos (show (B : Int) < 256 by omega)]
      have := inner s.size 0 (by omega)
      have e : idxU s B 0 = [] := rfl
      rw [e, List.append_nil] at this
      exact this
  simp only [spec_l11Next.f]
  exact outer 256 0 (by omega)

theorem bytesOf_rng (s : ByteArray) : bytesOf s = (Go.Proofs.Ythhcgepofldgaaa.PSortN.rng s.size).map (bt s) := by
  apply List.ext_getElem
  · rw [bytesOf_length, List.length_map, Go.Proofs.Ythhcgepofldgaaa.PSortN.rng_length]
  · intro i h1 h2
    rw [bytesOf_length] at h1
    have e : (Go.Proofs.Ythhcgepofldgaaa.PSortN.rng s.size)[i]'(by rw [Go.Proofs.Ythhcgepofldgaaa.PSortN.rng_length]; exact h1) = (i : Int) := by simp [Go.Proofs.Ythhcgepofldgaaa.PSortN.rng]
    rw [List.getElem_map, e]
    simp [bytesOf, bt, h1]
    rfl
theorem nxB_perm (s : ByteArray) : List.Perm (nxB s 256) (Go.Proofs.Ythhcgepofldgaaa.PSortN.rng s.size) := by
  rw [nxB_argsort]
  exact List.mergeSort_perm _ _
theorem nx_sortL (s : ByteArray) : (nxB s 256).map (bt s) = Go.Proofs.Ythhcgepofldgaaa.PByteM.sortL s := by
  have h1 : ((nxB s 256).map (bt s)).Pairwise (fun x y : Int => x ≤ y) := by
    rw [List.pairwise_map]
    refine (nxB_lt s 256).imp fun {x y} h => ?_
    rcases h with h | h
    · unfold cfB at h; omega
    · unfold cfB at h; omega
  have h2 : (Go.Proofs.Ythhcgepofldgaaa.PByteM.sortL s).Pairwise (fun x y : Int => x ≤ y) := by
    have := List.pairwise_mergeSort (le := fun x y : Int => decide (x ≤ y)) (fun a b c h1 h2 => by simp at h1 h2 ⊢; omega) (fun a b => by simp; omega) (bytesOf s)
    exact this.imp fun h => by simpa using h
  have hp : List.Perm ((nxB s 256).map (bt s)) (Go.Proofs.Ythhcgepofldgaaa.PByteM.sortL s) := by
    refine List.Perm.trans ?_ (List.mergeSort_perm (bytesOf s) _).symm
    rw [bytesOf_rng]
    exact (nxB_perm s).map _
  exact List.Perm.eq_of_pairwise (fun a b _ _ x y => by omega) h1 h2 hp
theorem firstLoop (s : ByteArray) (h : s.size ≤ 120) : Ev (fun k => spec_FirstColumn.l0 k s ([] : List Int) (nxB s 256) ((nxB s 256).length : Int) 0) (strOfNums (Go.Proofs.Ythhcgepofldgaaa.PByteM.sortL s), true) := by
  obtain ⟨L, hL⟩ : ∃ L, nxB s 256 = L := ⟨_, rfl⟩
  have hlen : L.length = s.size := by rw [← hL, (nxB_perm s).length_eq, Go.Proofs.Ythhcgepofldgaaa.PSortN.rng_length]
  have hmem : ∀ x ∈ L, 0 ≤ x ∧ x < (s.size : Int) := by
    intro x hx
    rw [← hL] at hx
    obtain ⟨j, rfl, hj, _⟩ := nxB_mem hx
    omega
  have hs := nx_sortL s
  rw [hL] at hs ⊢
  have loop : ∀ (e i : Nat), i + e = L.length → Ev (fun k => spec_FirstColumn.l0 k s ((L.take i).map (bt s)) L (L.length : Int) (i : Int)) (strOfNums (Go.Proofs.Ythhcgepofldgaaa.PByteM.sortL s), true) := by
    intro e
    induction e with
    | zero =>
      intro i hi
      apply K.Ev.succ
      simp only [spec_FirstColumn.l0, if_neg (show ¬ ((i : Int) < (L.length : Int)) by omega)]
      rw [List.take_of_length_le (by omega), hs]
      exact Ev.now _
    | succ e ih =>
      intro i hi
      have hiL : i < L.length := by omega
      have hrd : rd L (i : Int) = L[i] := by
        simp only [rd, Int.toNat_natCast, List.getD_eq_getElem?_getD, List.getElem?_eq_getElem hiL, Option.getD_some]
      have hm := hmem L[i] (List.getElem_mem hiL)
      apply K.Ev.succ
      simp only [spec_FirstColumn.l0, if_pos (show (i : Int) < (L.length : Int) by omega), if_pos (show (0 : Int) ≤ (i : Int) by omega), hrd, if_pos hm.1, if_pos hm.2, if_pos (show ((L.take i).map (bt s)).length < 140737488355328 by rw [List.length_map, List.length_take]; omega), K.w64s i (show i < 9223372036854775807 by omega)]
      have := ih (i + 1) (by omega)
      rw [List.take_add_one, List.getElem?_eq_getElem hiL, Option.toList_some, List.map_append] at this
      exact this
  exact loop L.length 0 (by omega)
theorem firstColumn_same (s : ByteArray) : ∃ r : ByteArray × Bool, Ev (fun k => spec_FirstColumn.f k s) r ∧ impl_FirstColumn.f s = some r ∧ (s.size ≤ 120 → r = (strOfNums (Go.Proofs.Ythhcgepofldgaaa.PByteM.sortL s), true)) := by
  by_cases h : s.size ≤ 120
  · refine ⟨(strOfNums (Go.Proofs.Ythhcgepofldgaaa.PByteM.sortL s), true), ?_, ?_, fun _ => rfl⟩
    · simp only [spec_FirstColumn.f, if_neg (show ¬ (s.size : Int) > 120 by omega)]
      exact Ev.bind (l11Next_ev s h) (firstLoop s h)
    · simp only [impl_FirstColumn.f, if_pos h]
  · refine ⟨((⟨#[]⟩ : ByteArray), false), ?_, ?_, fun q => absurd q h⟩
    · simp only [spec_FirstColumn.f, if_pos (show (s.size : Int) > 120 by omega)]
      exact Ev.now _
    · simp only [impl_FirstColumn.f, if_neg h]

theorem FnExactFirstColumn : laws_FnExactFirstColumn.Pure := by
  intro s _
  refine Ev.rounds (?_ : Ev (fun k => laws_FnExactFirstColumn.f k s) true)
  simp only [laws_FnExactFirstColumn.f]
  by_cases hs : (s.size : Int) > 1048576
  · simp only [if_pos hs]; exact Ev.now _
  obtain ⟨r, e1, e2, _⟩ := firstColumn_same s
  simp only [if_neg hs, e2, Option.bind_some]
  refine Ev.bind e1 ?_
  simp only [if_true, bne_self_eq_false, Bool.false_eq_true, if_false]
  exact Ev.now _

end Go.Proofs.Ythhcgepofldgaaa.Pure
