/- The law FnColumns answers true for all drawn texts: the sorted bytes and the last ones tell of each other, and a text stands as often in all turnings. -/
import Derived.Test.YthhcgepofldgaaaPFnColumnsx4
import Derived.Test.YthhcgepofldgaaaKKit
import Derived.Test.YthhcgepofldgaaaKStable
import Derived.Test.YthhcgepofldgaaaKTurned
set_option linter.unusedVariables false
set_option linter.unusedSimpArgs false
namespace Go.Proofs.Ythhcgepofldgaaa.Pure
open Go Go.RowKit Go.Proofs.Ythhcgepofldgaaa Go.Proofs.Ythhcgepofldgaaa.PFnColumns Go.Proofs.YthhcgepofldgaaaW.PrintWords Go.Proofs.YthhcgepofldgaaaW.PrintLast Go.Proofs.YthhcgepofldgaaaW.PrintMore

/-- The places below m of the text's bytes that are b. -/
def idxU (s : ByteArray) (b m : Nat) : List Int := ((List.range m).filter fun (i : Nat) => decide (bt s (i : Int) = (b : Int))).map Int.ofNat
/-- The places of the bytes below B, by byte and by place. -/
def nxB (s : ByteArray) : Nat → List Int
  | 0 => []
  | B + 1 => nxB s B ++ idxU s B s.size
theorem idxU_len (s : ByteArray) (b m : Nat) : (idxU s b m).length ≤ m := by
  unfold idxU
  rw [List.length_map]
  exact Nat.le_trans (List.length_filter_le _ _) (by simp)
theorem nxB_len (s : ByteArray) (h : s.size ≤ 120) : ∀ B, (nxB s B).length ≤ B * 120
  | 0 => Nat.le_refl _
  | B + 1 => by
    rw [nxB, List.length_append]
    have := nxB_len s h B
    have := idxU_len s B s.size
    omega
theorem idxU_mem {s : ByteArray} {b m : Nat} {x : Int} (h : x ∈ idxU s b m) : ∃ j : Nat, x = (j : Int) ∧ j < m ∧ bt s (j : Int) = (b : Int) := by
  simp only [idxU, List.mem_map, List.mem_filter, List.mem_range, decide_eq_true_iff] at h
  obtain ⟨j, ⟨h1, h2⟩, h3⟩ := h
  exact ⟨j, h3.symm, h1, h2⟩
theorem idxU_of {s : ByteArray} {b m j : Nat} (hj : j < m) (hb : bt s (j : Int) = (b : Int)) : (j : Int) ∈ idxU s b m := by
  simp only [idxU, List.mem_map, List.mem_filter, List.mem_range, decide_eq_true_iff]
  exact ⟨j, ⟨hj, hb⟩, rfl⟩
theorem nxB_mem {s : ByteArray} : ∀ {B : Nat} {x : Int}, x ∈ nxB s B → ∃ j : Nat, x = (j : Int) ∧ j < s.size ∧ bt s (j : Int) < (B : Int)
  | 0, x, h => by simp [nxB] at h
  | B + 1, x, h => by
    rw [nxB, List.mem_append] at h
    rcases h with h | h
    · obtain ⟨j, h1, h2, h3⟩ := nxB_mem h
      exact ⟨j, h1, h2, by omega⟩
    · obtain ⟨j, h1, h2, h3⟩ := idxU_mem h
      exact ⟨j, h1, h2, by omega⟩
theorem nxB_of {s : ByteArray} {j : Nat} (hj : j < s.size) : ∀ B : Nat, bt s (j : Int) < (B : Int) → (j : Int) ∈ nxB s B
  | 0, h => by have := bt_range s (j : Int); omega
  | B + 1, h => by
    rw [nxB, List.mem_append]
    by_cases c : bt s (j : Int) = (B : Int)
    · exact .inr (idxU_of hj c)
    · exact .inl (nxB_of hj B (by omega))
/-- The comparison by bytes. -/
def cfB (s : ByteArray) (x y : Int) : Int := bt s x - bt s y
theorem cfB_cmp (s : ByteArray) : K.Cmp (cfB s) := ⟨fun x y => by unfold cfB; omega, fun x y z h1 h2 => by unfold cfB at *; omega⟩
theorem nxB_lt (s : ByteArray) : ∀ B, (nxB s B).Pairwise (K.Lt (cfB s))
  | 0 => List.Pairwise.nil
  | B + 1 => by
    rw [nxB, List.pairwise_append]
    refine ⟨nxB_lt s B, ?_, fun x hx y hy => ?_⟩
    · unfold idxU
      rw [List.pairwise_map]
      refine (List.Pairwise.filter _ List.pairwise_lt_range).imp_of_mem ?_
      intro a b ha hb hab
      simp only [List.mem_filter, decide_eq_true_iff] at ha hb
      right
      unfold cfB
      exact ⟨by show bt s (a : Int) - bt s (b : Int) = 0; rw [ha.2, hb.2]; omega, by show (a : Int) < (b : Int); omega⟩
    · obtain ⟨i, rfl, _, h1⟩ := nxB_mem hx
      obtain ⟨j, rfl, _, h2⟩ := idxU_mem hy
      left
      unfold cfB
      omega
theorem lt_irrefl {cf : Int → Int → Int} (h : K.Cmp cf) (x : Int) : ¬ K.Lt cf x x := by
  have := h.self x
  unfold K.Lt
  omega
/-- A list of the numbers below n, by a comparison: it is the sorted one. -/
theorem argsort_pair {cf : Int → Int → Int} (hc : K.Cmp cf) {d : List Int} {n : Nat} (hp : d.Pairwise (K.Lt cf)) (h1 : ∀ x ∈ d, ∃ j : Nat, x = (j : Int) ∧ j < n) (h2 : ∀ j : Nat, j < n → (j : Int) ∈ d) : d = Go.Proofs.Ythhcgepofldgaaa.PSortN.argsort cf n := by
  have hn : d.Nodup := hp.imp (fun {a b} hab e => by subst e; exact lt_irrefl hc _ hab)
  have hr : (Go.Proofs.Ythhcgepofldgaaa.PSortN.rng n).Nodup := by
    unfold Go.Proofs.Ythhcgepofldgaaa.PSortN.rng List.Nodup
    rw [List.pairwise_map]
    exact List.nodup_range.imp (fun h e => h (Int.ofNat.inj e))
  have hperm : List.Perm d (Go.Proofs.Ythhcgepofldgaaa.PSortN.rng n) := by
    refine (List.perm_ext_iff_of_nodup hn hr).mpr fun x => ⟨fun hx => ?_, fun hx => ?_⟩
    · obtain ⟨j, rfl, hj⟩ := h1 x hx
      exact List.mem_map.mpr ⟨j, List.mem_range.mpr hj, rfl⟩
    · obtain ⟨j, rfl, hj⟩ := Go.Proofs.Ythhcgepofldgaaa.PSortN.rng_mem hx
      exact h2 j hj
  refine Go.Proofs.Ythhcgepofldgaaa.PSortN.argsort_of hc hperm ?_
  intro i j _ hij hj
  have hl : d.length = n := hperm.length_eq.trans (Go.Proofs.Ythhcgepofldgaaa.PSortN.rng_length n)
  have := (List.pairwise_iff_getElem.mp hp) i j (by omega) (by omega) hij
  unfold K.at_
  rw [List.getD_eq_getElem?_getD, List.getD_eq_getElem?_getD, List.getElem?_eq_getElem (show i < d.length by omega), List.getElem?_eq_getElem (show j < d.length by omega)]
  exact this
theorem nxB_argsort (s : ByteArray) : nxB s 256 = Go.Proofs.Ythhcgepofldgaaa.PSortN.argsort (cfB s) s.size := by
  refine argsort_pair (cfB_cmp s) (nxB_lt s 256) (fun x hx => ?_) (fun j hj => nxB_of hj 256 (by have := bt_range s (j : Int); omega))
  obtain ⟨j, h1, h2, _⟩ := nxB_mem hx
  exact ⟨j, h1, h2⟩
theorem l11Next_ev (s : ByteArray) (h : s.size ≤ 120) : Ev (fun k => spec_l11Next.f k s) (nxB s 256) := by
  have outer : ∀ (d B : Nat), B + d = 256 → Ev (fun k => spec_l11Next.l0 k s (nxB s B) (B : Int)) (nxB s 256) := by
    intro d
    induction d with
    | zero =>
      intro B hB
      obtain rfl : B = 256 := by omega
      apply K.Ev.succ
      simp only [spec_l11Next.l0, if_neg (show ¬ (((256 : Nat) : Int) < 256) by omega)]
      exact Ev.now _
    | succ d ih =>
      intro B hB
      have inner : ∀ (e i : Nat), i + e = s.size → Ev (fun k => spec_l11Next.l1 k s (nxB s B ++ idxU s B i) (B : Int) (i : Int)) (nxB s 256) := by
        intro e
        induction e with
        | zero =>
          intro i hi
          apply K.Ev.succ
          simp only [spec_l11Next.l1, if_neg (show ¬ ((i : Int) < (s.size : Int)) by omega), K.w64s B (show B < 9223372036854775807 by omega)]
          have := ih (B + 1) (by omega)
          rw [nxB, show s.size = i by omega] at this
          exact this
        | succ e ihe =>
          intro i hi
          have hr := bt_range s (i : Int)
          have hw : wrap64 (bt s (i : Int)) = bt s (i : Int) := K.w64 (by omega) (by omega)
          have hlen : (nxB s B ++ idxU s B i).length < 17592186044416 := by
            have := nxB_len s h B
            have := idxU_len s B i
            rw [List.length_append]; omega
          have hs : idxU s B (i + 1) = idxU s B i ++ (if bt s (i : Int) = (B : Int) then [(i : Int)] else []) := by
            unfold idxU
            rw [List.range_succ, List.filter_append, List.map_append]
            by_cases c : bt s (i : Int) = (B : Int) <;> simp [c]
          have hn := ihe (i + 1) (by omega)
          apply K.Ev.succ
          simp only [spec_l11Next.l1, if_pos (show (i : Int) < (s.size : Int) by omega), if_pos (show (0 : Int) ≤ (i : Int) by omega), hw, K.w64s i (show i < 9223372036854775807 by omega)]
          by_cases c : bt s (i : Int) = (B : Int)
          · simp only [if_pos c, if_pos hlen]
            rw [hs, if_pos c, ← List.append_assoc] at hn
            exact hn
          · simp only [if_neg c]
            rw [hs, if_neg c, List.append_nil] at hn
            exact hn
      apply K.Ev.succ
      simp only [spec_l11Next.l0, if_pos (show (B : Int) < 256 by omega)]
      have := inner s.size 0 (by omega)
      have e : idxU s B 0 = [] := rfl
      rw [e, List.append_nil] at this
      exact this
  simp only [spec_l11Next.f]
  exact outer 256 0 (by omega)

theorem numberOf_ok (c : List Int) (hc : K.Code c) : ∃ v : Int, Ev (fun k => laws_numberOf.f k c) v ∧ 0 ≤ v := by
  have hlen := hc.len
  have key : ∀ (d n : Nat) (v : Int), n + d = c.length → 0 ≤ v → v ≤ 1000003 → ∃ r : Int, Ev (fun k => laws_numberOf.l0 k v c (c.length : Int) (n : Int)) r ∧ 0 ≤ r := by
    intro d
    induction d with
    | zero =>
      intro n v h1 h2 h3
      refine ⟨v, ?_, h2⟩
      apply K.Ev.succ
      simp only [laws_numberOf.l0, if_neg (show ¬ ((n : Int) < (c.length : Int)) by omega)]
      exact Ev.now _
    | succ d ih =>
      intro n v h1 h2 h3
      have hr := hc.rd_rng (n : Int)
      have w1 : K.Eqn (wrap64 (31 * v)) (31 * v) := ⟨K.w64 (by omega) (by omega)⟩
      have w2 : K.Eqn (wrap64 (rd c (n : Int))) (rd c (n : Int)) := ⟨K.w64 (by omega) (by omega)⟩
      have w3 : K.Eqn (wrap64 (31 * v + rd c (n : Int))) (31 * v + rd c (n : Int)) := ⟨K.w64 (by omega) (by omega)⟩
      have t1 : 0 ≤ Int.tmod (31 * v + rd c (n : Int)) 1000003 := Int.tmod_nonneg _ (by omega)
      have t2 : Int.tmod (31 * v + rd c (n : Int)) 1000003 < 1000003 := Int.tmod_lt_of_pos _ (by omega)
      obtain ⟨r, e, h⟩ := ih (n + 1) _ (by omega) t1 (by omega)
      refine ⟨r, ?_, h⟩
      apply K.Ev.succ
      simp only [laws_numberOf.l0, if_pos (show (n : Int) < (c.length : Int) by omega), if_pos (show (0 : Int) ≤ (n : Int) by omega), w1.out, w2.out, w3.out, K.w64s n (show n < 9223372036854775807 by omega)]
      exact e
  obtain ⟨v, e, h⟩ := key c.length 0 0 (by omega) (by omega) (by omega)
  exact ⟨v, by simp only [laws_numberOf.f]; exact e, h⟩

theorem bytesOf_rng (s : ByteArray) : bytesOf s = (Go.Proofs.Ythhcgepofldgaaa.PSortN.rng s.size).map (bt s) := by
  apply List.ext_getElem
  · rw [bytesOf_length, List.length_map, Go.Proofs.Ythhcgepofldgaaa.PSortN.rng_length]
  · intro i h1 h2
    rw [bytesOf_length] at h1
    have e : (Go.Proofs.Ythhcgepofldgaaa.PSortN.rng s.size)[i]'(by rw [Go.Proofs.Ythhcgepofldgaaa.PSortN.rng_length]; exact h1) = (i : Int) := by simp [Go.Proofs.Ythhcgepofldgaaa.PSortN.rng]
    rw [List.getElem_map, e]
    simp [bytesOf, bt, h1]
    rfl
theorem nxB_perm (s : ByteArray) : List.Perm (nxB s 256) (Go.Proofs.Ythhcgepofldgaaa.PSortN.rng s.size) := by
  rw [nxB_argsort]
  exact List.mergeSort_perm _ _
theorem nx_sortL (s : ByteArray) : (nxB s 256).map (bt s) = Go.Proofs.Ythhcgepofldgaaa.PByteM.sortL s := by
  have h1 : ((nxB s 256).map (bt s)).Pairwise (fun x y : Int => x ≤ y) := by
    rw [List.pairwise_map]
    refine (nxB_lt s 256).imp fun {x y} h => ?_
    rcases h with h | h
    · unfold cfB at h; omega
    · unfold cfB at h; omega
  have h2 : (Go.Proofs.Ythhcgepofldgaaa.PByteM.sortL s).Pairwise (fun x y : Int => x ≤ y) := by
    have := List.pairwise_mergeSort (le := fun x y : Int => decide (x ≤ y)) (fun a b c h1 h2 => by simp at h1 h2 ⊢; omega) (fun a b => by simp; omega) (bytesOf s)
    exact this.imp fun h => by simpa using h
  have hp : List.Perm ((nxB s 256).map (bt s)) (Go.Proofs.Ythhcgepofldgaaa.PByteM.sortL s) := by
    refine List.Perm.trans ?_ (List.mergeSort_perm (bytesOf s) _).symm
    rw [bytesOf_rng]
    exact (nxB_perm s).map _
  exact List.Perm.eq_of_pairwise (fun a b _ _ x y => by omega) h1 h2 hp
theorem firstLoop (s : ByteArray) (h : s.size ≤ 120) : Ev (fun k => spec_FirstColumn.l0 k s ([] : List Int) (nxB s 256) ((nxB s 256).length : Int) 0) (strOfNums (Go.Proofs.Ythhcgepofldgaaa.PByteM.sortL s), true) := by
  obtain ⟨L, hL⟩ : ∃ L, nxB s 256 = L := ⟨_, rfl⟩
  have hlen : L.length = s.size := by rw [← hL, (nxB_perm s).length_eq, Go.Proofs.Ythhcgepofldgaaa.PSortN.rng_length]
  have hmem : ∀ x ∈ L, 0 ≤ x ∧ x < (s.size : Int) := by
    intro x hx
    rw [← hL] at hx
    obtain ⟨j, rfl, hj, _⟩ := nxB_mem hx
    omega
  have hs := nx_sortL s
  rw [hL] at hs ⊢
  have loop : ∀ (e i : Nat), i + e = L.length → Ev (fun k => spec_FirstColumn.l0 k s ((L.take i).map (bt s)) L (L.length : Int) (i : Int)) (strOfNums (Go.Proofs.Ythhcgepofldgaaa.PByteM.sortL s), true) := by
    intro e
    induction e with
    | zero =>
      intro i hi
      apply K.Ev.succ
      simp only [spec_FirstColumn.l0, if_neg (show ¬ ((i : Int) < (L.length : Int)) by omega)]
      rw [List.take_of_length_le (by omega), hs]
      exact Ev.now _
    | succ e ih =>
      intro i hi
      have hiL : i < L.length := by omega
      have hrd : rd L (i : Int) = L[i] := by
        simp only [rd, Int.toNat_natCast, List.getD_eq_getElem?_getD, List.getElem?_eq_getElem hiL, Option.getD_some]
      have hm := hmem L[i] (List.getElem_mem hiL)
      apply K.Ev.succ
      simp only [spec_FirstColumn.l0, if_pos (show (i : Int) < (L.length : Int) by omega), if_pos (show (0 : Int) ≤ (i : Int) by omega), hrd, if_pos hm.1, if_pos hm.2, if_pos (show ((L.take i).map (bt s)).length < 140737488355328 by rw [List.length_map, List.length_take]; omega), K.w64s i (show i < 9223372036854775807 by omega)]
      have := ih (i + 1) (by omega)
      rw [List.take_add_one, List.getElem?_eq_getElem hiL, Option.toList_some, List.map_append] at this
      exact this
  exact loop L.length 0 (by omega)
theorem firstColumn_same (s : ByteArray) : ∃ r : ByteArray × Bool, Ev (fun k => spec_FirstColumn.f k s) r ∧ impl_FirstColumn.f s = some r ∧ (s.size ≤ 120 → r = (strOfNums (Go.Proofs.Ythhcgepofldgaaa.PByteM.sortL s), true)) := by
  by_cases h : s.size ≤ 120
  · refine ⟨(strOfNums (Go.Proofs.Ythhcgepofldgaaa.PByteM.sortL s), true), ?_, ?_, fun _ => rfl⟩
    · simp only [spec_FirstColumn.f, if_neg (show ¬ (s.size : Int) > 120 by omega)]
      exact Ev.bind (l11Next_ev s h) (firstLoop s h)
    · simp only [impl_FirstColumn.f, if_pos h]
  · refine ⟨((⟨#[]⟩ : ByteArray), false), ?_, ?_, fun q => absurd q h⟩
    · simp only [spec_FirstColumn.f, if_pos (show (s.size : Int) > 120 by omega)]
      exact Ev.now _
    · simp only [impl_FirstColumn.f, if_neg h]

theorem next_ok (c : List Int) (hc : K.Code c) (a : Int) (h0 : 0 ≤ a) (h1 : a ≤ 1152921504606846976) (sd : Int) : ∃ v sd', spec_l1Cur_next.f c a sd = some (v, a + 1, sd') ∧ 0 ≤ v ∧ v ≤ 255 := by
  have hl := hc.len
  have w : K.Eqn (wrap64 (a + 1)) (a + 1) := ⟨K.w64 (by omega) (by omega)⟩
  by_cases h : a < (c.length : Int)
  · have hr := hc.rd_rng a
    have wr : K.Eqn (wrap64 (rd c a)) (rd c a) := ⟨K.w64 (by omega) (by omega)⟩
    have h2 : a + 1 ≤ (c.length : Int) := by omega
    simp only [spec_l1Cur_next.f, if_pos h, if_pos h0, w.out, if_pos h2, wr.out]
    exact ⟨_, _, rfl, hr.1, hr.2⟩
  · have h2 : ¬ (a + 1 ≤ (c.length : Int)) := by omega
    have hb : ∀ y : Int, wrap64 (Go.bits .and .u64 y 255) = Go.bits .and .u64 y 255 ∧ 0 ≤ Go.bits .and .u64 y 255 ∧ Go.bits .and .u64 y 255 ≤ 255 := fun y => by
      have := K.u64_and255 y
      exact ⟨K.w64 (by omega) (by omega), this⟩
    simp only [spec_l1Cur_next.f, if_neg h, w.out, if_neg h2, (hb _).1]
    exact ⟨_, _, rfl, (hb _).2.1, (hb _).2.2⟩

theorem pick_ok (c : List Int) (hc : K.Code c) (a : Int) (h0 : 0 ≤ a) (h1 : a ≤ 1000000000000000000) (sd : Int) (n : Int) (hn : n ≤ 1000000) : ∃ v a' sd', spec_l1Cur_pick.f c a sd n = some (v, a', sd') ∧ 0 ≤ v ∧ (v < n ∨ v = 0) ∧ a ≤ a' ∧ a' ≤ a + 2 := by
  by_cases h : n ≤ 1
  · exact ⟨0, a, sd, by simp only [spec_l1Cur_pick.f, if_pos h], by omega, .inr rfl, by omega, by omega⟩
  obtain ⟨v, sd1, e1, v0, v1⟩ := next_ok c hc a h0 (by omega) sd
  have hnz : ¬ n = 0 := by omega
  have tm : ∀ x : Int, 0 ≤ x → 0 ≤ Int.tmod x n ∧ Int.tmod x n < n := fun x hx => by
    rw [Int.tmod_eq_emod_of_nonneg hx]
    exact ⟨Int.emod_nonneg _ (by omega), Int.emod_lt_of_pos _ (by omega)⟩
  by_cases h2 : n > 200
  · obtain ⟨u, sd2, e2, u0, u1⟩ := next_ok c hc (a + 1) (by omega) (by omega) sd1
    have w1 : K.Eqn (wrap64 (v * 256)) (v * 256) := ⟨K.w64 (by omega) (by omega)⟩
    have w2 : K.Eqn (wrap64 (v * 256 + u)) (v * 256 + u) := ⟨K.w64 (by omega) (by omega)⟩
    have t := tm (v * 256 + u) (by omega)
    refine ⟨_, a + 1 + 1, sd2, by simp only [spec_l1Cur_pick.f, if_neg h, e1, Option.bind_some, if_pos h2, e2, if_neg hnz, w1.out, w2.out], t.1, .inl t.2, by omega, by omega⟩
  · have t := tm v v0
    exact ⟨_, a + 1, sd1, by simp only [spec_l1Cur_pick.f, if_neg h, e1, Option.bind_some, if_neg h2, if_neg hnz], t.1, .inl t.2, by omega, by omega⟩

theorem one_ok (c : List Int) (hc : K.Code c) (a : Int) (h0 : 0 ≤ a) (h1 : a ≤ 1000000000000000000) (sd : Int) (n : Int) (hn : n ≤ 1000000) : ∃ (b : Bool) (a' sd' : Int), spec_l1Cur_one.f c a sd n = some (b, a', sd') ∧ a ≤ a' ∧ a' ≤ a + 2 := by
  obtain ⟨v, a', sd', e, _, _, g1, g2⟩ := pick_ok c hc a h0 h1 sd n hn
  exact ⟨v == 0, a', sd', by simp only [spec_l1Cur_one.f, e, Option.bind_some], g1, g2⟩

theorem of_ok (c : List Int) (hc : K.Code c) (a : Int) (h0 : 0 ≤ a) (h1 : a ≤ 1000000000000000000) (sd : Int) (l : List ByteArray) (hl : 0 < l.length) (hl2 : l.length ≤ 1000000) : ∃ (s : ByteArray) (a' sd' : Int), spec_l1Cur_of.f c a sd l = some (s, a', sd') ∧ s ∈ l ∧ a ≤ a' ∧ a' ≤ a + 2 := by
  obtain ⟨v, a', sd', e, v0, v1, g1, g2⟩ := pick_ok c hc a h0 h1 sd (l.length : Int) (by omega)
  have hv : v.toNat < l.length := by omega
  refine ⟨rdOf ByteArray.empty l v, a', sd', by simp only [spec_l1Cur_of.f, e, Option.bind_some, if_pos v0, if_pos (show v < (l.length : Int) by omega)], ?_, g1, g2⟩
  simp only [rdOf, List.getD_eq_getElem?_getD, List.getElem?_eq_getElem hv, Option.getD_some]
  exact List.getElem_mem hv

theorem prose_ok (c : List Int) (hc : K.Code c) (a : Int) (h0 : 0 ≤ a) (h1 : a ≤ 700000000000000000) (sd : Int) : ∃ (s : ByteArray) (a' sd' : Int), Ev (fun k => spec_l1Cur_prose.f k c a sd) (s, a', sd') ∧ s.size ≤ 240 ∧ a ≤ a' ∧ a' ≤ a + 200 := by
  have key : ∀ (d : Nat) (s : ByteArray) (a sd : Int), d ≤ 60 → s.size + 4 * d ≤ 240 → 0 ≤ a → a + 2 * d ≤ 750000000000000000 → ∃ (r : ByteArray) (a' sd' : Int), Ev (fun k => spec_l1Cur_prose.l0 k s (d : Int) c a sd) (r, a', sd') ∧ r.size ≤ 240 ∧ a ≤ a' ∧ a' ≤ a + 2 * d + 2 := by
    intro d
    induction d with
    | zero =>
      intro s a sd _ g1 g2 g3
      by_cases h : (s.size : Int) > 120
      · obtain ⟨b, a1, sd1, e1, b1, b2⟩ := one_ok c hc a g2 (by omega) sd 4 (by omega)
        cases b with
        | true =>
          refine ⟨s, a1, sd1, ?_, by omega, by omega, by omega⟩
          apply K.Ev.succ
          simp only [spec_l1Cur_prose.l0, if_neg (show ¬ (((0 : Nat) : Int) > 0) by omega), if_pos h, e1, Option.bind_some, if_true]
          exact Ev.now _
        | false =>
          refine ⟨s.extract 0 120, a1, sd1, ?_, by rw [ByteArray.size_extract]; omega, by omega, by omega⟩
          apply K.Ev.succ
          simp only [spec_l1Cur_prose.l0, if_neg (show ¬ (((0 : Nat) : Int) > 0) by omega), if_pos h, e1, Option.bind_some, Bool.false_eq_true, if_false, if_pos (show (0 : Int) ≤ 120 by omega), if_pos (show (120 : Int) ≤ (s.size : Int) by omega)]
          exact Ev.now _
      · refine ⟨s, a, sd, ?_, by omega, by omega, by omega⟩
        apply K.Ev.succ
        simp only [spec_l1Cur_prose.l0, if_neg (show ¬ (((0 : Nat) : Int) > 0) by omega), if_neg h]
        exact Ev.now _
    | succ d ih =>
      intro s a sd g0 g1 g2 g3
      obtain ⟨t, a1, sd1, e1, ht, b1, b2⟩ := of_ok c hc a g2 (by omega) sd ([(⟨#[97]⟩ : ByteArray), (⟨#[98]⟩ : ByteArray), (⟨#[110, 97]⟩ : ByteArray), (⟨#[97, 98]⟩ : ByteArray), (⟨#[116, 104, 101, 32]⟩ : ByteArray), (⟨#[97, 97, 97]⟩ : ByteArray), (⟨#[0]⟩ : ByteArray)] : List ByteArray) (by simp) (by simp)
      have hts : t.size ≤ 4 := by
        simp only [List.mem_cons, List.not_mem_nil, or_false] at ht
        rcases ht with rfl | rfl | rfl | rfl | rfl | rfl | rfl <;> decide
      have w : K.Eqn (wrap64 (((d + 1 : Nat) : Int) - 1)) (d : Int) := ⟨K.w64p d (by omega)⟩
      obtain ⟨r, a', sd', e2, r1, b3, b4⟩ := ih (s ++ t) a1 sd1 (by omega) (by rw [ByteArray.size_append]; omega) (by omega) (by omega)
      refine ⟨r, a', sd', ?_, r1, by omega, by omega⟩
      apply K.Ev.succ
      simp only [spec_l1Cur_prose.l0, if_pos (show ((d + 1 : Nat) : Int) > 0 by omega), e1, Option.bind_some, if_pos (show s.size + t.size ≤ 9223372036854775807 by omega), w.out]
      exact e2
  obtain ⟨v, a1, sd1, e1, v0, v1, b1, b2⟩ := pick_ok c hc a h0 (by omega) sd 12 (by omega)
  obtain ⟨b, a2, sd2, e2, b3, b4⟩ := one_ok c hc a1 (by omega) (by omega) sd1 20 (by omega)
  cases b with
  | true =>
    obtain ⟨r, a', sd', e3, r1, b5, b6⟩ := key 60 (⟨#[]⟩ : ByteArray) a2 sd2 (by omega) (by decide) (by omega) (by omega)
    refine ⟨r, a', sd', ?_, r1, by omega, by omega⟩
    simp only [spec_l1Cur_prose.f, e1, Option.bind_some, e2, if_true]
    apply K.Ev.succ
    simp only [spec_l1Cur_prose.j0]
    exact e3
  | false =>
    obtain ⟨m, rfl⟩ := Int.eq_ofNat_of_zero_le v0
    obtain ⟨r, a', sd', e3, r1, b5, b6⟩ := key m (⟨#[]⟩ : ByteArray) a2 sd2 (by omega) (by show 0 + 4 * m ≤ 240; omega) (by omega) (by omega)
    refine ⟨r, a', sd', ?_, r1, by omega, by omega⟩
    simp only [spec_l1Cur_prose.f, e1, Option.bind_some, e2, Bool.false_eq_true, if_false]
    apply K.Ev.succ
    simp only [spec_l1Cur_prose.j0]
    exact e3

theorem sameInts_self (l : List Int) (hl : l.length ≤ 1000000) : Ev (fun k => laws_sameInts.f k l l) true := by
  have key : ∀ (d n : Nat), n + d = l.length → Ev (fun k => laws_sameInts.l0 k l l (l.length : Int) (n : Int)) true := by
    intro d
    induction d with
    | zero =>
      intro n h1
      apply K.Ev.succ
      simp only [laws_sameInts.l0, if_neg (show ¬ ((n : Int) < (l.length : Int)) by omega)]
      exact Ev.now _
    | succ d ih =>
      intro n h1
      apply K.Ev.succ
      simp only [laws_sameInts.l0, if_pos (show (n : Int) < (l.length : Int) by omega), if_pos (show (0 : Int) ≤ (n : Int) by omega), if_true]
      rw [K.w64s n (by omega)]
      exact ih (n + 1) (by omega)
  unfold laws_sameInts.f
  simp only [if_true]
  exact key l.length 0 (by omega)

theorem strOf_size (l : List Int) : (strOfNums l).size = l.length := by simp [strOfNums, ByteArray.size]
theorem nextOf_same (s : ByteArray) : ∃ r : List Int × Bool, r.1.length ≤ 120 ∧ Ev (fun k => spec_NextOf.f k s) r ∧ impl_NextOf.f s = some r := by
  by_cases h : s.size ≤ 120
  · refine ⟨(nxB s 256, true), ?_, ?_, ?_⟩
    · rw [nxB_argsort]
      show (Go.Proofs.Ythhcgepofldgaaa.PSortN.argsort _ _).length ≤ 120
      rw [Go.Proofs.Ythhcgepofldgaaa.PSortN.argsort, List.length_mergeSort, Go.Proofs.Ythhcgepofldgaaa.PSortN.rng_length]
      exact h
    · simp only [spec_NextOf.f, if_neg (show ¬ (s.size : Int) > 120 by omega)]
      exact Ev.bind (l11Next_ev s h) (Ev.now _)
    · simp only [impl_NextOf.f, impl_isTurnable.f, decide_eq_true (show (s.size : Int) ≤ 120 by omega), Option.bind_some, if_true, impl_nextOf.f, if_pos h]
      rw [nxB_argsort]; rfl
  · refine ⟨([], false), by simp, ?_, ?_⟩
    · simp only [spec_NextOf.f, if_pos (show (s.size : Int) > 120 by omega)]
      exact Ev.now _
    · simp only [impl_NextOf.f, impl_isTurnable.f, decide_eq_false (show ¬ (s.size : Int) ≤ 120 by omega), Option.bind_some, Bool.false_eq_true, if_false]
theorem runs_same (s : ByteArray) (hs : s.size ≤ 1048576) : ∃ r : Int, Ev (fun k => spec_l11Runs.f k s) r ∧ Ev (fun k => impl_RunsIn.l0 k s 0 (s.size : Int) 0) (r, true) := by
  have key : ∀ (d n : Nat) (c : Int), n + d = s.size → 0 ≤ c → c ≤ n → ∃ r : Int, Ev (fun k => spec_l11Runs.l0 k s c (n : Int)) r ∧ Ev (fun k => impl_RunsIn.l0 k s c (s.size : Int) (n : Int)) (r, true) := by
    intro d
    induction d with
    | zero =>
      intro n c h1 h2 h3
      refine ⟨c, ?_, ?_⟩ <;> apply K.Ev.succ
      · simp only [spec_l11Runs.l0, if_neg (show ¬ ((n : Int) < (s.size : Int)) by omega)]; exact Ev.now _
      · simp only [impl_RunsIn.l0, if_neg (show ¬ ((n : Int) < (s.size : Int)) by omega)]; exact Ev.now _
    | succ d ih =>
      intro n c h1 h2 h3
      have a1 : (n : Int) < (s.size : Int) := by omega
      have a0 : (0 : Int) ≤ (n : Int) := by omega
      have wc : wrap64 (c + 1) = c + 1 := K.w64 (by omega) (by omega)
      by_cases hz : n = 0
      · have hz' : (n : Int) = 0 := by omega
        obtain ⟨r, e1, e2⟩ := ih (n + 1) (c + 1) (by omega) (by omega) (by omega)
        refine ⟨r, ?_, ?_⟩ <;> apply K.Ev.succ
        · simp only [spec_l11Runs.l0, if_pos a1, if_pos hz', wc, K.w64s n (show n < 9223372036854775807 by omega)]; exact e1
        · simp only [impl_RunsIn.l0, if_pos a1, if_pos hz', wc, K.w64s n (show n < 9223372036854775807 by omega)]; exact e2
      · have nz : ¬ ((n : Int) = 0) := by omega
        have wp : wrap64 ((n : Int) - 1) = ((n - 1 : Nat) : Int) := by rw [K.w64 (by omega) (by omega)]; omega
        have b0 : (0 : Int) ≤ ((n - 1 : Nat) : Int) := by omega
        have b1 : ((n - 1 : Nat) : Int) < (s.size : Int) := by omega
        by_cases hc : bt s ((n - 1 : Nat) : Int) = bt s (n : Int)
        · obtain ⟨r, e1, e2⟩ := ih (n + 1) c (by omega) (by omega) (by omega)
          refine ⟨r, ?_, ?_⟩ <;> apply K.Ev.succ
          · simp only [spec_l11Runs.l0, if_pos a1, if_neg nz, wp, if_pos b0, if_pos b1, if_pos a0, if_pos hc, K.w64s n (show n < 9223372036854775807 by omega)]; exact e1
          · simp only [impl_RunsIn.l0, if_pos a1, if_neg nz, wp, if_pos b0, if_pos b1, if_pos a0, if_pos hc.symm, K.w64s n (show n < 9223372036854775807 by omega)]; exact e2
        · have hc' : ¬ bt s (n : Int) = bt s ((n - 1 : Nat) : Int) := fun e => hc e.symm
          obtain ⟨r, e1, e2⟩ := ih (n + 1) (c + 1) (by omega) (by omega) (by omega)
          refine ⟨r, ?_, ?_⟩ <;> apply K.Ev.succ
          · simp only [spec_l11Runs.l0, if_pos a1, if_neg nz, wp, if_pos b0, if_pos b1, if_pos a0, if_neg hc, wc, K.w64s n (show n < 9223372036854775807 by omega)]; exact e1
          · simp only [impl_RunsIn.l0, if_pos a1, if_neg nz, wp, if_pos b0, if_pos b1, if_pos a0, if_neg hc', wc, K.w64s n (show n < 9223372036854775807 by omega)]; exact e2
  obtain ⟨r, e1, e2⟩ := key s.size 0 0 (by omega) (by omega) (by omega)
  exact ⟨r, by simp only [spec_l11Runs.f]; exact e1, e2⟩
theorem runsIn_same (s : ByteArray) (hs : s.size ≤ 1048576) : ∃ r : Int × Bool, Ev (fun k => spec_RunsIn.f k s) r ∧ Ev (fun k => impl_RunsIn.f k s) r := by
  obtain ⟨r, e1, e2⟩ := runs_same s hs
  by_cases h120 : (s.size : Int) > 120
  · refine ⟨(0, false), ?_, ?_⟩
    · simp only [spec_RunsIn.f, if_pos h120]; exact Ev.now _
    · simp only [impl_RunsIn.f, impl_isTurnable.f, show decide ((s.size : Int) ≤ 120) = false by simp; omega, Option.bind_some, Bool.false_eq_true, if_false]; exact Ev.now _
  · refine ⟨(r, true), ?_, ?_⟩
    · simp only [spec_RunsIn.f, if_neg h120]; exact Ev.bind e1 (Ev.now _)
    · simp only [impl_RunsIn.f, impl_isTurnable.f, show decide ((s.size : Int) ≤ 120) = true by simp; omega, Option.bind_some, if_true]; exact e2
theorem prefix_ev (a b : ByteArray) (hb : b.size ≤ a.size) (ha : a.size ≤ 1048576) : strings_HasPrefix.f a b = some ((a.extract 0 b.size).toList == b.toList) := by
  simp only [strings_HasPrefix.f, stringslite_HasPrefix.f, if_pos (show (a.size : Int) ≥ (b.size : Int) by omega), if_pos (show 0 ≤ (b.size : Int) by omega), if_pos (show (b.size : Int) ≤ (a.size : Int) by omega), Option.bind_some, Int.toNat_natCast]
/-- Whether a turning begins with the pattern. -/
def hitP (b : ByteArray) (y : List UInt8) : Bool := y.take b.size == b.data.toList
theorem extract_toList (x : ByteArray) (m : Nat) : (x.extract 0 m).toList = x.data.toList.take m := by
  rw [Lib.toList_data, ByteArray.data_extract, Array.toList_extract]
  simp [List.extract]
theorem turn_hit (a b : ByteArray) (n : Nat) (hn : n ≤ a.size) : ((a.extract n a.size ++ a.extract 0 n).extract 0 b.size).toList = b.toList ↔ hitP b (K.rotN a.data.toList n) = true := by
  have e : (a.extract n a.size ++ a.extract 0 n).data.toList = K.rotN a.data.toList n := K.turnB_list a n hn
  rw [extract_toList, e, Lib.toList_data]
  simp [hitP]
/-- How often the pattern stands at the head of a turning. -/
def cntP (a b : ByteArray) (n d : Nat) : Nat := (List.range' n d).countP (fun j => hitP b (K.rotN a.data.toList j))
theorem count_ev (a b : ByteArray) (ha : a.size ≤ 120) (hb : b.size ≤ a.size) : ∀ (d n : Nat) (c : Nat), n + d = a.size → c ≤ n →
    Ev (fun k => spec_CountPattern.l0 k a b (c : Int) (a.size : Int) (n : Int)) (((c + cntP a b n d : Nat) : Int), true) ∧ Ev (fun k => impl_CountPattern.l0 k a b (c : Int) (a.size : Int) (n : Int)) (((c + cntP a b n d : Nat) : Int), true) := by
  intro d
  induction d with
  | zero =>
    intro n c h _
    have e : c + cntP a b n 0 = c := by simp [cntP]
    rw [e]
    refine ⟨?_, ?_⟩ <;> apply K.Ev.succ
    · simp only [spec_CountPattern.l0, if_neg (show ¬ ((n : Int) < (a.size : Int)) by omega)]; exact Ev.now _
    · simp only [impl_CountPattern.l0, if_neg (show ¬ ((n : Int) < (a.size : Int)) by omega)]; exact Ev.now _
  | succ d ih =>
    intro n c h hcn
    have c1 : (n : Int) < (a.size : Int) := by omega
    have c2 : 0 ≤ (n : Int) := by omega
    have c3 : (n : Int) ≤ (a.size : Int) := by omega
    have ws := K.w64s n (show n < 9223372036854775807 by omega)
    have wc := K.w64s c (show c < 9223372036854775807 by omega)
    have hs : (a.extract n a.size).size + (a.extract 0 n).size = a.size := by simp only [ByteArray.size_extract]; omega
    have hs2 : (a.extract n a.size ++ a.extract 0 n).size = a.size := by rw [ByteArray.size_append]; exact hs
    have c4 : (a.extract n a.size).size + (a.extract 0 n).size ≤ 9223372036854775807 := by omega
    have ht : spec_l11Turn.f a (n : Int) = some (a.extract n a.size ++ a.extract 0 n) := by
      simp only [spec_l11Turn.f, if_pos c2, if_pos c3, Int.toNat_natCast, if_pos c4]
    have hp := prefix_ev (a.extract n a.size ++ a.extract 0 n) b (by omega) (by omega)
    have hh := turn_hit a b n (by omega)
    by_cases hq : ((a.extract n a.size ++ a.extract 0 n).extract 0 b.size).toList = b.toList
    · have hq' : (((a.extract n a.size ++ a.extract 0 n).extract 0 b.size).toList == b.toList) = true := by simpa using hq
      rw [hq'] at hp
      obtain ⟨i1, i2⟩ := ih (n + 1) (c + 1) (by omega) (by omega)
      have e : c + cntP a b n (d + 1) = c + 1 + cntP a b (n + 1) d := by
        unfold cntP
        rw [List.range'_succ, List.countP_cons, if_pos (hh.mp hq)]
        omega
      rw [e]
      refine ⟨?_, ?_⟩ <;> apply K.Ev.succ
      · simp only [spec_CountPattern.l0, if_pos c1, ht, Option.bind_some, if_pos (show 0 ≤ (b.size : Int) by omega), hs2, if_pos (show (b.size : Int) ≤ (a.size : Int) by omega), Int.toNat_natCast, if_pos hq, ws, wc]; exact i1
      · simp only [impl_CountPattern.l0, if_pos c1, if_pos c2, if_pos c3, Int.toNat_natCast, if_pos c4, hp, Option.bind_some, if_true, ws, wc]; exact i2
    · have hq' : (((a.extract n a.size ++ a.extract 0 n).extract 0 b.size).toList == b.toList) = false := by simpa using hq
      rw [hq'] at hp
      obtain ⟨i1, i2⟩ := ih (n + 1) c (by omega) (by omega)
      have e : c + cntP a b n (d + 1) = c + cntP a b (n + 1) d := by
        unfold cntP
        rw [List.range'_succ, List.countP_cons, if_neg (fun q => hq (hh.mpr q))]
        omega
      rw [e]
      refine ⟨?_, ?_⟩ <;> apply K.Ev.succ
      · simp only [spec_CountPattern.l0, if_pos c1, ht, Option.bind_some, if_pos (show 0 ≤ (b.size : Int) by omega), hs2, if_pos (show (b.size : Int) ≤ (a.size : Int) by omega), Int.toNat_natCast, if_neg hq, ws]; exact i1
      · simp only [impl_CountPattern.l0, if_pos c1, if_pos c2, if_pos c3, Int.toNat_natCast, if_pos c4, hp, Option.bind_some, Bool.false_eq_true, if_false, ws]; exact i2
/-- The count over a text's turnings. -/
theorem cntP_turns (a b : ByteArray) : cntP a b 0 a.size = ((List.range a.data.toList.length).map fun j => K.rotN a.data.toList j).countP (hitP b) := by
  rw [List.countP_map, cntP, ← List.range_eq_range', show a.data.toList.length = a.size by rw [Array.length_toList]; rfl]
  rfl
theorem countPattern_is (a b : ByteArray) (hb : b.size ≤ 1048576) : ∃ r : Int × Bool, Ev (fun k => spec_CountPattern.f k a b) r ∧ Ev (fun k => impl_CountPattern.f k a b) r ∧ (r.2 = false → r.1 = 0) ∧ (r.2 = true → a.size ≤ 120 ∧ 1 ≤ b.size ∧ b.size ≤ a.size ∧ r.1 = (cntP a b 0 a.size : Int)) := by
  have bad : Ev (fun k => spec_CountPattern.j0 k a b true) (0, false) ∧ Ev (fun k => impl_CountPattern.j0 k a b true) (0, false) := by
    constructor <;> apply K.Ev.succ
    · simp only [spec_CountPattern.j0, if_true]; exact Ev.now _
    · simp only [impl_CountPattern.j0, if_true]; exact Ev.now _
  by_cases h : (a.size : Int) > 120
  · refine ⟨(0, false), ?_, ?_, fun _ => rfl, fun q => by cases q⟩
    · simp only [spec_CountPattern.f, if_pos h]; exact bad.1
    · simp only [impl_CountPattern.f, impl_isTurnable.f, decide_eq_false (show ¬ (a.size : Int) ≤ 120 by omega), Option.bind_some, Bool.false_eq_true, if_false]; exact bad.2
  have hq : ∃ t : Bool, spec_l1In.f (b.size : Int) 1 (a.size : Int) = some t ∧ impl_within.f (b.size : Int) 1 (a.size : Int) = some t ∧ (t = true → 1 ≤ b.size ∧ b.size ≤ a.size) := by
    by_cases h1 : (b.size : Int) ≥ 1
    · exact ⟨decide ((b.size : Int) ≤ (a.size : Int)), by simp only [spec_l1In.f, if_pos h1], by simp only [impl_within.f, if_pos h1], fun q => by simp at q; omega⟩
    · exact ⟨false, by simp only [spec_l1In.f, if_neg h1], by simp only [impl_within.f, if_neg h1], fun q => by cases q⟩
  obtain ⟨t, q1, q2, q3⟩ := hq
  cases t with
  | false =>
    refine ⟨(0, false), ?_, ?_, fun _ => rfl, fun q => by cases q⟩
    · simp only [spec_CountPattern.f, if_neg h, q1, Option.bind_some, Bool.not_false]; exact bad.1
    · simp only [impl_CountPattern.f, impl_isTurnable.f, decide_eq_true (show (a.size : Int) ≤ 120 by omega), Option.bind_some, if_true, q2, Bool.not_false]; exact bad.2
  | true =>
    obtain ⟨i1, i2⟩ := count_ev a b (by omega) (q3 rfl).2 a.size 0 0 (by omega) (by omega)
    rw [Nat.zero_add] at i1 i2
    refine ⟨(((cntP a b 0 a.size : Nat) : Int), true), ?_, ?_, (fun q => by cases q), fun _ => ⟨by omega, (q3 rfl).1, (q3 rfl).2, rfl⟩⟩
    · simp only [spec_CountPattern.f, if_neg h, q1, Option.bind_some, Bool.not_true]
      apply K.Ev.succ
      simp only [spec_CountPattern.j0, Bool.false_eq_true, if_false, conv_bytes.f, if_pos (show a.size ≤ 9223372036854775807 by omega), Option.bind_some, bytesOf_length]; exact i1
    · simp only [impl_CountPattern.f, impl_isTurnable.f, decide_eq_true (show (a.size : Int) ≤ 120 by omega), Option.bind_some, if_true, q2, Bool.not_true]
      apply K.Ev.succ
      simp only [impl_CountPattern.j0, Bool.false_eq_true, if_false]; exact i2
theorem dsize (s : ByteArray) : s.data.toList.length = s.size := by rw [Array.length_toList]; rfl
theorem turn_size (s : ByteArray) (j : Nat) (hj : j ≤ s.size) : (Go.Proofs.Ythhcgepofldgaaa.PSortO.turnB s (j : Int)).size = s.size := by
  rw [← dsize, K.turnB_list s j hj, K.rotN_length, dsize]
theorem Rotate_is (s : ByteArray) (h : s.size ≤ 120) (j : Nat) (hj : j < s.size) : impl_RotateText.f s (j : Int) = some (Go.Proofs.Ythhcgepofldgaaa.PSortO.turnB s (j : Int), true) := by
  have hw : wrap64 ((s.size : Int) - 1) = (s.size : Int) - 1 := K.w64 (by omega) (by omega)
  have hmx : mx 0 ((s.size : Int) - 1) = (s.size : Int) - 1 := by unfold mx; split <;> omega
  have e : (s.extract ((j : Int)).toNat s.size).size + (s.extract 0 ((j : Int)).toNat).size ≤ 9223372036854775807 := by
    simp only [ByteArray.size_extract]; omega
  simp only [impl_RotateText.f, impl_isTurnable.f, decide_eq_true (show (s.size : Int) ≤ 120 by omega), Option.bind_some, if_true, hw, hmx, impl_within.f, if_pos (show ((j : Int) ≥ 0) by omega), decide_eq_true (show ((j : Int) ≤ (s.size : Int) - 1) by omega), if_pos (show ((0 : Int) ≤ (j : Int)) by omega), if_pos (show ((j : Int) ≤ (s.size : Int)) by omega), if_pos e]
  rfl
theorem counted_turn (a b : ByteArray) (ha : a.size ≤ 120) (h1 : 1 ≤ b.size) (hb : b.size ≤ a.size) (j : Nat) (hj : j < a.size) : Ev (fun k => impl_CountPattern.f k (Go.Proofs.Ythhcgepofldgaaa.PSortO.turnB a (j : Int)) b) ((cntP a b 0 a.size : Int), true) := by
  obtain ⟨x, hx⟩ : ∃ x, Go.Proofs.Ythhcgepofldgaaa.PSortO.turnB a (j : Int) = x := ⟨_, rfl⟩
  have hs := turn_size a j (by omega)
  have hl := K.turnB_list a j (by omega)
  rw [hx] at hs hl ⊢
  have e : cntP x b 0 x.size = cntP a b 0 a.size := by
    rw [cntP_turns, cntP_turns, hl]
    exact (K.turns_rotN a.data.toList j (by rw [dsize]; omega)).countP_eq _
  obtain ⟨_, i2⟩ := count_ev x b (by omega) (by omega) x.size 0 0 (by omega) (by omega)
  rw [Nat.zero_add, e] at i2
  have q2 : impl_within.f (b.size : Int) 1 (x.size : Int) = some true := by
    simp only [impl_within.f, if_pos (show (b.size : Int) ≥ 1 by omega), decide_eq_true (show (b.size : Int) ≤ (x.size : Int) by omega)]
  simp only [impl_CountPattern.f, impl_isTurnable.f, decide_eq_true (show (x.size : Int) ≤ 120 by omega), Option.bind_some, if_true, q2, Bool.not_true]
  apply K.Ev.succ
  simp only [impl_CountPattern.j0, Bool.false_eq_true, if_false]; exact i2
/-- The last part: patterns in all turnings. -/
theorem columns_end (c1 c2 : List Int) (hc1 : K.Code c1) (hc2 : K.Code c2) : Ev (fun k => laws_FnColumns.j3 k c1 c2) true := by
  obtain ⟨t, a1, sd1, e1, s1, b1, b2⟩ := prose_ok c2 hc2 0 (by omega) (by omega) 0
  obtain ⟨p, a2, sd2, e2, hp, _, _⟩ := of_ok c2 hc2 a1 (by omega) (by omega) sd1 ([(⟨#[97]⟩ : ByteArray), (⟨#[97, 98]⟩ : ByteArray), (⟨#[110, 97]⟩ : ByteArray), (⟨#[97, 97]⟩ : ByteArray), (⟨#[]⟩ : ByteArray), (⟨#[120]⟩ : ByteArray), (⟨#[98, 97, 110, 97, 110, 97]⟩ : ByteArray)] : List ByteArray) (by simp) (by simp)
  have hps : p.size ≤ 1048576 := by
    simp only [List.mem_cons, List.not_mem_nil, or_false] at hp
    rcases hp with rfl | rfl | rfl | rfl | rfl | rfl | rfl <;> decide
  have d1 : Ev (fun k => spec_DrawCountPattern.f k c2) (t, p) := by
    simp only [spec_DrawCountPattern.f]
    refine Ev.bind e1 ?_
    simp only [e2, Option.bind_some]
    exact Ev.now _
  obtain ⟨r, f1, f2, f3, f4⟩ := countPattern_is t p hps
  obtain ⟨r1, r2⟩ := r
  apply K.Ev.succ
  simp only [laws_FnColumns.j3]
  refine Ev.bind d1 ?_
  refine Ev.bind f2 ?_
  refine Ev.bind f1 ?_
  simp only [bne_self_eq_false, Bool.false_eq_true, if_false]
  apply K.Ev.succ
  simp only [laws_FnColumns.j4, Bool.false_eq_true, if_false]
  cases r2 with
  | false =>
    have z : r1 = 0 := f3 rfl
    subst z
    simp only [Bool.false_eq_true, if_false, beq_self_eq_true]
    exact Ev.now _
  | true =>
    obtain ⟨g1, g2, g3, g4⟩ := f4 rfl
    have z : r1 = (cntP t p 0 t.size : Int) := g4
    subst z
    obtain ⟨v, hv, v0⟩ := numberOf_ok c1 hc1
    obtain ⟨j, hj⟩ : ∃ j : Nat, Int.tmod v (t.size : Int) = (j : Int) := ⟨(Int.tmod v (t.size : Int)).toNat, by rw [Int.tmod_eq_emod_of_nonneg v0]; have := Int.emod_nonneg v (show (t.size : Int) ≠ 0 by omega); omega⟩
    have hjt : j < t.size := by
      have := Int.emod_lt_of_pos v (show 0 < (t.size : Int) by omega)
      rw [Int.tmod_eq_emod_of_nonneg v0] at hj
      omega
    simp only [if_true]
    refine Ev.bind hv ?_
    simp only [if_neg (show ¬ ((t.size : Int) = 0) by omega), hj, Rotate_is t g1 j hjt, Option.bind_some]
    refine Ev.bind (counted_turn t p g1 g2 g3 j hjt) ?_
    simp only [if_true, beq_self_eq_true]
    exact Ev.now _
theorem sortL_rng (s : ByteArray) : ∀ x ∈ Go.Proofs.Ythhcgepofldgaaa.PByteM.sortL s, 0 ≤ x ∧ x ≤ 255 := by
  intro x hx
  rw [← nx_sortL] at hx
  obtain ⟨y, _, rfl⟩ := List.mem_map.mp hx
  exact bt_range s y
theorem first_bt (s : ByteArray) (N : List Int) (hN : N = nxB s 256) (i : Nat) (hi : i < N.length) : bt (strOfNums (Go.Proofs.Ythhcgepofldgaaa.PByteM.sortL s)) (i : Int) = bt s (N[i]) := by
  rw [K.bt_bytes, K.bytesOf_strOf _ (sortL_rng s), ← nx_sortL, ← hN, List.getD_eq_getElem?_getD, List.getElem?_map, List.getElem?_eq_getElem hi]
  rfl
theorem seen_loop (c1 c2 : List Int) (s : ByteArray) (h : s.size ≤ 120) (hend : Ev (fun k => laws_FnColumns.j3 k c1 c2) true) (F : ByteArray) (hF : F = strOfNums (Go.Proofs.Ythhcgepofldgaaa.PByteM.sortL s)) (N : List Int) (hN : N = nxB s 256) :
    ∀ (d i : Nat) (seen : List Bool), i + d = N.length → seen.length = s.size → (∀ j : Nat, seen.getD j false = true → (j : Int) ∈ N.take i) → Ev (fun k => laws_FnColumns.l0 k c1 c2 s N F seen N (N.length : Int) (i : Int)) true := by
  have hlen : N.length = s.size := by rw [hN, (nxB_perm s).length_eq, Go.Proofs.Ythhcgepofldgaaa.PSortN.rng_length]
  have hFs : F.size = s.size := by rw [hF, strOf_size, Go.Proofs.Ythhcgepofldgaaa.PByteM.sortL_length]
  have hpw : N.Pairwise (K.Lt (cfB s)) := by rw [hN]; exact nxB_lt s 256
  have hbt : ∀ (i : Nat) (hi : i < N.length), bt F (i : Int) = bt s (N[i]) := by
    intro i hi
    rw [hF]
    exact first_bt s N hN i hi
  intro d
  induction d with
  | zero =>
    intro i seen hi _ _
    apply K.Ev.succ
    simp only [laws_FnColumns.l0, if_neg (show ¬ ((i : Int) < (N.length : Int)) by omega)]
    exact hend
  | succ d ih =>
    intro i seen hi hsl hse
    have hiL : i < N.length := by omega
    have hrd : rd N (i : Int) = N[i] := by
      simp only [rd, Int.toNat_natCast, List.getD_eq_getElem?_getD, List.getElem?_eq_getElem hiL, Option.getD_some]
    obtain ⟨j, hj, hjs, _⟩ : ∃ j : Nat, N[i] = (j : Int) ∧ j < s.size ∧ bt s (j : Int) < ((256 : Nat) : Int) := nxB_mem (s := s) (B := 256) (by rw [← hN]; exact List.getElem_mem hiL)
    have hbi := hbt i hiL
    rw [hj] at hrd hbi
    have hnot : ¬ rdOf false seen (j : Int) = true := by
      intro q
      have q2 : seen.getD j false = true := q
      have hm := hse j q2
      obtain ⟨m, hm1, hm2⟩ := List.getElem_of_mem hm
      rw [List.length_take] at hm1
      rw [List.getElem_take] at hm2
      have hp := (List.pairwise_iff_getElem.mp hpw) m i (by omega) hiL (by omega)
      rw [hm2, hj] at hp
      exact lt_irrefl (cfB_cmp s) _ hp
    have hnext := ih (i + 1) (seen.set j true) (by omega) (by rw [List.length_set]; exact hsl) (by
      intro m hm
      rw [List.take_add_one, List.getElem?_eq_getElem hiL, Option.toList_some, List.mem_append]
      by_cases e : j = m
      · subst e; right; rw [hj]; exact List.mem_singleton.mpr rfl
      · left
        rw [List.getD_eq_getElem?_getD, List.getElem?_set_ne e, ← List.getD_eq_getElem?_getD] at hm
        exact hse m hm)
    apply K.Ev.succ
    simp only [laws_FnColumns.l0, if_pos (show (i : Int) < (N.length : Int) by omega), if_pos (show (0 : Int) ≤ (i : Int) by omega), hrd, if_neg (show ¬ ((j : Int) < 0) by omega), if_neg (show ¬ ((j : Int) ≥ (s.size : Int)) by omega), if_pos (show (0 : Int) ≤ (j : Int) by omega), if_pos (show (j : Int) < (seen.length : Int) by omega), if_neg hnot, if_pos (show (j : Int) < (s.size : Int) by omega), if_pos (show (i : Int) < (F.size : Int) by omega), hbi, if_true, Int.toNat_natCast, K.w64s i (show i < 9223372036854775807 by omega)]
    by_cases hz : i = 0
    · simp only [if_neg (show ¬ ((i : Int) > 0) by omega)]
      exact hnext
    · obtain ⟨m, rfl⟩ : ∃ m, i = m + 1 := ⟨i - 1, by omega⟩
      have hmL : m < N.length := by omega
      have wm : wrap64 (((m + 1 : Nat) : Int) - 1) = (m : Int) := by rw [K.w64 (by omega) (by omega)]; omega
      have hrm : rd N (m : Int) = N[m] := by
        simp only [rd, Int.toNat_natCast, List.getD_eq_getElem?_getD, List.getElem?_eq_getElem hmL, Option.getD_some]
      have hbm := hbt m hmL
      have hlt := (List.pairwise_iff_getElem.mp hpw) m (m + 1) hmL hiL (by omega)
      rw [hj] at hlt
      have hle : bt s N[m] ≤ bt s (j : Int) := by
        rcases hlt with q | q
        · unfold cfB at q; omega
        · unfold cfB at q; omega
      simp only [if_pos (show (((m + 1 : Nat) : Int) > 0) by omega), wm, if_pos (show (0 : Int) ≤ (m : Int) by omega), if_pos (show (m : Int) < (F.size : Int) by omega), hbm, if_neg (show ¬ (bt s N[m] > bt s (j : Int)) by omega), if_pos (show (m : Int) < (N.length : Int) by omega), hrm]
      by_cases he : bt s N[m] = bt s (j : Int)
      · have hne : ¬ N[m] ≥ (j : Int) := by
          rcases hlt with q | q
          · unfold cfB at q; omega
          · omega
        simp only [if_pos he, if_neg hne]
        exact hnext
      · simp only [if_neg he]
        exact hnext
theorem ev_uniq {α : Type} {g : Nat → Option α} {r q : α} (h1 : Ev g r) (h2 : Ev g q) : r = q := by
  obtain ⟨a, ha⟩ := h1
  obtain ⟨b, hb⟩ := h2
  have e1 := ha (a + b) (by omega)
  have e2 := hb (a + b) (by omega)
  rw [e1] at e2
  exact Option.some.inj e2
theorem FnColumns : laws_FnColumns.Pure := by
  intro c1 c2 _ hl1 hw1 _ hl2 hw2
  have hc1 : K.Code c1 := ⟨by omega, fun x h => K.b_u8 (hw1 x h)⟩
  have hc2 : K.Code c2 := ⟨by omega, fun x h => K.b_u8 (hw2 x h)⟩
  refine Ev.rounds (?_ : Ev (fun k => laws_FnColumns.f k c1 c2) true)
  unfold laws_FnColumns.f
  by_cases h : (wrap64 ((c1.length : Int) + (c2.length : Int))) > 1048576
  · simp only [if_pos h]; exact Ev.now _
  simp only [if_neg h]
  obtain ⟨s, a1, sd1, e1, s1, _, _⟩ := prose_ok c1 hc1 0 (by omega) (by omega) 0
  have d1 : Ev (fun k => spec_DrawNextOf.f k c1) s := by
    simp only [spec_DrawNextOf.f, spec_DrawTurnsOf.f]
    exact Ev.bind (Ev.bind e1 (Ev.now _)) (Ev.now _)
  have hend := columns_end c1 c2 hc1 hc2
  obtain ⟨n, nl, n1, n2⟩ := nextOf_same s
  obtain ⟨f, f1, f2, f3⟩ := firstColumn_same s
  obtain ⟨q, q1, q2⟩ := runsIn_same s (by omega)
  refine Ev.bind d1 ?_
  simp only [n2, Option.bind_some]
  refine Ev.bind n1 ?_
  simp only [f2, Option.bind_some]
  refine Ev.bind f1 ?_
  refine Ev.bind q2 ?_
  refine Ev.bind q1 ?_
  simp only [bne_self_eq_false, Bool.false_eq_true, if_false]
  refine Ev.bind (sameInts_self n.1 (by omega)) ?_
  simp only [if_true]
  apply K.Ev.succ
  simp only [laws_FnColumns.j0, Bool.false_eq_true, if_false]
  by_cases hs : s.size ≤ 120
  · have hn : n = (nxB s 256, true) := by
      have e4 : Ev (fun k => spec_NextOf.f k s) (nxB s 256, true) := by
        simp only [spec_NextOf.f, if_neg (show ¬ (s.size : Int) > 120 by omega)]
        exact Ev.bind (l11Next_ev s hs) (Ev.now _)
      exact ev_uniq n1 e4
    have hf := f3 hs
    subst hn hf
    have hlen : (nxB s 256).length = s.size := by rw [(nxB_perm s).length_eq, Go.Proofs.Ythhcgepofldgaaa.PSortN.rng_length]
    have hFs : (strOfNums (Go.Proofs.Ythhcgepofldgaaa.PByteM.sortL s)).size = s.size := by rw [strOf_size, Go.Proofs.Ythhcgepofldgaaa.PByteM.sortL_length]
    simp only [if_true, hlen, hFs, bne_self_eq_false]
    apply K.Ev.succ
    simp only [laws_FnColumns.j1, Bool.false_eq_true, if_false, if_pos (show 0 ≤ (s.size : Int) by omega), Int.toNat_natCast, if_pos (show s.size ≤ 281474976710656 by omega)]
    refine seen_loop c1 c2 s hs hend _ rfl _ rfl (nxB s 256).length 0 (List.replicate s.size false) (by omega) (by simp) (fun j q => ?_)
    rw [List.getD_eq_getElem?_getD, List.getElem?_replicate] at q
    split at q <;> simp at q
  · have hn : n.2 = false := by
      have e4 : Ev (fun k => spec_NextOf.f k s) (([] : List Int), false) := by
        simp only [spec_NextOf.f, if_pos (show (s.size : Int) > 120 by omega)]
        exact Ev.now _
      rw [ev_uniq n1 e4]
    simp only [hn, Bool.false_eq_true, if_false]
    exact hend

end Go.Proofs.Ythhcgepofldgaaa.Pure
