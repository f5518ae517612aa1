/- The rank of rows that are taken one by one, each that is not told by those ahead, is the rank of all; plain Lean on lists of natural numbers. -/
import Derived.Test.YtimajkahadhhhaaKEch
set_option linter.unusedVariables false
set_option linter.unusedSimpArgs false
namespace Go.Proofs.Ytimajkahadhhhaa.K
open Go Go.RowKit Go.Proofs.YtimajkahadhhhaaW.PrintWords Go.Proofs.YtimajkahadhhhaaW.PrintMore

/-! ### The left part of an elimination -/
theorem lft_clr {n w c a j i : Nat} (hj : j < c) (R : List (List Nat)) : lft c (clr a j i R) = clr a j i (lft c R) := by
  unfold clr
  rw [lft_ent hj]
  split
  · rfl
  · rw [lft_row, lft_row, ← scl_take, ← addr_take, lft_set]
theorem lft_clrs {c a j : Nat} (hj : j < c) : ∀ (d i : Nat) (R : List (List Nat)), lft c (clrs a j d i R) = clrs a j d i (lft c R)
  | 0, _, _ => rfl
  | d + 1, i, R => by
    show lft c (clrs a j d (i + 1) (clr a j i R)) = clrs a j d (i + 1) (clr a j i (lft c R))
    rw [lft_clrs hj d, lft_clr (n := 0) (w := 0) hj]
theorem lft_piv {c j : Nat} (hj : j < c) (R : List (List Nat)) : ∀ (d i : Nat), piv (lft c R) j d i = piv R j d i
  | 0, _ => rfl
  | d + 1, i => by
    unfold piv
    rw [lft_ent hj, lft_piv hj R d]
theorem lft_estep {c a j p : Nat} (hj : j < c) (R : List (List Nat)) : lft c (estep a j p R) = estep a j p (lft c R) := by
  unfold estep lead
  rw [lft_clrs hj, lft_length, lft_ent hj, lft_row, lft_row, ← scl_take, lft_set, lft_set]
theorem lft_rank {c : Nat} : ∀ (d a j : Nat) (R : List (List Nat)), j + d ≤ c → (elim d a j (lft c R)).2 = (elim d a j R).2
  | 0, _, _, _, _ => rfl
  | d + 1, a, j, R, h => by
    unfold elim
    rw [lft_length, lft_piv (by omega)]
    split
    · split
      · rw [← lft_estep (by omega), lft_rank d _ _ _ (by omega)]
      · exact lft_rank d _ _ _ (by omega)
    · rfl
theorem beside_rank {n u v : Nat} {A B : List (List Nat)} (hA : Mat n u A) (hB : Mat n v B) : (elim u 0 0 (beside A B)).2 = (elim u 0 0 A).2 := by
  have := lft_rank (c := u) u 0 0 (beside A B) (by omega)
  rw [beside_lft hA hB] at this
  exact this.symm

/-! ### Lists in order -/
theorem sub_sorted : ∀ (b a : List Nat), a.Pairwise (· < ·) → b.Pairwise (· < ·) → (∀ x ∈ a, x ∈ b) → a.Sublist b
  | [], a, _, _, h => by
    cases a with
    | nil => exact List.Sublist.refl _
    | cons y _ => exact absurd (h y (by simp)) (by simp)
  | x :: b, [], _, _, _ => List.nil_sublist _
  | x :: b, y :: a, ha, hb, h => by
    rw [List.pairwise_cons] at ha hb
    rcases List.mem_cons.1 (h y (by simp)) with rfl | q
    · refine List.Sublist.cons_cons _ (sub_sorted b a ha.2 hb.2 (fun z hz => ?_))
      rcases List.mem_cons.1 (h z (by simp [hz])) with rfl | q
      · exact absurd (ha.1 z hz) (Nat.lt_irrefl _)
      · exact q
    · refine List.Sublist.cons _ (sub_sorted b (y :: a) (List.pairwise_cons.2 ha) hb.2 (fun z hz => ?_))
      rcases List.mem_cons.1 (h z hz) with rfl | q2
      · exfalso
        have h1 := hb.1 y q
        rcases List.mem_cons.1 hz with e | e
        · omega
        · have := ha.1 z e; omega
      · exact q2

/-! ### Rank and what the rows answer nothing to -/
theorem rank_le {n m w : Nat} {A B : List (List Nat)} (hA : Mat n w A) (hB : Mat m w B) (h : ∀ y, Vec w y → Ker B y → Ker A y) : (elim w 0 0 A).2 ≤ (elim w 0 0 B).2 ∧ ((elim w 0 0 B).2 ≤ (elim w 0 0 A).2 → ∀ j, j < w → Fixed w B j → Fixed w A j) := by
  obtain ⟨a, a1, a2, a3⟩ := rank_fixed hA (Nat.le_refl w)
  obtain ⟨b, b1, b2, b3⟩ := rank_fixed hB (Nat.le_refl w)
  have s := sub_sorted b a a2 b2 (fun x hx => (b3 x).2 ⟨((a3 x).1 hx).1, fun y hv hk hz => ((a3 x).1 hx).2 y hv (h y hv hk) hz⟩)
  refine ⟨by rw [← a1, ← b1]; exact s.length_le, fun hle j hj hf => ?_⟩
  have e := s.eq_of_length_le (by rw [a1, b1]; exact hle)
  rw [← e] at b3
  exact ((a3 j).1 ((b3 j).2 ⟨hj, hf⟩)).2
theorem rank_same {n m w : Nat} {A B : List (List Nat)} (hA : Mat n w A) (hB : Mat m w B) (h : ∀ y, Vec w y → (Ker B y ↔ Ker A y)) : (elim w 0 0 A).2 = (elim w 0 0 B).2 :=
  Nat.le_antisymm (rank_le hA hB (fun y hv => (h y hv).1)).1 (rank_le hB hA (fun y hv => (h y hv).2)).1
theorem row_append_left {A : List (List Nat)} (B : List (List Nat)) {i : Nat} (h : i < A.length) : row (A ++ B) i = row A i := by
  unfold row
  rw [List.getD_eq_getElem?_getD, List.getD_eq_getElem?_getD, List.getElem?_append_left h]
theorem ker_snoc (A : List (List Nat)) (r y : List Nat) : Ker (A ++ [r]) y ↔ Ker A y ∧ dotp r y = 0 := by
  have last : row (A ++ [r]) A.length = r := by simp [row]
  constructor
  · intro h
    refine ⟨fun i hi => ?_, ?_⟩
    · have := h i (by simp; omega)
      rwa [row_append_left _ hi] at this
    · have := h A.length (by simp)
      rwa [last] at this
  · rintro ⟨h1, h2⟩ i hi
    rcases Nat.lt_or_ge i A.length with q | q
    · rw [row_append_left _ q]; exact h1 i q
    · obtain rfl : i = A.length := by simp at hi; omega
      rw [last]; exact h2
theorem snoc_mat {n w : Nat} {A : List (List Nat)} {r : List Nat} (hA : Mat n w A) (hr : r.length = w) (hb : Bytes r) : Mat (n + 1) w (A ++ [r]) := by
  refine ⟨by simp [hA.len], fun x hx => ?_, fun x hx => ?_⟩ <;> rcases List.mem_append.1 hx with q | q
  · exact hA.wid x q
  · rw [List.mem_singleton.1 q]; exact hr
  · exact hA.byt x q
  · rw [List.mem_singleton.1 q]; exact hb
theorem zeros_dotp {r y : List Nat} (h : ∀ q, y.getD q 0 = 0) : dotp r y = 0 := by
  have : y = List.replicate y.length 0 := by
    apply list_getD_ext (by simp)
    intro q
    rw [h q, List.getD_eq_getElem?_getD, List.getElem?_replicate]
    split <;> rfl
  rw [this]
  exact dotp_zeros _ _
/-- A row that doesn't raise the rank answers nothing wherever those ahead do. -/
theorem told {n w : Nat} {A : List (List Nat)} {r : List Nat} (hA : Mat n w A) (hr : r.length = w) (hb : Bytes r) (hn : (elim w 0 0 A).2 = n) (hno : (elim w 0 0 (A ++ [r])).2 ≠ n + 1) : ∀ y, Vec w y → Ker A y → dotp r y = 0 := by
  have hM := snoc_mat hA hr hb
  have hle := (elim_rank w 0 0 (A ++ [r]) hM (by omega)).2.1
  have fx := (rank_le hA hM (fun y _ hk => ((ker_snoc A r y).1 hk).1)).2 (by omega)
  have key : ∀ t y, Vec w y → Ker A y → (∀ q, t ≤ q → y.getD q 0 = 0) → dotp r y = 0 := by
    intro t
    induction t with
    | zero => exact fun y _ _ hz => zeros_dotp (fun q => hz q (Nat.zero_le _))
    | succ t ih =>
      intro y hv hk hz
      by_cases e : y.getD t 0 = 0
      · refine ih y hv hk (fun q hq => ?_)
        rcases Nat.eq_or_lt_of_le hq with rfl | q'
        · exact e
        · exact hz q q'
      have ht : t < w := by
        rcases Nat.lt_or_ge t w with q | q
        · exact q
        · exact absurd (by rw [List.getD_eq_getElem?_getD, List.getElem?_eq_none (by rw [hv.len]; exact q)]; rfl) e
      have nf : ¬ Fixed w (A ++ [r]) t := fun hf => e (fx t ht hf y hv hk hz)
      obtain ⟨z, nf⟩ := Classical.not_forall.1 nf
      obtain ⟨zv, nf⟩ := Classical.not_imp.1 nf
      obtain ⟨zk, nf⟩ := Classical.not_imp.1 nf
      obtain ⟨zz, nf⟩ := Classical.not_imp.1 nf
      have zk2 := (ker_snoc A r z).1 zk
      have bz := zv.byt.getD t
      have by_ := hv.byt.getD t
      let c := gmul (y.getD t 0) (ginv (z.getD t 0))
      have hc : c < 256 := gmul_lt by_
      have ll : y.length = (scl c z).length := by rw [scl_length, hv.len, zv.len]
      have dt : ∀ x, Bytes x → dotp x (addr y (scl c z)) = dotp x y ^^^ gmul c (dotp x z) := by
        intro x hx
        rw [dotp_comm x _ hx (addr_bytes hv.byt (scl_bytes hc _)), dotp_addr _ _ _ ll hv.byt (scl_bytes hc _), dotp_scl c hc _ _ zv.byt hx, dotp_comm y x hv.byt hx, dotp_comm z x zv.byt hx]
      have v2 : Vec w (addr y (scl c z)) := ⟨by rw [addr_length ll, hv.len], addr_bytes hv.byt (scl_bytes hc _)⟩
      have k2 : Ker A (addr y (scl c z)) := fun i hi => by
        rw [dt _ (hA.row_byt i), hk i hi, zk2.1 i hi, gmul_zero, Nat.zero_xor]
      have z2 : ∀ q, t ≤ q → (addr y (scl c z)).getD q 0 = 0 := by
        intro q hq
        rw [addr_getD ll, scl_getD]
        rcases Nat.eq_or_lt_of_le hq with rfl | q'
        · have : gmul c (z.getD t 0) = y.getD t 0 := by
            show gmul (gmul (y.getD t 0) (ginv (z.getD t 0))) (z.getD t 0) = _
            rw [gmul_assoc by_ (ginv_lt _) bz, gmul_comm (ginv_lt _) bz, gmul_ginv bz nf, gmul_one by_]
          rw [this, Nat.xor_self]
        · rw [hz q q', zz q q', gmul_zero, Nat.zero_xor]
      have := ih _ v2 k2 z2
      rw [dt r hb, zk2.2, gmul_zero, Nat.xor_zero] at this
      exact this
  exact fun y hv hk => key w y hv hk (fun q hq => by rw [List.getD_eq_getElem?_getD, List.getElem?_eq_none (by rw [hv.len]; exact hq)]; rfl)
/-- Rows that are taken one by one. -/
def greedy (w : Nat) : List (List Nat) → List (List Nat) → List (List Nat)
  | C, [] => C
  | C, r :: rs => if (elim w 0 0 (C ++ [r])).2 = C.length + 1 then greedy w (C ++ [r]) rs else greedy w C rs
theorem greedy_rank {w : Nat} : ∀ (rs C P : List (List Nat)), (∀ r ∈ rs, r.length = w ∧ Bytes r) → Mat C.length w C → Mat P.length w P → (elim w 0 0 C).2 = C.length → (∀ y, Vec w y → (Ker C y ↔ Ker P y)) →
    Mat (greedy w C rs).length w (greedy w C rs) ∧ (elim w 0 0 (greedy w C rs)).2 = (greedy w C rs).length ∧ (elim w 0 0 (P ++ rs)).2 = (greedy w C rs).length
  | [], C, P, _, hC, hP, hr, hk => by
    refine ⟨hC, hr, ?_⟩
    rw [List.append_nil, rank_same hP hC hk]
    exact hr
  | r :: rs, C, P, hb, hC, hP, hr, hk => by
    obtain ⟨r1, r2⟩ := hb r (by simp)
    have hb' : ∀ x ∈ rs, x.length = w ∧ Bytes x := fun x hx => hb x (by simp [hx])
    have hP2 : Mat (P ++ [r]).length w (P ++ [r]) := by
      have := snoc_mat hP r1 r2
      rwa [show P.length + 1 = (P ++ [r]).length by simp] at this
    have hC2 : Mat (C ++ [r]).length w (C ++ [r]) := by
      have := snoc_mat hC r1 r2
      rwa [show C.length + 1 = (C ++ [r]).length by simp] at this
    have e : P ++ r :: rs = (P ++ [r]) ++ rs := by simp
    unfold greedy
    by_cases h : (elim w 0 0 (C ++ [r])).2 = C.length + 1
    · rw [if_pos h, e]
      refine greedy_rank rs (C ++ [r]) (P ++ [r]) hb' hC2 hP2 (by rw [h]; simp) (fun y hv => ?_)
      rw [ker_snoc, ker_snoc, hk y hv]
    · rw [if_neg h, e]
      refine greedy_rank rs C (P ++ [r]) hb' hC hP2 hr (fun y hv => ?_)
      rw [ker_snoc]
      have := told hC r1 r2 hr h y hv
      constructor
      · exact fun h1 => ⟨(hk y hv).1 h1, this h1⟩
      · exact fun h1 => (hk y hv).2 h1.1
theorem elim_none : ∀ d j, (elim d 0 j []).2 = 0
  | 0, _ => rfl
  | d + 1, j => by unfold elim; rfl
/-- The rank of all rows is told by how many are taken. -/
theorem greedy_all {w : Nat} (rs : List (List Nat)) (hb : ∀ r ∈ rs, r.length = w ∧ Bytes r) : Mat (greedy w [] rs).length w (greedy w [] rs) ∧ (elim w 0 0 (greedy w [] rs)).2 = (greedy w [] rs).length ∧ (elim w 0 0 rs).2 = (greedy w [] rs).length := by
  have m0 : Mat ([] : List (List Nat)).length w [] := ⟨rfl, fun r hr => by simp at hr, fun r hr => by simp at hr⟩
  exact greedy_rank rs [] [] hb m0 m0 (elim_none w 0) (fun _ _ => Iff.rfl)
end Go.Proofs.Ytimajkahadhhhaa.K
