/- The matrix of shares: the bytes that lead to given shares; plain Lean on lists of natural numbers. -/
import Derived.Test.YtekaaoeojbclfaaKCor
set_option linter.unusedVariables false
set_option linter.unusedSimpArgs false
namespace Go.Proofs.Ytekaaoeojbclfaa.K
open Go Go.RowKit Go.Proofs.YtekaaoeojbclfaaW.PrintWords Go.Proofs.YtekaaoeojbclfaaW.PrintMore
def srow (n x : Nat) : List Nat := (List.range n).map (fun j => gpow x (j + 1))
def smat (m : List (Nat × Nat)) : List (List Nat) := m.map (fun p => srow m.length p.1)
def svals (m : List (Nat × Nat)) (s : Nat) : List Nat := m.map (fun p => p.2 ^^^ s)
theorem srow_length (n x : Nat) : (srow n x).length = n := by simp [srow]
theorem srow_bytes (n x : Nat) : Bytes (srow n x) := by
  intro y hy
  obtain ⟨j, _, rfl⟩ := List.mem_map.1 hy
  exact gpow_lt _
theorem smat_mat (m : List (Nat × Nat)) : Mat m.length m.length (smat m) := by
  refine ⟨by simp [smat], fun r hr => ?_, fun r hr => ?_⟩ <;> obtain ⟨p, _, rfl⟩ := List.mem_map.1 hr
  · exact srow_length _ _
  · exact srow_bytes _ _
theorem svals_vec {m : List (Nat × Nat)} (hm : ∀ p ∈ m, p.1 < 256 ∧ p.2 < 256) {s : Nat} (hs : s < 256) : Vec m.length (svals m s) := ⟨by simp [svals], by
  intro y hy
  obtain ⟨p, hp, rfl⟩ := List.mem_map.1 hy
  exact xlt (hm p hp).2 hs⟩
theorem srow_seq (n x : Nat) : srow n x = seq (fun k => gmul 1 (gpow x k)) 1 n := by
  apply list_getD_ext (by rw [srow_length, seq_length])
  intro q
  rcases Nat.lt_or_ge q n with u | u
  · rw [seq_getD _ _ _ _ u, one_gmul (gpow_lt _)]
    simp [srow, u, Nat.add_comm]
  · rw [List.getD_eq_getElem?_getD, List.getD_eq_getElem?_getD, List.getElem?_eq_none (by rw [srow_length]; exact u), List.getElem?_eq_none (by rw [seq_length]; exact u)]
theorem srow_dot {x : Nat} (hx : x < 256) {y : List Nat} (hy : Bytes y) : dotp (srow y.length x) y = gmul x (peval y x) := by
  rw [srow_seq, dotp_geo 1 x (by omega) hx y 1 hy]
  have e : gpow x 1 = x := by
    show gmul 1 x = x
    exact one_gmul hx
  rw [e, one_gmul hx]
theorem smat_row {m : List (Nat × Nat)} {i : Nat} (h : i < m.length) : row (smat m) i = srow m.length m[i].1 := by simp [row, smat, h]
theorem smat_full {m : List (Nat × Nat)} (hm : ∀ p ∈ m, p.1 < 256 ∧ p.2 < 256) (h0 : ∀ p ∈ m, p.1 ≠ 0) (hd : (m.map Prod.fst).Nodup) (h200 : m.length ≤ 200) : (minv (smat m)).2 = m.length := by
  refine minv_full (smat_mat m) (fun y hy hz => ?_)
  have hroot : ∀ x ∈ m.map Prod.fst, peval y x = 0 := by
    intro x hx
    obtain ⟨p, hp, rfl⟩ := List.mem_map.1 hx
    obtain ⟨i, hi, rfl⟩ := List.mem_iff_getElem.1 hp
    have hpi := hm _ hp
    have : (app (smat m) y).getD i 0 = 0 := by rw [hz, replicate_getD]
    rw [app_getD _ (by rw [(smat_mat m).len]; exact hi), smat_row hi, ← hy.len, srow_dot hpi.1 hy.byt] at this
    rcases gmul_eq_zero hpi.1 (peval_lt hy.byt _) this with q | q
    · exact absurd q (h0 _ hp)
    · exact q
  have hb : Bytes (m.map Prod.fst) := by
    intro x hx
    obtain ⟨p, hp, rfl⟩ := List.mem_map.1 hx
    exact (hm p hp).1
  have := peval_all_zero y hy.byt (by rw [hy.len]; exact h200) (roots_zero m.length y hy.len hy.byt _ hb hd (by simp) hroot)
  rw [hy.len] at this
  exact this
/-- Bytes that lead to the shares are the ones that are found. -/
theorem shares_unique {m : List (Nat × Nat)} (hm : ∀ p ∈ m, p.1 < 256 ∧ p.2 < 256) (h0 : ∀ p ∈ m, p.1 ≠ 0) (hd : (m.map Prod.fst).Nodup) (h200 : m.length ≤ 200) {s : Nat} (hs : s < 256) {l : List Nat} (hv : Vec m.length l) (hh : ∀ p ∈ m, peval (s :: l) p.1 = p.2) :
    app (minv (smat m)).1 (svals m s) = l := by
  have bl := hv.byt
  have ll := hv.len
  have happ : app (smat m) l = svals m s := by
    apply list_getD_ext (by rw [app_length, (smat_mat m).len, (svals_vec hm hs).len])
    intro q
    rcases Nat.lt_or_ge q m.length with u | u
    · have hq := hm m[q] (List.getElem_mem u)
      rw [app_getD _ (by rw [(smat_mat m).len]; exact u), smat_row u, ← ll, srow_dot hq.1 bl]
      have h1 := hh m[q] (List.getElem_mem u)
      rw [peval_cons] at h1
      have h2 : (svals m s).getD q 0 = m[q].2 ^^^ s := by simp [svals, u]
      rw [h2, ← h1, gmul_comm hq.1 (peval_lt bl _), Nat.xor_assoc, Nat.xor_self, Nat.xor_zero]
    · rw [List.getD_eq_getElem?_getD, List.getD_eq_getElem?_getD, List.getElem?_eq_none (by rw [app_length, (smat_mat m).len]; exact u), List.getElem?_eq_none (by rw [(svals_vec hm hs).len]; exact u)]
  rw [← happ, minv_back (smat_mat m) (smat_full hm h0 hd h200) hv]
/-- The bytes that are found lead to the shares. -/
theorem shares_found {m : List (Nat × Nat)} (hm : ∀ p ∈ m, p.1 < 256 ∧ p.2 < 256) (h0 : ∀ p ∈ m, p.1 ≠ 0) (hd : (m.map Prod.fst).Nodup) (h200 : m.length ≤ 200) {s : Nat} (hs : s < 256) :
    ∀ p ∈ m, peval (s :: app (minv (smat m)).1 (svals m s)) p.1 = p.2 := by
  have hP : Pts ((0, s) :: m) := by
    intro q hq
    rcases List.mem_cons.1 hq with rfl | q'
    · exact ⟨by omega, hs⟩
    · exact hm q q'
  have hN : (((0, s) :: m).map Prod.fst).Nodup := by
    rw [List.map_cons, List.nodup_cons]
    refine ⟨fun h => ?_, hd⟩
    obtain ⟨p, hp, e⟩ := List.mem_map.1 h
    exact h0 p hp e
  obtain ⟨l, l1, l2, l3⟩ := interp_poly _ hP
  have hh := interp_hits _ hP hN
  cases l with
  | nil => simp at l1
  | cons c l =>
    have bl : Bytes l := fun x hx => l2 x (by simp [hx])
    have ll : l.length = m.length := by simpa using l1
    have hc : c = s := by
      have := hh (0, s) (by simp)
      rw [l3 0 (by omega), peval_cons, gmul_zero, Nat.zero_xor] at this
      exact this
    have hv : Vec m.length l := ⟨ll, bl⟩
    rw [shares_unique hm h0 hd h200 hs hv (fun p hp => by rw [← hc, ← l3 _ (hm p hp).1]; exact hh p (by simp [hp]))]
    intro p hp
    rw [← hc, ← l3 _ (hm p hp).1]
    exact hh p (by simp [hp])
end Go.Proofs.Ytekaaoeojbclfaa.K
