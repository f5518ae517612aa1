/- The recency rank of a byte and its way back: plain Lean on lists. -/
import Derived.Test.YtkpdpblgnhoplaaKKit
set_option linter.unusedVariables false
set_option linter.unusedSimpArgs false
namespace Go.Proofs.Ytkpdpblgnhoplaa.K
open Go Go.RowKit Go.Proofs.YtkpdpblgnhoplaaW.PrintWords

/-- What stands in a place comes to the front. -/
def front (row : List Int) (k : Nat) : List Int := row.getD k 0 :: (row.take k ++ row.drop (k + 1))
theorem front_length {row : List Int} {k : Nat} (h : k < row.length) : (front row k).length = row.length := by
  simp only [front, List.length_cons, List.length_append, List.length_take, List.length_drop]; omega
theorem front_perm {row : List Int} {k : Nat} (h : k < row.length) : (front row k).Perm row := by
  have e : row = row.take k ++ row[k] :: row.drop (k + 1) := by rw [← List.drop_eq_getElem_cons h, List.take_append_drop]
  have hg : row.getD k 0 = row[k] := by simp [List.getElem?_eq_getElem h]
  rw [front, hg]
  conv => rhs; rw [e]
  exact List.perm_middle.symm
/-- A row of all bytes, each once. -/
structure Row (row : List Int) : Prop where
  len : row.length = 256
  mem : ∀ x : Int, 0 ≤ x → x ≤ 255 → x ∈ row
  rng : ∀ x ∈ row, 0 ≤ x ∧ x ≤ 255
  nodup : row.Nodup
theorem Row.front {row : List Int} (h : Row row) {k : Nat} (hk : k < 256) : Row (front row k) := by
  have hl : k < row.length := by rw [h.len]; exact hk
  have hp := front_perm hl
  exact ⟨(front_length hl).trans h.len, fun x h0 h1 => hp.mem_iff.2 (h.mem x h0 h1), fun x hx => h.rng x (hp.mem_iff.1 hx), hp.nodup_iff.2 h.nodup⟩
/-- All bytes in their order. -/
def bytesRow : List Int := (List.range 256).map (fun n : Nat => (n : Int))
theorem bytesRow_row : Row bytesRow := by
  refine ⟨by simp [bytesRow], fun x h0 h1 => ?_, fun x hx => ?_, ?_⟩
  · exact List.mem_map.2 ⟨x.toNat, List.mem_range.2 (by omega), by omega⟩
  · obtain ⟨n, hn, rfl⟩ := List.mem_map.1 hx
    have := List.mem_range.1 hn
    omega
  · unfold bytesRow
    rw [List.nodup_iff_pairwise_ne, List.pairwise_map]
    exact List.nodup_range.imp (fun h e => h (by omega))
/-- The ranks of a text's bytes. -/
def ranks : List Int → List Int → List Int
  | _, [] => []
  | row, b :: s => (row.idxOf b : Int) :: ranks (front row (row.idxOf b)) s
/-- The bytes of ranks. -/
def unrank : List Int → List Int → List Int
  | _, [] => []
  | row, k :: l => row.getD k.toNat 0 :: unrank (front row k.toNat) l
theorem idx_lt {row : List Int} (h : Row row) {b : Int} (h0 : 0 ≤ b) (h1 : b ≤ 255) : row.idxOf b < 256 := by
  rw [← h.len]; exact List.idxOf_lt_length_of_mem (h.mem b h0 h1)
theorem ranks_length (s : List Int) : ∀ row, (ranks row s).length = s.length := by
  induction s with
  | nil => intro row; rfl
  | cons b s ih => intro row; simp [ranks, ih]
theorem ranks_rng (s : List Int) (hs : ∀ b ∈ s, 0 ≤ b ∧ b ≤ 255) : ∀ row, Row row → ∀ x ∈ ranks row s, 0 ≤ x ∧ x ≤ 255 := by
  induction s with
  | nil => intro row _ x hx; simp [ranks] at hx
  | cons b s ih =>
    intro row h x hx
    have hb := hs b (by simp)
    have hi := idx_lt h hb.1 hb.2
    simp only [ranks, List.mem_cons] at hx
    rcases hx with rfl | hx
    · omega
    · exact ih (fun y hy => hs y (by simp [hy])) _ (h.front hi) x hx
theorem unrank_length (l : List Int) : ∀ row, (unrank row l).length = l.length := by
  induction l with
  | nil => intro row; rfl
  | cons b s ih => intro row; simp [unrank, ih]
theorem unrank_rng (l : List Int) (hl : ∀ b ∈ l, 0 ≤ b ∧ b ≤ 255) : ∀ row, Row row → ∀ x ∈ unrank row l, 0 ≤ x ∧ x ≤ 255 := by
  induction l with
  | nil => intro row _ x hx; simp [unrank] at hx
  | cons k s ih =>
    intro row h x hx
    have hb := hl k (by simp)
    have hk : k.toNat < row.length := by rw [h.len]; omega
    simp only [unrank, List.mem_cons] at hx
    rcases hx with rfl | hx
    · rw [List.getD_eq_getElem?_getD, List.getElem?_eq_getElem hk]
      exact h.rng _ (List.getElem_mem hk)
    · exact ih (fun y hy => hl y (by simp [hy])) _ (h.front (by omega)) x hx
theorem unrank_ranks (s : List Int) (hs : ∀ b ∈ s, 0 ≤ b ∧ b ≤ 255) : ∀ row, Row row → unrank row (ranks row s) = s := by
  induction s with
  | nil => intro row _; rfl
  | cons b s ih =>
    intro row h
    have hb := hs b (by simp)
    have hi := idx_lt h hb.1 hb.2
    have hm : row.idxOf b < row.length := by rw [h.len]; exact hi
    simp only [ranks, unrank, Int.toNat_natCast]
    rw [ih (fun y hy => hs y (by simp [hy])) _ (h.front hi)]
    congr 1
    rw [List.getD_eq_getElem?_getD, List.getElem?_eq_getElem hm]
    exact List.getElem_idxOf hm
theorem ranks_unrank (l : List Int) (hl : ∀ b ∈ l, 0 ≤ b ∧ b ≤ 255) : ∀ row, Row row → ranks row (unrank row l) = l := by
  induction l with
  | nil => intro row _; rfl
  | cons k s ih =>
    intro row h
    have hb := hl k (by simp)
    have hk : k.toNat < row.length := by rw [h.len]; omega
    have e : row.idxOf (row.getD k.toNat 0) = k.toNat := by
      rw [List.getD_eq_getElem?_getD, List.getElem?_eq_getElem hk]
      exact h.nodup.idxOf_getElem _ hk
    simp only [ranks, unrank, e]
    rw [ih (fun y hy => hl y (by simp [hy])) _ (h.front (by omega))]
    congr 1
    omega
/-- Behind the first byte a rank is 0 just where a byte is the one ahead. -/
theorem ranks_zero (s : List Int) : ∀ (row : List Int) (hr : Row row) (hs : ∀ b ∈ s, 0 ≤ b ∧ b ≤ 255) (i : Nat), i + 1 < s.length → ((ranks row s).getD (i + 1) 0 = 0 ↔ s.getD (i + 1) 0 = s.getD i 0) := by
  induction s with
  | nil => intro row _ _ i h; simp at h
  | cons b s ih =>
    intro row hr hs i h
    have hb := hs b (by simp)
    have hi := idx_lt hr hb.1 hb.2
    have hm : row.idxOf b < row.length := by rw [hr.len]; exact hi
    cases i with
    | succ i => simpa [ranks] using ih _ (hr.front hi) (fun y hy => hs y (by simp [hy])) i (by simpa using h)
    | zero =>
      cases s with
      | nil => simp at h
      | cons c s =>
        have hf : front row (row.idxOf b) = b :: (row.take (row.idxOf b) ++ row.drop (row.idxOf b + 1)) := by
          rw [front, List.getD_eq_getElem?_getD, List.getElem?_eq_getElem hm, Option.getD_some, List.getElem_idxOf hm]
        simp only [ranks, List.getD_cons_succ, List.getD_cons_zero, hf]
        by_cases hc : c = b
        · simp [hc, List.idxOf_cons]
        · have : ¬ b = c := fun e => hc e.symm
          simp only [List.idxOf_cons, beq_eq_false_iff_ne.mpr this, cond_false, hc, iff_false]
          omega
end Go.Proofs.Ytkpdpblgnhoplaa.K
