/- Sorted rows of texts: plain Lean, with no program in sight. -/
import Derived.Test.YthhcgepofldgaaaPSortO
open Go
namespace Go.Proofs.Ythhcgepofldgaaa.K
/-- The order of texts by their bytes. -/
def Le (x y : List UInt8) : Prop := Lib.compareBytes x y ≤ 0
theorem cmp_zero : ∀ x y : List UInt8, Lib.compareBytes x y = 0 → x = y
  | [], [], _ => rfl
  | [], _ :: _, h => by simp [Lib.compareBytes] at h
  | _ :: _, [], h => by simp [Lib.compareBytes] at h
  | a :: x, b :: y, h => by
    simp only [Lib.compareBytes, UInt8.lt_iff_toNat_lt] at h
    by_cases c : a.toNat < b.toNat
    · rw [if_pos c] at h; omega
    · rw [if_neg c] at h
      by_cases d : b.toNat < a.toNat
      · rw [if_pos d] at h; omega
      · rw [if_neg d] at h
        obtain rfl : a = b := UInt8.toNat_inj.mp (by omega)
        rw [cmp_zero x y h]
theorem Le.anti {x y : List UInt8} (h1 : Le x y) (h2 : Le y x) : x = y := by
  have := (Go.Proofs.Ythhcgepofldgaaa.PSortO.cmpB_anti x y)
  unfold Le at *
  exact cmp_zero x y (by omega)
/-- Two sorted rows of the same texts are the same. -/
theorem unique_sorted {l1 l2 : List (List UInt8)} (h1 : l1.Pairwise Le) (h2 : l2.Pairwise Le) (hp : List.Perm l1 l2) : l1 = l2 :=
  List.Perm.eq_of_pairwise (fun _ _ _ _ a b => Le.anti a b) h1 h2 hp
end Go.Proofs.Ythhcgepofldgaaa.K
namespace Go.Proofs.Ythhcgepofldgaaa.K
/-- The last element ahead of the others. -/
def rotR (l : List UInt8) : List UInt8 := match l.getLast? with
  | none => []
  | some b => b :: l.dropLast
def rotL (l : List UInt8) : List UInt8 := match l with
  | [] => []
  | a :: x => x ++ [a]
theorem rotL_rotR (l : List UInt8) : rotL (rotR l) = l := by
  unfold rotR
  cases h : l.getLast? with
  | none => rw [List.getLast?_eq_none_iff] at h; subst h; rfl
  | some b =>
    simp only [rotL]
    have hne : l ≠ [] := fun e => by subst e; simp at h
    rw [List.getLast?_eq_some_getLast hne] at h
    obtain rfl := Option.some.inj h
    exact List.dropLast_concat_getLast hne
/-- Alike long rows in order: so are they without their last elements. -/
theorem Le.dropLast : ∀ {x y : List UInt8}, x.length = y.length → Le x y → Le x.dropLast y.dropLast
  | [], [], _, _ => by unfold Le; simp [Lib.compareBytes]
  | [a], [b], _, _ => by unfold Le; simp [Lib.compareBytes]
  | a :: a2 :: x, b :: b2 :: y, hl, h => by
    have ih := @Le.dropLast (a2 :: x) (b2 :: y) (by simpa using hl)
    unfold Le at *
    rw [List.dropLast_cons_cons, List.dropLast_cons_cons]
    rw [Lib.compareBytes] at h ⊢
    by_cases c : a < b
    · rw [if_pos c]; decide
    · rw [if_neg c] at h ⊢
      by_cases d : b < a
      · rw [if_pos d] at h; omega
      · rw [if_neg d] at h ⊢
        exact ih h
  | [], _ :: _, h, _ => by simp at h
  | _ :: _, [], h, _ => by simp at h
  | [_], _ :: _ :: _, h, _ => by simp at h
  | _ :: _ :: _, [_], h, _ => by simp at h
theorem Le.cons {a b : UInt8} {x y : List UInt8} (h : a < b ∨ (a = b ∧ Le x y)) : Le (a :: x) (b :: y) := by
  unfold Le at *
  rw [Lib.compareBytes]
  rcases h with h | ⟨rfl, h⟩
  · rw [if_pos h]; decide
  · rw [if_neg (by simp), if_neg (by simp)]; exact h
end Go.Proofs.Ythhcgepofldgaaa.K
namespace Go.Proofs.Ythhcgepofldgaaa.K
/-- The row, turned by j. -/
def rotN (l : List UInt8) (j : Nat) : List UInt8 := l.drop j ++ l.take j
theorem rotN_length (l : List UInt8) (j : Nat) : (rotN l j).length = l.length := by
  simp only [rotN, List.length_append, List.length_drop, List.length_take]; omega
theorem rotL_rotN (l : List UInt8) (j : Nat) (hj : j < l.length) : rotL (rotN l j) = rotN l (if j + 1 = l.length then 0 else j + 1) := by
  have e : l.drop j = l[j] :: l.drop (j + 1) := List.drop_eq_getElem_cons hj
  have e2 : l.take (j + 1) = l.take j ++ [l[j]] := by rw [List.take_succ_eq_append_getElem hj]
  unfold rotN
  rw [e]
  simp only [List.cons_append, rotL]
  split
  · rename_i c
    have e3 : l.drop (j + 1) = [] := List.drop_eq_nil_of_le (by omega)
    rw [e3, List.nil_append, ← e2, List.take_of_length_le (by omega)]
    simp
  · rw [e2, List.append_assoc]
theorem turnB_list (s : ByteArray) (j : Nat) (hj : j ≤ s.size) : (Go.Proofs.Ythhcgepofldgaaa.PSortO.turnB s (j : Int)).data.toList = rotN s.data.toList j := by
  unfold Go.Proofs.Ythhcgepofldgaaa.PSortO.turnB rotN
  rw [ByteArray.data_append, Array.toList_append, ByteArray.data_extract, ByteArray.data_extract, Array.toList_extract, Array.toList_extract, Int.toNat_natCast]
  have hs : s.data.toList.length = s.size := by rw [Array.length_toList]; rfl
  simp only [List.extract_eq_take_drop, List.drop_zero, Nat.sub_zero]
  rw [List.take_of_length_le (by rw [List.length_drop]; omega)]
end Go.Proofs.Ythhcgepofldgaaa.K
namespace Go.Proofs.Ythhcgepofldgaaa.K
/-- The turnings of a row, as a set of n, are permuted by one more turn. -/
theorem turns_perm (l : List UInt8) : List.Perm ((List.range l.length).map fun j => rotL (rotN l j)) ((List.range l.length).map fun j => rotN l j) := by
  have e : ((List.range l.length).map fun j => rotL (rotN l j)) = ((List.range l.length).map fun j => rotN l (if j + 1 = l.length then 0 else j + 1)) :=
    List.map_congr_left fun j hj => rotL_rotN l j (List.mem_range.mp hj)
  rw [e]
  have e2 : ((List.range l.length).map fun j => rotN l (if j + 1 = l.length then 0 else j + 1)) = ((List.range l.length).map fun j => if j + 1 = l.length then 0 else j + 1).map (rotN l) := by
    rw [List.map_map]; rfl
  rw [e2]
  refine List.Perm.map _ ?_
  have nd : ((List.range l.length).map fun j => if j + 1 = l.length then 0 else j + 1).Nodup := by
    unfold List.Nodup
    rw [List.pairwise_map]
    refine List.pairwise_lt_range.imp_of_mem ?_
    intro a b ha hb hab
    have := List.mem_range.mp hb
    split <;> split <;> omega
  refine (List.perm_ext_iff_of_nodup nd List.nodup_range).mpr fun x => ?_
  simp only [List.mem_map, List.mem_range]
  constructor
  · rintro ⟨j, hj, rfl⟩
    split <;> omega
  · intro hx
    by_cases c : x = 0
    · exact ⟨l.length - 1, by omega, by rw [if_pos (by omega)]; exact c.symm⟩
    · exact ⟨x - 1, by omega, by rw [if_neg (by omega)]; omega⟩
end Go.Proofs.Ythhcgepofldgaaa.K
namespace Go.Proofs.Ythhcgepofldgaaa.K
/-- Rows in order, and their places by their last bytes: turned back they stand in order. -/
theorem next_rows (R : List (List UInt8)) (m : Nat) (hm : ∀ x ∈ R, x.length = m) (hR : R.Pairwise Le) (t : Nat → UInt8) (ht : ∀ k (h : k < R.length), (R[k]'h).getLast? = some (t k)) (P : List Nat) (hP : P.Pairwise fun a b => t a < t b ∨ (t a = t b ∧ a < b)) (hb : ∀ a ∈ P, a < R.length) :
    (P.map fun k => rotR (R.getD k [])).Pairwise Le := by
  rw [List.pairwise_map]
  refine hP.imp_of_mem ?_
  intro a b ha hbm h
  have ra := hb a ha
  have rb := hb b hbm
  have ga : R.getD a [] = R[a]'ra := by rw [List.getD_eq_getElem?_getD, List.getElem?_eq_getElem ra]; rfl
  have gb : R.getD b [] = R[b]'rb := by rw [List.getD_eq_getElem?_getD, List.getElem?_eq_getElem rb]; rfl
  rw [ga, gb]
  unfold rotR
  rw [ht a ra, ht b rb]
  refine Le.cons ?_
  rcases h with h | ⟨h1, h2⟩
  · exact .inl h
  · refine .inr ⟨h1, Le.dropLast ?_ (List.pairwise_iff_getElem.mp hR a b ra rb h2)⟩
    rw [hm _ (List.getElem_mem ra), hm _ (List.getElem_mem rb)]
end Go.Proofs.Ythhcgepofldgaaa.K
namespace Go.Proofs.Ythhcgepofldgaaa.K
/-- A sorted row of all turnings: the row behind a place's next is turned by one. -/
theorem next_is (R : List (List UInt8)) (m : Nat) (hm : ∀ x ∈ R, x.length = m) (hR : R.Pairwise Le) (t : Nat → UInt8) (ht : ∀ k (h : k < R.length), (R[k]'h).getLast? = some (t k)) (P : List Nat) (hP : P.Pairwise fun a b => t a < t b ∨ (t a = t b ∧ a < b)) (hb : ∀ a ∈ P, a < R.length)
    (hp : List.Perm (P.map fun k => rotR (R.getD k [])) R) (k : Nat) (hk : k < P.length) (hk2 : k < R.length) : R.getD (P[k]'hk) [] = rotL (R[k]'hk2) := by
  have e := unique_sorted (next_rows R m hm hR t ht P hP hb) hR hp
  have e2 : (P.map fun k => rotR (R.getD k []))[k]'(by rw [List.length_map]; exact hk) = R[k]'hk2 := by
    simp only [e]
  rw [List.getElem_map] at e2
  rw [← e2, rotL_rotR]
end Go.Proofs.Ythhcgepofldgaaa.K
namespace Go.Proofs.Ythhcgepofldgaaa.K
theorem rotR_rotL (l : List UInt8) : rotR (rotL l) = l := by
  cases l with
  | nil => rfl
  | cons a x => simp [rotL, rotR]
/-- All places, each once: the rows turned back are the turnings again. -/
theorem back_perm (l : List UInt8) (R : List (List UInt8)) (hp : List.Perm R ((List.range l.length).map fun j => rotN l j)) (P : List Nat) (hP : List.Perm P (List.range R.length)) : List.Perm (P.map fun k => rotR (R.getD k [])) R := by
  have e1 : List.Perm (P.map fun k => rotR (R.getD k [])) ((List.range R.length).map fun k => rotR (R.getD k [])) := hP.map _
  have e2 : ((List.range R.length).map fun k => rotR (R.getD k [])) = R.map rotR := by
    refine List.ext_getElem (by simp) fun i h1 h2 => ?_
    simp only [List.getElem_map, List.getElem_range]
    rw [List.length_map] at h2
    rw [List.getD_eq_getElem?_getD, List.getElem?_eq_getElem h2]; rfl
  rw [e2] at e1
  refine e1.trans ?_
  have e3 : List.Perm (R.map rotR) (((List.range l.length).map fun j => rotL (rotN l j)).map rotR) := (hp.trans (turns_perm l).symm).map rotR
  have e4 : (((List.range l.length).map fun j => rotL (rotN l j)).map rotR) = (List.range l.length).map fun j => rotN l j := by
    rw [List.map_map]
    exact List.map_congr_left fun j _ => rotR_rotL _
  rw [e4] at e3
  exact e3.trans hp.symm
end Go.Proofs.Ythhcgepofldgaaa.K
namespace Go.Proofs.Ythhcgepofldgaaa.K
theorem last_rotL (l : List UInt8) : (rotL l).getLast? = l.head? := by
  cases l with
  | nil => rfl
  | cons a x => simp [rotL]
/-- What one round of the way back hands out: the text's next byte. -/
theorem hands (l : List UInt8) (R : List (List UInt8)) (m : Nat) (hm : ∀ x ∈ R, x.length = m) (hR : R.Pairwise Le) (t : Nat → UInt8) (ht : ∀ k (h : k < R.length), (R[k]'h).getLast? = some (t k)) (P : List Nat) (hP : P.Pairwise fun a b => t a < t b ∨ (t a = t b ∧ a < b)) (hb : ∀ a ∈ P, a < R.length)
    (hp : List.Perm (P.map fun k => rotR (R.getD k [])) R) (k : Nat) (hk : k < l.length) (cur : Nat) (hc : cur < P.length) (hc2 : cur < R.length) (e : R[cur]'hc2 = rotN l k) :
    t (P[cur]'hc) = l[k] ∧ R.getD (P[cur]'hc) [] = rotN l (if k + 1 = l.length then 0 else k + 1) := by
  have n1 := next_is R m hm hR t ht P hP hb hp cur hc hc2
  have hpc : P[cur]'hc < R.length := hb _ (List.getElem_mem hc)
  have g : R.getD (P[cur]'hc) [] = R[P[cur]'hc]'hpc := by rw [List.getD_eq_getElem?_getD, List.getElem?_eq_getElem hpc]; rfl
  constructor
  · have h1 := ht (P[cur]'hc) hpc
    rw [← g, n1, e, last_rotL] at h1
    unfold rotN at h1
    rw [List.drop_eq_getElem_cons hk, List.cons_append, List.head?_cons] at h1
    exact (Option.some.inj h1).symm
  · rw [n1, e, rotL_rotN l k hk]
end Go.Proofs.Ythhcgepofldgaaa.K
namespace Go.Proofs.Ythhcgepofldgaaa.K
theorem rotL_length (l : List UInt8) : (rotL l).length = l.length := by cases l <;> simp [rotL]
theorem rotN_succ (l : List UInt8) (j : Nat) (hj : j < l.length) : rotL (rotN l j) = rotN l (j + 1) := by
  rw [rotL_rotN l j hj]
  split
  · rename_i c
    have e1 : l.drop (j + 1) = [] := List.drop_eq_nil_of_le (by omega)
    have e2 : l.take (j + 1) = l := List.take_of_length_le (by omega)
    simp [rotN, e1, e2]
  · rfl
theorem rotN_rotL (l : List UInt8) (j : Nat) (hj : j < l.length) : rotN (rotL l) j = rotN l (j + 1) := by
  cases l with
  | nil => simp at hj
  | cons a x =>
    have h : j ≤ x.length := by simp only [List.length_cons] at hj; omega
    unfold rotN
    simp only [rotL, List.drop_append_of_le_length h, List.take_append_of_le_length h, List.drop_succ_cons, List.take_succ_cons, List.append_assoc, List.singleton_append]
theorem turns_rotL (l : List UInt8) : List.Perm ((List.range (rotL l).length).map fun j => rotN (rotL l) j) ((List.range l.length).map fun j => rotN l j) := by
  rw [rotL_length]
  have e : ((List.range l.length).map fun j => rotN (rotL l) j) = (List.range l.length).map fun j => rotL (rotN l j) :=
    List.map_congr_left fun j hj => (rotN_rotL l j (List.mem_range.mp hj)).trans (rotN_succ l j (List.mem_range.mp hj)).symm
  rw [e]
  exact turns_perm l
/-- Step 6: a turned row has the same turnings. -/
theorem turns_rotN (l : List UInt8) : ∀ a : Nat, a ≤ l.length → List.Perm ((List.range (rotN l a).length).map fun j => rotN (rotN l a) j) ((List.range l.length).map fun j => rotN l j)
  | 0, _ => by simp [rotN]
  | a + 1, h => by
    rw [← rotN_succ l a (by omega)]
    exact (turns_rotL _).trans (turns_rotN l a (by omega))
end Go.Proofs.Ythhcgepofldgaaa.K
namespace Go.Proofs.Ythhcgepofldgaaa.K
/-- The last byte of a turning: the one ahead of its place. -/
theorem rotN_last (l : List UInt8) (j : Nat) (hj : j < l.length) : (rotN l j).getLast? = l[if j = 0 then l.length - 1 else j - 1]? := by
  unfold rotN
  split
  · rename_i c
    subst c
    rw [List.drop_zero, List.take_zero, List.append_nil, List.getLast?_eq_getElem?]
  · rename_i c
    obtain ⟨i, rfl⟩ : ∃ i, j = i + 1 := ⟨j - 1, by omega⟩
    have e2 : l.take (i + 1) = l.take i ++ [l[i]] := by rw [List.take_succ_eq_append_getElem (by omega)]
    rw [e2, ← List.append_assoc, List.getLast?_concat, Nat.add_sub_cancel, List.getElem?_eq_getElem (by omega)]
end Go.Proofs.Ythhcgepofldgaaa.K
