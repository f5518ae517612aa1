/- What the plain sort's functions are, step by step. -/
import Derived.Sort.LotA
import Derived.Sort.LotB
import Derived.Sort.LotC
import Derived.Sort.LotD1
import Derived.Sort.LotD3
namespace Go.Proofs.Ythhcgepofldgaaa.PByteU
open Go
set_option linter.unusedVariables false
abbrev L := Sort.ltInt
theorem ins_succ (a b i : Nat) (d : Array Int) (h : i < b) : Sort.insOuter L a b i d = Sort.insOuter L a b (i + 1) (Sort.insInner L a i d) := by
  rw [Sort.insOuter, if_pos h]
theorem ins_end (a b i : Nat) (d : Array Int) (h : ¬ i < b) : Sort.insOuter L a b i d = d := by
  rw [Sort.insOuter, if_neg h]
theorem inner_go (a j : Nat) (d : Array Int) (h : a < j + 1) (hl : d[j + 1]! < d[j]!) : Sort.insInner L a (j + 1) d = Sort.insInner L a j (Sort.swp d (j + 1) j) := by
  rw [Sort.insInner, if_pos (by simp [L, Sort.ltInt, h, hl])]
theorem inner_stop (a j : Nat) (d : Array Int) (h : ¬ (a < j + 1 ∧ d[j + 1]! < d[j]!)) : Sort.insInner L a (j + 1) d = d := by
  rw [Sort.insInner, if_neg]
  simpa [L, Sort.ltInt] using h
theorem inner_zero (a j : Nat) (d : Array Int) (h : ¬ a < j) : Sort.insInner L a j d = d := by
  cases j with
  | zero => rfl
  | succ j => exact inner_stop a j d (fun q => h q.1)
/-- One step of the sifting, by the child that is taken. -/
theorem sift_end (hi f r : Nat) (d : Array Int) (h : ¬ 2 * r + 1 < hi) : Sort.siftDown L hi f r d = d := by
  rw [Sort.siftDown, dif_pos (by omega)]
theorem sift_two (hi f r c : Nat) (d : Array Int) (hc : c = 2 * r + 2) (h : c < hi) (hl : d[f + (2 * r + 1)]! < d[f + c]!) :
    Sort.siftDown L hi f r d = if d[f + r]! < d[f + c]! then Sort.siftDown L hi f c (Sort.swp d (f + r) (f + c)) else d := by
  subst hc
  rw [Sort.siftDown, dif_neg (by omega), if_pos (by simp only [L, Sort.ltInt, Bool.and_eq_true, decide_eq_true_eq]; exact ⟨by omega, by rw [show f + (2 * r + 1) + 1 = f + (2 * r + 2) by omega]; exact hl⟩)]
  by_cases q : d[f + r]! < d[f + (2 * r + 2)]!
  · rw [if_neg (by simp [L, Sort.ltInt, q]), dif_pos h, if_pos q]
  · rw [if_pos (by simp [L, Sort.ltInt, q]), if_neg q]
theorem sift_one (hi f r c : Nat) (d : Array Int) (hc : c = 2 * r + 1) (h : c < hi) (hl : ¬ (c + 1 < hi ∧ d[f + c]! < d[f + (c + 1)]!)) :
    Sort.siftDown L hi f r d = if d[f + r]! < d[f + c]! then Sort.siftDown L hi f c (Sort.swp d (f + r) (f + c)) else d := by
  subst hc
  rw [Sort.siftDown, dif_neg (by omega), if_neg (by simp only [L, Sort.ltInt, Bool.and_eq_true, decide_eq_true_eq]; exact fun q => hl ⟨by omega, by have := q.2; rw [show f + (2 * r + 1) + 1 = f + (2 * r + 1 + 1) by omega] at this; exact this⟩)]
  by_cases q : d[f + r]! < d[f + (2 * r + 1)]!
  · rw [if_neg (by simp [L, Sort.ltInt, q]), if_pos q]
  · rw [if_pos (by simp [L, Sort.ltInt, q]), if_neg q]
theorem sift_size : ∀ (n hi f r : Nat) (d : Array Int), hi - r ≤ n → (Sort.siftDown L hi f r d).size = d.size := by
  intro n
  induction n with
  | zero => intro hi f r d h; rw [sift_end _ _ _ _ (by omega)]
  | succ n ih =>
    intro hi f r d h
    by_cases h1 : 2 * r + 1 < hi
    · by_cases h2 : 2 * r + 2 < hi ∧ d[f + (2 * r + 1)]! < d[f + (2 * r + 2)]!
      · rw [sift_two hi f r _ d rfl h2.1 h2.2]
        split
        · rw [ih _ _ _ _ (by omega), Sort.size_swp]
        · rfl
      · rw [sift_one hi f r _ d rfl h1 h2]
        split
        · rw [ih _ _ _ _ (by omega), Sort.size_swp]
        · rfl
    · rw [sift_end _ _ _ _ h1]
theorem siftSize (hi f r : Nat) (d : Array Int) : (Sort.siftDown L hi f r d).size = d.size := sift_size _ hi f r d (Nat.le_refl _)
/-- scans -/
theorem up_go (p : Int → Bool) (d : Array Int) (j i : Nat) (h : i ≤ j) (hp : p d[i]! = true) : Sort.scanUp p d j i = Sort.scanUp p d j (i + 1) := by
  rw [Sort.scanUp, if_pos (by simp [h, hp])]
theorem up_stop (p : Int → Bool) (d : Array Int) (j i : Nat) (h : ¬ (i ≤ j ∧ p d[i]! = true)) : Sort.scanUp p d j i = i := by
  rw [Sort.scanUp, if_neg (by simpa using h)]
theorem down_go (p : Int → Bool) (d : Array Int) (i j : Nat) (h : i ≤ j + 1) (hp : p d[j + 1]! = true) : Sort.scanDown p d i (j + 1) = Sort.scanDown p d i j := by
  rw [Sort.scanDown, if_pos (by simp [h, hp])]
theorem down_stop (p : Int → Bool) (d : Array Int) (i j : Nat) (h : ¬ (i ≤ j ∧ p d[j]! = true)) : Sort.scanDown p d i j = j := by
  cases j with
  | zero => rfl
  | succ j => rw [Sort.scanDown, if_neg (by simpa using h)]
theorem sorted_go (d : Array Int) (b i : Nat) (h : i < b) (hl : ¬ d[i]! < d[i - 1]!) : Sort.scanSorted L d b i = Sort.scanSorted L d b (i + 1) := by
  rw [Sort.scanSorted, if_pos (by simp [L, Sort.ltInt, h, hl])]
theorem sorted_stop (d : Array Int) (b i : Nat) (h : ¬ (i < b ∧ ¬ d[i]! < d[i - 1]!)) : Sort.scanSorted L d b i = i := by
  rw [Sort.scanSorted, if_neg]
  simpa [L, Sort.ltInt] using h
theorem shd_go (j : Nat) (d : Array Int) (h : d[j + 1]! < d[j]!) : Sort.shiftDown L (j + 1) d = Sort.shiftDown L j (Sort.swp d (j + 1) j) := by
  rw [Sort.shiftDown, if_neg (by simp [L, Sort.ltInt, h])]
theorem shd_stop (j : Nat) (d : Array Int) (h : ¬ d[j + 1]! < d[j]!) : Sort.shiftDown L (j + 1) d = d := by
  rw [Sort.shiftDown, if_pos (by simp [L, Sort.ltInt, h])]
theorem shu_go (b j : Nat) (d : Array Int) (hj : j < b) (h : d[j]! < d[j - 1]!) : Sort.shiftUp L b j d = Sort.shiftUp L b (j + 1) (Sort.swp d j (j - 1)) := by
  rw [Sort.shiftUp, if_pos hj, if_neg (by simp [L, Sort.ltInt, h])]
theorem shu_stop (b j : Nat) (d : Array Int) (h : ¬ (j < b ∧ d[j]! < d[j - 1]!)) : Sort.shiftUp L b j d = d := by
  rw [Sort.shiftUp]
  split
  · rename_i hj
    rw [if_pos]
    simp only [L, Sort.ltInt, Bool.not_eq_true', decide_eq_false_iff_not]
    exact fun q => h ⟨hj, q⟩
  · rfl
theorem shd_size : ∀ (j : Nat) (d : Array Int), (Sort.shiftDown L j d).size = d.size := by
  intro j
  induction j with
  | zero => intro d; rfl
  | succ j ih =>
    intro d
    by_cases h : d[j + 1]! < d[j]!
    · rw [shd_go _ _ h, ih, Sort.size_swp]
    · rw [shd_stop _ _ h]
theorem shu_size (b : Nat) : ∀ (n j : Nat) (d : Array Int), b - j ≤ n → (Sort.shiftUp L b j d).size = d.size := by
  intro n
  induction n with
  | zero => intro j d h; rw [shu_stop _ _ _ (by omega)]
  | succ n ih =>
    intro j d h
    by_cases q : j < b ∧ d[j]! < d[j - 1]!
    · rw [shu_go _ _ _ q.1 q.2, ih _ _ (by omega), Sort.size_swp]
    · rw [shu_stop _ _ _ q]
theorem rev_go (i j : Nat) (d : Array Int) (h : i < j) : Sort.reverseLoop i j d = Sort.reverseLoop (i + 1) (j - 1) (Sort.swp d i j) := by
  rw [Sort.reverseLoop, if_pos h]
theorem rev_stop (i j : Nat) (d : Array Int) (h : ¬ i < j) : Sort.reverseLoop i j d = d := by
  rw [Sort.reverseLoop, if_neg h]
/-- The two loops of the partitions, by what the scans find. -/
def upE (d : Array Int) (a : Nat) : Int → Bool := fun x => !L d[a]! x
def dnE (d : Array Int) (a : Nat) : Int → Bool := fun x => L d[a]! x
def upP (d : Array Int) (a : Nat) : Int → Bool := fun x => L x d[a]!
def dnP (d : Array Int) (a : Nat) : Int → Bool := fun x => !L x d[a]!
theorem upE_t {d : Array Int} {a : Nat} {x : Int} (h : ¬ d[a]! < x) : upE d a x = true := by simp [upE, L, Sort.ltInt]; omega
theorem upE_f {d : Array Int} {a : Nat} {x : Int} (h : d[a]! < x) : ¬ upE d a x = true := by simp [upE, L, Sort.ltInt]; omega
theorem dnE_t {d : Array Int} {a : Nat} {x : Int} (h : d[a]! < x) : dnE d a x = true := by simp [dnE, L, Sort.ltInt]; omega
theorem dnE_f {d : Array Int} {a : Nat} {x : Int} (h : ¬ d[a]! < x) : ¬ dnE d a x = true := by simp [dnE, L, Sort.ltInt]; omega
theorem upP_t {d : Array Int} {a : Nat} {x : Int} (h : x < d[a]!) : upP d a x = true := by simp [upP, L, Sort.ltInt]; omega
theorem upP_f {d : Array Int} {a : Nat} {x : Int} (h : ¬ x < d[a]!) : ¬ upP d a x = true := by simp [upP, L, Sort.ltInt]; omega
theorem dnP_t {d : Array Int} {a : Nat} {x : Int} (h : ¬ x < d[a]!) : dnP d a x = true := by simp [dnP, L, Sort.ltInt]; omega
theorem dnP_f {d : Array Int} {a : Nat} {x : Int} (h : x < d[a]!) : ¬ dnP d a x = true := by simp [dnP, L, Sort.ltInt]; omega
theorem neE {d : Array Int} {a i j : Nat} (h1 : ¬ upE d a d[i]! = true) (h2 : ¬ dnE d a d[j]! = true) : i ≠ j := by
  rintro rfl
  simp [upE, dnE, L, Sort.ltInt] at h1 h2
  omega
theorem neP {d : Array Int} {a i j : Nat} (h1 : ¬ upP d a d[i]! = true) (h2 : ¬ dnP d a d[j]! = true) : i ≠ j := by
  rintro rfl
  simp [upP, dnP, L, Sort.ltInt] at h1 h2
  omega
theorem peq_end {a i j i2 j2 : Nat} {d : Array Int} (h1 : Sort.scanUp (upE d a) d j i = i2) (h2 : Sort.scanDown (dnE d a) d i2 j = j2) (h : j2 < i2) : Sort.partEqLoop L a i j d = (i2, d) := by
  unfold upE at h1
  unfold dnE at h2
  rw [Sort.partEqLoop_eq]
  simp only [h1, h2]
  rw [if_pos h]
theorem peq_go {a i j i2 j2 : Nat} {d : Array Int} (h1 : Sort.scanUp (upE d a) d j i = i2) (h2 : Sort.scanDown (dnE d a) d i2 j = j2) (h : ¬ j2 < i2) : Sort.partEqLoop L a i j d = Sort.partEqLoop L a (i2 + 1) (j2 - 1) (Sort.swp d i2 j2) := by
  unfold upE at h1
  unfold dnE at h2
  rw [Sort.partEqLoop_eq]
  simp only [h1, h2]
  rw [if_neg h]
theorem prt_end {a i j i2 j2 : Nat} {d : Array Int} (h1 : Sort.scanUp (upP d a) d j i = i2) (h2 : Sort.scanDown (dnP d a) d i2 j = j2) (h : j2 < i2) : Sort.partLoop L a i j d = (j2, d) := by
  unfold upP at h1
  unfold dnP at h2
  rw [Sort.partLoop_eq]
  simp only [h1, h2]
  rw [if_pos h]
theorem prt_go {a i j i2 j2 : Nat} {d : Array Int} (h1 : Sort.scanUp (upP d a) d j i = i2) (h2 : Sort.scanDown (dnP d a) d i2 j = j2) (h : ¬ j2 < i2) : Sort.partLoop L a i j d = Sort.partLoop L a (i2 + 1) (j2 - 1) (Sort.swp d i2 j2) := by
  unfold upP at h1
  unfold dnP at h2
  rw [Sort.partLoop_eq]
  simp only [h1, h2]
  rw [if_neg h]
theorem part_end {a b p i2 j2 : Nat} {d d0 : Array Int} (h0 : Sort.swp d a p = d0) (h1 : Sort.scanUp (upP d0 a) d0 (b - 1) (a + 1) = i2) (h2 : Sort.scanDown (dnP d0 a) d0 i2 (b - 1) = j2) (h : j2 < i2) : Sort.partition L d a b p = (j2, true, Sort.swp d0 j2 a) := by
  subst h0
  unfold upP at h1
  unfold dnP at h2
  unfold Sort.partition
  simp only [h1, h2]
  rw [if_pos h]
theorem part_go {a b p i2 j2 : Nat} {d d0 : Array Int} (h0 : Sort.swp d a p = d0) (h1 : Sort.scanUp (upP d0 a) d0 (b - 1) (a + 1) = i2) (h2 : Sort.scanDown (dnP d0 a) d0 i2 (b - 1) = j2) (h : ¬ j2 < i2) :
    Sort.partition L d a b p = ((Sort.partLoop L a (i2 + 1) (j2 - 1) (Sort.swp d0 i2 j2)).1, false, Sort.swp (Sort.partLoop L a (i2 + 1) (j2 - 1) (Sort.swp d0 i2 j2)).2 (Sort.partLoop L a (i2 + 1) (j2 - 1) (Sort.swp d0 i2 j2)).1 a) := by
  subst h0
  unfold upP at h1
  unfold dnP at h2
  unfold Sort.partition
  simp only [h1, h2]
  rw [if_neg h]
end Go.Proofs.Ythhcgepofldgaaa.PByteU
