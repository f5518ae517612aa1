/- A stable sort's steps on lists of numbers: exchanges, rotations, merges: plain Lean, with no program in sight. -/
import Derived.Test.YthhcgepofldgaaaKKit
set_option linter.unusedVariables false
set_option linter.unusedSimpArgs false
namespace Go.Proofs.Ythhcgepofldgaaa.K
/-- What stands in a place. -/
def at_ (d : List Int) (i : Nat) : Int := d.getD i 0
theorem at_set (d : List Int) (i j : Nat) (x : Int) (hi : i < d.length) : at_ (d.set i x) j = if i = j then x else at_ d j := by
  unfold at_
  rw [List.getD_eq_getElem?_getD, List.getElem?_set, List.getD_eq_getElem?_getD]
  by_cases e : i = j
  · subst e; simp [hi]
  · simp [e]
/-- Two places of a list exchanged. -/
def swp (d : List Int) (x y : Nat) : List Int := (d.set x (d.getD y 0)).set y (d.getD x 0)
theorem swp_length (d : List Int) (x y : Nat) : (swp d x y).length = d.length := by simp [swp]
theorem swp_at (d : List Int) (x y k : Nat) (hx : x < d.length) (hy : y < d.length) : at_ (swp d x y) k = if k = y then at_ d x else if k = x then at_ d y else at_ d k := by
  unfold swp
  rw [at_set _ _ _ _ (by simpa using hy), at_set _ _ _ _ hx]
  by_cases h1 : k = y
  · rw [if_pos h1.symm, if_pos h1]; rfl
  · rw [if_neg (fun e => h1 e.symm), if_neg h1]
    by_cases h2 : k = x
    · rw [if_pos h2.symm, if_pos h2]; rfl
    · rw [if_neg (fun e => h2 e.symm), if_neg h2]
/-- Two pieces of a list exchanged: n elements from a on with those from b on. -/
def swR (d : List Int) (a b : Nat) : Nat → List Int
  | 0 => d
  | n + 1 => swp (swR d a b n) (a + n) (b + n)
theorem swR_length (d : List Int) (a b : Nat) : ∀ n, (swR d a b n).length = d.length
  | 0 => rfl
  | n + 1 => by rw [swR, swp_length, swR_length]
theorem swR_at (d : List Int) (a b : Nat) : ∀ n, a + n ≤ b → b + n ≤ d.length → ∀ k, at_ (swR d a b n) k = if a ≤ k ∧ k < a + n then at_ d (k - a + b) else if b ≤ k ∧ k < b + n then at_ d (k - b + a) else at_ d k
  | 0, h1, h2, k => by rw [swR, if_neg (by omega), if_neg (by omega)]
  | n + 1, h1, h2, k => by
    have ih := swR_at d a b n (by omega) (by omega)
    rw [swR, swp_at _ _ _ _ (by rw [swR_length]; omega) (by rw [swR_length]; omega)]
    by_cases e1 : k = b + n
    · subst e1
      rw [if_pos rfl, ih, if_neg (by omega), if_neg (by omega), if_neg (by omega), if_pos (by omega)]
      congr 1; omega
    · rw [if_neg e1]
      by_cases e2 : k = a + n
      · subst e2
        rw [if_pos rfl, ih, if_neg (by omega), if_neg (by omega), if_pos (by omega)]
        congr 1; omega
      · rw [if_neg e2, ih]
        by_cases c1 : a ≤ k ∧ k < a + n
        · rw [if_pos c1, if_pos (by omega)]
        · rw [if_neg c1, if_neg (show ¬ (a ≤ k ∧ k < a + (n + 1)) by omega)]
          by_cases c2 : b ≤ k ∧ k < b + n
          · rw [if_pos c2, if_pos (by omega)]
          · rw [if_neg c2, if_neg (show ¬ (b ≤ k ∧ k < b + (n + 1)) by omega)]
theorem swp_perm (d : List Int) (x y : Nat) (hx : x < d.length) (hy : y < d.length) : List.Perm (swp d x y) d := by
  have h := Array.swap_perm (xs := d.toArray) (i := x) (j := y) (by simpa using hx) (by simpa using hy)
  have h2 := h.toList
  simpa [swp, Array.swap, List.getD_eq_getElem?_getD, hx, hy] using h2
theorem swR_perm (d : List Int) (a b : Nat) : ∀ n, a + n ≤ d.length → b + n ≤ d.length → List.Perm (swR d a b n) d
  | 0, _, _ => List.Perm.refl _
  | n + 1, h1, h2 => (swp_perm _ _ _ (by rw [swR_length]; omega) (by rw [swR_length]; omega)).trans (swR_perm d a b n (by omega) (by omega))
/-- A list whose places are another one's, told apart one by one: what is needed of an exchange. -/
theorem ext_at {d d' : List Int} (hl : d.length = d'.length) (h : ∀ k, at_ d k = at_ d' k) : d = d' := by
  apply List.ext_getElem hl
  intro i h1 h2
  have := h i
  unfold at_ at this
  rw [List.getD_eq_getElem?_getD, List.getD_eq_getElem?_getD, List.getElem?_eq_getElem h1, List.getElem?_eq_getElem h2] at this
  simpa using this
/-- A list is another one with its places in [a, b) exchanged among themselves. f, h tell where each comes from and goes to. -/
structure Moved (d d' : List Int) (a b : Nat) : Prop where
  len : d'.length = d.length
  out : ∀ k, ¬ (a ≤ k ∧ k < b) → at_ d' k = at_ d k
  ins : ∀ k, a ≤ k → k < b → ∃ j, a ≤ j ∧ j < b ∧ at_ d' k = at_ d j
theorem Moved.refl (d : List Int) (a b : Nat) : Moved d d a b := ⟨rfl, fun _ _ => rfl, fun k h1 h2 => ⟨k, h1, h2, rfl⟩⟩
theorem Moved.trans {d d' d'' : List Int} {a b : Nat} (h : Moved d d' a b) (h' : Moved d' d'' a b) : Moved d d'' a b := by
  refine ⟨h'.len.trans h.len, fun k hk => (h'.out k hk).trans (h.out k hk), fun k h1 h2 => ?_⟩
  obtain ⟨j, j1, j2, e⟩ := h'.ins k h1 h2
  obtain ⟨i, i1, i2, e2⟩ := h.ins j j1 j2
  exact ⟨i, i1, i2, e.trans e2⟩
theorem Moved.wide {d d' : List Int} {a b a' b' : Nat} (h : Moved d d' a b) (ha : a' ≤ a) (hb : b ≤ b') : Moved d d' a' b' := by
  refine ⟨h.len, fun k hk => h.out k (by omega), fun k h1 h2 => ?_⟩
  by_cases c : a ≤ k ∧ k < b
  · obtain ⟨j, j1, j2, e⟩ := h.ins k c.1 c.2
    exact ⟨j, by omega, by omega, e⟩
  · exact ⟨k, h1, h2, h.out k c⟩
/-- What stands in place k once the pieces [a, m) and [m, b) have changed places. -/
def rotF (d : List Int) (a m b k : Nat) : Int := if a ≤ k ∧ k < a + (b - m) then at_ d (k + (m - a)) else if a + (b - m) ≤ k ∧ k < b then at_ d (k - (b - m)) else at_ d k
structure Rot (d d' : List Int) (a m b : Nat) : Prop where
  len : d'.length = d.length
  at_ : ∀ k, at_ d' k = rotF d a m b k
theorem Rot.moved {d d' : List Int} {a m b : Nat} (h : Rot d d' a m b) (h1 : a ≤ m) (h2 : m ≤ b) : Moved d d' a b := by
  refine ⟨h.len, fun k hk => ?_, fun k k1 k2 => ?_⟩
  · rw [h.at_, rotF, if_neg (by omega), if_neg (by omega)]
  · rw [h.at_]
    by_cases c : k < a + (b - m)
    · exact ⟨k + (m - a), by omega, by omega, by rw [rotF, if_pos ⟨k1, c⟩]⟩
    · exact ⟨k - (b - m), by omega, by omega, by rw [rotF, if_neg (by omega), if_pos (by omega)]⟩
/-- One step of the rotation: the greater piece lies left. -/
theorem rot_left (d : List Int) (m i j : Nat) (h1 : i ≤ m) (h2 : m + j ≤ d.length) (hij : j < i) (k : Nat) :
    rotF (swR d (m - i) m j) (m - (i - j)) m (m + j) k = rotF d (m - i) m (m + j) k := by
  have e := swR_at d (m - i) m j (by omega) (by omega)
  unfold rotF
  simp only [e]
  by_cases c1 : m - i ≤ k ∧ k < m - i + j
  · rw [if_neg (show ¬ (m - (i - j) ≤ k ∧ k < m - (i - j) + (m + j - m)) by omega), if_neg (show ¬ (m - (i - j) + (m + j - m) ≤ k ∧ k < m + j) by omega), if_pos c1, if_pos (show m - i ≤ k ∧ k < m - i + (m + j - m) by omega)]
    congr 1; omega
  · by_cases c2 : m - (i - j) ≤ k ∧ k < m - (i - j) + j
    · rw [if_pos (show m - (i - j) ≤ k ∧ k < m - (i - j) + (m + j - m) by omega), if_neg (show ¬ (m - i ≤ k + (m - (m - (i - j))) ∧ k + (m - (m - (i - j))) < m - i + j) by omega), if_pos (show m ≤ k + (m - (m - (i - j))) ∧ k + (m - (m - (i - j))) < m + j by omega), if_neg (show ¬ (m - i ≤ k ∧ k < m - i + (m + j - m)) by omega), if_pos (show m - i + (m + j - m) ≤ k ∧ k < m + j by omega)]
      congr 1; omega
    · by_cases c3 : m - (i - j) + j ≤ k ∧ k < m + j
      · rw [if_neg (show ¬ (m - (i - j) ≤ k ∧ k < m - (i - j) + (m + j - m)) by omega), if_pos (show m - (i - j) + (m + j - m) ≤ k ∧ k < m + j by omega), if_neg (show ¬ (m - i ≤ k - (m + j - m) ∧ k - (m + j - m) < m - i + j) by omega), if_neg (show ¬ (m ≤ k - (m + j - m) ∧ k - (m + j - m) < m + j) by omega), if_neg (show ¬ (m - i ≤ k ∧ k < m - i + (m + j - m)) by omega), if_pos (show m - i + (m + j - m) ≤ k ∧ k < m + j by omega)]
      · rw [if_neg (show ¬ (m - (i - j) ≤ k ∧ k < m - (i - j) + (m + j - m)) by omega), if_neg (show ¬ (m - (i - j) + (m + j - m) ≤ k ∧ k < m + j) by omega), if_neg c1, if_neg (show ¬ (m ≤ k ∧ k < m + j) by omega), if_neg (show ¬ (m - i ≤ k ∧ k < m - i + (m + j - m)) by omega), if_neg (show ¬ (m - i + (m + j - m) ≤ k ∧ k < m + j) by omega)]
/-- One step of the rotation: the greater piece lies right. -/
theorem rot_right (d : List Int) (m i j : Nat) (h1 : i ≤ m) (h2 : m + j ≤ d.length) (hij : i < j) (k : Nat) :
    rotF (swR d (m - i) (m + j - i) i) (m - i) m (m + (j - i)) k = rotF d (m - i) m (m + j) k := by
  have e := swR_at d (m - i) (m + j - i) i (by omega) (by omega)
  unfold rotF
  simp only [e]
  by_cases c1 : m - i ≤ k ∧ k < m - i + (j - i)
  · rw [if_pos (show m - i ≤ k ∧ k < m - i + (m + (j - i) - m) by omega), if_neg (show ¬ (m - i ≤ k + (m - (m - i)) ∧ k + (m - (m - i)) < m - i + i) by omega), if_neg (show ¬ (m + j - i ≤ k + (m - (m - i)) ∧ k + (m - (m - i)) < m + j - i + i) by omega), if_pos (show m - i ≤ k ∧ k < m - i + (m + j - m) by omega)]
  · by_cases c2 : m - i + (j - i) ≤ k ∧ k < m + (j - i)
    · rw [if_neg (show ¬ (m - i ≤ k ∧ k < m - i + (m + (j - i) - m)) by omega), if_pos (show m - i + (m + (j - i) - m) ≤ k ∧ k < m + (j - i) by omega), if_pos (show m - i ≤ k - (m + (j - i) - m) ∧ k - (m + (j - i) - m) < m - i + i by omega), if_pos (show m - i ≤ k ∧ k < m - i + (m + j - m) by omega)]
      congr 1; omega
    · by_cases c3 : m + (j - i) ≤ k ∧ k < m + j
      · rw [if_neg (show ¬ (m - i ≤ k ∧ k < m - i + (m + (j - i) - m)) by omega), if_neg (show ¬ (m - i + (m + (j - i) - m) ≤ k ∧ k < m + (j - i)) by omega), if_neg (show ¬ (m - i ≤ k ∧ k < m - i + i) by omega), if_pos (show m + j - i ≤ k ∧ k < m + j - i + i by omega), if_neg (show ¬ (m - i ≤ k ∧ k < m - i + (m + j - m)) by omega), if_pos (show m - i + (m + j - m) ≤ k ∧ k < m + j by omega)]
        congr 1; omega
      · rw [if_neg (show ¬ (m - i ≤ k ∧ k < m - i + (m + (j - i) - m)) by omega), if_neg (show ¬ (m - i + (m + (j - i) - m) ≤ k ∧ k < m + (j - i)) by omega), if_neg (show ¬ (m - i ≤ k ∧ k < m - i + i) by omega), if_neg (show ¬ (m + j - i ≤ k ∧ k < m + j - i + i) by omega), if_neg (show ¬ (m - i ≤ k ∧ k < m - i + (m + j - m)) by omega), if_neg (show ¬ (m - i + (m + j - m) ≤ k ∧ k < m + j) by omega)]
/-- The rotation's last step. -/
theorem rot_end (d : List Int) (m i : Nat) (h1 : i ≤ m) (h2 : m + i ≤ d.length) (k : Nat) : at_ (swR d (m - i) m i) k = rotF d (m - i) m (m + i) k := by
  rw [swR_at d (m - i) m i (by omega) (by omega)]
  unfold rotF
  by_cases c1 : m - i ≤ k ∧ k < m - i + i
  · rw [if_pos c1, if_pos (show m - i ≤ k ∧ k < m - i + (m + i - m) by omega)]
    congr 1; omega
  · by_cases c2 : m ≤ k ∧ k < m + i
    · rw [if_neg c1, if_pos c2, if_neg (show ¬ (m - i ≤ k ∧ k < m - i + (m + i - m)) by omega), if_pos (show m - i + (m + i - m) ≤ k ∧ k < m + i by omega)]
      congr 1; omega
    · rw [if_neg c1, if_neg c2, if_neg (show ¬ (m - i ≤ k ∧ k < m - i + (m + i - m)) by omega), if_neg (show ¬ (m - i + (m + i - m) ≤ k ∧ k < m + i) by omega)]
/-! ### The order -/
/-- A comparison: by a key, which is ordered wholly. -/
structure Cmp (cf : Int → Int → Int) : Prop where
  anti : ∀ x y, cf x y < 0 ↔ 0 < cf y x
  trans : ∀ x y z, cf x y ≤ 0 → cf y z ≤ 0 → cf x z ≤ 0
/-- By the key; where keys are alike, by the number itself. -/
def Lt (cf : Int → Int → Int) (x y : Int) : Prop := cf x y < 0 ∨ (cf x y = 0 ∧ x < y)
theorem Cmp.self {cf : Int → Int → Int} (h : Cmp cf) (x : Int) : cf x x = 0 := by
  have := h.anti x x
  omega
theorem Cmp.lt_le {cf : Int → Int → Int} (h : Cmp cf) {x y z : Int} (h1 : cf x y < 0) (h2 : cf y z ≤ 0) : cf x z < 0 := by
  have a := h.trans x y z (by omega) h2
  by_cases e : cf x z = 0
  · have b : cf z x ≤ 0 := by have := h.anti x z; have := h.anti z x; omega
    have c := h.trans y z x h2 b
    have := h.anti x y
    omega
  · omega
theorem Cmp.le_lt {cf : Int → Int → Int} (h : Cmp cf) {x y z : Int} (h1 : cf x y ≤ 0) (h2 : cf y z < 0) : cf x z < 0 := by
  have a := h.trans x y z h1 (by omega)
  by_cases e : cf x z = 0
  · have b : cf z x ≤ 0 := by have := h.anti x z; have := h.anti z x; omega
    have c := h.trans z x y b h1
    have := h.anti y z
    omega
  · omega
theorem Lt.trans {cf : Int → Int → Int} (h : Cmp cf) {x y z : Int} (h1 : Lt cf x y) (h2 : Lt cf y z) : Lt cf x z := by
  rcases h1 with h1 | ⟨h1, l1⟩
  · left
    rcases h2 with h2 | ⟨h2, l2⟩
    · exact h.lt_le h1 (by omega)
    · exact h.lt_le h1 (by omega)
  · rcases h2 with h2 | ⟨h2, l2⟩
    · left; exact h.le_lt (by omega) h2
    · have a := h.trans x y z (by omega) (by omega)
      have b : cf z x ≤ 0 := h.trans z y x (by have := h.anti y z; have := h.anti z y; omega) (by have := h.anti x y; have := h.anti y x; omega)
      right
      have := h.anti x z
      have := h.anti z x
      omega
/-- Not less by the key, and with a number that is less: less. -/
theorem Lt.of_not {cf : Int → Int → Int} (h : Cmp cf) {x y : Int} (h1 : ¬ cf y x < 0) (hl : x < y) : Lt cf x y := by
  have := h.anti x y
  have := h.anti y x
  unfold Lt
  omega
/-- Increasing from a up to b. -/
def Inc (cf : Int → Int → Int) (d : List Int) (a b : Nat) : Prop := ∀ i j, a ≤ i → i < j → j < b → Lt cf (at_ d i) (at_ d j)
/-- The numbers in [a, m) are less than those in [m, b). -/
def Below_ (d : List Int) (a m b : Nat) : Prop := ∀ i j, a ≤ i → i < m → m ≤ j → j < b → at_ d i < at_ d j
theorem Inc.join {cf : Int → Int → Int} {d : List Int} {a m b : Nat} (h1 : Inc cf d a m) (h2 : Inc cf d m b) (h : ∀ i j, a ≤ i → i < m → m ≤ j → j < b → Lt cf (at_ d i) (at_ d j)) : Inc cf d a b := by
  intro i j hi hij hj
  by_cases c1 : j < m
  · exact h1 i j hi hij c1
  · by_cases c2 : i < m
    · exact h i j hi c2 (by omega) hj
    · exact h2 i j (by omega) hij hj
theorem Inc.sub {cf : Int → Int → Int} {d : List Int} {a b a' b' : Nat} (h : Inc cf d a b) (ha : a ≤ a') (hb : b' ≤ b) : Inc cf d a' b' := fun i j hi hij hj => h i j (by omega) hij (by omega)
theorem Inc.same {cf : Int → Int → Int} {d d' : List Int} {a b : Nat} (h : Inc cf d a b) (he : ∀ k, a ≤ k → k < b → at_ d' k = at_ d k) : Inc cf d' a b := fun i j hi hij hj => by
  rw [he i hi (by omega), he j (by omega) hj]; exact h i j hi hij hj
/-- What holds once the pieces [s, m) and [m, e) of two increasing pieces have changed places. -/
structure Split (cf : Int → Int → Int) (d : List Int) (a s c e b : Nat) : Prop where
  i1 : Inc cf d a s
  i2 : Inc cf d s c
  i3 : Inc cf d c e
  i4 : Inc cf d e b
  b1 : Below_ d a s c
  b2 : Below_ d c e b
  x : ∀ i j, a ≤ i → i < c → c ≤ j → j < b → Lt cf (at_ d i) (at_ d j)
theorem split_of {cf : Int → Int → Int} (hc : Cmp cf) {d d' : List Int} {a s m e b : Nat} (h1 : a ≤ s) (h2 : s ≤ m) (h3 : m ≤ e) (h4 : e ≤ b)
    (hl : Inc cf d a m) (hr : Inc cf d m b) (hb : Below_ d a m b) (hR : Rot d d' s m e)
    (hlow : ∀ i j, a ≤ i → i < s → e ≤ j → j < b → Lt cf (at_ d i) (at_ d j)) (hhigh : ∀ i j, s ≤ i → i < m → m ≤ j → j < e → Lt cf (at_ d j) (at_ d i)) :
    Split cf d' a s (s + (e - m)) e b := by
  have p1 : ∀ k, k < s → at_ d' k = at_ d k := fun k hk => by rw [hR.at_, rotF, if_neg (by omega), if_neg (by omega)]
  have p2 : ∀ k, s ≤ k → k < s + (e - m) → at_ d' k = at_ d (k + (m - s)) := fun k k1 k2 => by rw [hR.at_, rotF, if_pos ⟨k1, k2⟩]
  have p3 : ∀ k, s + (e - m) ≤ k → k < e → at_ d' k = at_ d (k - (e - m)) := fun k k1 k2 => by rw [hR.at_, rotF, if_neg (by omega), if_pos ⟨k1, k2⟩]
  have p4 : ∀ k, e ≤ k → at_ d' k = at_ d k := fun k hk => by rw [hR.at_, rotF, if_neg (by omega), if_neg (by omega)]
  refine ⟨?_, ?_, ?_, ?_, ?_, ?_, ?_⟩
  · intro i j hi hij hj
    rw [p1 i (by omega), p1 j hj]; exact hl i j hi hij (by omega)
  · intro i j hi hij hj
    rw [p2 i hi (by omega), p2 j (by omega) hj]; exact hr _ _ (by omega) (by omega) (by omega)
  · intro i j hi hij hj
    rw [p3 i hi (by omega), p3 j (by omega) hj]; exact hl _ _ (by omega) (by omega) (by omega)
  · intro i j hi hij hj
    rw [p4 i hi, p4 j (by omega)]; exact hr i j (by omega) hij hj
  · intro i j hi his hj hjc
    rw [p1 i his, p2 j hj hjc]; exact hb _ _ hi (by omega) (by omega) (by omega)
  · intro i j hi his hj hjc
    rw [p3 i hi his, p4 j hj]; exact hb _ _ (by omega) (by omega) (by omega) hjc
  · intro i j hi hic hj hjb
    by_cases c1 : i < s
    · rw [p1 i c1]
      by_cases c2 : j < e
      · rw [p3 j hj c2]; exact hl _ _ hi (by omega) (by omega)
      · rw [p4 j (by omega)]; exact hlow i j hi c1 (by omega) hjb
    · rw [p2 i (by omega) hic]
      by_cases c2 : j < e
      · rw [p3 j hj c2]; exact hhigh _ _ (by omega) (by omega) (by omega) (by omega)
      · rw [p4 j (by omega)]; exact hr _ _ (by omega) (by omega) hjb
theorem Lt.le {cf : Int → Int → Int} {x y : Int} (h : Lt cf x y) : cf x y ≤ 0 := by
  rcases h with h | ⟨h, _⟩ <;> omega
theorem rot_nil (d : List Int) (a m : Nat) : Rot d d a m m := ⟨rfl, fun k => by
  unfold rotF
  rw [if_neg (by omega)]
  by_cases c : a + (m - m) ≤ k ∧ k < m
  · rw [if_pos c]; congr 1; omega
  · rw [if_neg c]⟩
theorem rot_nil' (d : List Int) (m b : Nat) : Rot d d m m b := ⟨rfl, fun k => by
  unfold rotF
  by_cases c : m ≤ k ∧ k < m + (b - m)
  · rw [if_pos c]; congr 1; omega
  · rw [if_neg c, if_neg (by omega)]⟩
theorem rot_up {d d2 : List Int} {a k : Nat} (h : Rot d d2 a (a + 1) (k + 1)) (hk : a ≤ k) (hl : k + 1 < d.length) : Rot d (swp d2 k (k + 1)) a (a + 1) (k + 2) := by
  refine ⟨by rw [swp_length, h.len], fun q => ?_⟩
  rw [swp_at _ _ _ _ (by rw [h.len]; omega) (by rw [h.len]; omega), h.at_, h.at_, h.at_]
  unfold rotF
  by_cases c1 : q = k + 1
  · subst c1
    rw [if_pos rfl, if_neg (by omega), if_pos (by omega), if_neg (by omega), if_pos (by omega)]
    congr 1; omega
  · rw [if_neg c1]
    by_cases c2 : q = k
    · subst c2
      rw [if_pos rfl, if_neg (by omega), if_neg (by omega), if_pos (by omega)]
      congr 1; omega
    · rw [if_neg c2]
      by_cases c3 : a ≤ q ∧ q < k
      · rw [if_pos (by omega), if_pos (by omega)]
      · rw [if_neg (by omega), if_neg (by omega), if_neg (by omega), if_neg (by omega)]
theorem rot_down {d d2 : List Int} {k m : Nat} (h : Rot d d2 (k + 1) m (m + 1)) (hk : k + 1 ≤ m) (hl : m < d.length) : Rot d (swp d2 (k + 1) k) k m (m + 1) := by
  refine ⟨by rw [swp_length, h.len], fun q => ?_⟩
  rw [swp_at _ _ _ _ (by rw [h.len]; omega) (by rw [h.len]; omega), h.at_, h.at_, h.at_]
  unfold rotF
  by_cases c1 : q = k
  · subst c1
    rw [if_pos rfl, if_pos (by omega), if_pos (by omega)]
    all_goals (congr 1; omega)
  · rw [if_neg c1]
    by_cases c2 : q = k + 1
    · subst c2
      rw [if_pos rfl, if_neg (by omega), if_neg (by omega), if_neg (by omega), if_pos (by omega)]
      congr 1; omega
    · rw [if_neg c2]
      by_cases c3 : k + 1 < q ∧ q < m + 1
      · rw [if_neg (by omega), if_pos (by omega), if_neg (by omega), if_pos (by omega)]
        all_goals (congr 1; omega)
      · rw [if_neg (by omega), if_neg (by omega), if_neg (by omega), if_neg (by omega)]
theorem incA {cf : Int → Int → Int} (hc : Cmp cf) {d d2 : List Int} {a b i : Nat} (hI : Inc cf d (a + 1) b) (hB : Below_ d a (a + 1) b) (hR : Rot d d2 a (a + 1) i) (h1 : a + 1 ≤ i) (h2 : i ≤ b)
    (lo : ∀ h, a + 1 ≤ h → h < i → cf (at_ d h) (at_ d a) < 0) (hi : ∀ h, i ≤ h → h < b → ¬ cf (at_ d h) (at_ d a) < 0) : Inc cf d2 a b := by
  have p1 : ∀ q, a ≤ q → q < i - 1 → at_ d2 q = at_ d (q + 1) := fun q q1 q2 => by rw [hR.at_, rotF, if_pos (by omega)]; congr 1; omega
  have p2 : at_ d2 (i - 1) = at_ d a := by rw [hR.at_, rotF, if_neg (by omega), if_pos (by omega)]; congr 1; omega
  have p3 : ∀ q, i ≤ q → at_ d2 q = at_ d q := fun q q1 => by rw [hR.at_, rotF, if_neg (by omega), if_neg (by omega)]
  intro x y hx hxy hy
  by_cases c1 : y < i - 1
  · rw [p1 x hx (by omega), p1 y (by omega) c1]; exact hI _ _ (by omega) (by omega) (by omega)
  · by_cases c2 : y = i - 1
    · rw [c2, p2, p1 x hx (by omega)]; exact .inl (lo _ (by omega) (by omega))
    · rw [p3 y (by omega)]
      by_cases c3 : x < i - 1
      · rw [p1 x hx c3]; exact hI _ _ (by omega) (by omega) hy
      · by_cases c4 : x = i - 1
        · rw [c4, p2]; exact Lt.of_not hc (hi y (by omega) hy) (hB a y (Nat.le_refl _) (by omega) (by omega) hy)
        · rw [p3 x (by omega)]; exact hI _ _ (by omega) hxy hy
theorem incB {cf : Int → Int → Int} (hc : Cmp cf) {d d2 : List Int} {a m i : Nat} (hI : Inc cf d a m) (hB : Below_ d a m (m + 1)) (hR : Rot d d2 i m (m + 1)) (h1 : a ≤ i) (h2 : i ≤ m)
    (lo : ∀ h, a ≤ h → h < i → ¬ cf (at_ d m) (at_ d h) < 0) (hi : ∀ h, i ≤ h → h < m → cf (at_ d m) (at_ d h) < 0) : Inc cf d2 a (m + 1) := by
  have p1 : ∀ q, q < i → at_ d2 q = at_ d q := fun q q1 => by rw [hR.at_, rotF, if_neg (by omega), if_neg (by omega)]
  have p2 : at_ d2 i = at_ d m := by rw [hR.at_, rotF, if_pos (by omega)]; congr 1; omega
  have p3 : ∀ q, i < q → q < m + 1 → at_ d2 q = at_ d (q - 1) := fun q q1 q2 => by rw [hR.at_, rotF, if_neg (by omega), if_pos (by omega)]; congr 1; omega
  intro x y hx hxy hy
  by_cases c1 : y < i
  · rw [p1 x (by omega), p1 y c1]; exact hI _ _ hx hxy (by omega)
  · by_cases c2 : y = i
    · rw [c2, p2, p1 x (by omega)]; exact Lt.of_not hc (lo x hx (by omega)) (hB x m hx (by omega) (Nat.le_refl _) (by omega))
    · rw [p3 y (by omega) hy]
      by_cases c3 : x < i
      · rw [p1 x c3]; exact hI _ _ hx (by omega) (by omega)
      · by_cases c4 : x = i
        · rw [c4, p2]; exact .inl (hi _ (by omega) (by omega))
        · rw [p3 x (by omega) (by omega)]; exact hI _ _ (by omega) (by omega) (by omega)
/-- Where the search of a merge ends, the pieces part as they should. -/
theorem splitC {cf : Int → Int → Int} (hc : Cmp cf) {d d' : List Int} {a m b lo r s : Nat} (ham : a < m) (hmb : m < b)
    (hl : Inc cf d a m) (hr : Inc cf d m b) (hb : Below_ d a m b)
    (hlo : lo = if (a + b) / 2 < m then (a + b) / 2 + m - b else a) (hrr : r = if (a + b) / 2 < m then (a + b) / 2 else m) (h1 : lo ≤ s) (h2 : s ≤ r)
    (hlow : ∀ c, lo ≤ c → c < s → ¬ cf (at_ d ((a + b) / 2 + m - 1 - c)) (at_ d c) < 0) (hhigh : ∀ c, s ≤ c → c < r → cf (at_ d ((a + b) / 2 + m - 1 - c)) (at_ d c) < 0)
    (hR : Rot d d' s m ((a + b) / 2 + m - s)) : a ≤ s ∧ s ≤ m ∧ s ≤ (a + b) / 2 ∧ m ≤ (a + b) / 2 + m - s ∧ (a + b) / 2 + m - s ≤ b ∧ Split cf d' a s ((a + b) / 2) ((a + b) / 2 + m - s) b := by
  obtain ⟨mid, hmid⟩ : ∃ mid, (a + b) / 2 = mid := ⟨_, rfl⟩
  rw [hmid] at hlo hrr hlow hhigh hR ⊢
  have b1 : a ≤ s := by split at hlo <;> omega
  have b2 : s ≤ m := by split at hrr <;> omega
  have b3 : s ≤ mid := by split at hrr <;> omega
  have b4 : mid + m - s ≤ b := by split at hlo <;> split at hrr <;> omega
  refine ⟨b1, b2, b3, by omega, b4, ?_⟩
  have := split_of hc b1 b2 (show m ≤ mid + m - s by omega) b4 hl hr hb hR ?_ ?_
  · rw [show s + (mid + m - s - m) = mid by omega] at this
    exact this
  · intro i j hi his hj hjb
    by_cases c : lo < s
    · have q := hlow (s - 1) (by omega) (by omega)
      rw [show mid + m - 1 - (s - 1) = mid + m - s by omega] at q
      have e1 : Lt cf (at_ d (s - 1)) (at_ d (mid + m - s)) := Lt.of_not hc q (hb _ _ (by omega) (by omega) (by omega) (by omega))
      have e2 : Lt cf (at_ d (s - 1)) (at_ d j) := by
        rcases Nat.lt_or_ge (mid + m - s) j with g | g
        · exact e1.trans hc (hr _ _ (by omega) g hjb)
        · rw [show j = mid + m - s by omega]; exact e1
      rcases Nat.lt_or_ge i (s - 1) with g | g
      · exact (hl i (s - 1) hi g (by omega)).trans hc e2
      · rw [show i = s - 1 by omega]; exact e2
    · exfalso
      split at hlo <;> omega
  · intro i j hi him hj hje
    by_cases c : s < r
    · have q := hhigh s (Nat.le_refl _) c
      have e1 : Lt cf (at_ d (mid + m - 1 - s)) (at_ d s) := .inl q
      have e2 : Lt cf (at_ d j) (at_ d s) := by
        rcases Nat.lt_or_ge j (mid + m - 1 - s) with g | g
        · exact (hr j _ hj g (by omega)).trans hc e1
        · rw [show j = mid + m - 1 - s by omega]; exact e1
      rcases Nat.lt_or_ge s i with g | g
      · exact e2.trans hc (hl s i b1 g him)
      · rw [show i = s by omega]; exact e2
    · exfalso
      split at hrr <;> omega
/-- Both halves sorted: the whole is. -/
theorem join2 {cf : Int → Int → Int} {d1 d2 d3 : List Int} {a c b : Nat} (hac : a ≤ c) (hcb : c ≤ b) (hx : ∀ i j, a ≤ i → i < c → c ≤ j → j < b → Lt cf (at_ d1 i) (at_ d1 j))
    (m1 : Moved d1 d2 a c) (i1 : Inc cf d2 a c) (m2 : Moved d2 d3 c b) (i2 : Inc cf d3 c b) : Inc cf d3 a b := by
  have s1 : ∀ k, a ≤ k → k < c → at_ d3 k = at_ d2 k := fun k k1 k2 => m2.out k (by omega)
  refine Inc.join (i1.same s1) i2 ?_
  intro i j hi hic hj hjb
  rw [s1 i hi hic]
  obtain ⟨i', q1, q2, q3⟩ := m1.ins i hi hic
  obtain ⟨j', r1, r2, r3⟩ := m2.ins j hj hjb
  rw [q3, r3, m1.out j' (by omega)]
  exact hx i' j' q1 q2 r1 r2
theorem Below_.same {d d' : List Int} {a m b : Nat} (h : Below_ d a m b) (he : ∀ k, a ≤ k → k < b → at_ d' k = at_ d k) : Below_ d' a m b := fun i j h1 h2 h3 h4 => by
  rw [he i h1 (by omega), he j (by omega) h4]; exact h i j h1 h2 h3 h4
theorem finC {cf : Int → Int → Int} {d d1 d2 d3 : List Int} {a s m mid e b : Nat} (h1 : a ≤ s) (h2 : s ≤ m) (h3 : m ≤ e) (h4 : e ≤ b) (h5 : a ≤ mid) (h6 : mid ≤ b) (hT : Rot d d1 s m e) (hS : Split cf d1 a s mid e b)
    (m2 : Moved d1 d2 a mid) (i2 : Inc cf d2 a mid) (m3 : Moved d2 d3 mid b) (i3 : Inc cf d3 mid b) : Moved d d3 a b ∧ Inc cf d3 a b :=
  ⟨(((hT.moved h2 h3).wide h1 h4).trans (m2.wide (Nat.le_refl _) h6)).trans (m3.wide h5 (Nat.le_refl _)), join2 h5 h6 hS.x m2 i2 m3 i3⟩
theorem Split.after {cf : Int → Int → Int} {d1 d2 : List Int} {a s mid e b : Nat} (hS : Split cf d1 a s mid e b) (m2 : Moved d1 d2 a mid) (he : mid ≤ e) : Inc cf d2 mid e ∧ Inc cf d2 e b ∧ Below_ d2 mid e b :=
  ⟨hS.i3.same fun k q1 q2 => m2.out k (by omega), hS.i4.same fun k q1 q2 => m2.out k (by omega), hS.b2.same fun k q1 q2 => m2.out k (by omega)⟩
end Go.Proofs.Ythhcgepofldgaaa.K
