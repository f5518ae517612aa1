/- A stable sort by blocks: plain Lean, with no program in sight. -/
import Derived.Test.YthhcgepofldgaaaKStable
set_option linter.unusedVariables false
set_option linter.unusedSimpArgs false
namespace Go.Proofs.Ythhcgepofldgaaa.K
/-- The piece [x, y) is sorted, and holds what d holds there. -/
def Piece (cf : Int → Int → Int) (d d1 : List Int) (x y : Nat) : Prop := Inc cf d1 x y ∧ ∀ k, x ≤ k → k < y → ∃ j, x ≤ j ∧ j < y ∧ at_ d1 k = at_ d j
theorem Piece.same {cf : Int → Int → Int} {d d1 d2 : List Int} {x y : Nat} (h : Piece cf d d1 x y) (he : ∀ k, x ≤ k → k < y → at_ d2 k = at_ d1 k) : Piece cf d d2 x y :=
  ⟨h.1.same he, fun k h1 h2 => by obtain ⟨j, j1, j2, j3⟩ := h.2 k h1 h2; exact ⟨j, j1, j2, (he k h1 h2).trans j3⟩⟩
theorem Piece.below {cf : Int → Int → Int} {d d1 : List Int} {a m b n : Nat} (hd : ∀ i j, i < j → j < n → at_ d i < at_ d j) (h1 : Piece cf d d1 a m) (h2 : Piece cf d d1 m b) (hb : b ≤ n) : Below_ d1 a m b := fun i j i1 i2 j1 j2 => by
  obtain ⟨i', x1, x2, x3⟩ := h1.2 i i1 i2
  obtain ⟨j', y1, y2, y3⟩ := h2.2 j j1 j2
  rw [x3, y3]
  exact hd i' j' (by omega) (by omega)
theorem Piece.merged {cf : Int → Int → Int} {d d1 d2 : List Int} {a m b : Nat} (h1 : Piece cf d d1 a m) (h2 : Piece cf d d1 m b) (ham : a ≤ m) (hmb : m ≤ b) (hM : Moved d1 d2 a b) (hI : Inc cf d2 a b) : Piece cf d d2 a b :=
  ⟨hI, fun k k1 k2 => by
    obtain ⟨j, j1, j2, j3⟩ := hM.ins k k1 k2
    by_cases c : j < m
    · obtain ⟨i, i1, i2, i3⟩ := h1.2 j j1 c
      exact ⟨i, i1, by omega, j3.trans i3⟩
    · obtain ⟨i, i1, i2, i3⟩ := h2.2 j (by omega) j2
      exact ⟨i, by omega, i2, j3.trans i3⟩⟩
def Sz (s : Nat) : Prop := s = 20 ∨ s = 40 ∨ s = 80 ∨ s = 160
/-- All blocks of s elements are sorted. -/
def Lev (cf : Int → Int → Int) (d d1 : List Int) (s n : Nat) : Prop := ∀ t, t % s = 0 → t < n → Piece cf d d1 t (min (t + s) n)
/-- The blocks ahead of a are merged in pairs, those from a on are not. -/
def Mix (cf : Int → Int → Int) (d d1 : List Int) (s n a : Nat) : Prop := (∀ t, t % (2 * s) = 0 → t + 2 * s ≤ a → Piece cf d d1 t (t + 2 * s)) ∧ ∀ t, t % s = 0 → a ≤ t → t < n → Piece cf d d1 t (min (t + s) n)
theorem Lev.mix {cf : Int → Int → Int} {d d1 : List Int} {s n : Nat} (hs : Sz s) (h : Lev cf d d1 s n) : Mix cf d d1 s n 0 :=
  ⟨fun t h1 h2 => by rcases hs with rfl | rfl | rfl | rfl <;> omega, fun t h1 _ h3 => h t h1 h3⟩
theorem Mix.two {cf : Int → Int → Int} {d d1 : List Int} {s n a : Nat} (hs : Sz s) (h : Mix cf d d1 s n a) (ha : a % (2 * s) = 0) (hb : a + 2 * s ≤ n) : Piece cf d d1 a (a + s) ∧ Piece cf d d1 (a + s) (a + 2 * s) := by
  have p1 := h.2 a (by rcases hs with rfl | rfl | rfl | rfl <;> omega) (Nat.le_refl _) (by rcases hs with rfl | rfl | rfl | rfl <;> omega)
  have p2 := h.2 (a + s) (by rcases hs with rfl | rfl | rfl | rfl <;> omega) (by omega) (by rcases hs with rfl | rfl | rfl | rfl <;> omega)
  rw [show min (a + s) n = a + s by omega] at p1
  rw [show min (a + s + s) n = a + 2 * s by omega] at p2
  exact ⟨p1, p2⟩
theorem Mix.last {cf : Int → Int → Int} {d d1 : List Int} {s n a : Nat} (hs : Sz s) (h : Mix cf d d1 s n a) (ha : a % (2 * s) = 0) (hb : a + s < n) (hb2 : n < a + 2 * s) : Piece cf d d1 a (a + s) ∧ Piece cf d d1 (a + s) n := by
  have p1 := h.2 a (by rcases hs with rfl | rfl | rfl | rfl <;> omega) (Nat.le_refl _) (by omega)
  have p2 := h.2 (a + s) (by rcases hs with rfl | rfl | rfl | rfl <;> omega) (by omega) hb
  rw [show min (a + s) n = a + s by omega] at p1
  rw [show min (a + s + s) n = n by omega] at p2
  exact ⟨p1, p2⟩
theorem Mix.step {cf : Int → Int → Int} {d d1 d2 : List Int} {s n a : Nat} (hs : Sz s) (h : Mix cf d d1 s n a) (ha : a % (2 * s) = 0) (hb : a + 2 * s ≤ n) (hM : Moved d1 d2 a (a + 2 * s)) (hI : Inc cf d2 a (a + 2 * s)) : Mix cf d d2 s n (a + 2 * s) ∧ (a + 2 * s) % (2 * s) = 0 := by
  obtain ⟨p1, p2⟩ := h.two hs ha hb
  refine ⟨⟨fun t h1 h2 => ?_, fun t h1 h2 h3 => ?_⟩, by rw [Nat.add_mod_right]; exact ha⟩
  · by_cases c : t = a
    · subst c
      exact p1.merged p2 (by omega) (by omega) hM hI
    · have c2 : t + 2 * s ≤ a := by rcases hs with rfl | rfl | rfl | rfl <;> omega
      exact (h.1 t h1 c2).same fun k k1 k2 => hM.out k (by omega)
  · exact (h.2 t h1 (by omega) h3).same fun k k1 k2 => hM.out k (by omega)
theorem Mix.end1 {cf : Int → Int → Int} {d d1 d2 : List Int} {s n a : Nat} (hs : Sz s) (h : Mix cf d d1 s n a) (ha : a % (2 * s) = 0) (hb : a + s < n) (hb2 : n < a + 2 * s) (hM : Moved d1 d2 a n) (hI : Inc cf d2 a n) : Lev cf d d2 (2 * s) n := by
  obtain ⟨p1, p2⟩ := h.last hs ha hb hb2
  intro t h1 h2
  by_cases c : t = a
  · subst c
    rw [show min (t + 2 * s) n = n by omega]
    exact p1.merged p2 (by omega) (by omega) hM hI
  · have c2 : t + 2 * s ≤ a := by rcases hs with rfl | rfl | rfl | rfl <;> omega
    rw [show min (t + 2 * s) n = t + 2 * s by omega]
    exact (h.1 t h1 c2).same fun k k1 k2 => hM.out k (by omega)
theorem Mix.end2 {cf : Int → Int → Int} {d d1 : List Int} {s n a : Nat} (hs : Sz s) (h : Mix cf d d1 s n a) (ha : a % (2 * s) = 0) (han : a ≤ n) (hb : n ≤ a + s) : Lev cf d d1 (2 * s) n := by
  intro t h1 h2
  by_cases c : t = a
  · subst c
    have p1 := h.2 t (by rcases hs with rfl | rfl | rfl | rfl <;> omega) (Nat.le_refl _) h2
    rw [show min (t + s) n = n by omega] at p1
    rw [show min (t + 2 * s) n = n by omega]
    exact p1
  · have c2 : t + 2 * s ≤ a := by rcases hs with rfl | rfl | rfl | rfl <;> omega
    rw [show min (t + 2 * s) n = t + 2 * s by omega]
    exact h.1 t h1 c2
/-- The blocks of twenty ahead of a are sorted, all else is as it was. -/
def Ins (cf : Int → Int → Int) (d d1 : List Int) (a : Nat) : Prop := (∀ t, t % 20 = 0 → t + 20 ≤ a → Piece cf d d1 t (t + 20)) ∧ ∀ k, a ≤ k → at_ d1 k = at_ d k
theorem Ins.piece {cf : Int → Int → Int} {d d1 d2 : List Int} {a b : Nat} (h : Ins cf d d1 a) (hM : Moved d1 d2 a b) (hI : Inc cf d2 a b) : Piece cf d d2 a b :=
  ⟨hI, fun k k1 k2 => by
    obtain ⟨j, j1, j2, j3⟩ := hM.ins k k1 k2
    exact ⟨j, j1, j2, j3.trans (h.2 j j1)⟩⟩
theorem Ins.step {cf : Int → Int → Int} {d d1 d2 : List Int} {a : Nat} (h : Ins cf d d1 a) (ha : a % 20 = 0) (hM : Moved d1 d2 a (a + 20)) (hI : Inc cf d2 a (a + 20)) : Ins cf d d2 (a + 20) := by
  refine ⟨fun t h1 h2 => ?_, fun k hk => (hM.out k (by omega)).trans (h.2 k (by omega))⟩
  by_cases c : t = a
  · subst c; exact h.piece hM hI
  · exact (h.1 t h1 (by omega)).same fun k k1 k2 => hM.out k (by omega)
theorem Ins.end_ {cf : Int → Int → Int} {d d1 d2 : List Int} {a n : Nat} (h : Ins cf d d1 a) (ha : a % 20 = 0) (han : a ≤ n) (hn : n < a + 20) (hM : Moved d1 d2 a n) (hI : Inc cf d2 a n) : Lev cf d d2 20 n := by
  intro t h1 h2
  by_cases c : t = a
  · subst c
    rw [show min (t + 20) n = n by omega]
    exact h.piece hM hI
  · rw [show min (t + 20) n = t + 20 by omega]
    exact (h.1 t h1 (by omega)).same fun k k1 k2 => hM.out k (by omega)
theorem Lev.all {cf : Int → Int → Int} {d d1 : List Int} {s n : Nat} (h : Lev cf d d1 s n) (hn : n ≤ s) : Inc cf d1 0 n := by
  by_cases c : n = 0
  · subst c; exact fun i j _ _ h => by omega
  · have := (h 0 (Nat.zero_mod _) (by omega)).1
    rw [show min (0 + s) n = n by omega] at this
    exact this
end Go.Proofs.Ythhcgepofldgaaa.K
