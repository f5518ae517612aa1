/- The code's strings are unlike in seven places at least; plain Lean. -/
import Derived.Test.YtaofmiigbhfnbaaDoorKVit
set_option linter.unusedVariables false
set_option linter.unusedSimpArgs false
namespace Go.Proofs.YtaofmiigbhfnbaaDoor.K
open Go Go.RowKit Go.Proofs.YtaofmiigbhfnbaaDoorW.PrintWords

theorem ham_comm : ∀ (a b : List Int), ham a b = ham b a
  | [], [] => rfl
  | [], _ :: _ => rfl
  | _ :: _, [] => rfl
  | x :: a, y :: b => by
    simp only [ham, ham_comm a b]
    by_cases h : x = y
    · rw [if_pos h, if_pos h.symm]
    · rw [if_neg h, if_neg (fun e => h e.symm)]
theorem ham_tri : ∀ (a b c : List Int), a.length = b.length → b.length = c.length → ham a c ≤ ham a b + ham b c
  | [], _, _, _, _ => by simp [ham]
  | x :: a, [], _, h, _ => by simp at h
  | x :: a, y :: b, [], _, h => by simp at h
  | x :: a, y :: b, z :: c, h1, h2 => by
    have := ham_tri a b c (by simpa using h1) (by simpa using h2)
    simp only [ham]
    by_cases e1 : x = y
    · subst e1
      rw [if_pos rfl]
      omega
    · rw [if_neg e1]
      split <;> split <;> omega
theorem ham_self : ∀ (a : List Int), ham a a = 0
  | [] => rfl
  | x :: a => by simp [ham, ham_self a]
/-- How far two states are from one another, at least. -/
def phi (s t : Nat) : Nat := match s ^^^ t with
  | 0 => 0
  | 1 => 2
  | _ => 4
theorem phi_step (s t a b : Nat) (hs : s < 4) (ht : t < 4) (ha : a < 2) (hb : b < 2) : phi s t ≤ ham (outB s a) (outB t b) + phi (nextS s a) (nextS t b) := by
  have : ∀ (s t : Fin 4) (a b : Fin 2), phi s.val t.val ≤ ham (outB s.val a.val) (outB t.val b.val) + phi (nextS s.val a.val) (nextS t.val b.val) := by decide +kernel
  exact this ⟨s, hs⟩ ⟨t, ht⟩ ⟨a, ha⟩ ⟨b, hb⟩
theorem seven_step (s a b : Nat) (hs : s < 4) (ha : a < 2) (hb : b < 2) (h : a ≠ b) : 7 ≤ ham (outB s a) (outB s b) + phi (nextS s a) (nextS s b) := by
  have : ∀ (s : Fin 4) (a b : Fin 2), a.val ≠ b.val → 7 ≤ ham (outB s.val a.val) (outB s.val b.val) + phi (nextS s.val a.val) (nextS s.val b.val) := by decide +kernel
  exact this ⟨s, hs⟩ ⟨a, ha⟩ ⟨b, hb⟩ h
theorem phi_self (s : Nat) : phi s s = 0 := by simp [phi]
theorem phi_path : ∀ (l m : List Nat) (s t : Nat), l.length = m.length → Bits l → Bits m → s < 4 → t < 4 → phi s t ≤ ham (encL s l) (encL t m) + phi (endS s l) (endS t m)
  | [], [], s, t, _, _, _, _, _ => by simp [encL, ham, endS]
  | [], _ :: _, _, _, h, _, _, _, _ => by simp at h
  | _ :: _, [], _, _, h, _, _, _, _ => by simp at h
  | a :: l, b :: m, s, t, h, hl, hm, hs, ht => by
    have ha := hl a (by simp)
    have hb := hm b (by simp)
    have h1 := phi_step s t a b hs ht ha hb
    have h2 := phi_path l m (nextS s a) (nextS t b) (by simpa using h) hl.tail hm.tail (nextS_lt hs ha) (nextS_lt ht hb)
    simp only [encL, endS]
    rw [ham_append _ _ _ _ (by rw [outB_length, outB_length])]
    omega
theorem seven : ∀ (l m : List Nat) (s : Nat), l.length = m.length → Bits l → Bits m → s < 4 → l ≠ m → 7 ≤ ham (encL s l) (encL s m) + phi (endS s l) (endS s m)
  | [], [], _, _, _, _, _, h => absurd rfl h
  | [], _ :: _, _, h, _, _, _, _ => by simp at h
  | _ :: _, [], _, h, _, _, _, _ => by simp at h
  | a :: l, b :: m, s, h, hl, hm, hs, hne => by
    have ha := hl a (by simp)
    have hb := hm b (by simp)
    simp only [encL, endS]
    rw [ham_append _ _ _ _ (by rw [outB_length, outB_length])]
    by_cases e : a = b
    · subst e
      have := seven l m (nextS s a) (by simpa using h) hl.tail hm.tail (nextS_lt hs ha) (fun q => hne (by rw [q]))
      omega
    · have h1 := seven_step s a b hs ha hb e
      have h2 := phi_path l m (nextS s a) (nextS s b) (by simpa using h) hl.tail hm.tail (nextS_lt hs ha) (nextS_lt hs hb)
      omega
theorem end_zero (l : List Nat) (hl : Bits l) : endS 0 (l ++ [0, 0]) = 0 := by
  rw [endS_append]
  have := endS_lt l 0 (by omega) hl
  simp only [endS, nextS]
  omega
/-- Two words of the code that are unlike are so in seven places. -/
theorem free_seven (l m : List Nat) (h : l.length = m.length) (hl : Bits l) (hm : Bits m) (hne : l ≠ m) : 7 ≤ ham (encL 0 (l ++ [0, 0])) (encL 0 (m ++ [0, 0])) := by
  have hz : Bits [0, 0] := fun x hx => by simp at hx; omega
  have := seven (l ++ [0, 0]) (m ++ [0, 0]) 0 (by simp [h]) (hl.append hz) (hm.append hz) (by omega) (fun e => hne (List.append_cancel_right e))
  rw [end_zero l hl, end_zero m hm, phi_self] at this
  omega
end Go.Proofs.YtaofmiigbhfnbaaDoor.K
