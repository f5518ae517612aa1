/- Numbers as sums of the sequence with no two neighbours: plain Lean. -/
import Derived.Test.YtekaaoeojbclfaaKFib
set_option linter.unusedVariables false
namespace Go.Proofs.Ytekaaoeojbclfaa.K
open Go Go.RowKit Go.Proofs.YtekaaoeojbclfaaW.PrintWords
/-- The sum of the chosen ones below i. -/
noncomputable def sumT (b : Nat → Bool) : Nat → Int
  | 0 => 0
  | i + 1 => sumT b i + (if b i = true then fibL i else 0)
/-- The chosen ones below i, upwards. -/
noncomputable def tk (b : Nat → Bool) : Nat → List Int
  | 0 => []
  | i + 1 => tk b i ++ (if b i = true then [fibL i] else [])
def Sep (b : Nat → Bool) (i : Nat) : Prop := ∀ j, j + 1 < i → ¬ (b j = true ∧ b (j + 1) = true)
theorem Sep.less {b : Nat → Bool} {i k : Nat} (h : Sep b i) (hk : k ≤ i) : Sep b k := fun j hj => h j (by omega)
theorem sumT_lt (b : Nat → Bool) : ∀ i, Sep b i → (0 ≤ sumT b i ∧ sumT b i < fibL i) ∧ (Sep b (i + 1) → 0 ≤ sumT b (i + 1) ∧ sumT b (i + 1) < fibL (i + 1))
  | 0, _ => by
    refine ⟨⟨Int.le_refl _, by rw [fibL_0]; show (0 : Int) < 1; decide⟩, fun _ => ?_⟩
    simp only [sumT, fibL_0, Nat.zero_add, fibL_1]
    split <;> decide
  | i + 1, h => by
    have ih := sumT_lt b i (h.less (by omega))
    have h1 := ih.2 h
    refine ⟨h1, fun h2 => ?_⟩
    have e : sumT b (i + 1 + 1) = sumT b (i + 1) + (if b (i + 1) = true then fibL (i + 1) else 0) := rfl
    have f := fibL_succ i
    have p := fibL_pos i
    have st := fibL_step (i + 1)
    rw [e]
    by_cases q : b (i + 1) = true
    · have q0 : ¬ b i = true := fun q0 => h2 i (by omega) ⟨q0, q⟩
      have e1 : sumT b (i + 1) = sumT b i + (if b i = true then fibL i else 0) := rfl
      rw [if_neg q0, Int.add_zero] at e1
      rw [if_pos q, e1]
      have := ih.1
      show 0 ≤ sumT b i + fibL (i + 1) ∧ sumT b i + fibL (i + 1) < fibL (i + 2)
      omega
    · rw [if_neg q, Int.add_zero]
      show 0 ≤ sumT b (i + 1) ∧ sumT b (i + 1) < fibL (i + 2)
      omega
theorem sumT_step (b : Nat → Bool) (i : Nat) (h : Sep b (i + 1)) : fibL i ≤ sumT b (i + 1) ↔ b i = true := by
  have lo := (sumT_lt b i (h.less (by omega))).1
  have e : sumT b (i + 1) = sumT b i + (if b i = true then fibL i else 0) := rfl
  by_cases q : b i = true
  · rw [if_pos q] at e
    exact ⟨fun _ => q, fun _ => by omega⟩
  · rw [if_neg q] at e
    exact ⟨fun h => by omega, fun h => absurd h q⟩
theorem sumT_same {b c : Nat → Bool} : ∀ i, (∀ j, j < i → b j = c j) → sumT b i = sumT c i
  | 0, _ => rfl
  | i + 1, h => by
    show sumT b i + _ = sumT c i + _
    rw [sumT_same i (fun j hj => h j (by omega)), h i (by omega)]
theorem sumT_above {b : Nat → Bool} {e : Nat} (h : ∀ j, e < j → b j = false) : ∀ d, sumT b (e + 1 + d) = sumT b (e + 1)
  | 0 => rfl
  | d + 1 => by
    show sumT b (e + 1 + d) + (if b (e + 1 + d) = true then fibL (e + 1 + d) else 0) = _
    rw [sumT_above h d, h (e + 1 + d) (by omega)]
    simp
theorem tk_above {b : Nat → Bool} {e : Nat} (h : ∀ j, e < j → b j = false) : ∀ d, tk b (e + 1 + d) = tk b (e + 1)
  | 0 => rfl
  | d + 1 => by
    show tk b (e + 1 + d) ++ (if b (e + 1 + d) = true then [fibL (e + 1 + d)] else []) = _
    rw [tk_above h d, h (e + 1 + d) (by omega)]
    simp
theorem fibL_inj {a c : Nat} (h : fibL a = fibL c) : a = c := by
  rcases Nat.lt_trichotomy a c with q | q | q
  · have := fibL_step a; have := fibL_mono (show a + 1 ≤ c by omega); omega
  · exact q
  · have := fibL_step c; have := fibL_mono (show c + 1 ≤ a by omega); omega
theorem tk_mem (b : Nat → Bool) (i : Nat) : ∀ m, fibL i ∈ tk b m ↔ i < m ∧ b i = true
  | 0 => by simp [tk]
  | m + 1 => by
    have ih := tk_mem b i m
    show fibL i ∈ tk b m ++ _ ↔ _
    rw [List.mem_append, ih]
    by_cases q : b m = true
    · rw [if_pos q, List.mem_singleton]
      constructor
      · rintro (⟨h1, h2⟩ | h)
        · exact ⟨by omega, h2⟩
        · rw [fibL_inj h]; exact ⟨by omega, q⟩
      · rintro ⟨h1, h2⟩
        rcases Nat.lt_or_ge i m with u | u
        · exact Or.inl ⟨u, h2⟩
        · exact Or.inr (by rw [show i = m by omega])
    · rw [if_neg q]
      constructor
      · rintro (⟨h1, h2⟩ | h)
        · exact ⟨by omega, h2⟩
        · simp at h
      · rintro ⟨h1, h2⟩
        refine Or.inl ⟨?_, h2⟩
        rcases Nat.lt_or_ge i m with u | u
        · exact u
        · exact absurd (by rw [← show i = m by omega]; exact h2) q
theorem tk_len (b : Nat → Bool) : ∀ m, (tk b m).length ≤ m
  | 0 => Nat.le_refl _
  | m + 1 => by
    have := tk_len b m
    show (tk b m ++ _).length ≤ _
    rw [List.length_append]
    split <;> simp <;> omega
/-- The code's bytes. -/
def digB (b : Nat → Bool) (i : Nat) : List Int := (List.range i).map (fun j => if b j = true then (49 : Int) else 48)
theorem digB_succ (b : Nat → Bool) (i : Nat) : digB b (i + 1) = digB b i ++ [if b i = true then (49 : Int) else 48] := by simp [digB, List.range_succ]
theorem digB_len (b : Nat → Bool) (i : Nat) : (digB b i).length = i := by simp [digB]
end Go.Proofs.Ytekaaoeojbclfaa.K
