/- The sort of bytes, and the first column of a text. -/
import Derived.Test.YthhcgepofldgaaaPByteK
namespace Go.Proofs.Ythhcgepofldgaaa.PByteL
open Go.RowKit Go.Proofs.YthhcgepofldgaaaW.PrintWords Go.Proofs.Ythhcgepofldgaaa.PByteA Go.Proofs.Ythhcgepofldgaaa.PByteU Go.Proofs.Ythhcgepofldgaaa.PByteK
set_option linter.unusedVariables false
set_option linter.unusedSimpArgs false
set_option maxHeartbeats 4000000
set_option maxRecDepth 100000
theorem pdq (w0 : World) (g cap n : Nat) (hlen : n < 1000) : ∀ (N : Nat) (W : World) (a b : Nat) (lim : Int) (d : Array Int), b - a < N → d.size = n → AtB w0 W g d → a ≤ b → b ≤ n → Sort.Below L a b d →
    Calls Try.prog 78 #[.slice (some ⟨g, 0, none⟩) n cap, .int .i64 a, .int .i64 b, .int .i64 lim] W (PByteK.Good w0 g a b d) := by
  intro N
  induction N with
  | zero => intro W a b lim d h; omega
  | succ N ih =>
    intro W a b lim d h hn hA hab hb hB
    exact pdq_step w0 g cap n a b hlen (fun W a' b' lim d h' => ih W a' b' lim d (by omega)) W lim d hn hA hab hb hB
/-- slices.Sort of bytes: sorted. -/
theorem sortB (w0 W : World) (g cap n : Nat) (d : Array Int) (hlen : n < 1000) (hn : d.size = n) (hA : AtB w0 W g d) :
    Calls Try.prog 58 #[.slice (some ⟨g, 0, none⟩) n cap] W fun e w' => e = .returned (.tuple #[]) ∧ AtB w0 w' g (d.toList.mergeSort (fun x y => decide (x ≤ y))).toArray := by
  have hp := fun lim => pdq w0 g cap n hlen (n + 1) W 0 n lim d (by omega) hn hA (Nat.zero_le _) (Nat.le_refl _) (.inl rfl)
  have v1 := PByteI.u64n (n := n) (by omega)
  have hl := Try.bits_Len (n : Int) W (by omega) (by omega)
  have HN := Aside0.mk hn
  clear hlen hA hn
  go_enter Try.func58, Try.ntmps58
  go_wp2_with (first
    | (go_at_call 79; refine hl.mono ?_; rintro e w1 ⟨rfl, rfl⟩)
    | (go_at_call 78; refine (hp _).mono ?_; rintro e w2 ⟨rfl, d', h2, p2, s2⟩))
  go_end0
  refine ⟨rfl, ?_⟩
  have hn := HN.out
  have q := Sort.sorted_unique_holds (lt := L) Sort.swo_ltInt (fun x y h1 h2 => by simp [L, Sort.ltInt] at h1 h2; omega) d d' (by rw [hn]; exact p2) (by rw [hn]; exact s2)
  have e : d' = (d.toList.mergeSort (fun x y => decide (x ≤ y))).toArray := by
    apply Array.toList_inj.mp
    rw [q]
    show _ = d.toList.mergeSort _
    congr 1
    funext x y
    simp [L, Sort.ltInt]
    by_cases h : y < x
    · simp [h]
    · simp [h]; omega
  rw [← e]
  exact h2
end Go.Proofs.Ythhcgepofldgaaa.PByteL
