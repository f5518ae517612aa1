/- The walks of a sort of bytes: comparing, insertion, sifting, the heap. -/
import Derived.Test.YthhcgepofldgaaaPByteA
namespace Go.Proofs.Ythhcgepofldgaaa.PByteB
open Go.RowKit Go.Proofs.YthhcgepofldgaaaW.PrintWords Go.Proofs.Ythhcgepofldgaaa.PByteA Go.Proofs.Ythhcgepofldgaaa.PByteU
set_option linter.unusedVariables false
set_option maxHeartbeats 4000000
set_option maxRecDepth 100000
theorem isNaN (x : Int) (w : World) : Calls Try.prog 112 #[.int .u8 x] w fun e w' => e = .returned (.bool false) ∧ w' = w := by
  go_enter Try.func112, Try.ntmps112
  go_wp2
  go_ret
  exact ⟨by simp, rfl⟩
theorem less (x y : Int) (w : World) : Calls Try.prog 95 #[.int .u8 x, .int .u8 y] w fun e w' => e = .returned (.bool (decide (x < y))) ∧ w' = w := by
  go_enter Try.func95, Try.ntmps95
  go_wp2_with (go_at_call 112; refine (isNaN _ _).mono ?_; rintro e w' ⟨rfl, rfl⟩)
  go_ret
  exact ⟨rfl, rfl⟩
theorem lessQ (x y : Int) (w : World) : Calls Try.prog 95 #[.int .u8 x, .int .u8 y] w fun e w' => e = .returned (.bool (decide (x < y))) ∧ ∃ q, w' = w.drewN q :=
  (less x y w).mono fun e w' ⟨h1, h2⟩ => ⟨h1, 0, h2⟩
theorem insertionSort (w0 W : World) (g cap a b : Nat) (d : Array Int) (h : AtB w0 W g d) (hab : a ≤ b) (hb : b ≤ d.size) (hlen : d.size < 1000) :
    Calls Try.prog 89 #[.slice (some ⟨g, 0, none⟩) d.size cap, .int .i64 a, .int .i64 b] W fun e w' => e = .returned (.tuple #[]) ∧ AtB w0 w' g (Sort.insertionSort Sort.ltInt d a b) := by
  have H := Aside0.mk h
  have HAB := Aside0.mk hab
  have HB := Aside0.mk hb
  have HL := Aside0.mk hlen
  have W1 := Aside0.mk (w64of (z := (a : Int) + 1) (n := a + 1) (by omega) (by omega))
  clear h hab hb hlen
  go_enter Try.func89, Try.ntmps89
  go_wp2
  go_loopg [6] (b - a) (fun k v8 w' => ∃ (i : Nat) (d1 : Array Int), v8 = .int .i64 i ∧ Aside0 (a < i ∧ b - i ≤ k ∧ i ≤ b + 1) ∧ Aside0 (AtB w0 w' g d1) ∧ Aside0 (d1.size = d.size) ∧ Aside0 (Sort.insOuter Sort.ltInt a b i d1 = Sort.insertionSort Sort.ltInt d a b))
  case atStart => exact ⟨a + 1, d, by first | rfl | rw [W1.out], ⟨by have := HAB.out; omega⟩, H, ⟨rfl⟩, ⟨rfl⟩⟩
  case round =>
    obtain ⟨i, d1, rfl, HI, HR, HS, HF⟩ := hrel
    by_cases hib : i < b
    · have c1 : decide (i < b) = true := decide_eq_true hib
      have HIB := Aside0.mk hib
      clear hib
      go_wp2
      go_loopg [7] i (fun k v9 w' => ∃ (j : Nat) (d2 : Array Int), v9 = .int .i64 j ∧ Aside0 (j ≤ i ∧ j ≤ k) ∧ Aside0 (AtB w0 w' g d2) ∧ Aside0 (d2.size = d.size) ∧ Aside0 (Sort.insOuter Sort.ltInt a b (i + 1) (Sort.insInner Sort.ltInt a j d2) = Sort.insertionSort Sort.ltInt d a b))
      case atStart => exact ⟨i, d1, rfl, ⟨by omega⟩, HR, HS, ⟨by rw [← ins_succ a b i d1 HIB.out]; exact HF.out⟩⟩
      case round =>
        obtain ⟨j, d2, rfl, HJ, HR2, HS2, HF2⟩ := hrel
        have hl := HS2.out
        have e1 := HI.out
        have e2 := HB.out
        have e3 := HL.out
        have e4 := HJ.out
        have e5 := HIB.out
        have W3 := Aside0.mk (w64of (z := (i : Int) + 1) (n := i + 1) (by omega) (by omega))
        by_cases hja : a < j
        · obtain ⟨y, hy⟩ : ∃ y, j - 1 = y := ⟨_, rfl⟩
          have c2 : decide (a < j) = true := decide_eq_true hja
          have x1 : ((j : Int) < (d.size : Int)) = True := eq_true (by omega)
          have y1 : ((y : Int) < (d.size : Int)) = True := eq_true (by omega)
          have x2 : (j < d.size) = True := eq_true (by omega)
          have y2 : (y < d.size) = True := eq_true (by omega)
          have n1 : (j = y) = False := eq_false (by omega)
          have n2 : (y = j) = False := eq_false (by omega)
          obtain ⟨cx, fx⟩ := HR2.out.cell j (by omega)
          obtain ⟨cy, fy⟩ := HR2.out.cell y (by omega)
          obtain ⟨u, hu⟩ : ∃ u, d2[j]! = u := ⟨_, rfl⟩
          obtain ⟨v, hv⟩ : ∃ v, d2[y]! = v := ⟨_, rfl⟩
          have hc2 : ∀ n, Calls Try.prog 95 #[.int .u8 u, .int .u8 v] (wr.drewN n) fun e w' => e = .returned (.bool (decide (u < v))) ∧ ∃ q, w' = (wr.drewN n).drewN q := fun n => lessQ _ _ _
          rw [hu] at cx
          rw [hv] at cy
          have W4 := Aside0.mk (w64of (z := (j : Int) - 1) (n := y) (by omega) (by omega))
          have W5 := Aside0.mk (wIof (z := (j : Int) - 1) (n := y) (by omega) (by omega))
          have HY := Aside0.mk hy
          have HU := Aside0.mk hu
          have HVV := Aside0.mk hv
          have HJA := Aside0.mk hja
          clear e1 e2 e3 e4 e5 hy hu hv hja hl
          have w4 := W4.out
          have w5 := W5.out
          by_cases hlt : u < v
          · have c3 : decide (u < v) = true := decide_eq_true hlt
            have HLT := Aside0.mk hlt
            clear hlt
            go_wp2_with fail
            go_quiet (first | (go_at_call 95; refine Calls.quiet_of (hc2 _)))
            go_wp2_with fail
            have cx2 : (wr.drewN nq).cell? ⟨g, j, none⟩ = some (.int .u8 u) := cx
            have fx2 : (wr.drewN nq).frozen? ⟨g, j, none⟩ = false := fx
            have cy2 : (wr.drewN nq).cell? ⟨g, y, none⟩ = some (.int .u8 v) := cy
            have fy2 : (wr.drewN nq).frozen? ⟨g, y, none⟩ = false := fy
            have HR3 := Aside0.mk (HR2.out.drewN nq)
            clear cx fx cy fy hc2
            generalize wr.drewN nq = wq at cx2 fx2 cy2 fy2 HR3 ⊢
            go_big_region
            all_goals go_wp2
            clear w4 w5
            go_roundg y
            case measure => have := HJ.out; have := HY.out; have := HJA.out; omega
            case rel =>
              have e4 := HJ.out
              have e5 := HJA.out
              have e6 := HY.out
              refine ⟨y, Sort.swp d2 j y, by first | rfl | rw [W4.out], ⟨by omega⟩, ⟨(HR3.out.swap HU.out HVV.out).drew⟩, ⟨by rw [Sort.size_swp]; exact HS2.out⟩, ⟨?_⟩⟩
              rw [← HF2.out]
              obtain rfl : j = y + 1 := by omega
              rw [inner_go a y d2 (by omega) (by rw [HU.out, HVV.out]; exact HLT.out)]
          · have c3 : decide (u < v) = false := decide_eq_false hlt
            have HLT := Aside0.mk hlt
            clear hlt
            go_wp2_with fail
            go_quiet (first | (go_at_call 95; refine Calls.quiet_of (hc2 _)))
            go_wp2
            clear w4 w5
            go_roundg (b - (i + 1))
            case measure => have := HI.out; have := HIB.out; omega
            case rel =>
              have e1 := HI.out
              have e5 := HJA.out
              have e6 := HY.out
              have e8 := HIB.out
              refine ⟨i + 1, d2, by first | rfl | rw [W3.out], ⟨by omega⟩, ⟨by first | exact HR2.out.drewN _ | exact HR2.out⟩, HS2, ⟨?_⟩⟩
              rw [← HF2.out]
              obtain rfl : j = y + 1 := by omega
              rw [inner_stop a y d2 (by rw [HU.out, HVV.out]; have := HLT.out; omega)]
        · have c2 : decide (a < j) = false := decide_eq_false hja
          have HJA := Aside0.mk hja
          clear e1 e2 e3 e4 e5 hja hl
          go_wp2_with fail
          go_big_region
          all_goals go_wp2
          go_roundg (b - (i + 1))
          case measure => have := HI.out; have := HIB.out; omega
          case rel =>
            have e1 := HI.out
            have e8 := HIB.out
            exact ⟨i + 1, d2, by first | rfl | rw [W3.out], ⟨by omega⟩, ⟨by first | exact HR2.out.drew | exact HR2.out.drewN _ | exact HR2.out⟩, HS2, ⟨by rw [← HF2.out, inner_zero a j d2 HJA.out]⟩⟩
    · have c1 : decide (i < b) = false := decide_eq_false hib
      have HIB := Aside0.mk hib
      clear hib
      go_wp2
      go_end0
      exact ⟨rfl, by have h := HR.out; rw [← HF.out, ins_end a b i d1 HIB.out]; exact h⟩
end Go.Proofs.Ythhcgepofldgaaa.PByteB
