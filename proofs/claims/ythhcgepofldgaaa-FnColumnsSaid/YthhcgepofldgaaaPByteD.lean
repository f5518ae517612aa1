/- The walks of a sort of bytes: the heap sort, turning a part round. -/
import Derived.Test.YthhcgepofldgaaaPByteC
namespace Go.Proofs.Ythhcgepofldgaaa.PByteD
open Go.RowKit Go.Proofs.YthhcgepofldgaaaW.PrintWords Go.Proofs.Ythhcgepofldgaaa.PByteA Go.Proofs.Ythhcgepofldgaaa.PByteU Go.Proofs.Ythhcgepofldgaaa.PByteB Go.Proofs.Ythhcgepofldgaaa.PByteC
set_option linter.unusedVariables false
set_option maxHeartbeats 4000000
set_option maxRecDepth 100000
theorem sift_n (w0 W : World) (g cap lo hi f n : Nat) (d : Array Int) (hn : d.size = n) (h : AtB w0 W g d) (hb : f + hi ≤ d.size) (hlo : lo ≤ hi) (hlen : d.size < 1000) :
    Calls Try.prog 107 #[.slice (some ⟨g, 0, none⟩) n cap, .int .i64 lo, .int .i64 hi, .int .i64 f] W fun e w' => e = .returned (.tuple #[]) ∧ AtB w0 w' g (Sort.siftDown L hi f lo d) := by
  subst hn
  exact siftDown w0 W g cap lo hi f d h hb hlo hlen
theorem heapSort (w0 W : World) (g cap a b : Nat) (d : Array Int) (h : AtB w0 W g d) (hab : a < b) (hb : b ≤ d.size) (hlen : d.size < 1000) :
    Calls Try.prog 90 #[.slice (some ⟨g, 0, none⟩) d.size cap, .int .i64 a, .int .i64 b] W fun e w' => e = .returned (.tuple #[]) ∧ AtB w0 w' g (Sort.heapSort L d a b) := by
  have H := Aside0.mk h
  have HAB := Aside0.mk hab
  have HB := Aside0.mk hb
  have HL := Aside0.mk hlen
  obtain ⟨hi, hhi⟩ : ∃ hi, b - a = hi := ⟨_, rfl⟩
  obtain ⟨hj, hhj⟩ : ∃ hj, hi - 1 = hj := ⟨_, rfl⟩
  have W1 := Aside0.mk (both (z := (b : Int) - (a : Int)) (n := hi) (by omega) (by omega))
  have W2 := Aside0.mk (both (z := (hi : Int) - 1) (n := hj) (by omega) (by omega))
  have W4 := Aside0.mk (both (z := (hj : Int) / 2) (n := hj / 2) (by omega) (by omega))
  have HHI := Aside0.mk hhi
  have HHJ := Aside0.mk hhj
  clear h hab hb hlen hhi hhj
  have w1 := W1.out.1
  have w2 := W2.out.1
  have w4 := W4.out.1
  go_enter Try.func90, Try.ntmps90
  go_wp2
  simp only [w1, w2, w4]
  clear w1 w2 w4
  go_loopg [9] (hj / 2 + 1) (fun k v9 w' => ∃ (n : Nat) (z : Int) (d1 : Array Int), v9 = .int .i64 z ∧ Aside0 (z = (n : Int) - 1 ∧ n ≤ k ∧ n ≤ hi) ∧ Aside0 (AtB w0 w' g d1) ∧ Aside0 (d1.size = d.size) ∧ Aside0 (Sort.heapPop L a hi (Sort.heapBuild L hi a n d1) = Sort.heapSort L d a b))
  case atStart =>
    have e1 := HHI.out
    have e2 := HHJ.out
    have e3 := HAB.out
    refine ⟨hj / 2 + 1, _, d, rfl, ⟨?_, by omega, by omega⟩, H, ⟨rfl⟩, ⟨?_⟩⟩
    · first | omega | (rw [W4.out.1]; omega)
    · unfold Sort.heapSort
      rw [e1, e2]
  case round =>
    obtain ⟨n, z, d1, rfl, HI, HR, HS, HF⟩ := hrel
    cases n with
    | zero =>
      have c1 : decide (0 ≤ z) = false := decide_eq_false (by have := HI.out.1; omega)
      go_wp2
      simp only [W2.out.1]
      go_loopg [10] hi (fun k v10 w' => ∃ (n : Nat) (z : Int) (d1 : Array Int), v10 = .int .i64 z ∧ Aside0 (z = (n : Int) - 1 ∧ n ≤ k ∧ n ≤ hi) ∧ Aside0 (AtB w0 w' g d1) ∧ Aside0 (d1.size = d.size) ∧ Aside0 (Sort.heapPop L a n d1 = Sort.heapSort L d a b))
      case atStart =>
        have e1 := HHI.out
        have e2 := HHJ.out
        have e3 := HAB.out
        exact ⟨hi, _, d1, rfl, ⟨by first | omega | (rw [W2.out.1]; omega), by omega, by omega⟩, HR, HS, ⟨HF.out⟩⟩
      case round =>
        clear c1
        obtain ⟨n, z, d2, rfl, HI2, HR2, HS2, HF2⟩ := hrel
        cases n with
        | zero =>
          have c1 : decide (0 ≤ z) = false := decide_eq_false (by have := HI2.out.1; omega)
          go_wp2
          go_end0
          exact ⟨rfl, by have h := HR2.out; rw [← HF2.out]; exact h⟩
        | succ m =>
          have hz : z = (m : Int) := by have := HI2.out.1; omega
          subst hz
          have c1 : decide (0 ≤ (m : Int)) = true := decide_eq_true (by omega)
          have e1 := HHI.out
          have e2 := HB.out
          have e3 := HL.out
          have e4 := HI2.out
          have e5 := HS2.out
          obtain ⟨y, hy⟩ : ∃ y, a + m = y := ⟨_, rfl⟩
          have x1 : ((a : Int) < (d.size : Int)) = True := eq_true (by omega)
          have y1 : ((y : Int) < (d.size : Int)) = True := eq_true (by omega)
          have x2 : (a < d.size) = True := eq_true (by omega)
          have y2 : (y < d.size) = True := eq_true (by omega)
          obtain ⟨cx, fx⟩ := HR2.out.cell a (by omega)
          obtain ⟨cy, fy⟩ := HR2.out.cell y (by omega)
          obtain ⟨u, hu⟩ : ∃ u, d2[a]! = u := ⟨_, rfl⟩
          obtain ⟨v, hv⟩ : ∃ v, d2[y]! = v := ⟨_, rfl⟩
          rw [hu] at cx
          rw [hv] at cy
          have W5 := Aside0.mk (both (z := (a : Int) + (m : Int)) (n := y) (by omega) (by omega))
          have HY := Aside0.mk hy
          have HU := Aside0.mk hu
          have HV := Aside0.mk hv
          have W6 : Aside0 (wrap64 ((m : Int) - 1) = (m : Int) - 1) := Aside0.mk (by unfold wrap64; omega)
          clear e1 e2 e3 e4 e5 hy hu hv
          have w5 := W5.out.1
          have w6 := W5.out.2
          by_cases hm : a = y
          · subst hm
            obtain rfl : u = v := by rw [← HU.out, ← HV.out]
            go_wp2_with fail
            go_big_region
            all_goals go_wp2_with (go_at_call 107; refine (sift_n w0 _ g cap 0 m a d.size (Sort.swp d2 a a) (by rw [Sort.size_swp]; exact HS2.out) ((HR2.out.swap HU.out HU.out).drew) (by rw [Sort.size_swp]; have := HS2.out; have := HI2.out; have := HHI.out; have := HAB.out; have := HB.out; omega) (by omega) (by rw [Sort.size_swp]; have := HS2.out; have := HL.out; omega)).mono ?_; rintro e w7 ⟨rfl, hw7⟩)
            have HW7 := Aside0.mk hw7
            clear hw7 cx fx cy fy
            go_roundg m
            case measure => have := HI2.out; omega
            case rel =>
              refine ⟨m, (m : Int) - 1, Sort.siftDown L m a 0 (Sort.swp d2 a a), by first | rfl | rw [W6.out], ⟨by have := HI2.out; omega⟩, HW7, ⟨by rw [siftSize, Sort.size_swp]; exact HS2.out⟩, ⟨?_⟩⟩
              rw [← HF2.out, Sort.heapPop, show a + m = a from HY.out]
          · have n1 : (a = y) = False := eq_false hm
            have n2 : (y = a) = False := eq_false (fun q => hm q.symm)
            clear hm
            go_wp2_with fail
            go_big_region
            all_goals go_wp2_with (go_at_call 107; refine (sift_n w0 _ g cap 0 m a d.size (Sort.swp d2 a y) (by rw [Sort.size_swp]; exact HS2.out) ((HR2.out.swap HU.out HV.out).drew) (by rw [Sort.size_swp]; have := HS2.out; have := HI2.out; have := HHI.out; have := HAB.out; have := HB.out; omega) (by omega) (by rw [Sort.size_swp]; have := HS2.out; have := HL.out; omega)).mono ?_; rintro e w7 ⟨rfl, hw7⟩)
            have HW7 := Aside0.mk hw7
            clear hw7 cx fx cy fy
            go_roundg m
            case measure => have := HI2.out; omega
            case rel =>
              refine ⟨m, (m : Int) - 1, Sort.siftDown L m a 0 (Sort.swp d2 a y), by first | rfl | rw [W6.out], ⟨by have := HI2.out; omega⟩, HW7, ⟨by rw [siftSize, Sort.size_swp]; exact HS2.out⟩, ⟨?_⟩⟩
              rw [← HF2.out, Sort.heapPop, show a + m = y from HY.out]
    | succ m =>
      have hz : z = (m : Int) := by have := HI.out.1; omega
      subst hz
      have c1 : decide (0 ≤ (m : Int)) = true := decide_eq_true (by omega)
      have W6 : Aside0 (wrap64 ((m : Int) - 1) = (m : Int) - 1) := Aside0.mk (by have := HI.out; have := HHI.out; have := HB.out; have := HL.out; unfold wrap64; omega)
      go_wp2_with (go_at_call 107; refine (sift_n w0 _ g cap m hi a d.size d1 HS.out HR.out (by have := HS.out; have := HI.out; have := HHI.out; have := HAB.out; have := HB.out; omega) (by have := HI.out; omega) (by have := HS.out; have := HL.out; omega)).mono ?_; rintro e w7 ⟨rfl, hw7⟩)
      have HW7 := Aside0.mk hw7
      clear hw7
      go_roundg m
      case measure => have := HI.out; omega
      case rel =>
        refine ⟨m, (m : Int) - 1, Sort.siftDown L hi a m d1, by first | rfl | rw [W6.out], ⟨by have := HI.out; omega⟩, HW7, ⟨by rw [siftSize]; exact HS.out⟩, ⟨?_⟩⟩
        rw [← HF.out]
        rfl
theorem reverseRange (w0 W : World) (g cap a b : Nat) (d : Array Int) (h : AtB w0 W g d) (hab : a < b) (hb : b ≤ d.size) (hlen : d.size < 1000) :
    Calls Try.prog 93 #[.slice (some ⟨g, 0, none⟩) d.size cap, .int .i64 a, .int .i64 b] W fun e w' => e = .returned (.tuple #[]) ∧ AtB w0 w' g (Sort.reverseRange d a b) := by
  have H := Aside0.mk h
  have HAB := Aside0.mk hab
  have HB := Aside0.mk hb
  have HL := Aside0.mk hlen
  obtain ⟨e, he⟩ : ∃ e, b - 1 = e := ⟨_, rfl⟩
  have W1 := Aside0.mk (both (z := (b : Int) - 1) (n := e) (by omega) (by omega))
  have HE := Aside0.mk he
  clear h hab hb hlen he
  have w1 := W1.out.1
  go_enter Try.func93, Try.ntmps93
  go_wp2
  go_loopg [6, 7] b (fun k v6 v7 w' => ∃ (i j : Nat) (d1 : Array Int), v6 = .int .i64 i ∧ v7 = .int .i64 j ∧ Aside0 (j < b ∧ j ≤ k) ∧ Aside0 (AtB w0 w' g d1) ∧ Aside0 (d1.size = d.size) ∧ Aside0 (Sort.reverseLoop i j d1 = Sort.reverseRange d a b))
  case atStart => exact ⟨a, e, d, rfl, by first | rfl | rw [W1.out.1], ⟨by have := HE.out; have := HAB.out; omega⟩, H, ⟨rfl⟩, ⟨by rw [← HE.out]; rfl⟩⟩
  case round =>
    obtain ⟨i, j, d1, rfl, rfl, HI, HR, HS, HF⟩ := hrel
    by_cases hij : i < j
    · have c1 : decide (i < j) = true := decide_eq_true hij
      have e1 := HI.out
      have e2 := HB.out
      have e3 := HL.out
      have e4 := HS.out
      have x1 : ((i : Int) < (d.size : Int)) = True := eq_true (by omega)
      have y1 : ((j : Int) < (d.size : Int)) = True := eq_true (by omega)
      have x2 : (i < d.size) = True := eq_true (by omega)
      have y2 : (j < d.size) = True := eq_true (by omega)
      have n1 : (i = j) = False := eq_false (by omega)
      have n2 : (j = i) = False := eq_false (by omega)
      obtain ⟨cx, fx⟩ := HR.out.cell i (by omega)
      obtain ⟨cy, fy⟩ := HR.out.cell j (by omega)
      obtain ⟨u, hu⟩ : ∃ u, d1[i]! = u := ⟨_, rfl⟩
      obtain ⟨v, hv⟩ : ∃ v, d1[j]! = v := ⟨_, rfl⟩
      rw [hu] at cx
      rw [hv] at cy
      have W2 := Aside0.mk (both (z := (i : Int) + 1) (n := i + 1) (by omega) (by omega))
      have W3 := Aside0.mk (both (z := (j : Int) - 1) (n := j - 1) (by omega) (by omega))
      have HU := Aside0.mk hu
      have HV := Aside0.mk hv
      have HIJ := Aside0.mk hij
      clear e1 e2 e3 e4 hu hv hij
      go_wp2_with fail
      go_big_region
      all_goals go_wp2
      go_roundg (j - 1)
      case measure => have := HI.out; have := HIJ.out; omega
      case rel =>
        refine ⟨i + 1, j - 1, Sort.swp d1 i j, by first | rfl | rw [W2.out.1], by first | rfl | rw [W3.out.1], ⟨by have := HI.out; have := HIJ.out; omega⟩, ⟨(HR.out.swap HU.out HV.out).drew⟩, ⟨by rw [Sort.size_swp]; exact HS.out⟩, ⟨by rw [← HF.out, rev_go i j d1 HIJ.out]⟩⟩
    · have c1 : decide (i < j) = false := decide_eq_false hij
      have HIJ := Aside0.mk hij
      clear hij
      go_wp2
      go_end0
      exact ⟨rfl, by have h := HR.out; rw [← HF.out, rev_stop i j d1 HIJ.out]; exact h⟩
end Go.Proofs.Ythhcgepofldgaaa.PByteD
