/- The walks of a sort of bytes: the partial insertion sort. -/
import Derived.Test.YthhcgepofldgaaaPByteB
namespace Go.Proofs.Ythhcgepofldgaaa.PByteG
open Go.RowKit Go.Proofs.YthhcgepofldgaaaW.PrintWords Go.Proofs.Ythhcgepofldgaaa.PByteA Go.Proofs.Ythhcgepofldgaaa.PByteU Go.Proofs.Ythhcgepofldgaaa.PByteB
set_option linter.unusedVariables false
set_option linter.unusedSimpArgs false
set_option maxHeartbeats 4000000
set_option maxRecDepth 100000
theorem pi_true {a b s i : Nat} {d : Array Int} (h : Sort.scanSorted L d b i = b) : Sort.partialIns L a b (s + 1) i d = (d, true) := by
  rw [Sort.partialIns]
  simp only [h, if_true]
theorem pi_short {a b s i i2 : Nat} {d : Array Int} (h : Sort.scanSorted L d b i = i2) (h1 : i2 ≠ b) (h2 : b - a < 50) : Sort.partialIns L a b (s + 1) i d = (d, false) := by
  rw [Sort.partialIns]
  simp only [h]
  rw [if_neg h1, if_pos h2]
theorem pi_go {a b s i i2 : Nat} {d d1 d2 : Array Int} (h : Sort.scanSorted L d b i = i2) (h1 : i2 ≠ b) (h2 : ¬ b - a < 50) (hd1 : d1 = if 2 ≤ i2 - a then Sort.shiftDown L (i2 - 1) (Sort.swp d i2 (i2 - 1)) else Sort.swp d i2 (i2 - 1))
    (hd2 : d2 = if 2 ≤ b - i2 then Sort.shiftUp L b (i2 + 1) d1 else d1) : Sort.partialIns L a b (s + 1) i d = Sort.partialIns L a b s i2 d2 := by
  subst hd2 hd1
  rw [Sort.partialIns]
  simp only [h]
  rw [if_neg h1, if_neg h2]
theorem partIns (w0 W : World) (g cap a b : Nat) (d : Array Int) (h : AtB w0 W g d) (hab : a < b) (hb : b ≤ d.size) (hlen : d.size < 1000) :
    Calls Try.prog 94 #[.slice (some ⟨g, 0, none⟩) d.size cap, .int .i64 a, .int .i64 b] W fun e w' => e = .returned (.bool (Sort.partialInsertionSort L d a b).2) ∧ AtB w0 w' g (Sort.partialInsertionSort L d a b).1 := by
  have H := Aside0.mk h
  have HAB := Aside0.mk hab
  have HB := Aside0.mk hb
  have HL := Aside0.mk hlen
  obtain ⟨s0, hs0⟩ : ∃ s0, a + 1 = s0 := ⟨_, rfl⟩
  have W1 := Aside0.mk (both (z := (a : Int) + 1) (n := s0) (by omega) (by omega))
  have HS0 := Aside0.mk hs0
  clear h hab hb hlen hs0
  go_enter Try.func94, Try.ntmps94
  go_wp2
  simp only [W1.out.1]
  go_loopg [7, 8] 5 (fun k v7 v8 w' => ∃ (s i t : Nat) (d1 : Array Int), v7 = .int .i64 i ∧ v8 = .int .i64 t ∧ Aside0 (s ≤ k ∧ s + t = 5 ∧ a < i ∧ i ≤ b) ∧ Aside0 (AtB w0 w' g d1) ∧ Aside0 (d1.size = d.size) ∧ Aside0 (Sort.partialIns L a b s i d1 = Sort.partialInsertionSort L d a b))
  case atStart => exact ⟨5, s0, 0, d, rfl, rfl, ⟨by have := HS0.out; have := HAB.out; omega⟩, H, ⟨rfl⟩, ⟨by rw [← HS0.out]; rfl⟩⟩
  case round =>
    obtain ⟨s, i, t, d1, rfl, rfl, HI, HR, HS, HF⟩ := hrel
    cases s with
    | zero =>
      have c1 : decide (t < 5) = false := decide_eq_false (by have := HI.out; omega)
      have c2 : decide ((t : Int) < 5) = false := decide_eq_false (by have := HI.out; omega)
      go_wp2
      go_ret
      have q : Sort.partialInsertionSort L d a b = (d1, false) := HF.out.symm
      rw [q]
      exact ⟨rfl, HR.out⟩
    | succ s =>
      have c1 : decide (t < 5) = true := decide_eq_true (by have := HI.out; omega)
      have c2 : decide ((t : Int) < 5) = true := decide_eq_true (by have := HI.out; omega)
      go_upto_block 2 with (fail)
      go_cut [7] (fun vs wc => ∃ i2 : Nat, vs = .int .i64 i2 ∧ Aside0 (i ≤ i2 ∧ i2 ≤ b) ∧ Aside0 (AtB w0 wc g d1) ∧ Aside0 (Sort.scanSorted L d1 b i = i2))
      case first =>
        go_wp2
        go_loopg [7] (b + 1) (fun k vs w' => ∃ i2 : Nat, vs = .int .i64 i2 ∧ Aside0 (i ≤ i2 ∧ i2 ≤ b ∧ b - i2 ≤ k) ∧ Aside0 (AtB w0 w' g d1) ∧ Aside0 (Sort.scanSorted L d1 b i2 = Sort.scanSorted L d1 b i))
        case atStart => exact ⟨i, rfl, ⟨by have := HI.out; omega⟩, HR, ⟨rfl⟩⟩
        case round =>
          clear c1 c2
          obtain ⟨i2, rfl, HJ, HR2, HF2⟩ := hrel
          have e1 := HI.out
          have e2 := HJ.out
          have e3 := HB.out
          have e4 := HL.out
          have e5 := HS.out
          by_cases hij : i2 < b
          · obtain ⟨y, hy⟩ : ∃ y, i2 - 1 = y := ⟨_, rfl⟩
            have c1 : decide (i2 < b) = true := decide_eq_true hij
            have x1 : ((i2 : Int) < (d.size : Int)) = True := eq_true (by omega)
            have y1 : ((y : Int) < (d.size : Int)) = True := eq_true (by omega)
            have x2 : (i2 < d.size) = True := eq_true (by omega)
            have y2 : (y < d.size) = True := eq_true (by omega)
            obtain ⟨cx, fx⟩ := HR2.out.cell i2 (by omega)
            obtain ⟨cy, fy⟩ := HR2.out.cell y (by omega)
            obtain ⟨u, hu⟩ : ∃ u, d1[i2]! = u := ⟨_, rfl⟩
            obtain ⟨v, hv⟩ : ∃ v, d1[y]! = v := ⟨_, rfl⟩
            rw [hu] at cx
            rw [hv] at cy
            have hc2 : ∀ n, Calls Try.prog 95 #[.int .u8 u, .int .u8 v] (wr.drewN n) fun e w' => e = .returned (.bool (decide (u < v))) ∧ ∃ q, w' = (wr.drewN n).drewN q := fun n => lessQ _ _ _
            have W4 := Aside0.mk (both (z := (i2 : Int) - 1) (n := y) (by omega) (by omega))
            have W9 := Aside0.mk (both (z := (i2 : Int) + 1) (n := i2 + 1) (by omega) (by omega))
            have HY := Aside0.mk hy
            have HU := Aside0.mk hu
            have HV := Aside0.mk hv
            have HIJ := Aside0.mk hij
            clear e1 e2 e3 e4 e5 hu hv hij hy
            have w4 := W4.out.1
            have w5 := W4.out.2
            by_cases hlt : u < v
            · have c2 : decide (u < v) = true := decide_eq_true hlt
              have HLT := Aside0.mk hlt
              clear hlt
              go_wp2_with fail
              go_quiet (first | (go_at_call 95; refine Calls.quiet_of (hc2 _)))
              go_wp2
              go_meet
              case rel => exact ⟨i2, rfl, ⟨by have := HJ.out; omega⟩, ⟨by first | exact HR2.out.drewN _ | exact HR2.out⟩, ⟨by rw [← HF2.out]; exact sorted_stop _ _ _ (by rw [show i2 - 1 = y from HY.out, HU.out, HV.out]; have := HLT.out; omega)⟩⟩
            · have c2 : decide (u < v) = false := decide_eq_false hlt
              have HLT := Aside0.mk hlt
              clear hlt
              go_wp2_with fail
              go_quiet (first | (go_at_call 95; refine Calls.quiet_of (hc2 _)))
              go_wp2
              clear w4 w5
              go_roundg (b - (i2 + 1))
              case measure => have := HJ.out; have := HIJ.out; omega
              case rel => exact ⟨i2 + 1, by first | rfl | rw [W9.out.1], ⟨by have := HJ.out; have := HIJ.out; omega⟩, ⟨by first | exact HR2.out.drewN _ | exact HR2.out⟩, ⟨by rw [← HF2.out]; exact (sorted_go _ _ _ HIJ.out (by rw [show i2 - 1 = y from HY.out, HU.out, HV.out]; have := HLT.out; omega)).symm⟩⟩
          · have c1 : decide (i2 < b) = false := decide_eq_false hij
            have HIJ := Aside0.mk hij
            clear e1 e2 e3 e4 e5 hij
            go_wp2_with fail
            go_quiet (fail)
            go_wp2
            go_meet
            case rel => exact ⟨i2, rfl, ⟨by have := HJ.out; omega⟩, ⟨by first | exact HR2.out.drewN _ | exact HR2.out⟩, ⟨by rw [← HF2.out]; exact sorted_stop _ _ _ (fun q => HIJ.out q.1)⟩⟩
      case rest =>
        clear HR c1 c2
        obtain ⟨i2, rfl, HJ, HR, HSC⟩ := hcut
        have e1 := HI.out
        have e2 := HJ.out
        have e3 := HB.out
        have e4 := HL.out
        have e5 := HS.out
        have e6 := HAB.out
        by_cases hib : i2 = b
        · have c1 : ((i2 : Int) == (b : Int)) = true := by simp [hib]
          have c2 : (i2 == b) = true := by simp [hib]
          have c3 : (i2 = b) = True := eq_true hib
          have HIB := Aside0.mk hib
          clear e1 e2 e3 e4 e5 e6 hib
          go_wp2
          go_ret
          have q : Sort.partialInsertionSort L d a b = (d1, true) := by rw [← HF.out]; exact pi_true (by rw [HSC.out, HIB.out])
          rw [q]
          exact ⟨rfl, HR.out⟩
        · have c1 : ((i2 : Int) == (b : Int)) = false := by simp; omega
          have c2 : (i2 == b) = false := by simp; omega
          have c3 : (i2 = b) = False := eq_false hib
          obtain ⟨m, hm⟩ : ∃ m, b - a = m := ⟨_, rfl⟩
          have W2 := Aside0.mk (both (z := (b : Int) - (a : Int)) (n := m) (by omega) (by omega))
          have HIB := Aside0.mk hib
          have HMM := Aside0.mk hm
          have w2 := W2.out.1
          by_cases h50 : m < 50
          · have c4 : decide (m < 50) = true := decide_eq_true h50
            have c5 : decide ((m : Int) < 50) = true := decide_eq_true (by omega)
            have H50 := Aside0.mk h50
            clear e1 e2 e3 e4 e5 e6 hib h50 hm
            go_wp2
            go_ret
            have q : Sort.partialInsertionSort L d a b = (d1, false) := by rw [← HF.out]; exact pi_short HSC.out HIB.out (by rw [HMM.out]; exact H50.out)
            rw [q]
            exact ⟨rfl, HR.out⟩
          · have c4 : decide (m < 50) = false := decide_eq_false h50
            have c5 : decide ((m : Int) < 50) = false := decide_eq_false (by omega)
            have H50 := Aside0.mk h50
            obtain ⟨y, hy⟩ : ∃ y, i2 - 1 = y := ⟨_, rfl⟩
            obtain ⟨f, hf⟩ : ∃ f, i2 - a = f := ⟨_, rfl⟩
            obtain ⟨l, hl⟩ : ∃ l, b - i2 = l := ⟨_, rfl⟩
            obtain ⟨x, hx⟩ : ∃ x, i2 + 1 = x := ⟨_, rfl⟩
            have x1 : ((i2 : Int) < (d.size : Int)) = True := eq_true (by omega)
            have y1 : ((y : Int) < (d.size : Int)) = True := eq_true (by omega)
            have x2 : (i2 < d.size) = True := eq_true (by omega)
            have y2 : (y < d.size) = True := eq_true (by omega)
            have n1 : (i2 = y) = False := eq_false (by omega)
            have n2 : (y = i2) = False := eq_false (by omega)
            obtain ⟨cx, fx⟩ := HR.out.cell i2 (by omega)
            obtain ⟨cy, fy⟩ := HR.out.cell y (by omega)
            obtain ⟨u, hu⟩ : ∃ u, d1[i2]! = u := ⟨_, rfl⟩
            obtain ⟨v, hv⟩ : ∃ v, d1[y]! = v := ⟨_, rfl⟩
            rw [hu] at cx
            rw [hv] at cy
            have W3 := Aside0.mk (both (z := (i2 : Int) - 1) (n := y) (by omega) (by omega))
            have W4 := Aside0.mk (both (z := (i2 : Int) - (a : Int)) (n := f) (by omega) (by omega))
            have W5 := Aside0.mk (both (z := (b : Int) - (i2 : Int)) (n := l) (by omega) (by omega))
            have W6 := Aside0.mk (both (z := (i2 : Int) + 1) (n := x) (by omega) (by omega))
            have HY := Aside0.mk hy
            have HFF := Aside0.mk hf
            have HLL := Aside0.mk hl
            have HX := Aside0.mk hx
            have HU := Aside0.mk hu
            have HV := Aside0.mk hv
            clear e1 e2 e3 e4 e5 e6 hib h50 hm hy hf hl hx hu hv
            have w3 := W3.out.1
            have w4 := W3.out.2
            go_upto_region 11 with (fail)
            go_big_region
            all_goals go_upto_if 61 with (fail)
            have HR1 := Aside0.mk ((HR.out.swap HU.out HV.out).drew)
            clear HR x1 x2 y1 y2 n1 n2 cx fx cy fy c1 c2 c3 c4 c5 w2 w3 w4
            obtain ⟨ds, hds⟩ : ∃ ds, Sort.swp d1 i2 y = ds := ⟨_, rfl⟩
            rw [hds] at HR1
            have HDS := Aside0.mk hds
            have HSS := Aside0.mk (show ds.size = d.size by rw [← hds, Sort.size_swp]; exact HS.out)
            clear hds
            go_cut [9] (fun v9 wc => ∃ d2 : Array Int, Aside0 (AtB w0 wc g d2) ∧ Aside0 (d2.size = d.size) ∧ Aside0 (d2 = if 2 ≤ i2 - a then Sort.shiftDown L (i2 - 1) ds else ds))
            case first =>
              (try simp only [W4.out.1, W4.out.2])
              by_cases h2 : 2 ≤ f
              · have c1 : decide (2 ≤ f) = true := decide_eq_true h2
                have c2 : decide ((2 : Int) ≤ (f : Int)) = true := decide_eq_true (by omega)
                have H2 := Aside0.mk h2
                clear h2
                (first | rw [c2] | rw [c1] | skip)
                go_wp2
                (try simp only [W3.out.1])
                clear c1 c2
                go_loopg [9] i2 (fun k vs w' => ∃ (j : Nat) (d2 : Array Int), vs = .int .i64 j ∧ Aside0 (j < i2 ∧ j ≤ k) ∧ Aside0 (AtB w0 w' g d2) ∧ Aside0 (d2.size = d.size) ∧ Aside0 (Sort.shiftDown L j d2 = Sort.shiftDown L (i2 - 1) ds))
                case atStart => exact ⟨y, ds, by first | rfl | rw [W3.out.1], ⟨by have := HY.out; have := HJ.out; have := HI.out; omega⟩, HR1, HSS, ⟨by rw [HY.out]⟩⟩
                case round =>
                  obtain ⟨j, d2, rfl, HK, HR2, HS2, HF2⟩ := hrel
                  have e2 := HK.out
                  have e3 := HB.out
                  have e4 := HL.out
                  have e5 := HS2.out
                  have e6 := HJ.out
                  by_cases hj : 1 ≤ j
                  · obtain ⟨q, hq⟩ : ∃ q, j - 1 = q := ⟨_, rfl⟩
                    have c1 : decide (1 ≤ j) = true := decide_eq_true hj
                    have c2 : decide ((1 : Int) ≤ (j : Int)) = true := decide_eq_true (by omega)
                    have x1 : ((j : Int) < (d.size : Int)) = True := eq_true (by omega)
                    have y1 : ((q : Int) < (d.size : Int)) = True := eq_true (by omega)
                    have x2 : (j < d.size) = True := eq_true (by omega)
                    have y2 : (q < d.size) = True := eq_true (by omega)
                    have n1 : (j = q) = False := eq_false (by omega)
                    have n2 : (q = j) = False := eq_false (by omega)
                    obtain ⟨cx, fx⟩ := HR2.out.cell j (by omega)
                    obtain ⟨cy, fy⟩ := HR2.out.cell q (by omega)
                    obtain ⟨u, hu⟩ : ∃ u, d2[j]! = u := ⟨_, rfl⟩
                    obtain ⟨v, hv⟩ : ∃ v, d2[q]! = v := ⟨_, rfl⟩
                    rw [hu] at cx
                    rw [hv] at cy
                    have hc2 : ∀ n, Calls Try.prog 95 #[.int .u8 u, .int .u8 v] (wr.drewN n) fun e w' => e = .returned (.bool (decide (u < v))) ∧ ∃ q, w' = (wr.drewN n).drewN q := fun n => lessQ _ _ _
                    have W7 := Aside0.mk (both (z := (j : Int) - 1) (n := q) (by omega) (by omega))
                    have HQ := Aside0.mk hq
                    have HU := Aside0.mk hu
                    have HV := Aside0.mk hv
                    have HJJ := Aside0.mk hj
                    clear e2 e3 e4 e5 e6 hu hv hj hq
                    have w7 := W7.out.1
                    have w8 := W7.out.2
                    by_cases hlt : u < v
                    · have c3 : decide (u < v) = true := decide_eq_true hlt
                      have HLT := Aside0.mk hlt
                      clear hlt
                      go_wp2_with fail
                      go_quiet (first | (go_at_call 95; refine Calls.quiet_of (hc2 _)))
                      go_wp2_with fail
                      have cx2 : (wr.drewN nq).cell? ⟨g, j, none⟩ = some (.int .u8 u) := cx
                      have fx2 : (wr.drewN nq).frozen? ⟨g, j, none⟩ = false := fx
                      have cy2 : (wr.drewN nq).cell? ⟨g, q, none⟩ = some (.int .u8 v) := cy
                      have fy2 : (wr.drewN nq).frozen? ⟨g, q, none⟩ = false := fy
                      have HR3 := Aside0.mk (HR2.out.drewN nq)
                      clear cx fx cy fy hc2
                      generalize wr.drewN nq = wq at cx2 fx2 cy2 fy2 HR3 ⊢
                      go_big_region
                      all_goals go_wp2
                      clear w7 w8
                      go_roundg q
                      case measure => have := HK.out; have := HQ.out; have := HJJ.out; omega
                      case rel =>
                        have e1 := HQ.out
                        have e2 := HJJ.out
                        have e3 := HK.out
                        refine ⟨q, Sort.swp d2 j q, by first | rfl | rw [W7.out.1], ⟨by omega⟩, ⟨(HR3.out.swap HU.out HV.out).drew⟩, ⟨by rw [Sort.size_swp]; exact HS2.out⟩, ⟨?_⟩⟩
                        rw [← HF2.out]
                        obtain rfl : j = q + 1 := by omega
                        exact (shd_go q d2 (by rw [HU.out, HV.out]; exact HLT.out)).symm
                    · have c3 : decide (u < v) = false := decide_eq_false hlt
                      have HLT := Aside0.mk hlt
                      clear hlt
                      go_wp2_with fail
                      go_quiet (first | (go_at_call 95; refine Calls.quiet_of (hc2 _)))
                      go_wp2
                      clear w7 w8
                      go_meet
                      case rel =>
                        have e1 := HQ.out
                        have e2 := HJJ.out
                        refine ⟨d2, ⟨HR2.out.drewN _⟩, HS2, ⟨?_⟩⟩
                        rw [if_pos (by rw [HFF.out]; exact H2.out), ← HF2.out]
                        obtain rfl : j = q + 1 := by omega
                        exact (shd_stop q d2 (by rw [HU.out, HV.out]; have := HLT.out; omega)).symm
                  · have c1 : decide (1 ≤ j) = false := decide_eq_false hj
                    have c2 : decide ((1 : Int) ≤ (j : Int)) = false := decide_eq_false (by omega)
                    have HJJ := Aside0.mk hj
                    clear e2 e3 e4 e5 e6 hj
                    go_wp2
                    go_meet
                    case rel =>
                      refine ⟨d2, HR2, HS2, ⟨?_⟩⟩
                      rw [if_pos (by rw [HFF.out]; exact H2.out), ← HF2.out]
                      obtain rfl : j = 0 := by have := HJJ.out; omega
                      rfl
              · have c1 : decide (2 ≤ f) = false := decide_eq_false h2
                have c2 : decide ((2 : Int) ≤ (f : Int)) = false := decide_eq_false (by omega)
                have H2 := Aside0.mk h2
                clear h2
                (first | rw [c2] | rw [c1] | skip)
                go_wp2
                go_meet
                case rel => exact ⟨ds, HR1, HSS, ⟨by rw [if_neg (by rw [HFF.out]; exact H2.out)]⟩⟩
            case rest =>
              clear HR1
              obtain ⟨d2, HR2, HS2, HD2⟩ := hcut
              have w5 := W5.out.1
              by_cases h2 : 2 ≤ l
              · have c1 : decide (2 ≤ l) = true := decide_eq_true h2
                have c2 : decide ((2 : Int) ≤ (l : Int)) = true := decide_eq_true (by omega)
                have H2 := Aside0.mk h2
                clear h2
                go_wp2
                (try simp only [W5.out.1])
                (try simp only [W6.out.1])
                clear c1 c2 w5
                go_loopg [10] (b + 1) (fun k vs w' => ∃ (j : Nat) (d3 : Array Int), vs = .int .i64 j ∧ Aside0 (i2 < j ∧ j ≤ b ∧ b - j ≤ k) ∧ Aside0 (AtB w0 w' g d3) ∧ Aside0 (d3.size = d.size) ∧ Aside0 (Sort.shiftUp L b j d3 = Sort.shiftUp L b (i2 + 1) d2))
                case atStart => exact ⟨x, d2, by first | rfl | rw [W6.out.1], ⟨by have := HX.out; have := HLL.out; have := H2.out; omega⟩, HR2, HS2, ⟨by rw [HX.out]⟩⟩
                case round =>
                  obtain ⟨j, d3, rfl, HK, HR3, HS3, HF3⟩ := hrel
                  have e2 := HK.out
                  have e3 := HB.out
                  have e4 := HL.out
                  have e5 := HS3.out
                  have e6 := HJ.out
                  by_cases hj : j < b
                  · obtain ⟨q, hq⟩ : ∃ q, j - 1 = q := ⟨_, rfl⟩
                    have c1 : decide (j < b) = true := decide_eq_true hj
                    have x1 : ((j : Int) < (d.size : Int)) = True := eq_true (by omega)
                    have y1 : ((q : Int) < (d.size : Int)) = True := eq_true (by omega)
                    have x2 : (j < d.size) = True := eq_true (by omega)
                    have y2 : (q < d.size) = True := eq_true (by omega)
                    have n1 : (j = q) = False := eq_false (by omega)
                    have n2 : (q = j) = False := eq_false (by omega)
                    obtain ⟨cx, fx⟩ := HR3.out.cell j (by omega)
                    obtain ⟨cy, fy⟩ := HR3.out.cell q (by omega)
                    obtain ⟨u, hu⟩ : ∃ u, d3[j]! = u := ⟨_, rfl⟩
                    obtain ⟨v, hv⟩ : ∃ v, d3[q]! = v := ⟨_, rfl⟩
                    rw [hu] at cx
                    rw [hv] at cy
                    have hc2 : ∀ n, Calls Try.prog 95 #[.int .u8 u, .int .u8 v] (wr.drewN n) fun e w' => e = .returned (.bool (decide (u < v))) ∧ ∃ q, w' = (wr.drewN n).drewN q := fun n => lessQ _ _ _
                    have W7 := Aside0.mk (both (z := (j : Int) - 1) (n := q) (by omega) (by omega))
                    have W8 := Aside0.mk (both (z := (j : Int) + 1) (n := j + 1) (by omega) (by omega))
                    have HQ := Aside0.mk hq
                    have HU := Aside0.mk hu
                    have HV := Aside0.mk hv
                    have HJJ := Aside0.mk hj
                    clear e2 e3 e4 e5 e6 hu hv hj hq
                    have w7 := W7.out.1
                    have w8 := W7.out.2
                    by_cases hlt : u < v
                    · have c3 : decide (u < v) = true := decide_eq_true hlt
                      have HLT := Aside0.mk hlt
                      clear hlt
                      go_wp2_with fail
                      go_quiet (first | (go_at_call 95; refine Calls.quiet_of (hc2 _)))
                      go_wp2_with fail
                      have cx2 : (wr.drewN nq).cell? ⟨g, j, none⟩ = some (.int .u8 u) := cx
                      have fx2 : (wr.drewN nq).frozen? ⟨g, j, none⟩ = false := fx
                      have cy2 : (wr.drewN nq).cell? ⟨g, q, none⟩ = some (.int .u8 v) := cy
                      have fy2 : (wr.drewN nq).frozen? ⟨g, q, none⟩ = false := fy
                      have HR4 := Aside0.mk (HR3.out.drewN nq)
                      clear cx fx cy fy hc2
                      generalize wr.drewN nq = wq at cx2 fx2 cy2 fy2 HR4 ⊢
                      go_big_region
                      all_goals go_wp2
                      clear w7 w8
                      go_roundg (b - (j + 1))
                      case measure => have := HK.out; have := HJJ.out; omega
                      case rel =>
                        have e1 := HQ.out
                        have e2 := HJJ.out
                        have e3 := HK.out
                        refine ⟨j + 1, Sort.swp d3 j q, by first | rfl | rw [W8.out.1], ⟨by omega⟩, ⟨(HR4.out.swap HU.out HV.out).drew⟩, ⟨by rw [Sort.size_swp]; exact HS3.out⟩, ⟨?_⟩⟩
                        rw [← HF3.out, shu_go b j d3 HJJ.out (by rw [show j - 1 = q from HQ.out, HU.out, HV.out]; exact HLT.out), show j - 1 = q from HQ.out]
                    · have c3 : decide (u < v) = false := decide_eq_false hlt
                      have HLT := Aside0.mk hlt
                      clear hlt
                      go_wp2_with fail
                      go_quiet (first | (go_at_call 95; refine Calls.quiet_of (hc2 _)))
                      go_wp2
                      clear w7 w8
                      have W9 := Aside0.mk (both (z := (t : Int) + 1) (n := t + 1) (by have := HI.out; omega) (by have := HI.out; omega))
                      go_roundg s
                      case measure => have := HI.out; omega
                      case rel =>
                        refine ⟨s, i2, t + 1, d3, rfl, by first | rfl | rw [W9.out.1], ⟨by have := HI.out; have := HJ.out; omega⟩, ⟨HR3.out.drewN _⟩, HS3, ⟨?_⟩⟩
                        rw [← HF.out]
                        have hds : Sort.swp d1 i2 (i2 - 1) = ds := by have q := HDS.out; rw [← HY.out] at q; exact q
                        exact (pi_go (d1 := d2) (d2 := d3) HSC.out HIB.out (by rw [HMM.out]; exact H50.out) (by rw [hds]; exact HD2.out) (by rw [if_pos (by rw [HLL.out]; exact H2.out), ← HF3.out]; exact (shu_stop b j d3 (by rw [show j - 1 = q from HQ.out, HU.out, HV.out]; have := HLT.out; omega)).symm)).symm
                  · have c1 : decide (j < b) = false := decide_eq_false hj
                    have HJJ := Aside0.mk hj
                    clear e2 e3 e4 e5 e6 hj
                    go_wp2
                    have W9 := Aside0.mk (both (z := (t : Int) + 1) (n := t + 1) (by have := HI.out; omega) (by have := HI.out; omega))
                    go_roundg s
                    case measure => have := HI.out; omega
                    case rel =>
                      refine ⟨s, i2, t + 1, d3, rfl, by first | rfl | rw [W9.out.1], ⟨by have := HI.out; have := HJ.out; omega⟩, HR3, HS3, ⟨?_⟩⟩
                      rw [← HF.out]
                      have hds : Sort.swp d1 i2 (i2 - 1) = ds := by have q := HDS.out; rw [← HY.out] at q; exact q
                      exact (pi_go (d1 := d2) (d2 := d3) HSC.out HIB.out (by rw [HMM.out]; exact H50.out) (by rw [hds]; exact HD2.out) (by rw [if_pos (by rw [HLL.out]; exact H2.out), ← HF3.out]; exact (shu_stop b j d3 (fun q => HJJ.out q.1)).symm)).symm
              · have c1 : decide (2 ≤ l) = false := decide_eq_false h2
                have c2 : decide ((2 : Int) ≤ (l : Int)) = false := decide_eq_false (by omega)
                have H2 := Aside0.mk h2
                clear h2
                go_wp2
                have W9 := Aside0.mk (both (z := (t : Int) + 1) (n := t + 1) (by have := HI.out; omega) (by have := HI.out; omega))
                go_roundg s
                case measure => have := HI.out; omega
                case rel =>
                  refine ⟨s, i2, t + 1, d2, rfl, by first | rfl | rw [W9.out.1], ⟨by have := HI.out; have := HJ.out; omega⟩, HR2, HS2, ⟨?_⟩⟩
                  rw [← HF.out]
                  have hds : Sort.swp d1 i2 (i2 - 1) = ds := by have q := HDS.out; rw [← HY.out] at q; exact q
                  exact (pi_go (d1 := d2) (d2 := d2) HSC.out HIB.out (by rw [HMM.out]; exact H50.out) (by rw [hds]; exact HD2.out) (by rw [if_neg (by rw [HLL.out]; exact H2.out)])).symm
end Go.Proofs.Ythhcgepofldgaaa.PByteG
