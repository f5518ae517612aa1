/- The walks of a sort of bytes: the patterns broken. -/
import Derived.Test.YthhcgepofldgaaaPByteI
namespace Go.Proofs.Ythhcgepofldgaaa.PByteJ
open Go.RowKit Go.Proofs.YthhcgepofldgaaaW.PrintWords Go.Proofs.Ythhcgepofldgaaa.PByteA Go.Proofs.Ythhcgepofldgaaa.PByteU Go.Proofs.Ythhcgepofldgaaa.PByteB Go.Proofs.Ythhcgepofldgaaa.PByteH Go.Proofs.Ythhcgepofldgaaa.PByteI
set_option linter.unusedVariables false
set_option linter.unusedSimpArgs false
set_option maxHeartbeats 4000000
set_option maxRecDepth 100000
theorem breakP (w0 W : World) (g cap n a b : Nat) (d : Array Int) (hn : d.size = n) (h : AtB w0 W g d) (hab : a + 12 < b) (hb : b ≤ d.size) (hlen : d.size < 1000) :
    Calls Try.prog 91 #[.slice (some ⟨g, 0, none⟩) n cap, .int .i64 a, .int .i64 b] W fun e w' => e = .returned (.tuple #[]) ∧ ∃ d', AtB w0 w' g d' ∧ Sort.PermIn a b d d' := by
  obtain ⟨l, hl⟩ : ∃ l, b - a = l := ⟨_, rfl⟩
  obtain ⟨q, hq⟩ : ∃ q, l / 4 = q := ⟨_, rfl⟩
  obtain ⟨q2, hq2⟩ : ∃ q2, q * 2 = q2 := ⟨_, rfl⟩
  obtain ⟨j, hj⟩ : ∃ j, a + q2 = j := ⟨_, rfl⟩
  obtain ⟨i0, hi0⟩ : ∃ i0, j - 1 = i0 := ⟨_, rfl⟩
  obtain ⟨top, htop⟩ : ∃ top, j + 1 = top := ⟨_, rfl⟩
  have HALL := Aside0.mk (show b - a = l ∧ l / 4 = q ∧ q * 2 = q2 ∧ a + q2 = j ∧ j - 1 = i0 ∧ j + 1 = top ∧ a + 12 < b ∧ b ≤ d.size from ⟨hl, hq, hq2, hj, hi0, htop, hab, hb⟩)
  have V1 := Aside0.mk (both (z := (b : Int) - (a : Int)) (n := l) (by omega) (by omega)).1
  have V2 := Aside0.mk (both (z := (l : Int) / 4) (n := q) (by omega) (by omega)).1
  have V3 := Aside0.mk (both (z := (q : Int) * 2) (n := q2) (by omega) (by omega)).1
  have V4 := Aside0.mk (both (z := (a : Int) + (q2 : Int)) (n := j) (by omega) (by omega)).1
  have V5 := Aside0.mk (both (z := (j : Int) - 1) (n := i0) (by omega) (by omega)).1
  have V6 := Aside0.mk (both (z := (j : Int) + 1) (n := top) (by omega) (by omega)).1
  have V7 := Aside0.mk (u64n (n := l) (by omega))
  have HN := Aside0.mk hn
  have HL := Aside0.mk hlen
  have h8 : decide (8 ≤ l) = true := decide_eq_true (by omega)
  have h8b : decide ((8 : Int) ≤ (l : Int)) = true := decide_eq_true (by omega)
  have hm := boxMade h .u64 112 (l : Int)
  have hB := h.size
  clear h hab hb hl hq hq2 hj hi0 htop
  have HM := Aside0.mk hm
  have HB := Aside0.mk hB
  clear hm hB
  obtain ⟨B, hB⟩ : ∃ B, W.heap.size = B := ⟨_, rfl⟩
  have A0 := Aside0.mk HM.out.1
  have B0 := Aside0.mk HM.out.2
  rw [hB] at HB B0
  clear HM
  have v1 := V1.out
  have v2 := V2.out
  have v3 := V3.out
  have v4 := V4.out
  have v5 := V5.out
  have v6 := V6.out
  have v7 := V7.out
  clear hn hlen
  go_enter Try.func91, Try.ntmps91
  go_upto_region 3 with (fail)
  (try simp only [v1, v7])
  generalize hW2 : W.alloc (.cells #[.int .u64 (l : Int)] 112) = W2 at A0 B0 ⊢
  clear hW2 hB
  go_upto_region 4 with (go_at_call 108; refine (nextPow l (by clear v1 v2 v3 v4 v5 v6 v7; have := HALL.out; omega) (by clear v1 v2 v3 v4 v5 v6 v7; have := HALL.out; have := HL.out; omega) _).mono ?_; rintro e w2 ⟨m, rfl, hm, rfl⟩; have HM := Aside0.mk hm; clear hm)
  go_wp2
  (try simp only [v1, v2, v3, v4, v5, v6, v7])
  clear v1 v2 v3 v4 v5 v6 v7 h8 h8b
  go_loopg [9] 4 (fun k vs w' => ∃ (x : Nat) (s : Int) (d1 : Array Int), vs = .int .i64 x ∧ Aside0 (i0 ≤ x ∧ x ≤ top + 1 ∧ top + 1 - x ≤ k) ∧ Aside0 (AtB w0 w' g d1) ∧ Aside0 (d1.size = d.size) ∧ Aside0 (Sort.PermIn a b d d1) ∧ Aside0 (BoxI w' B .u64 112 s))
  case atStart => exact ⟨i0, _, d, rfl, ⟨by have := HALL.out; omega⟩, A0, ⟨rfl⟩, ⟨Sort.permIn_refl _ _ _⟩, B0⟩
  case round =>
    clear A0 B0
    obtain ⟨x, s, d1, rfl, HI, HR, HS, HP, HX⟩ := hrel
    have v1 := V1.out
    have v2 := V2.out
    have v3 := V3.out
    have v4 := V4.out
    have v6 := V6.out
    by_cases hx : x ≤ top
    · have c1 : decide (x ≤ top) = true := decide_eq_true hx
      have HXX := Aside0.mk hx
      have hp := HI.out
      have ha := HALL.out
      obtain ⟨mm, hmm⟩ : ∃ mm, m - 1 = mm := ⟨_, rfl⟩
      have U1 := Aside0.mk (show IntKind.u64.wrap ((m : Int) - 1) = (mm : Int) by clear v1 v2 v3 v4 v6; have := HM.out; have := HL.out; rw [IntKind.wrap_u64]; omega)
      have HMM := Aside0.mk hmm
      clear hx hp ha hmm
      have u1 := U1.out
      go_upto_region 8 with (go_at_call 109; refine (next w0 _ g B s d1 HR.out HB.out HX.out).mono ?_; rintro e w3 ⟨r, t, rfl, h3, b3⟩; have A3 := Aside0.mk h3; have B3 := Aside0.mk b3; clear h3 b3)
      obtain ⟨o, ho, hle⟩ := and_le r mm (by clear v1 v2 v3 v4 v6 u1; have := HMM.out; have := HM.out; have := HALL.out; have := HL.out; omega)
      have HLE := Aside0.mk hle
      clear hle
      have U2 := Aside0.mk (both (z := (o : Int)) (n := o) rfl (by clear v1 v2 v3 v4 v6 u1 ho; have := HLE.out; have := HMM.out; have := HM.out; have := HALL.out; have := HL.out; omega))
      (try simp only [u1])
      (try simp only [ho])
      (try simp only [U2.out.1, U2.out.2])
      clear ho u1
      obtain ⟨o2, ho2⟩ : ∃ o2, o - l = o2 := ⟨_, rfl⟩
      by_cases hol : l ≤ o
      · have c2 : decide (l ≤ o) = true := decide_eq_true hol
        have HOL := Aside0.mk hol
        have HO2 := Aside0.mk ho2
        have U3 := Aside0.mk (show wrap64 ((o : Int) - (l : Int)) = (o2 : Int) ∧ IntKind.i64.wrap ((o : Int) - (l : Int)) = (o2 : Int) by clear v1 v2 v3 v4 v6; have := HLE.out; have := HMM.out; have := HM.out; have := HALL.out; have := HL.out; exact both (by omega) (by omega))
        clear hol ho2
        have u3 := U3.out.1
        obtain ⟨y, hy⟩ : ∃ y, a + o2 = y := ⟨_, rfl⟩
        have HY := Aside0.mk hy
        clear hy
        have HYB := Aside0.mk (show y < b ∧ x < b ∧ a ≤ y ∧ a ≤ x ∧ y < d.size ∧ x < d.size by clear v1 v2 v3 v4 v6 u3; have := HY.out; have := HLE.out; have := HMM.out; have := HM.out; have := HALL.out; have := HL.out; have := HI.out; have := HXX.out; have := HOL.out; have := HO2.out; omega)
        have U4 := Aside0.mk (show wrap64 ((a : Int) + (o2 : Int)) = (y : Int) ∧ IntKind.i64.wrap ((a : Int) + (o2 : Int)) = (y : Int) by clear v1 v2 v3 v4 v6 u3; have := HY.out; have := HYB.out; have := HL.out; exact both (by omega) (by omega))
        have U5 := Aside0.mk (show wrap64 ((x : Int) + 1) = ((x + 1 : Nat) : Int) ∧ IntKind.i64.wrap ((x : Int) + 1) = ((x + 1 : Nat) : Int) by clear v1 v2 v3 v4 v6 u3; have := HYB.out; have := HL.out; exact both (by omega) (by omega))
        have u4 := U4.out.1
        have u4b := U4.out.2
        have x1 : ((x : Int) < (n : Int)) = True := eq_true (by clear v1 v2 v3 v4 v6 u3 u4 u4b; have := HYB.out; have := HN.out; omega)
        have x2 : (x < n) = True := eq_true (by clear v1 v2 v3 v4 v6 u3 u4 u4b; have := HYB.out; have := HN.out; omega)
        have y1 : ((y : Int) < (n : Int)) = True := eq_true (by clear v1 v2 v3 v4 v6 u3 u4 u4b; have := HYB.out; have := HN.out; omega)
        have y2 : (y < n) = True := eq_true (by clear v1 v2 v3 v4 v6 u3 u4 u4b; have := HYB.out; have := HN.out; omega)
        obtain ⟨cx, fx⟩ := A3.out.cell x (by rw [HS.out]; exact HYB.out.2.2.2.2.2)
        obtain ⟨cy, fy⟩ := A3.out.cell y (by rw [HS.out]; exact HYB.out.2.2.2.2.1)
        obtain ⟨u, hu⟩ : ∃ u, d1[x]! = u := ⟨_, rfl⟩
        obtain ⟨v, hv⟩ : ∃ v, d1[y]! = v := ⟨_, rfl⟩
        rw [hu] at cx
        rw [hv] at cy
        have HU := Aside0.mk hu
        have HV := Aside0.mk hv
        clear hu hv
        have HPP := Aside0.mk (Sort.permIn_trans _ _ _ a b HP.out (Sort.swp_permIn d1 a b x y HYB.out.2.2.2.1 HYB.out.2.1 HYB.out.2.2.1 HYB.out.1 (by rw [HS.out]; exact HALL.out.2.2.2.2.2.2.2)))
        have HSN := Aside0.mk (show (Sort.swp d1 x y).size = d.size by rw [Sort.size_swp]; exact HS.out)
        have HNB := Aside0.mk (show B ≠ g by have := HB.out; have := A3.out.lt; omega)
        by_cases hxy : x = y
        · obtain rfl : u = v := by rw [← HU.out, ← HV.out, hxy]
          have A4 := Aside0.mk ((A3.out.swap HU.out HV.out).drew)
          have B4 := Aside0.mk (((B3.out.far (j := x) (v := .int .u8 u) HNB.out).far (j := y) (v := .int .u8 u) HNB.out).drew)
          subst hxy
          go_wp2_with fail
          go_big_region
          all_goals go_wp2
          clear v1 v2 v3 v4 v6 u3 u4 u4b
          go_roundg (top + 1 - (x + 1))
          case measure => have := HI.out; have := HXX.out; omega
          case rel => exact ⟨x + 1, t, Sort.swp d1 x x, by first | rfl | rw [U5.out.1], ⟨by have := HI.out; have := HXX.out; omega⟩, A4, HSN, HPP, B4⟩
        · have n1 : (x = y) = False := eq_false hxy
          have n2 : (y = x) = False := eq_false (fun q => hxy q.symm)
          have A4 := Aside0.mk ((A3.out.swap HU.out HV.out).drew)
          have B4 := Aside0.mk (((B3.out.far (j := x) (v := .int .u8 v) HNB.out).far (j := y) (v := .int .u8 u) HNB.out).drew)
          clear hxy
          go_wp2_with fail
          go_big_region
          all_goals go_wp2
          clear v1 v2 v3 v4 v6 u3 u4 u4b
          go_roundg (top + 1 - (x + 1))
          case measure => have := HI.out; have := HXX.out; omega
          case rel => exact ⟨x + 1, t, Sort.swp d1 x y, by first | rfl | rw [U5.out.1], ⟨by have := HI.out; have := HXX.out; omega⟩, A4, HSN, HPP, B4⟩
      · have c2 : decide (l ≤ o) = false := decide_eq_false hol
        have HOL := Aside0.mk hol
        have HO2 := Aside0.mk ho2
        clear hol ho2
        have u3 := True.intro
        obtain ⟨y, hy⟩ : ∃ y, a + o = y := ⟨_, rfl⟩
        have HY := Aside0.mk hy
        clear hy
        have HYB := Aside0.mk (show y < b ∧ x < b ∧ a ≤ y ∧ a ≤ x ∧ y < d.size ∧ x < d.size by clear v1 v2 v3 v4 v6 u3; have := HY.out; have := HLE.out; have := HMM.out; have := HM.out; have := HALL.out; have := HL.out; have := HI.out; have := HXX.out; have := HOL.out; have := HO2.out; omega)
        have U4 := Aside0.mk (show wrap64 ((a : Int) + (o : Int)) = (y : Int) ∧ IntKind.i64.wrap ((a : Int) + (o : Int)) = (y : Int) by clear v1 v2 v3 v4 v6 u3; have := HY.out; have := HYB.out; have := HL.out; exact both (by omega) (by omega))
        have U5 := Aside0.mk (show wrap64 ((x : Int) + 1) = ((x + 1 : Nat) : Int) ∧ IntKind.i64.wrap ((x : Int) + 1) = ((x + 1 : Nat) : Int) by clear v1 v2 v3 v4 v6 u3; have := HYB.out; have := HL.out; exact both (by omega) (by omega))
        have u4 := U4.out.1
        have u4b := U4.out.2
        have x1 : ((x : Int) < (n : Int)) = True := eq_true (by clear v1 v2 v3 v4 v6 u3 u4 u4b; have := HYB.out; have := HN.out; omega)
        have x2 : (x < n) = True := eq_true (by clear v1 v2 v3 v4 v6 u3 u4 u4b; have := HYB.out; have := HN.out; omega)
        have y1 : ((y : Int) < (n : Int)) = True := eq_true (by clear v1 v2 v3 v4 v6 u3 u4 u4b; have := HYB.out; have := HN.out; omega)
        have y2 : (y < n) = True := eq_true (by clear v1 v2 v3 v4 v6 u3 u4 u4b; have := HYB.out; have := HN.out; omega)
        obtain ⟨cx, fx⟩ := A3.out.cell x (by rw [HS.out]; exact HYB.out.2.2.2.2.2)
        obtain ⟨cy, fy⟩ := A3.out.cell y (by rw [HS.out]; exact HYB.out.2.2.2.2.1)
        obtain ⟨u, hu⟩ : ∃ u, d1[x]! = u := ⟨_, rfl⟩
        obtain ⟨v, hv⟩ : ∃ v, d1[y]! = v := ⟨_, rfl⟩
        rw [hu] at cx
        rw [hv] at cy
        have HU := Aside0.mk hu
        have HV := Aside0.mk hv
        clear hu hv
        have HPP := Aside0.mk (Sort.permIn_trans _ _ _ a b HP.out (Sort.swp_permIn d1 a b x y HYB.out.2.2.2.1 HYB.out.2.1 HYB.out.2.2.1 HYB.out.1 (by rw [HS.out]; exact HALL.out.2.2.2.2.2.2.2)))
        have HSN := Aside0.mk (show (Sort.swp d1 x y).size = d.size by rw [Sort.size_swp]; exact HS.out)
        have HNB := Aside0.mk (show B ≠ g by have := HB.out; have := A3.out.lt; omega)
        by_cases hxy : x = y
        · obtain rfl : u = v := by rw [← HU.out, ← HV.out, hxy]
          have A4 := Aside0.mk ((A3.out.swap HU.out HV.out).drew)
          have B4 := Aside0.mk (((B3.out.far (j := x) (v := .int .u8 u) HNB.out).far (j := y) (v := .int .u8 u) HNB.out).drew)
          subst hxy
          go_wp2_with fail
          go_big_region
          all_goals go_wp2
          clear v1 v2 v3 v4 v6 u3 u4 u4b
          go_roundg (top + 1 - (x + 1))
          case measure => have := HI.out; have := HXX.out; omega
          case rel => exact ⟨x + 1, t, Sort.swp d1 x x, by first | rfl | rw [U5.out.1], ⟨by have := HI.out; have := HXX.out; omega⟩, A4, HSN, HPP, B4⟩
        · have n1 : (x = y) = False := eq_false hxy
          have n2 : (y = x) = False := eq_false (fun q => hxy q.symm)
          have A4 := Aside0.mk ((A3.out.swap HU.out HV.out).drew)
          have B4 := Aside0.mk (((B3.out.far (j := x) (v := .int .u8 v) HNB.out).far (j := y) (v := .int .u8 u) HNB.out).drew)
          clear hxy
          go_wp2_with fail
          go_big_region
          all_goals go_wp2
          clear v1 v2 v3 v4 v6 u3 u4 u4b
          go_roundg (top + 1 - (x + 1))
          case measure => have := HI.out; have := HXX.out; omega
          case rel => exact ⟨x + 1, t, Sort.swp d1 x y, by first | rfl | rw [U5.out.1], ⟨by have := HI.out; have := HXX.out; omega⟩, A4, HSN, HPP, B4⟩
    · have c1 : decide (x ≤ top) = false := decide_eq_false hx
      clear hx
      go_wp2
      go_end0
      exact ⟨rfl, d1, HR.out, HP.out⟩
end Go.Proofs.Ythhcgepofldgaaa.PByteJ
