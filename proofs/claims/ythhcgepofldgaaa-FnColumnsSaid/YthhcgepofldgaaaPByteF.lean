/- The walks of a sort of bytes: the partitions. -/
import Derived.Test.YthhcgepofldgaaaPByteE
namespace Go.Proofs.Ythhcgepofldgaaa.PByteF
open Go.RowKit Go.Proofs.YthhcgepofldgaaaW.PrintWords Go.Proofs.Ythhcgepofldgaaa.PByteA Go.Proofs.Ythhcgepofldgaaa.PByteU Go.Proofs.Ythhcgepofldgaaa.PByteB Go.Proofs.Ythhcgepofldgaaa.PByteE
set_option linter.unusedVariables false
set_option linter.unusedSimpArgs false
set_option maxHeartbeats 4000000
set_option maxRecDepth 100000
theorem part (w0 W : World) (g cap a b p : Nat) (d : Array Int) (h : AtB w0 W g d) (hap : a < p) (hpb : p < b) (hb : b ≤ d.size) (hlen : d.size < 1000) :
    Calls Try.prog 97 #[.slice (some ⟨g, 0, none⟩) d.size cap, .int .i64 a, .int .i64 b, .int .i64 p] W fun e w' => e = .returned (.tuple #[.int .i64 (Sort.partition L d a b p).1, .bool (Sort.partition L d a b p).2.1]) ∧ AtB w0 w' g (Sort.partition L d a b p).2.2 := by
  have H := Aside0.mk h
  have HAP := Aside0.mk hap
  have HPB := Aside0.mk hpb
  have HB := Aside0.mk hb
  have HL := Aside0.mk hlen
  obtain ⟨z, hz⟩ : ∃ z, b - 1 = z := ⟨_, rfl⟩
  obtain ⟨s, hs⟩ : ∃ s, a + 1 = s := ⟨_, rfl⟩
  obtain ⟨d0, hd0⟩ : ∃ d0, Sort.swp d a p = d0 := ⟨_, rfl⟩
  have W1 := Aside0.mk (both (z := (a : Int) + 1) (n := s) (by omega) (by omega))
  have W2 := Aside0.mk (both (z := (b : Int) - 1) (n := z) (by omega) (by omega))
  have HZ := Aside0.mk hz
  have HSS := Aside0.mk hs
  have HD0 := Aside0.mk hd0
  have HI := Aside0.mk (show a < s ∧ s ≤ z + 1 ∧ z < b by omega)
  have HS := Aside0.mk (show d0.size = d.size by rw [← hd0, Sort.size_swp])
  have x1 : ((a : Int) < (d.size : Int)) = True := eq_true (by omega)
  have y1 : ((p : Int) < (d.size : Int)) = True := eq_true (by omega)
  have x2 : (a < d.size) = True := eq_true (by omega)
  have y2 : (p < d.size) = True := eq_true (by omega)
  have n1 : (a = p) = False := eq_false (by omega)
  have n2 : (p = a) = False := eq_false (by omega)
  obtain ⟨cx, fx⟩ := H.out.cell a (by omega)
  obtain ⟨cy, fy⟩ := H.out.cell p (by omega)
  obtain ⟨u, hu⟩ : ∃ u, d[a]! = u := ⟨_, rfl⟩
  obtain ⟨v, hv⟩ : ∃ v, d[p]! = v := ⟨_, rfl⟩
  rw [hu] at cx
  rw [hv] at cy
  have HU := Aside0.mk hu
  have HV := Aside0.mk hv
  clear h hap hpb hb hlen hu hv hz hs hd0
  go_enter Try.func97, Try.ntmps97
  go_wp2_with fail
  go_big_region
  all_goals go_upto_block 0 with (fail)
  simp only [W1.out.1, W2.out.1]
  clear x1 x2 y1 y2 n1 n2 cx cy fx fy
  have hr0 := (H.out.swap HU.out HV.out).drew
  rw [HD0.out] at hr0
  have HR := Aside0.mk hr0
  clear hr0 HU HV
  go_cut [10] (fun vs wc => ∃ i2 : Nat, vs = .int .i64 i2 ∧ Aside0 (s ≤ i2 ∧ i2 ≤ z + 1) ∧ Aside0 (AtB w0 wc g d0) ∧ Aside0 (Sort.scanUp (upP d0 a) d0 z s = i2) ∧ Aside0 (¬ (i2 ≤ z ∧ upP d0 a d0[i2]! = true)))
  case first =>
    go_wp2
    go_loopg [10] (z + 1) (fun k vs w' => ∃ i2 : Nat, vs = .int .i64 i2 ∧ Aside0 (s ≤ i2 ∧ i2 ≤ z + 1 ∧ z + 1 - i2 ≤ k) ∧ Aside0 (AtB w0 w' g d0) ∧ Aside0 (Sort.scanUp (upP d0 a) d0 z i2 = Sort.scanUp (upP d0 a) d0 z s))
    case atStart => exact ⟨s, rfl, ⟨by have := HI.out; omega⟩, HR, ⟨rfl⟩⟩
    case round =>
      obtain ⟨i2, rfl, HJ, HR2, HF2⟩ := hrel
      have e1 := HI.out
      have e2 := HJ.out
      have e3 := HB.out
      have e4 := HL.out
      have e5 := HS.out
      by_cases hij : i2 ≤ z
      · have c1 : decide (i2 ≤ z) = true := decide_eq_true hij
        have HPOS := Aside0.mk (show 0 < i2 by omega)
        have x1 : ((a : Int) < (d.size : Int)) = True := eq_true (by omega)
        have y1 : ((i2 : Int) < (d.size : Int)) = True := eq_true (by omega)
        have x2 : (a < d.size) = True := eq_true (by omega)
        have y2 : (i2 < d.size) = True := eq_true (by omega)
        obtain ⟨cx, fx⟩ := HR2.out.cell a (by omega)
        obtain ⟨cy, fy⟩ := HR2.out.cell i2 (by omega)
        obtain ⟨u, hu⟩ : ∃ u, d0[a]! = u := ⟨_, rfl⟩
        obtain ⟨v, hv⟩ : ∃ v, d0[i2]! = v := ⟨_, rfl⟩
        rw [hu] at cx
        rw [hv] at cy
        have hc2 : ∀ n, Calls Try.prog 95 #[.int .u8 v, .int .u8 u] (wr.drewN n) fun e w' => e = .returned (.bool (decide (v < u))) ∧ ∃ q, w' = (wr.drewN n).drewN q := fun n => lessQ _ _ _
        have W9 := Aside0.mk (both (z := (i2 : Int) + 1) (n := i2 + 1) (by omega) (by omega))
        have HU := Aside0.mk hu
        have HV := Aside0.mk hv
        have HIJ := Aside0.mk hij
        clear e1 e2 e3 e4 e5 hu hv hij
        by_cases hlt : v < u
        · have c2 : decide (v < u) = true := decide_eq_true hlt
          have HGO := Aside0.mk (show upP d0 a d0[i2]! = true from (by have q1 := HU.out; have q2 := HV.out; rw [q2]; exact upP_t (by rw [q1]; exact hlt)))
          go_wp2_with fail
          go_quiet (first | (go_at_call 95; refine Calls.quiet_of (hc2 _)))
          go_wp2
          go_roundg (z + 1 - (i2 + 1))
          case measure => have := HJ.out; have := HIJ.out; have := HPOS.out; omega
          case rel => exact ⟨i2 + 1, by first | rfl | rw [W9.out.1], ⟨by have := HJ.out; have := HIJ.out; have := HPOS.out; omega⟩, ⟨by first | exact HR2.out.drewN _ | exact HR2.out⟩, ⟨by rw [← HF2.out, up_go _ _ _ _ HIJ.out HGO.out]⟩⟩
        · have c2 : decide (v < u) = false := decide_eq_false hlt
          have HST := Aside0.mk (show ¬ (i2 ≤ z ∧ upP d0 a d0[i2]! = true) from (fun q => absurd q.2 (by have q1 := HU.out; have q2 := HV.out; rw [q2]; exact upP_f (by rw [q1]; exact hlt))))
          go_wp2_with fail
          go_quiet (first | (go_at_call 95; refine Calls.quiet_of (hc2 _)))
          go_wp2
          go_meet
          case rel => exact ⟨i2, rfl, ⟨by have := HJ.out; omega⟩, ⟨by first | exact HR2.out.drewN _ | exact HR2.out⟩, ⟨by rw [← HF2.out, up_stop _ _ _ _ HST.out]⟩, HST⟩
      · have c1 : decide (i2 ≤ z) = false := decide_eq_false hij
        clear e1 e2 e3 e4 e5
        have HST := Aside0.mk (show ¬ (i2 ≤ z ∧ upP d0 a d0[i2]! = true) from (fun q => absurd q.1 hij))
        go_wp2_with fail
        go_quiet (fail)
        go_wp2
        go_meet
        case rel => exact ⟨i2, rfl, ⟨by have := HJ.out; omega⟩, ⟨by first | exact HR2.out.drewN _ | exact HR2.out⟩, ⟨by rw [← HF2.out, up_stop _ _ _ _ HST.out]⟩, HST⟩
  case rest =>
    clear HR
    obtain ⟨i2, rfl, HJ1, HR, HSU, HST1⟩ := hcut
    go_upto_block 2 with (fail)
    go_cut [11] (fun vs wc => ∃ j2 : Nat, vs = .int .i64 j2 ∧ Aside0 (j2 ≤ z ∧ i2 ≤ j2 + 1) ∧ Aside0 (AtB w0 wc g d0) ∧ Aside0 (Sort.scanDown (dnP d0 a) d0 i2 z = j2) ∧ Aside0 (¬ (i2 ≤ j2 ∧ dnP d0 a d0[j2]! = true)))
    case first =>
      go_wp2
      go_loopg [11] (z + 1) (fun k vs w' => ∃ j2 : Nat, vs = .int .i64 j2 ∧ Aside0 (j2 ≤ z ∧ i2 ≤ j2 + 1 ∧ j2 ≤ k) ∧ Aside0 (AtB w0 w' g d0) ∧ Aside0 (Sort.scanDown (dnP d0 a) d0 i2 j2 = Sort.scanDown (dnP d0 a) d0 i2 z))
      case atStart => exact ⟨z, rfl, ⟨by have := HJ1.out; omega⟩, HR, ⟨rfl⟩⟩
      case round =>
        obtain ⟨j2, rfl, HJ, HR2, HF2⟩ := hrel
        have e1 := HI.out
        have e0 := HJ1.out
        have e2 := HJ.out
        have e3 := HB.out
        have e4 := HL.out
        have e5 := HS.out
        by_cases hij : i2 ≤ j2
        · have c1 : decide (i2 ≤ j2) = true := decide_eq_true hij
          have HPOS := Aside0.mk (show 0 < j2 by omega)
          have x1 : ((a : Int) < (d.size : Int)) = True := eq_true (by omega)
          have y1 : ((j2 : Int) < (d.size : Int)) = True := eq_true (by omega)
          have x2 : (a < d.size) = True := eq_true (by omega)
          have y2 : (j2 < d.size) = True := eq_true (by omega)
          obtain ⟨cx, fx⟩ := HR2.out.cell a (by omega)
          obtain ⟨cy, fy⟩ := HR2.out.cell j2 (by omega)
          obtain ⟨u, hu⟩ : ∃ u, d0[a]! = u := ⟨_, rfl⟩
          obtain ⟨v, hv⟩ : ∃ v, d0[j2]! = v := ⟨_, rfl⟩
          rw [hu] at cx
          rw [hv] at cy
          have hc2 : ∀ n, Calls Try.prog 95 #[.int .u8 v, .int .u8 u] (wr.drewN n) fun e w' => e = .returned (.bool (decide (v < u))) ∧ ∃ q, w' = (wr.drewN n).drewN q := fun n => lessQ _ _ _
          have W9 := Aside0.mk (both (z := (j2 : Int) - 1) (n := j2 - 1) (by omega) (by omega))
          have HU := Aside0.mk hu
          have HV := Aside0.mk hv
          have HIJ := Aside0.mk hij
          clear e0 e1 e2 e3 e4 e5 hu hv hij
          by_cases hlt : v < u
          · have c2 : decide (v < u) = true := decide_eq_true hlt
            have HST := Aside0.mk (show ¬ (i2 ≤ j2 ∧ dnP d0 a d0[j2]! = true) from (fun q => absurd q.2 (by have q1 := HU.out; have q2 := HV.out; rw [q2]; exact dnP_f (by rw [q1]; exact hlt))))
            go_wp2_with fail
            go_quiet (first | (go_at_call 95; refine Calls.quiet_of (hc2 _)))
            go_wp2
            go_meet
            case rel => exact ⟨j2, rfl, ⟨by have := HJ.out; omega⟩, ⟨by first | exact HR2.out.drewN _ | exact HR2.out⟩, ⟨by rw [← HF2.out, down_stop _ _ _ _ HST.out]⟩, HST⟩
          · have c2 : decide (v < u) = false := decide_eq_false hlt
            have HGO := Aside0.mk (show dnP d0 a d0[j2]! = true from (by have q1 := HU.out; have q2 := HV.out; rw [q2]; exact dnP_t (by rw [q1]; exact hlt)))
            go_wp2_with fail
            go_quiet (first | (go_at_call 95; refine Calls.quiet_of (hc2 _)))
            go_wp2
            go_roundg (j2 - 1)
            case measure => have := HJ.out; have := HIJ.out; have := HPOS.out; omega
            case rel => exact ⟨j2 - 1, by first | rfl | rw [W9.out.1], ⟨by have := HJ.out; have := HIJ.out; have := HPOS.out; omega⟩, ⟨by first | exact HR2.out.drewN _ | exact HR2.out⟩, ⟨by rw [← HF2.out, down_pos _ _ _ _ HPOS.out HIJ.out HGO.out]⟩⟩
        · have c1 : decide (i2 ≤ j2) = false := decide_eq_false hij
          clear e0 e1 e2 e3 e4 e5
          have HST := Aside0.mk (show ¬ (i2 ≤ j2 ∧ dnP d0 a d0[j2]! = true) from (fun q => absurd q.1 hij))
          go_wp2_with fail
          go_quiet (fail)
          go_wp2
          go_meet
          case rel => exact ⟨j2, rfl, ⟨by have := HJ.out; omega⟩, ⟨by first | exact HR2.out.drewN _ | exact HR2.out⟩, ⟨by rw [← HF2.out, down_stop _ _ _ _ HST.out]⟩, HST⟩
    case rest =>
      clear HR
      obtain ⟨j2, rfl, HJ2, HR, HSD, HST2⟩ := hcut
      have e1 := HI.out
      have e2 := HJ1.out
      have e3 := HJ2.out
      have e4 := HB.out
      have e5 := HL.out
      have e6 := HS.out
      have e7 := HPB.out
      by_cases hgt : j2 < i2
      · have c1 : decide (j2 < i2) = true := decide_eq_true hgt
        have HGT := Aside0.mk hgt
        by_cases hm : j2 = a
        · subst hm
          have x1 : ((j2 : Int) < (d.size : Int)) = True := eq_true (by omega)
          have x2 : (j2 < d.size) = True := eq_true (by omega)
          obtain ⟨cx, fx⟩ := HR.out.cell j2 (by omega)
          obtain ⟨u, hu⟩ : ∃ u, d0[j2]! = u := ⟨_, rfl⟩
          rw [hu] at cx
          have HU := Aside0.mk hu
          clear e1 e2 e3 e4 e5 e6 e7 hgt hu
          go_wp2_with fail
          go_big_region
          all_goals go_wp2
          go_ret2
          have q : Sort.partition L d j2 b p = (j2, true, Sort.swp d0 j2 j2) := part_end HD0.out (by rw [HZ.out, HSS.out]; exact HSU.out) (by rw [HZ.out]; exact HSD.out) HGT.out
          rw [q]
          exact ⟨rfl, (HR.out.swap HU.out HU.out).drew⟩
        · have hm2 : ¬ a = j2 := fun q => hm q.symm
          have x1 : ((j2 : Int) < (d.size : Int)) = True := eq_true (by omega)
          have y1 : ((a : Int) < (d.size : Int)) = True := eq_true (by omega)
          have x2 : (j2 < d.size) = True := eq_true (by omega)
          have y2 : (a < d.size) = True := eq_true (by omega)
          have n1 : (j2 = a) = False := eq_false (by omega)
          have n2 : (a = j2) = False := eq_false (by omega)
          obtain ⟨cx, fx⟩ := HR.out.cell j2 (by omega)
          obtain ⟨cy, fy⟩ := HR.out.cell a (by omega)
          obtain ⟨u, hu⟩ : ∃ u, d0[j2]! = u := ⟨_, rfl⟩
          obtain ⟨v, hv⟩ : ∃ v, d0[a]! = v := ⟨_, rfl⟩
          rw [hu] at cx
          rw [hv] at cy
          have HU := Aside0.mk hu
          have HV := Aside0.mk hv
          clear e1 e2 e3 e4 e5 e6 e7 hgt hu hv hm hm2
          go_wp2_with fail
          go_big_region
          all_goals go_wp2
          go_ret2
          have q : Sort.partition L d a b p = (j2, true, Sort.swp d0 j2 a) := part_end HD0.out (by rw [HZ.out, HSS.out]; exact HSU.out) (by rw [HZ.out]; exact HSD.out) HGT.out
          rw [q]
          exact ⟨rfl, (HR.out.swap HU.out HV.out).drew⟩
      · have c1 : decide (j2 < i2) = false := decide_eq_false hgt
        have hne := neP (fun q => HST1.out ⟨by omega, q⟩) (fun q => HST2.out ⟨by omega, q⟩)
        have x1 : ((i2 : Int) < (d.size : Int)) = True := eq_true (by omega)
        have y1 : ((j2 : Int) < (d.size : Int)) = True := eq_true (by omega)
        have x2 : (i2 < d.size) = True := eq_true (by omega)
        have y2 : (j2 < d.size) = True := eq_true (by omega)
        have n1 : (i2 = j2) = False := eq_false (by omega)
        have n2 : (j2 = i2) = False := eq_false (by omega)
        obtain ⟨cx, fx⟩ := HR.out.cell i2 (by omega)
        obtain ⟨cy, fy⟩ := HR.out.cell j2 (by omega)
        obtain ⟨u, hu⟩ : ∃ u, d0[i2]! = u := ⟨_, rfl⟩
        obtain ⟨v, hv⟩ : ∃ v, d0[j2]! = v := ⟨_, rfl⟩
        rw [hu] at cx
        rw [hv] at cy
        have HU := Aside0.mk hu
        have HV := Aside0.mk hv
        have HGT0 := Aside0.mk hgt
        have HNE := Aside0.mk hne
        obtain ⟨f, hf⟩ : ∃ f, i2 + 1 = f := ⟨_, rfl⟩
        obtain ⟨l, hl⟩ : ∃ l, j2 - 1 = l := ⟨_, rfl⟩
        have W3 := Aside0.mk (both (z := (i2 : Int) + 1) (n := f) (by omega) (by omega))
        have W4 := Aside0.mk (both (z := (j2 : Int) - 1) (n := l) (by omega) (by omega))
        have HFF := Aside0.mk hf
        have HLL := Aside0.mk hl
        have HX := Aside0.mk (show a < f ∧ f ≤ l + 1 ∧ l < b by omega)
        clear e1 e2 e3 e4 e5 e6 e7 hgt hne hu hv hf hl
        go_wp2_with fail
        go_big_region
        all_goals go_wp2
        simp only [W3.out.1, W4.out.1]
        clear x1 x2 y1 y2 n1 n2 cx cy fx fy c1
        go_loopg [10, 11] (b + 1) (fun k v9 v10 w' => ∃ (i j : Nat) (d1 : Array Int), v9 = .int .i64 i ∧ v10 = .int .i64 j ∧ Aside0 (a < i ∧ i ≤ j + 1 ∧ j < b ∧ j + 1 - i ≤ k) ∧ Aside0 (AtB w0 w' g d1) ∧ Aside0 (d1.size = d.size) ∧ Aside0 (Sort.partLoop L a i j d1 = Sort.partLoop L a (i2 + 1) (j2 - 1) (Sort.swp d0 i2 j2)))
        case atStart => exact ⟨f, l, Sort.swp d0 i2 j2, rfl, rfl, ⟨by have := HX.out; omega⟩, ⟨(HR.out.swap HU.out HV.out).drew⟩, ⟨by rw [Sort.size_swp]; exact HS.out⟩, ⟨by rw [HFF.out, HLL.out]⟩⟩
        case round =>
          clear HU HV
          have HSU0 := HSU
          have HSD0 := HSD
          clear HSU HSD HI HST1 HST2 HJ1 HJ2 HR HS
          obtain ⟨i, j, d1, rfl, rfl, HI, HR, HS, HF⟩ := hrel
          go_upto_block 6 with (fail)
          go_cut [10] (fun vs wc => ∃ i3 : Nat, vs = .int .i64 i3 ∧ Aside0 (i ≤ i3 ∧ i3 ≤ j + 1) ∧ Aside0 (AtB w0 wc g d1) ∧ Aside0 (Sort.scanUp (upP d1 a) d1 j i = i3) ∧ Aside0 (¬ (i3 ≤ j ∧ upP d1 a d1[i3]! = true)))
          case first =>
            go_wp2
            go_loopg [10] (j + 1) (fun k vs w' => ∃ i3 : Nat, vs = .int .i64 i3 ∧ Aside0 (i ≤ i3 ∧ i3 ≤ j + 1 ∧ j + 1 - i3 ≤ k) ∧ Aside0 (AtB w0 w' g d1) ∧ Aside0 (Sort.scanUp (upP d1 a) d1 j i3 = Sort.scanUp (upP d1 a) d1 j i))
            case atStart => exact ⟨i, rfl, ⟨by have := HI.out; omega⟩, HR, ⟨rfl⟩⟩
            case round =>
              obtain ⟨i3, rfl, HJ, HR2, HF2⟩ := hrel
              have e1 := HI.out
              have e2 := HJ.out
              have e3 := HB.out
              have e4 := HL.out
              have e5 := HS.out
              by_cases hij : i3 ≤ j
              · have c1 : decide (i3 ≤ j) = true := decide_eq_true hij
                have HPOS := Aside0.mk (show 0 < i3 by omega)
                have x1 : ((a : Int) < (d.size : Int)) = True := eq_true (by omega)
                have y1 : ((i3 : Int) < (d.size : Int)) = True := eq_true (by omega)
                have x2 : (a < d.size) = True := eq_true (by omega)
                have y2 : (i3 < d.size) = True := eq_true (by omega)
                obtain ⟨cx, fx⟩ := HR2.out.cell a (by omega)
                obtain ⟨cy, fy⟩ := HR2.out.cell i3 (by omega)
                obtain ⟨u, hu⟩ : ∃ u, d1[a]! = u := ⟨_, rfl⟩
                obtain ⟨v, hv⟩ : ∃ v, d1[i3]! = v := ⟨_, rfl⟩
                rw [hu] at cx
                rw [hv] at cy
                have hc2 : ∀ n, Calls Try.prog 95 #[.int .u8 v, .int .u8 u] (wr.drewN n) fun e w' => e = .returned (.bool (decide (v < u))) ∧ ∃ q, w' = (wr.drewN n).drewN q := fun n => lessQ _ _ _
                have W9 := Aside0.mk (both (z := (i3 : Int) + 1) (n := i3 + 1) (by omega) (by omega))
                have HU := Aside0.mk hu
                have HV := Aside0.mk hv
                have HIJ := Aside0.mk hij
                clear e1 e2 e3 e4 e5 hu hv hij
                by_cases hlt : v < u
                · have c2 : decide (v < u) = true := decide_eq_true hlt
                  have HGO := Aside0.mk (show upP d1 a d1[i3]! = true from (by have q1 := HU.out; have q2 := HV.out; rw [q2]; exact upP_t (by rw [q1]; exact hlt)))
                  go_wp2_with fail
                  go_quiet (first | (go_at_call 95; refine Calls.quiet_of (hc2 _)))
                  go_wp2
                  go_roundg (j + 1 - (i3 + 1))
                  case measure => have := HJ.out; have := HIJ.out; have := HPOS.out; omega
                  case rel => exact ⟨i3 + 1, by first | rfl | rw [W9.out.1], ⟨by have := HJ.out; have := HIJ.out; have := HPOS.out; omega⟩, ⟨by first | exact HR2.out.drewN _ | exact HR2.out⟩, ⟨by rw [← HF2.out, up_go _ _ _ _ HIJ.out HGO.out]⟩⟩
                · have c2 : decide (v < u) = false := decide_eq_false hlt
                  have HST := Aside0.mk (show ¬ (i3 ≤ j ∧ upP d1 a d1[i3]! = true) from (fun q => absurd q.2 (by have q1 := HU.out; have q2 := HV.out; rw [q2]; exact upP_f (by rw [q1]; exact hlt))))
                  go_wp2_with fail
                  go_quiet (first | (go_at_call 95; refine Calls.quiet_of (hc2 _)))
                  go_wp2
                  go_meet
                  case rel => exact ⟨i3, rfl, ⟨by have := HJ.out; omega⟩, ⟨by first | exact HR2.out.drewN _ | exact HR2.out⟩, ⟨by rw [← HF2.out, up_stop _ _ _ _ HST.out]⟩, HST⟩
              · have c1 : decide (i3 ≤ j) = false := decide_eq_false hij
                clear e1 e2 e3 e4 e5
                have HST := Aside0.mk (show ¬ (i3 ≤ j ∧ upP d1 a d1[i3]! = true) from (fun q => absurd q.1 hij))
                go_wp2_with fail
                go_quiet (fail)
                go_wp2
                go_meet
                case rel => exact ⟨i3, rfl, ⟨by have := HJ.out; omega⟩, ⟨by first | exact HR2.out.drewN _ | exact HR2.out⟩, ⟨by rw [← HF2.out, up_stop _ _ _ _ HST.out]⟩, HST⟩
          case rest =>
            clear HR
            obtain ⟨i3, rfl, HJ1, HR, HSU, HST1⟩ := hcut
            go_upto_block 8 with (fail)
            go_cut [11] (fun vs wc => ∃ j3 : Nat, vs = .int .i64 j3 ∧ Aside0 (j3 ≤ j ∧ i3 ≤ j3 + 1) ∧ Aside0 (AtB w0 wc g d1) ∧ Aside0 (Sort.scanDown (dnP d1 a) d1 i3 j = j3) ∧ Aside0 (¬ (i3 ≤ j3 ∧ dnP d1 a d1[j3]! = true)))
            case first =>
              go_wp2
              go_loopg [11] (j + 1) (fun k vs w' => ∃ j3 : Nat, vs = .int .i64 j3 ∧ Aside0 (j3 ≤ j ∧ i3 ≤ j3 + 1 ∧ j3 ≤ k) ∧ Aside0 (AtB w0 w' g d1) ∧ Aside0 (Sort.scanDown (dnP d1 a) d1 i3 j3 = Sort.scanDown (dnP d1 a) d1 i3 j))
              case atStart => exact ⟨j, rfl, ⟨by have := HJ1.out; omega⟩, HR, ⟨rfl⟩⟩
              case round =>
                obtain ⟨j3, rfl, HJ, HR2, HF2⟩ := hrel
                have e1 := HI.out
                have e0 := HJ1.out
                have e2 := HJ.out
                have e3 := HB.out
                have e4 := HL.out
                have e5 := HS.out
                by_cases hij : i3 ≤ j3
                · have c1 : decide (i3 ≤ j3) = true := decide_eq_true hij
                  have HPOS := Aside0.mk (show 0 < j3 by omega)
                  have x1 : ((a : Int) < (d.size : Int)) = True := eq_true (by omega)
                  have y1 : ((j3 : Int) < (d.size : Int)) = True := eq_true (by omega)
                  have x2 : (a < d.size) = True := eq_true (by omega)
                  have y2 : (j3 < d.size) = True := eq_true (by omega)
                  obtain ⟨cx, fx⟩ := HR2.out.cell a (by omega)
                  obtain ⟨cy, fy⟩ := HR2.out.cell j3 (by omega)
                  obtain ⟨u, hu⟩ : ∃ u, d1[a]! = u := ⟨_, rfl⟩
                  obtain ⟨v, hv⟩ : ∃ v, d1[j3]! = v := ⟨_, rfl⟩
                  rw [hu] at cx
                  rw [hv] at cy
                  have hc2 : ∀ n, Calls Try.prog 95 #[.int .u8 v, .int .u8 u] (wr.drewN n) fun e w' => e = .returned (.bool (decide (v < u))) ∧ ∃ q, w' = (wr.drewN n).drewN q := fun n => lessQ _ _ _
                  have W9 := Aside0.mk (both (z := (j3 : Int) - 1) (n := j3 - 1) (by omega) (by omega))
                  have HU := Aside0.mk hu
                  have HV := Aside0.mk hv
                  have HIJ := Aside0.mk hij
                  clear e0 e1 e2 e3 e4 e5 hu hv hij
                  by_cases hlt : v < u
                  · have c2 : decide (v < u) = true := decide_eq_true hlt
                    have HST := Aside0.mk (show ¬ (i3 ≤ j3 ∧ dnP d1 a d1[j3]! = true) from (fun q => absurd q.2 (by have q1 := HU.out; have q2 := HV.out; rw [q2]; exact dnP_f (by rw [q1]; exact hlt))))
                    go_wp2_with fail
                    go_quiet (first | (go_at_call 95; refine Calls.quiet_of (hc2 _)))
                    go_wp2
                    go_meet
                    case rel => exact ⟨j3, rfl, ⟨by have := HJ.out; omega⟩, ⟨by first | exact HR2.out.drewN _ | exact HR2.out⟩, ⟨by rw [← HF2.out, down_stop _ _ _ _ HST.out]⟩, HST⟩
                  · have c2 : decide (v < u) = false := decide_eq_false hlt
                    have HGO := Aside0.mk (show dnP d1 a d1[j3]! = true from (by have q1 := HU.out; have q2 := HV.out; rw [q2]; exact dnP_t (by rw [q1]; exact hlt)))
                    go_wp2_with fail
                    go_quiet (first | (go_at_call 95; refine Calls.quiet_of (hc2 _)))
                    go_wp2
                    go_roundg (j3 - 1)
                    case measure => have := HJ.out; have := HIJ.out; have := HPOS.out; omega
                    case rel => exact ⟨j3 - 1, by first | rfl | rw [W9.out.1], ⟨by have := HJ.out; have := HIJ.out; have := HPOS.out; omega⟩, ⟨by first | exact HR2.out.drewN _ | exact HR2.out⟩, ⟨by rw [← HF2.out, down_pos _ _ _ _ HPOS.out HIJ.out HGO.out]⟩⟩
                · have c1 : decide (i3 ≤ j3) = false := decide_eq_false hij
                  clear e0 e1 e2 e3 e4 e5
                  have HST := Aside0.mk (show ¬ (i3 ≤ j3 ∧ dnP d1 a d1[j3]! = true) from (fun q => absurd q.1 hij))
                  go_wp2_with fail
                  go_quiet (fail)
                  go_wp2
                  go_meet
                  case rel => exact ⟨j3, rfl, ⟨by have := HJ.out; omega⟩, ⟨by first | exact HR2.out.drewN _ | exact HR2.out⟩, ⟨by rw [← HF2.out, down_stop _ _ _ _ HST.out]⟩, HST⟩
            case rest =>
              clear HR
              obtain ⟨j3, rfl, HJ2, HR, HSD, HST2⟩ := hcut
              have e1 := HI.out
              have e2 := HJ1.out
              have e3 := HJ2.out
              have e4 := HB.out
              have e5 := HL.out
              have e6 := HS.out
              have e7 := HPB.out
              by_cases hgt : j3 < i3
              · have c1 : decide (j3 < i3) = true := decide_eq_true hgt
                have HGT := Aside0.mk hgt
                by_cases hm : j3 = a
                · subst hm
                  have x1 : ((j3 : Int) < (d.size : Int)) = True := eq_true (by omega)
                  have x2 : (j3 < d.size) = True := eq_true (by omega)
                  obtain ⟨cx, fx⟩ := HR.out.cell j3 (by omega)
                  obtain ⟨u, hu⟩ : ∃ u, d1[j3]! = u := ⟨_, rfl⟩
                  rw [hu] at cx
                  have HU := Aside0.mk hu
                  clear e1 e2 e3 e4 e5 e6 e7 hgt hu
                  go_wp2_with fail
                  go_big_region
                  all_goals go_wp2
                  go_ret2
                  have q := part_go HD0.out (by rw [HZ.out, HSS.out]; exact HSU0.out) (by rw [HZ.out]; exact HSD0.out) HGT0.out
                  rw [q, ← HF.out, prt_end HSU.out HSD.out HGT.out]
                  exact ⟨rfl, (HR.out.swap HU.out HU.out).drew⟩
                · have hm2 : ¬ a = j3 := fun q => hm q.symm
                  have x1 : ((j3 : Int) < (d.size : Int)) = True := eq_true (by omega)
                  have y1 : ((a : Int) < (d.size : Int)) = True := eq_true (by omega)
                  have x2 : (j3 < d.size) = True := eq_true (by omega)
                  have y2 : (a < d.size) = True := eq_true (by omega)
                  have n1 : (j3 = a) = False := eq_false (by omega)
                  have n2 : (a = j3) = False := eq_false (by omega)
                  obtain ⟨cx, fx⟩ := HR.out.cell j3 (by omega)
                  obtain ⟨cy, fy⟩ := HR.out.cell a (by omega)
                  obtain ⟨u, hu⟩ : ∃ u, d1[j3]! = u := ⟨_, rfl⟩
                  obtain ⟨v, hv⟩ : ∃ v, d1[a]! = v := ⟨_, rfl⟩
                  rw [hu] at cx
                  rw [hv] at cy
                  have HU := Aside0.mk hu
                  have HV := Aside0.mk hv
                  clear e1 e2 e3 e4 e5 e6 e7 hgt hu hv hm hm2
                  go_wp2_with fail
                  go_big_region
                  all_goals go_wp2
                  go_ret2
                  have q := part_go HD0.out (by rw [HZ.out, HSS.out]; exact HSU0.out) (by rw [HZ.out]; exact HSD0.out) HGT0.out
                  rw [q, ← HF.out, prt_end HSU.out HSD.out HGT.out]
                  exact ⟨rfl, (HR.out.swap HU.out HV.out).drew⟩
              · have c1 : decide (j3 < i3) = false := decide_eq_false hgt
                have hne := neP (fun q => HST1.out ⟨by omega, q⟩) (fun q => HST2.out ⟨by omega, q⟩)
                have x1 : ((i3 : Int) < (d.size : Int)) = True := eq_true (by omega)
                have y1 : ((j3 : Int) < (d.size : Int)) = True := eq_true (by omega)
                have x2 : (i3 < d.size) = True := eq_true (by omega)
                have y2 : (j3 < d.size) = True := eq_true (by omega)
                have n1 : (i3 = j3) = False := eq_false (by omega)
                have n2 : (j3 = i3) = False := eq_false (by omega)
                obtain ⟨cx, fx⟩ := HR.out.cell i3 (by omega)
                obtain ⟨cy, fy⟩ := HR.out.cell j3 (by omega)
                obtain ⟨u, hu⟩ : ∃ u, d1[i3]! = u := ⟨_, rfl⟩
                obtain ⟨v, hv⟩ : ∃ v, d1[j3]! = v := ⟨_, rfl⟩
                rw [hu] at cx
                rw [hv] at cy
                have HU := Aside0.mk hu
                have HV := Aside0.mk hv
                have HGT := Aside0.mk hgt
                have HNE := Aside0.mk hne
                have W3 := Aside0.mk (both (z := (i3 : Int) + 1) (n := i3 + 1) (by omega) (by omega))
                have W4 := Aside0.mk (both (z := (j3 : Int) - 1) (n := j3 - 1) (by omega) (by omega))
                clear e1 e2 e3 e4 e5 e6 e7 hgt hne hu hv
                go_wp2_with fail
                go_big_region
                all_goals go_wp2
                go_roundg (j3 - 1 + 1 - (i3 + 1))
                case measure => have := HI.out; have := HJ1.out; have := HJ2.out; have := HGT.out; have := HNE.out; omega
                case rel => exact ⟨i3 + 1, j3 - 1, Sort.swp d1 i3 j3, by first | rfl | rw [W3.out.1], by first | rfl | rw [W4.out.1], ⟨by have := HI.out; have := HJ1.out; have := HJ2.out; have := HGT.out; have := HNE.out; omega⟩, ⟨(HR.out.swap HU.out HV.out).drew⟩, ⟨by rw [Sort.size_swp]; exact HS.out⟩, ⟨by rw [← HF.out]; exact (prt_go HSU.out HSD.out HGT.out).symm⟩⟩
end Go.Proofs.Ythhcgepofldgaaa.PByteF
