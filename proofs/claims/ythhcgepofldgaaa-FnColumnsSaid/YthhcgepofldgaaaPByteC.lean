/- The walks of a sort of bytes: sifting and the heap. -/
import Derived.Test.YthhcgepofldgaaaPByteB
namespace Go.Proofs.Ythhcgepofldgaaa.PByteC
open Go.RowKit Go.Proofs.YthhcgepofldgaaaW.PrintWords Go.Proofs.Ythhcgepofldgaaa.PByteA Go.Proofs.Ythhcgepofldgaaa.PByteU Go.Proofs.Ythhcgepofldgaaa.PByteB
set_option linter.unusedVariables false
set_option linter.unusedSimpArgs false
set_option maxHeartbeats 4000000
set_option maxRecDepth 100000
theorem siftDown (w0 W : World) (g cap lo hi f : Nat) (d : Array Int) (h : AtB w0 W g d) (hb : f + hi ≤ d.size) (hlo : lo ≤ hi) (hlen : d.size < 1000) :
    Calls Try.prog 107 #[.slice (some ⟨g, 0, none⟩) d.size cap, .int .i64 lo, .int .i64 hi, .int .i64 f] W fun e w' => e = .returned (.tuple #[]) ∧ AtB w0 w' g (Sort.siftDown L hi f lo d) := by
  have H := Aside0.mk h
  have HB := Aside0.mk hb
  have HLO := Aside0.mk hlo
  have HL := Aside0.mk hlen
  clear h hb hlen hlo
  go_enter Try.func107, Try.ntmps107
  go_wp2
  go_loopg [8] hi (fun k v8 w' => ∃ (r : Nat) (d1 : Array Int), v8 = .int .i64 r ∧ Aside0 (hi - r ≤ k ∧ r ≤ hi) ∧ Aside0 (AtB w0 w' g d1) ∧ Aside0 (d1.size = d.size) ∧ Aside0 (Sort.siftDown L hi f r d1 = Sort.siftDown L hi f lo d))
  case atStart => exact ⟨lo, d, rfl, ⟨by have := HLO.out; omega⟩, H, ⟨rfl⟩, ⟨rfl⟩⟩
  case round =>
    obtain ⟨r, d1, rfl, HI, HR, HS, HF⟩ := hrel
    have e1 := HI.out
    have e2 := HB.out
    have e3 := HL.out
    have hl := HS.out
    obtain ⟨t, ht⟩ : ∃ t, 2 * r = t := ⟨_, rfl⟩
    obtain ⟨c1, hc1⟩ : ∃ c1, t + 1 = c1 := ⟨_, rfl⟩
    have W1 := Aside0.mk (both (z := 2 * (r : Int)) (n := t) (by omega) (by omega))
    have W2 := Aside0.mk (both (z := (t : Int) + 1) (n := c1) (by omega) (by omega))
    have HT := Aside0.mk ht
    have HC1 := Aside0.mk hc1
    have w1 := W1.out.1
    have w2 := W2.out.1
    by_cases h1 : c1 < hi
    · have k1 : decide (hi ≤ c1) = false := decide_eq_false (by omega)
      obtain ⟨c2, hc2⟩ : ∃ c2, c1 + 1 = c2 := ⟨_, rfl⟩
      obtain ⟨x, hx⟩ : ∃ x, f + r = x := ⟨_, rfl⟩
      obtain ⟨y, hy⟩ : ∃ y, f + c1 = y := ⟨_, rfl⟩
      obtain ⟨z, hz⟩ : ∃ z, y + 1 = z := ⟨_, rfl⟩
      obtain ⟨u, hu⟩ : ∃ u, d1[x]! = u := ⟨_, rfl⟩
      obtain ⟨v, hv⟩ : ∃ v, d1[y]! = v := ⟨_, rfl⟩
      obtain ⟨q, hq⟩ : ∃ q, d1[z]! = q := ⟨_, rfl⟩
      have W3 := Aside0.mk (both (z := (c1 : Int) + 1) (n := c2) (by omega) (by omega))
      have W4 := Aside0.mk (both (z := (f : Int) + (r : Int)) (n := x) (by omega) (by omega))
      have W5 := Aside0.mk (both (z := (f : Int) + (c1 : Int)) (n := y) (by omega) (by omega))
      have W6 := Aside0.mk (both (z := (y : Int) + 1) (n := z) (by omega) (by omega))
      have W7 := Aside0.mk (both (z := (f : Int) + (c2 : Int)) (n := z) (by omega) (by omega))
      have x1 : ((x : Int) < (d.size : Int)) = True := eq_true (by omega)
      have x2 : (x < d.size) = True := eq_true (by omega)
      have y1 : ((y : Int) < (d.size : Int)) = True := eq_true (by omega)
      have y2 : (y < d.size) = True := eq_true (by omega)
      obtain ⟨cx, fx⟩ := HR.out.cell x (by omega)
      obtain ⟨cy, fy⟩ := HR.out.cell y (by omega)
      rw [hu] at cx
      rw [hv] at cy
      have n1 : (x = y) = False := eq_false (by omega)
      have n2 : (y = x) = False := eq_false (by omega)
      have n3 : (x = z) = False := eq_false (by omega)
      have n4 : (z = x) = False := eq_false (by omega)
      have HC2 := Aside0.mk hc2
      have HX := Aside0.mk hx
      have HY := Aside0.mk hy
      have HZ := Aside0.mk hz
      have HU := Aside0.mk hu
      have HV := Aside0.mk hv
      have HQ := Aside0.mk hq
      have HH1 := Aside0.mk h1
      by_cases h2 : c2 < hi
      · have k2 : decide (c2 < hi) = true := decide_eq_true h2
        have z1 : ((z : Int) < (d.size : Int)) = True := eq_true (by omega)
        have z2 : (z < d.size) = True := eq_true (by omega)
        obtain ⟨cz, fz⟩ := HR.out.cell z (by omega)
        rw [hq] at cz
        have HH2 := Aside0.mk h2
        have ha : ∀ n, Calls Try.prog 95 #[.int .u8 v, .int .u8 q] (wr.drewN n) fun e w' => e = .returned (.bool (decide (v < q))) ∧ ∃ m, w' = (wr.drewN n).drewN m := fun n => lessQ _ _ _
        clear e1 e2 e3 hl h1 h2 hx hy hz hu hv hq ht hc1 hc2
        have w3 := W3.out.1
        have w4 := W4.out.1
        have w5 := W5.out.1
        have w6 := W6.out.1
        have w7 := W7.out.1
        by_cases h3 : v < q
        · have k3 : decide (v < q) = true := decide_eq_true h3
          have HH3 := Aside0.mk h3
          clear h3
          go_wp2_with fail
          go_quiet (first | (go_at_call 95; refine Calls.quiet_of (ha _)))
          go_wp2_with fail
          have hcx : (wr.drewN nq).cell? ⟨g, x, none⟩ = some (.int .u8 u) := cx
          have hfx : (wr.drewN nq).frozen? ⟨g, x, none⟩ = false := fx
          have hcy : (wr.drewN nq).cell? ⟨g, z, none⟩ = some (.int .u8 q) := cz
          have hfy : (wr.drewN nq).frozen? ⟨g, z, none⟩ = false := fz
          have HR3 := Aside0.mk (HR.out.drewN nq)
          (try clear ha)
          clear cx fx cy fy
          (try clear cz fz)
          clear w3 w5 w6 w7
          have w5 := W7.out.1
          have w3 := W3.out.1
          have w8 := W4.out.2
          have w9 := W7.out.2
          generalize wr.drewN nq = wq at hcx hfx hcy hfy HR3 ⊢
          have ha : ∀ n, Calls Try.prog 95 #[.int .u8 u, .int .u8 q] (wq.drewN n) fun e w' => e = .returned (.bool (decide (u < q))) ∧ ∃ m, w' = (wq.drewN n).drewN m := fun n => lessQ _ _ _
          by_cases h4 : u < q
          · have k4 : decide (u < q) = true := decide_eq_true h4
            have HH4 := Aside0.mk h4
            clear h4
            go_quiet (first | (go_at_call 95; refine Calls.quiet_of (ha _)))
            go_wp2_with fail
            have cx2 : (wq.drewN nq).cell? ⟨g, x, none⟩ = some (.int .u8 u) := hcx
            have fx2 : (wq.drewN nq).frozen? ⟨g, x, none⟩ = false := hfx
            have cy2 : (wq.drewN nq).cell? ⟨g, z, none⟩ = some (.int .u8 q) := hcy
            have fy2 : (wq.drewN nq).frozen? ⟨g, z, none⟩ = false := hfy
            have HR4 := Aside0.mk (HR3.out.drewN nq)
            clear hcx hfx hcy hfy ha
            generalize wq.drewN nq = wz at cx2 fx2 cy2 fy2 HR4 ⊢
            go_big_region
            all_goals go_wp2
            clear w1 w2 w3 w4 w5 w8 w9
            go_roundg (hi - c2)
            case measure => have := HI.out; have := HH1.out; have := HC1.out; have := HC2.out; have := HT.out; omega
            case rel =>
              have q1 := HH1.out
              have q2 := HC1.out
              have q3 := HC2.out
              have q4 := HT.out
              have q5 := HH2.out
              refine ⟨c2, Sort.swp d1 x z, by first | rfl | rw [W2.out.1] | rw [W3.out.1], ⟨by omega⟩, ⟨(HR4.out.swap HU.out HQ.out).drew⟩, ⟨by rw [Sort.size_swp]; exact HS.out⟩, ⟨?_⟩⟩
              rw [← HF.out]
              rw [sift_two hi f r c2 d1 (by omega) HH2.out (by rw [show f + (2 * r + 1) = y by have := HY.out; omega, show f + c2 = z by have := HY.out; have := HZ.out; omega, HV.out, HQ.out]; exact HH3.out)]
              rw [show f + r = x from HX.out, show f + c2 = z by have := HY.out; have := HZ.out; omega, if_pos (by rw [HU.out, HQ.out]; exact HH4.out)]
          · have k4 : decide (u < q) = false := decide_eq_false h4
            have HH4 := Aside0.mk h4
            clear h4
            go_quiet (first | (go_at_call 95; refine Calls.quiet_of (ha _)))
            go_wp2
            refine bodyPost_ret (results_none rfl _ _ _) rfl ?_
            refine ⟨rfl, ?_⟩
            have q1 := HH1.out
            have q2 := HC1.out
            have q3 := HC2.out
            have q4 := HT.out
            have q5 := HH2.out
            have hh := HR3.out.drewN nq
            have e : Sort.siftDown L hi f lo d = d1 := by
              rw [← HF.out]
              rw [sift_two hi f r c2 d1 (by omega) HH2.out (by rw [show f + (2 * r + 1) = y by have := HY.out; omega, show f + c2 = z by have := HY.out; have := HZ.out; omega, HV.out, HQ.out]; exact HH3.out)]
              rw [show f + r = x from HX.out, show f + c2 = z by have := HY.out; have := HZ.out; omega, if_neg (by rw [HU.out, HQ.out]; have := HH4.out; omega)]
            rw [e]
            exact hh
        · have k3 : decide (v < q) = false := decide_eq_false h3
          have HH3 := Aside0.mk h3
          clear h3
          go_wp2_with fail
          go_quiet (first | (go_at_call 95; refine Calls.quiet_of (ha _)))
          go_wp2_with fail
          have hcx : (wr.drewN nq).cell? ⟨g, x, none⟩ = some (.int .u8 u) := cx
          have hfx : (wr.drewN nq).frozen? ⟨g, x, none⟩ = false := fx
          have hcy : (wr.drewN nq).cell? ⟨g, y, none⟩ = some (.int .u8 v) := cy
          have hfy : (wr.drewN nq).frozen? ⟨g, y, none⟩ = false := fy
          have HR3 := Aside0.mk (HR.out.drewN nq)
          (try clear ha)
          clear cx fx cy fy
          (try clear cz fz)
          clear w3 w5 w6 w7
          have w5 := W5.out.1
          have w3 := W3.out.1
          have w8 := W4.out.2
          have w9 := W5.out.2
          generalize wr.drewN nq = wq at hcx hfx hcy hfy HR3 ⊢
          have ha : ∀ n, Calls Try.prog 95 #[.int .u8 u, .int .u8 v] (wq.drewN n) fun e w' => e = .returned (.bool (decide (u < v))) ∧ ∃ m, w' = (wq.drewN n).drewN m := fun n => lessQ _ _ _
          by_cases h4 : u < v
          · have k4 : decide (u < v) = true := decide_eq_true h4
            have HH4 := Aside0.mk h4
            clear h4
            go_quiet (first | (go_at_call 95; refine Calls.quiet_of (ha _)))
            go_wp2_with fail
            have cx2 : (wq.drewN nq).cell? ⟨g, x, none⟩ = some (.int .u8 u) := hcx
            have fx2 : (wq.drewN nq).frozen? ⟨g, x, none⟩ = false := hfx
            have cy2 : (wq.drewN nq).cell? ⟨g, y, none⟩ = some (.int .u8 v) := hcy
            have fy2 : (wq.drewN nq).frozen? ⟨g, y, none⟩ = false := hfy
            have HR4 := Aside0.mk (HR3.out.drewN nq)
            clear hcx hfx hcy hfy ha
            generalize wq.drewN nq = wz at cx2 fx2 cy2 fy2 HR4 ⊢
            go_big_region
            all_goals go_wp2
            clear w1 w2 w3 w4 w5 w8 w9
            go_roundg (hi - c1)
            case measure => have := HI.out; have := HH1.out; have := HC1.out; have := HC2.out; have := HT.out; omega
            case rel =>
              have q1 := HH1.out
              have q2 := HC1.out
              have q3 := HC2.out
              have q4 := HT.out
              have q5 := HH2.out
              refine ⟨c1, Sort.swp d1 x y, by first | rfl | rw [W2.out.1] | rw [W3.out.1], ⟨by omega⟩, ⟨(HR4.out.swap HU.out HV.out).drew⟩, ⟨by rw [Sort.size_swp]; exact HS.out⟩, ⟨?_⟩⟩
              rw [← HF.out]
              rw [sift_one hi f r c1 d1 (by omega) HH1.out (by rw [show f + c1 = y from HY.out, show f + (c1 + 1) = z by have := HY.out; have := HZ.out; omega, HV.out, HQ.out]; have := HH3.out; omega)]
              rw [show f + r = x from HX.out, show f + c1 = y from HY.out, if_pos (by rw [HU.out, HV.out]; exact HH4.out)]
          · have k4 : decide (u < v) = false := decide_eq_false h4
            have HH4 := Aside0.mk h4
            clear h4
            go_quiet (first | (go_at_call 95; refine Calls.quiet_of (ha _)))
            go_wp2
            refine bodyPost_ret (results_none rfl _ _ _) rfl ?_
            refine ⟨rfl, ?_⟩
            have q1 := HH1.out
            have q2 := HC1.out
            have q3 := HC2.out
            have q4 := HT.out
            have q5 := HH2.out
            have hh := HR3.out.drewN nq
            have e : Sort.siftDown L hi f lo d = d1 := by
              rw [← HF.out]
              rw [sift_one hi f r c1 d1 (by omega) HH1.out (by rw [show f + c1 = y from HY.out, show f + (c1 + 1) = z by have := HY.out; have := HZ.out; omega, HV.out, HQ.out]; have := HH3.out; omega)]
              rw [show f + r = x from HX.out, show f + c1 = y from HY.out, if_neg (by rw [HU.out, HV.out]; have := HH4.out; omega)]
            rw [e]
            exact hh
      · have k2 : decide (c2 < hi) = false := decide_eq_false h2
        have HH2 := Aside0.mk h2
        have HH3 := Aside0.mk (show ¬ (False) from id)
        clear e1 e2 e3 hl h1 h2 hx hy hz hu hv hq ht hc1 hc2
        have w3 := W3.out.1
        have w4 := W4.out.1
        have w5 := W5.out.1
        have w6 := W6.out.1
        have w7 := W7.out.1
        go_wp2_with fail
        go_quiet (fail)
        go_wp2_with fail
        have hcx : (wr.drewN nq).cell? ⟨g, x, none⟩ = some (.int .u8 u) := cx
        have hfx : (wr.drewN nq).frozen? ⟨g, x, none⟩ = false := fx
        have hcy : (wr.drewN nq).cell? ⟨g, y, none⟩ = some (.int .u8 v) := cy
        have hfy : (wr.drewN nq).frozen? ⟨g, y, none⟩ = false := fy
        have HR3 := Aside0.mk (HR.out.drewN nq)
        (try clear ha)
        clear cx fx cy fy
        (try clear cz fz)
        clear w3 w5 w6 w7
        have w5 := W5.out.1
        have w3 := W3.out.1
        have w8 := W4.out.2
        have w9 := W5.out.2
        generalize wr.drewN nq = wq at hcx hfx hcy hfy HR3 ⊢
        have ha : ∀ n, Calls Try.prog 95 #[.int .u8 u, .int .u8 v] (wq.drewN n) fun e w' => e = .returned (.bool (decide (u < v))) ∧ ∃ m, w' = (wq.drewN n).drewN m := fun n => lessQ _ _ _
        by_cases h4 : u < v
        · have k4 : decide (u < v) = true := decide_eq_true h4
          have HH4 := Aside0.mk h4
          clear h4
          go_quiet (first | (go_at_call 95; refine Calls.quiet_of (ha _)))
          go_wp2_with fail
          have cx2 : (wq.drewN nq).cell? ⟨g, x, none⟩ = some (.int .u8 u) := hcx
          have fx2 : (wq.drewN nq).frozen? ⟨g, x, none⟩ = false := hfx
          have cy2 : (wq.drewN nq).cell? ⟨g, y, none⟩ = some (.int .u8 v) := hcy
          have fy2 : (wq.drewN nq).frozen? ⟨g, y, none⟩ = false := hfy
          have HR4 := Aside0.mk (HR3.out.drewN nq)
          clear hcx hfx hcy hfy ha
          generalize wq.drewN nq = wz at cx2 fx2 cy2 fy2 HR4 ⊢
          go_big_region
          all_goals go_wp2
          clear w1 w2 w3 w4 w5 w8 w9
          go_roundg (hi - c1)
          case measure => have := HI.out; have := HH1.out; have := HC1.out; have := HC2.out; have := HT.out; omega
          case rel =>
            have q1 := HH1.out
            have q2 := HC1.out
            have q3 := HC2.out
            have q4 := HT.out
            have q5 := HH2.out
            refine ⟨c1, Sort.swp d1 x y, by first | rfl | rw [W2.out.1] | rw [W3.out.1], ⟨by omega⟩, ⟨(HR4.out.swap HU.out HV.out).drew⟩, ⟨by rw [Sort.size_swp]; exact HS.out⟩, ⟨?_⟩⟩
            rw [← HF.out]
            rw [sift_one hi f r c1 d1 (by omega) HH1.out (by rw [show f + c1 = y from HY.out, show f + (c1 + 1) = z by have := HY.out; have := HZ.out; omega, HV.out, HQ.out]; have := HH3.out; omega)]
            rw [show f + r = x from HX.out, show f + c1 = y from HY.out, if_pos (by rw [HU.out, HV.out]; exact HH4.out)]
        · have k4 : decide (u < v) = false := decide_eq_false h4
          have HH4 := Aside0.mk h4
          clear h4
          go_quiet (first | (go_at_call 95; refine Calls.quiet_of (ha _)))
          go_wp2
          refine bodyPost_ret (results_none rfl _ _ _) rfl ?_
          refine ⟨rfl, ?_⟩
          have q1 := HH1.out
          have q2 := HC1.out
          have q3 := HC2.out
          have q4 := HT.out
          have q5 := HH2.out
          have hh := HR3.out.drewN nq
          have e : Sort.siftDown L hi f lo d = d1 := by
            rw [← HF.out]
            rw [sift_one hi f r c1 d1 (by omega) HH1.out (by rw [show f + c1 = y from HY.out, show f + (c1 + 1) = z by have := HY.out; have := HZ.out; omega, HV.out, HQ.out]; have := HH3.out; omega)]
            rw [show f + r = x from HX.out, show f + c1 = y from HY.out, if_neg (by rw [HU.out, HV.out]; have := HH4.out; omega)]
          rw [e]
          exact hh
    · have k1 : decide (hi ≤ c1) = true := decide_eq_true (by omega)
      clear e1 e2 e3 hl ht hc1
      have HH1 := Aside0.mk h1
      clear h1
      go_wp2
      go_end0
      exact ⟨rfl, by have h := HR.out; rw [← HF.out, sift_end hi f r d1 (by have := HH1.out; have := HT.out; have := HC1.out; omega)]; exact h⟩
end Go.Proofs.Ythhcgepofldgaaa.PByteC
