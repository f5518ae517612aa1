/- draft -/
import Derived.Test.YthhcgepofldgaaaPSortM
namespace Go.Proofs.Ythhcgepofldgaaa.PSortI
open Go.RowKit Go.Proofs.YthhcgepofldgaaaW.PrintWords Go.Proofs.Ythhcgepofldgaaa.K Go.Proofs.Ythhcgepofldgaaa.PSortM
set_option linter.unusedVariables false
set_option maxHeartbeats 4000000
set_option maxRecDepth 100000
theorem insSort {w0 : World} {g gc : Nat} {cb : Array Value} {cf : Int → Int → Int} {V : Int → Prop} (hX : Cx w0 g gc cb cf V) (W : World) (cap : Nat) (d : List Int) (a b : Nat) (h : AtRow w0 W g d) (hab : a < b) (hb : b ≤ d.length) (hlen : d.length < 1000)
    (h1 : ∀ i j, a ≤ i → i < j → j < b → K.at_ d i < K.at_ d j) (hV : ∀ x ∈ d, V x) :
    Calls Try.prog 104 #[.slice (some ⟨g, 0, none⟩) d.length cap, .int .i64 a, .int .i64 b, .func (.func gc) #[] cb] W (MergePost w0 g cf d a b) := by
  have eg := hX.eg
  have HX := Aside0.mk hX
  have H := Aside0.mk h
  have HAB := Aside0.mk hab
  have HB := Aside0.mk hb
  have HL := Aside0.mk hlen
  have HO := Aside0.mk h1
  have HV := Aside0.mk hV
  have W1 := Aside0.mk (w64of (z := (a : Int) + 1) (n := a + 1) (by omega) (by omega))
  clear h hab hb hlen h1 hV hX
  go_enter Try.func104, Try.ntmps104
  go_wp2
  go_loopg [8] (b - a) (fun k v8 w' => ∃ (i : Nat) (d1 : List Int), v8 = .int .i64 i ∧ Aside0 (a < i ∧ i ≤ b ∧ b - i ≤ k) ∧ Aside0 (AtRow w0 w' g d1) ∧ Aside0 (Moved d d1 a i) ∧ Aside0 (List.Perm d1 d) ∧ Aside0 (Inc cf d1 a i))
  case atStart => exact ⟨a + 1, d, by first | rfl | rw [W1.out], ⟨by have := HAB.out; omega⟩, H, ⟨Moved.refl _ _ _⟩, ⟨List.Perm.refl _⟩, ⟨fun x y q1 q2 q3 => by omega⟩⟩
  case round =>
    obtain ⟨i, d1, rfl, HI, HR, HM, HP, HS⟩ := hrel
    by_cases hib : i < b
    · have c1 : decide (i < b) = true := decide_eq_true hib
      have HIB := Aside0.mk hib
      clear hib
      go_wp2
      go_loopg [9] i (fun k v9 w' => ∃ (j : Nat) (d2 : List Int), v9 = .int .i64 j ∧ Aside0 (a ≤ j ∧ j ≤ i ∧ j ≤ k) ∧ Aside0 (AtRow w0 w' g d2) ∧ Aside0 (Rot d1 d2 j i (i + 1)) ∧ Aside0 (List.Perm d2 d) ∧ Aside0 (∀ h, j ≤ h → h < i → cf (K.at_ d1 i) (K.at_ d1 h) < 0))
      case atStart =>
        have e1 := HI.out
        exact ⟨i, d1, rfl, ⟨by omega⟩, HR, ⟨rot_nil' d1 i (i + 1)⟩, HP, ⟨fun h q1 q2 => by omega⟩⟩
      case round =>
        obtain ⟨j, d2, rfl, HJ, HR2, HT, HP2, HC⟩ := hrel
        have hl : d2.length = d.length := HP2.out.length_eq
        have e1 := HI.out
        have e2 := HB.out
        have e3 := HL.out
        have e4 := HJ.out
        have e5 := HIB.out
        have OUT : Aside0 ((∀ h, a ≤ h → h < j → 0 ≤ cf (K.at_ d1 i) (K.at_ d1 h)) → Moved d d2 a (i + 1) ∧ Inc cf d2 a (i + 1)) := ⟨fun q => by
          have hB : Below_ d1 a i (i + 1) := fun x y x1 x2 x3 x4 => by
            obtain ⟨x', y1, y2, y3⟩ := HM.out.ins x x1 x2
            rw [y3, HM.out.out y (by omega)]
            exact HO.out x' y y1 (by omega) (by omega)
          exact ⟨(HM.out.wide (Nat.le_refl _) (by omega)).trans ((HT.out.moved (by omega) (by omega)).wide (by omega) (Nat.le_refl _)), incB HX.out.cmp HS.out hB HT.out (by omega) (by omega) (fun h q1 q2 => Int.not_lt.mpr (q h q1 q2)) HC.out⟩⟩
        have W3 := Aside0.mk (w64of (z := (i : Int) + 1) (n := i + 1) (by omega) (by omega))
        by_cases hja : a < j
        · obtain ⟨y, hy⟩ : ∃ y, j - 1 = y := ⟨_, rfl⟩
          have c2 : decide (a < j) = true := decide_eq_true hja
          have x1 : ((j : Int) < (d.length : Int)) = True := eq_true (by omega)
          have y1 : ((y : Int) < (d.length : Int)) = True := eq_true (by omega)
          have x2 : (j < d.length) = True := eq_true (by omega)
          have y2 : (y < d.length) = True := eq_true (by omega)
          have n1 : (j = y) = False := eq_false (by omega)
          have n2 : (y = j) = False := eq_false (by omega)
          obtain ⟨cx, fx⟩ := HR2.out.cell j (by omega)
          obtain ⟨cy, fy⟩ := HR2.out.cell y (by omega)
          have hc := HX.out.at_ HR2.out (V_at (fun x hx => HV.out x (HP2.out.mem_iff.mp hx)) (show j < d2.length by omega)) (V_at (fun x hx => HV.out x (HP2.out.mem_iff.mp hx)) (show y < d2.length by omega))
          obtain ⟨u, hu⟩ : ∃ u, d2.getD j 0 = u := ⟨_, rfl⟩
          obtain ⟨v, hv⟩ : ∃ v, d2.getD y 0 = v := ⟨_, rfl⟩
          have hju : K.at_ d1 i = u := by
            have := HT.out.at_ j
            rw [rotF, if_pos (by omega), show j + (i - j) = i by omega] at this
            rw [← this, ← hu]; rfl
          have hyv : K.at_ d1 y = v := by
            have := HT.out.at_ y
            rw [rotF, if_neg (by omega), if_neg (by omega)] at this
            rw [← this, ← hv]; rfl
          have hc2 : ∀ n, Calls Try.prog gc (#[.int .i64 u, .int .i64 v] ++ cb) (wr.drewN n) fun e w' => e = .returned (.int .i64 (cf u v)) ∧ ∃ q, w' = (wr.drewN n).drewN q := by rw [← hu, ← hv]; exact hc
          rw [hu] at cx
          rw [hv] at cy
          have W4 := Aside0.mk (w64of (z := (j : Int) - 1) (n := y) (by omega) (by omega))
          have W5 := Aside0.mk (show IntKind.i64.wrap ((j : Int) - 1) = (y : Int) by rw [IntKind.wrap_i64]; omega)
          have HY := Aside0.mk hy
          have HU := Aside0.mk hu
          have HVV := Aside0.mk hv
          have HJA := Aside0.mk hja
          have HJU := Aside0.mk hju
          have HYV := Aside0.mk hyv
          have HLE := Aside0.mk hl
          clear e1 e2 e3 e4 e5 hy hu hv hja hc hju hyv hl
          have w4 := W4.out
          have w5 := W5.out
          by_cases hlt : cf u v < 0
          · have c3 : decide (cf u v < 0) = true := decide_eq_true hlt
            have HLT := Aside0.mk hlt
            clear hlt
            go_wp2_with fail
            go_quiet (first | (go_at_fn gc; refine Calls.quiet_of (hc2 _)))
            go_wp2_with fail
            have cx2 : (wr.drewN nq).cell? ⟨g, j, none⟩ = some (.int .i64 u) := cx
            have fx2 : (wr.drewN nq).frozen? ⟨g, j, none⟩ = false := fx
            have cy2 : (wr.drewN nq).cell? ⟨g, y, none⟩ = some (.int .i64 v) := cy
            have fy2 : (wr.drewN nq).frozen? ⟨g, y, none⟩ = false := fy
            have HR3 := Aside0.mk (HR2.out.drewN nq)
            clear cx fx cy fy hc2
            generalize wr.drewN nq = wq at cx2 fx2 cy2 fy2 HR3 ⊢
            go_big_region
            all_goals go_wp2
            clear w4 w5
            go_roundg y
            case measure => have := HJ.out; have := HY.out; have := HJA.out; omega
            case rel =>
              have e1 := HI.out
              have e2 := HB.out
              have e4 := HJ.out
              have e5 := HJA.out
              have e6 := HY.out
              have e7 := HLE.out
              have e8 := HIB.out
              have e9 := HM.out.len
              refine ⟨y, swp d2 j y, by first | rfl | rw [W4.out], ⟨by omega⟩, ⟨?_⟩, ⟨?_⟩, ⟨(swp_perm d2 j y (by omega) (by omega)).trans HP2.out⟩, ⟨fun h q1 q2 => ?_⟩⟩
              · have q := ((HR3.out.set j v).set y u).drew
                rw [swp, HU.out, HVV.out]
                exact q
              · obtain rfl : j = y + 1 := by omega
                exact rot_down HT.out (by omega) (by omega)
              · by_cases e : y < h
                · exact HC.out h (by omega) q2
                · obtain rfl : h = y := by omega
                  rw [HJU.out, HYV.out]; exact HLT.out
          · have c3 : decide (cf u v < 0) = false := decide_eq_false hlt
            have HLT := Aside0.mk (Int.not_lt.mp hlt)
            clear hlt
            go_wp2_with fail
            go_quiet (first | (go_at_fn gc; refine Calls.quiet_of (hc2 _)))
            go_wp2
            clear w4 w5
            go_roundg (b - (i + 1))
            case measure => have := HI.out; have := HIB.out; omega
            case rel =>
              have e1 := HI.out
              have e4 := HJ.out
              have e5 := HJA.out
              have e6 := HY.out
              have e8 := HIB.out
              have q := OUT.out (fun h q1 q2 => by
                refine Int.not_lt.mp fun hcon => ?_
                by_cases e : h < y
                · have := HX.out.cmp.lt_le hcon (HS.out h y q1 e (by omega)).le
                  rw [HJU.out, HYV.out] at this
                  exact absurd this (Int.not_lt.mpr HLT.out)
                · obtain rfl : h = y := by omega
                  rw [HJU.out, HYV.out] at hcon
                  exact absurd hcon (Int.not_lt.mpr HLT.out))
              exact ⟨i + 1, d2, by first | rfl | rw [W3.out], ⟨by omega⟩, ⟨HR2.out.drewN _⟩, ⟨q.1⟩, HP2, ⟨q.2⟩⟩
        · have c2 : decide (a < j) = false := decide_eq_false hja
          have HJA := Aside0.mk hja
          clear e1 e2 e3 e4 e5 hja hl
          go_wp2_with fail
          go_big_region
          all_goals go_wp2
          go_roundg (b - (i + 1))
          case measure => have := HI.out; have := HIB.out; omega
          case rel =>
            have e1 := HI.out
            have e4 := HJ.out
            have e5 := HJA.out
            have e8 := HIB.out
            have q := OUT.out (fun h q1 q2 => by omega)
            exact ⟨i + 1, d2, by first | rfl | rw [W3.out], ⟨by omega⟩, ⟨by first | exact HR2.out.drew | exact HR2.out.drewN _ | exact HR2.out⟩, ⟨q.1⟩, HP2, ⟨q.2⟩⟩
    · have c1 : decide (i < b) = false := decide_eq_false hib
      have HIB := Aside0.mk hib
      clear hib
      go_wp2
      go_end0
      have e1 := HI.out
      have e2 := HIB.out
      obtain rfl : i = b := by omega
      exact ⟨rfl, d1, HR.out, HM.out, HP.out, HS.out⟩
theorem insSort0 {w0 : World} {g gc : Nat} {cb : Array Value} {cf : Int → Int → Int} {V : Int → Prop} (hX : Cx w0 g gc cb cf V) (W : World) (cap : Nat) (d : List Int) (a : Nat) (h : AtRow w0 W g d) (hb : a ≤ d.length) (hlen : d.length < 1000) :
    Calls Try.prog 104 #[.slice (some ⟨g, 0, none⟩) d.length cap, .int .i64 a, .int .i64 a, .func (.func gc) #[] cb] W (MergePost w0 g cf d a a) := by
  have H := Aside0.mk h
  obtain ⟨i, hi⟩ : ∃ i, a + 1 = i := ⟨_, rfl⟩
  have W1 := Aside0.mk (w64of (z := (a : Int) + 1) (n := i) (by omega) (by omega))
  have c1 : decide (i < a) = false := decide_eq_false (by omega)
  clear h hb hlen hX hi
  go_enter Try.func104, Try.ntmps104
  go_wp2
  go_loopg [8] 1 (fun k v8 w' => v8 = .int .i64 i ∧ Aside0 (AtRow w0 w' g d))
  case atStart => exact ⟨by first | rfl | rw [W1.out], H⟩
  case round =>
    obtain ⟨rfl, HR⟩ := hrel
    go_wp2
    go_end0
    exact ⟨rfl, d, HR.out, Moved.refl _ _ _, List.Perm.refl _, fun x y q1 q2 q3 => by omega⟩
end Go.Proofs.Ythhcgepofldgaaa.PSortI
