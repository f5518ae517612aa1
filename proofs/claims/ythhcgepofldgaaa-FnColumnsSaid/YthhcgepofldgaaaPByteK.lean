/- The walks of a sort of bytes: the whole of it. -/
import Derived.Test.YthhcgepofldgaaaPByteD
import Derived.Test.YthhcgepofldgaaaPByteF
import Derived.Test.YthhcgepofldgaaaPByteG
import Derived.Test.YthhcgepofldgaaaPByteJ
namespace Go.Proofs.Ythhcgepofldgaaa.PByteK
open Go.RowKit Go.Proofs.YthhcgepofldgaaaW.PrintWords Go.Proofs.Ythhcgepofldgaaa.PByteA Go.Proofs.Ythhcgepofldgaaa.PByteU Go.Proofs.Ythhcgepofldgaaa.PByteB Go.Proofs.Ythhcgepofldgaaa.PByteC Go.Proofs.Ythhcgepofldgaaa.PByteD Go.Proofs.Ythhcgepofldgaaa.PByteE Go.Proofs.Ythhcgepofldgaaa.PByteF Go.Proofs.Ythhcgepofldgaaa.PByteG Go.Proofs.Ythhcgepofldgaaa.PByteH Go.Proofs.Ythhcgepofldgaaa.PByteI Go.Proofs.Ythhcgepofldgaaa.PByteJ
set_option linter.unusedVariables false
set_option linter.unusedSimpArgs false
set_option maxHeartbeats 4000000
set_option maxRecDepth 100000
theorem ins_n (w0 W : World) (g cap n a b : Nat) (d : Array Int) (hn : d.size = n) (h : AtB w0 W g d) (hab : a ≤ b) (hb : b ≤ n) (hlen : n < 1000) :
    Calls Try.prog 89 #[.slice (some ⟨g, 0, none⟩) n cap, .int .i64 a, .int .i64 b] W fun e w' => e = .returned (.tuple #[]) ∧ AtB w0 w' g (Sort.insertionSort L d a b) := by
  subst hn
  exact insertionSort w0 W g cap a b d h hab hb hlen
theorem heap_n (w0 W : World) (g cap n a b : Nat) (d : Array Int) (hn : d.size = n) (h : AtB w0 W g d) (hab : a < b) (hb : b ≤ n) (hlen : n < 1000) :
    Calls Try.prog 90 #[.slice (some ⟨g, 0, none⟩) n cap, .int .i64 a, .int .i64 b] W fun e w' => e = .returned (.tuple #[]) ∧ AtB w0 w' g (Sort.heapSort L d a b) := by
  subst hn
  exact heapSort w0 W g cap a b d h hab hb hlen
theorem rev_n (w0 W : World) (g cap n a b : Nat) (d : Array Int) (hn : d.size = n) (h : AtB w0 W g d) (hab : a < b) (hb : b ≤ n) (hlen : n < 1000) :
    Calls Try.prog 93 #[.slice (some ⟨g, 0, none⟩) n cap, .int .i64 a, .int .i64 b] W fun e w' => e = .returned (.tuple #[]) ∧ AtB w0 w' g (Sort.reverseRange d a b) := by
  subst hn
  exact reverseRange w0 W g cap a b d h hab hb hlen
theorem pins_n (w0 W : World) (g cap n a b : Nat) (d : Array Int) (hn : d.size = n) (h : AtB w0 W g d) (hab : a < b) (hb : b ≤ n) (hlen : n < 1000) {dr : Array Int} {br : Bool} (hr : Sort.partialInsertionSort L d a b = (dr, br)) :
    Calls Try.prog 94 #[.slice (some ⟨g, 0, none⟩) n cap, .int .i64 a, .int .i64 b] W fun e w' => e = .returned (.bool br) ∧ AtB w0 w' g dr := by
  subst hn
  have := partIns w0 W g cap a b d h hab hb hlen
  rw [hr] at this
  exact this
theorem peq_n (w0 W : World) (g cap n a b p : Nat) (d : Array Int) (hn : d.size = n) (h : AtB w0 W g d) (hap : a < p) (hpb : p < b) (hb : b ≤ n) (hlen : n < 1000) {mid : Nat} {dr : Array Int} (hr : Sort.partitionEqual L d a b p = (mid, dr)) :
    Calls Try.prog 96 #[.slice (some ⟨g, 0, none⟩) n cap, .int .i64 a, .int .i64 b, .int .i64 p] W fun e w' => e = .returned (.int .i64 mid) ∧ AtB w0 w' g dr := by
  subst hn
  have := partEq w0 W g cap a b p d h hap hpb hb hlen
  rw [hr] at this
  exact this
theorem prt_n (w0 W : World) (g cap n a b p : Nat) (d : Array Int) (hn : d.size = n) (h : AtB w0 W g d) (hap : a < p) (hpb : p < b) (hb : b ≤ n) (hlen : n < 1000) {mid : Nat} {ap : Bool} {dr : Array Int} (hr : Sort.partition L d a b p = (mid, ap, dr)) :
    Calls Try.prog 97 #[.slice (some ⟨g, 0, none⟩) n cap, .int .i64 a, .int .i64 b, .int .i64 p] W fun e w' => e = .returned (.tuple #[.int .i64 mid, .bool ap]) ∧ AtB w0 w' g dr := by
  subst hn
  have := PByteF.part w0 W g cap a b p d h hap hpb hb hlen
  rw [hr] at this
  exact this
/-- What a sort of the part from a to b leaves. -/
def Good (w0 : World) (g a b : Nat) (d : Array Int) (e : Ending) (w' : World) : Prop := e = .returned (.tuple #[]) ∧ ∃ d', AtB w0 w' g d' ∧ Sort.PermIn a b d d' ∧ Sort.SortedIn L a b d'
theorem pdq_step (w0 : World) (g cap n A B : Nat) (hlen : n < 1000)
    (IH : ∀ (W : World) (a b : Nat) (lim : Int) (d : Array Int), b - a < B - A → d.size = n → AtB w0 W g d → a ≤ b → b ≤ n → Sort.Below L a b d → Calls Try.prog 78 #[.slice (some ⟨g, 0, none⟩) n cap, .int .i64 a, .int .i64 b, .int .i64 lim] W (Good w0 g a b d))
    (W : World) (lim : Int) (d : Array Int) (hn : d.size = n) (h : AtB w0 W g d) (hab : A ≤ B) (hb : B ≤ n) (hbl : Sort.Below L A B d) :
    Calls Try.prog 78 #[.slice (some ⟨g, 0, none⟩) n cap, .int .i64 A, .int .i64 B, .int .i64 lim] W (Good w0 g A B d) := by
  have HL := Aside0.mk hlen
  have HIH := Aside0.mk IH
  have HN := Aside0.mk hn
  have H := Aside0.mk h
  have HAB := Aside0.mk (And.intro hab hb)
  have HBL := Aside0.mk hbl
  clear hlen IH hn h hab hb hbl
  go_enter Try.func78, Try.ntmps78
  go_wp2
  go_loopg [1, 2, 3, 8, 9] (B + 1) (fun k v1 v2 v3 v8 v9 w' => ∃ (a b : Nat) (lim : Int) (wb wp : Bool) (d1 : Array Int), v1 = .int .i64 a ∧ v2 = .int .i64 b ∧ v3 = .int .i64 lim ∧ v8 = .bool wb ∧ v9 = .bool wp ∧ Aside0 (A ≤ a ∧ a ≤ b ∧ b ≤ B ∧ b - a ≤ k) ∧ Aside0 (AtB w0 w' g d1) ∧ Aside0 (d1.size = n) ∧ Aside0 (Sort.Below L a b d1) ∧ Aside0 (∀ R, Sort.PermIn a b d1 R → Sort.SortedIn L a b R → Sort.PermIn A B d R ∧ Sort.SortedIn L A B R))
  case atStart => exact ⟨A, B, lim, true, true, d, rfl, rfl, rfl, rfl, rfl, ⟨by have := HAB.out; omega⟩, H, HN, HBL, ⟨fun R h1 h2 => ⟨h1, h2⟩⟩⟩
  case round =>
    clear H HN HBL
    obtain ⟨a, b, lim1, wb, wp, d1, rfl, rfl, rfl, rfl, rfl, HI, HR, HS, HW, HF⟩ := hrel
    obtain ⟨l, hl⟩ : ∃ l, b - a = l := ⟨_, rfl⟩
    have HLL := Aside0.mk hl
    have V1 := Aside0.mk (both (z := (b : Int) - (a : Int)) (n := l) (by have := HI.out; omega) (by have := HI.out; have := HAB.out; have := HL.out; omega))
    clear hl
    have v1 := V1.out.1
    by_cases h12 : l ≤ 12
    · have c1 : decide (l ≤ 12) = true := decide_eq_true h12
      have c2 : decide ((l : Int) ≤ 12) = true := decide_eq_true (by clear v1; omega)
      have H12 := Aside0.mk h12
      clear h12
      go_wp2_with (go_at_call 89; refine (ins_n w0 _ g cap n a b d1 HS.out HR.out (by clear v1; have := HI.out; omega) (by clear v1; have := HI.out; have := HAB.out; omega) HL.out).mono ?_; rintro e w2 ⟨rfl, h2⟩)
      refine bodyPost_ret (results_none rfl _ _ _) rfl ?_
      have q := Sort.insertionSort_holds (lt := L) Sort.swo_ltInt d1 a b HI.out.2.1 (by clear v1; have := HI.out; have := HAB.out; have := HS.out; omega)
      exact ⟨rfl, _, h2, HF.out _ q.1 q.2⟩
    · have c1 : decide (l ≤ 12) = false := decide_eq_false h12
      have c2 : decide ((l : Int) ≤ 12) = false := decide_eq_false (by clear v1; omega)
      have H12 := Aside0.mk h12
      clear h12
      by_cases h0 : lim1 = 0
      · subst h0
        go_wp2_with (go_at_call 90; refine (heap_n w0 _ g cap n a b d1 HS.out HR.out (by clear v1; have := HI.out; have := H12.out; have := HLL.out; omega) (by clear v1; have := HI.out; have := HAB.out; omega) HL.out).mono ?_; rintro e w2 ⟨rfl, h2⟩)
        refine bodyPost_ret (results_none rfl _ _ _) rfl ?_
        have q := Sort.heapSort_holds (lt := L) Sort.swo_ltInt d1 a b HI.out.2.1 (by clear v1; have := HI.out; have := HAB.out; have := HS.out; omega)
        exact ⟨rfl, _, h2, HF.out _ q.1 q.2⟩
      · have c3 : (lim1 == 0) = false := by simp [h0]
        have c4 : (lim1 = 0) = False := eq_false h0
        clear h0
        go_upto_if 35 with (fail)
        clear c1 c2 c3 c4 v1
        have HBIG := Aside0.mk (show a + 12 < b ∧ b ≤ d1.size ∧ b ≤ n by have := HI.out; have := H12.out; have := HLL.out; have := HAB.out; have := HS.out; omega)
        go_cut [3] (fun vs wc => ∃ (lim2 : Int) (d2 : Array Int), vs = .int .i64 lim2 ∧ Aside0 (AtB w0 wc g d2) ∧ Aside0 (Sort.PermIn a b d1 d2))
        case first =>
          cases wb with
          | false =>
            go_wp2_with (go_at_call 91; refine (breakP w0 _ g cap n a b d1 HS.out HR.out HBIG.out.1 HBIG.out.2.1 (by rw [HS.out]; exact HL.out)).mono ?_; rintro e w2 ⟨rfl, d2, h2, p2⟩)
            go_meet
            case rel => exact ⟨_, d2, rfl, ⟨h2⟩, ⟨p2⟩⟩
          | true =>
            go_wp2
            go_meet
            case rel => exact ⟨_, d1, rfl, HR, ⟨Sort.permIn_refl _ _ _⟩⟩
        case rest =>
          clear HR
          obtain ⟨lim2, d2, rfl, HR, HP⟩ := hcut
          have HS2 := Aside0.mk (show d2.size = n by rw [HP.out.1]; exact HS.out)
          go_upto_region 11 with (go_at_call 92; refine (PByteH.choose w0 _ g cap n a b d2 HS2.out HR.out HBIG.out.1 (by rw [HS2.out]; exact HBIG.out.2.2) (by rw [HS2.out]; exact HL.out)).mono ?_; rintro e w3 ⟨p, k, rfl, hk, h3⟩; have HK := Aside0.mk hk; have HR3 := Aside0.mk h3; clear hk h3)
          clear HR
          go_upto_if 50 with (fail)
          go_cut [11, 12] (fun v11 v12 wc => ∃ (p2 k2 : Nat) (d3 : Array Int), v11 = .int .i64 p2 ∧ v12 = .int .i64 k2 ∧ Aside0 (a < p2 ∧ p2 < b) ∧ Aside0 (AtB w0 wc g d3) ∧ Aside0 (Sort.PermIn a b d1 d3))
          case first =>
            by_cases h2 : k = 2
            · subst h2
              obtain ⟨e1, he1⟩ : ∃ e1, b - 1 = e1 := ⟨_, rfl⟩
              obtain ⟨f1, hf1⟩ : ∃ f1, p - a = f1 := ⟨_, rfl⟩
              obtain ⟨p2, hp2⟩ : ∃ p2, e1 - f1 = p2 := ⟨_, rfl⟩
              have U1 := Aside0.mk (both (z := (b : Int) - 1) (n := e1) (by have := HBIG.out; omega) (by have := HBIG.out; have := HL.out; omega))
              have U2 := Aside0.mk (both (z := (p : Int) - (a : Int)) (n := f1) (by have := HK.out; omega) (by have := HK.out; have := HBIG.out; have := HL.out; omega))
              have U3 := Aside0.mk (both (z := (e1 : Int) - (f1 : Int)) (n := p2) (by have := HK.out; have := HBIG.out; omega) (by have := HK.out; have := HBIG.out; have := HL.out; omega))
              have HP2 := Aside0.mk (show a < p2 ∧ p2 < b by have := HK.out; have := HBIG.out; omega)
              clear he1 hf1 hp2
              have u1 := U1.out.1
              have u2 := U2.out.1
              have u3 := U3.out.1
              go_wp2_with (go_at_call 93; refine (rev_n w0 _ g cap n a b d2 HS2.out HR3.out (by clear u1 u2 u3; have := HBIG.out; omega) HBIG.out.2.2 HL.out).mono ?_; rintro e w4 ⟨rfl, h4⟩)
              go_meet
              case rel =>
                have q := Sort.reverseRange_holds d2 a b (by clear u1 u2 u3; have := HBIG.out; omega) (by clear u1 u2 u3; rw [HS2.out]; exact HBIG.out.2.2)
                exact ⟨p2, 1, _, by first | rfl | rw [u3] | rw [u1, u2, u3], rfl, HP2, ⟨h4⟩, ⟨Sort.permIn_trans _ _ _ a b HP.out q⟩⟩
            · have c1 : ((k : Int) == 2) = false := by simp; omega
              have c2 : (k == 2) = false := by simp; omega
              have c3 : (k = 2) = False := eq_false h2
              go_wp2
              go_meet
              case rel => exact ⟨p, k, d2, rfl, rfl, ⟨by have := HK.out; omega⟩, HR3, HP⟩
          case rest =>
            clear HR3 HK HP HS2
            obtain ⟨p, k, d3, rfl, rfl, HK, HR, HP⟩ := hcut
            have HS3 := Aside0.mk (show d3.size = n by rw [HP.out.1]; exact HS.out)
            have HB3 := Aside0.mk (Sort.Below.perm HW.out HBIG.out.2.1 HP.out)
            go_upto_region 15 with (fail)
            go_cut [68] (fun v68 wc => ∃ c : Bool, v68 = .bool c ∧ Aside0 (AtB w0 wc g d3))
            case first =>
              cases wb <;> cases wp <;> by_cases hk1 : k = 1
              all_goals go_wp2
              all_goals go_meet
              all_goals exact ⟨_, rfl, HR⟩
            clear HR
            obtain ⟨c, rfl, HR⟩ := hcut
            go_upto_if 68 with (fail)
            go_cut [] (fun wc => ∃ d4 : Array Int, Aside0 (AtB w0 wc g d4) ∧ Aside0 (Sort.PermIn a b d1 d4))
            case first =>
              cases c with
              | false =>
                go_wp2
                go_meet
                case rel => exact ⟨d3, HR, HP⟩
              | true =>
                obtain ⟨r, hr⟩ : ∃ r, Sort.partialInsertionSort L d3 a b = r := ⟨_, rfl⟩
                have q := Sort.partialInsertionSort_holds (lt := L) Sort.swo_ltInt d3 a b (by have := HBIG.out; omega) (by rw [HS3.out]; exact HBIG.out.2.2) HB3.out
                rw [hr] at q
                obtain ⟨dr, br⟩ := r
                have HQ := Aside0.mk q
                have HRR := Aside0.mk hr
                clear q hr
                have HAB2 := Aside0.mk (show a < b by have := HBIG.out; omega)
                cases br with
                | true =>
                  go_wp2_with (go_at_call 94; refine (pins_n w0 _ g cap n a b d3 HS3.out HR.out HAB2.out HBIG.out.2.2 HL.out HRR.out).mono ?_; rintro e w5 ⟨rfl, h5⟩)
                  refine bodyPost_ret (results_none rfl _ _ _) rfl ?_
                  have q := HF.out dr (Sort.permIn_trans _ _ _ a b HP.out HQ.out.1) (by first | exact HQ.out.2 rfl | exact HQ.out.2 trivial)
                  exact ⟨rfl, dr, h5, q⟩
                | false =>
                  go_wp2_with (go_at_call 94; refine (pins_n w0 _ g cap n a b d3 HS3.out HR.out HAB2.out HBIG.out.2.2 HL.out HRR.out).mono ?_; rintro e w5 ⟨rfl, h5⟩)
                  go_meet
                  case rel => exact ⟨dr, ⟨h5⟩, ⟨Sort.permIn_trans _ _ _ a b HP.out HQ.out.1⟩⟩
            case rest =>
              clear HR HP HS3 HB3
              obtain ⟨d4, HR, HP⟩ := hcut
              have HS4 := Aside0.mk (show d4.size = n by rw [HP.out.1]; exact HS.out)
              have HB4 := Aside0.mk (Sort.Below.perm HW.out HBIG.out.2.1 HP.out)
              go_upto_region 17 with (fail)
              go_cut [87] (fun v87 wc => ∃ c : Bool, v87 = .bool c ∧ Aside0 (AtB w0 wc g d4) ∧ Aside0 (c = true → 0 < a ∧ ¬ d4[a - 1]! < d4[p]!))
              case first =>
                by_cases ha : 0 < a
                · have c1 : decide (0 < a) = true := decide_eq_true ha
                  have c2 : decide ((0 : Int) < (a : Int)) = true := decide_eq_true (by omega)
                  obtain ⟨y, hy⟩ : ∃ y, a - 1 = y := ⟨_, rfl⟩
                  have U1 := Aside0.mk (both (z := (a : Int) - 1) (n := y) (by omega) (by have := HBIG.out; have := HL.out; omega))
                  have HHA := Aside0.mk ha
                  have HYY := Aside0.mk hy
                  have x1 : ((y : Int) < (n : Int)) = True := eq_true (by have := HBIG.out; omega)
                  have x2 : (y < n) = True := eq_true (by have := HBIG.out; omega)
                  have y1 : ((p : Int) < (n : Int)) = True := eq_true (by have := HBIG.out; have := HK.out; omega)
                  have y2 : (p < n) = True := eq_true (by have := HBIG.out; have := HK.out; omega)
                  obtain ⟨cx, fx⟩ := HR.out.cell y (by rw [HS4.out]; have := HBIG.out; omega)
                  obtain ⟨cy, fy⟩ := HR.out.cell p (by rw [HS4.out]; have := HBIG.out; have := HK.out; omega)
                  obtain ⟨u, hu⟩ : ∃ u, d4[y]! = u := ⟨_, rfl⟩
                  obtain ⟨v, hv⟩ : ∃ v, d4[p]! = v := ⟨_, rfl⟩
                  rw [hu] at cx
                  rw [hv] at cy
                  have HU := Aside0.mk hu
                  have HV := Aside0.mk hv
                  clear ha hy hu hv
                  have hc2 : ∀ n, Calls Try.prog 95 #[.int .u8 u, .int .u8 v] (wc.drewN n) fun e w' => e = .returned (.bool (decide (u < v))) ∧ ∃ q, w' = (wc.drewN n).drewN q := fun n => lessQ _ _ _
                  have u1 := U1.out.1
                  have u2 := U1.out.2
                  by_cases hlt : u < v
                  · have c3 : decide (u < v) = true := decide_eq_true hlt
                    clear hlt
                    go_wp2_with fail
                    go_quiet (first | (go_at_call 95; refine Calls.quiet_of (hc2 _)))
                    go_wp2
                    go_meet
                    case rel => exact ⟨false, rfl, ⟨HR.out.drewN _⟩, ⟨fun q => by cases q⟩⟩
                  · have c3 : decide (u < v) = false := decide_eq_false hlt
                    have HLT := Aside0.mk hlt
                    clear hlt
                    go_wp2_with fail
                    go_quiet (first | (go_at_call 95; refine Calls.quiet_of (hc2 _)))
                    go_wp2
                    go_meet
                    case rel => exact ⟨true, rfl, ⟨HR.out.drewN _⟩, ⟨fun _ => ⟨HHA.out, by clear u1 u2; rw [show a - 1 = y from HYY.out, HU.out, HV.out]; have := HLT.out; omega⟩⟩⟩
                · have c1 : decide (0 < a) = false := decide_eq_false ha
                  have c2 : decide ((0 : Int) < (a : Int)) = false := decide_eq_false (by omega)
                  clear ha
                  go_wp2_with fail
                  go_quiet (fail)
                  go_wp2
                  go_meet
                  case rel => exact ⟨false, rfl, ⟨HR.out.drewN _⟩, ⟨fun q => by cases q⟩⟩
              case rest =>
                clear HR
                obtain ⟨c, rfl, HR, HC⟩ := hcut
                have HBS := Aside0.mk (show b ≤ d4.size by rw [HS4.out]; exact HBIG.out.2.2)
                have HAP := Aside0.mk (Nat.le_of_lt HK.out.1)
                cases c with
                | true =>
                  obtain ⟨r, hr⟩ : ∃ r, Sort.partitionEqual L d4 a b p = r := ⟨_, rfl⟩
                  obtain ⟨mid, d5⟩ := r
                  have q := Sort.round_eq Sort.swo_ltInt (Sort.partitionEqual_holds L) (HC.out rfl).1 HAP.out HK.out.2 HBS.out HB4.out (decide_eq_false (HC.out rfl).2) hr
                  have HQ := Aside0.mk q
                  have HRR := Aside0.mk hr
                  clear q hr
                  go_wp2_with (go_at_call 96; refine (peq_n w0 _ g cap n a b p d4 HS4.out HR.out HK.out.1 HK.out.2 HBIG.out.2.2 HL.out HRR.out).mono ?_; rintro e w6 ⟨rfl, h6⟩)
                  go_roundg (b - mid)
                  case measure => have := HQ.out.1; have := HI.out; have := HBIG.out; omega
                  case rel => exact ⟨mid, b, lim2, wb, wp, d5, rfl, rfl, rfl, rfl, rfl, ⟨by have := HQ.out.1; have := HQ.out.2.1; have := HI.out; omega⟩, ⟨h6⟩, ⟨by rw [HQ.out.2.2.1]; exact HS4.out⟩, ⟨HQ.out.2.2.2.1⟩, ⟨fun R h1 h2 => by have z := HQ.out.2.2.2.2 R h1 h2; exact HF.out R (Sort.permIn_trans _ _ _ a b HP.out z.1) z.2⟩⟩
                | false =>
                  obtain ⟨r, hr⟩ : ∃ r, Sort.partition L d4 a b p = r := ⟨_, rfl⟩
                  obtain ⟨mid, ap, d5⟩ := r
                  have q := Sort.round_part Sort.swo_ltInt (Sort.partition_holds L) HAP.out HK.out.2 HBS.out HB4.out hr
                  obtain ⟨ll, hll⟩ : ∃ ll, mid - a = ll := ⟨_, rfl⟩
                  obtain ⟨rl, hrl⟩ : ∃ rl, b - mid = rl := ⟨_, rfl⟩
                  obtain ⟨m1, hm1⟩ : ∃ m1, mid + 1 = m1 := ⟨_, rfl⟩
                  have U1 := Aside0.mk (both (z := (mid : Int) - (a : Int)) (n := ll) (by have := q.1; omega) (by have := q.2.1; have := HBIG.out; have := HL.out; omega))
                  have U2 := Aside0.mk (both (z := (b : Int) - (mid : Int)) (n := rl) (by have := q.2.1; omega) (by have := HBIG.out; have := HL.out; omega))
                  have U3 := Aside0.mk (both (z := (mid : Int) + 1) (n := m1) (by omega) (by have := q.2.1; have := HBIG.out; have := HL.out; omega))
                  have HM := Aside0.mk (show a ≤ mid ∧ mid < b ∧ mid + 1 = m1 ∧ b ≤ n from ⟨q.1, q.2.1, hm1, HBIG.out.2.2⟩)
                  have HS5 := Aside0.mk (show d5.size = n by rw [q.2.2.1]; exact HS4.out)
                  have HQ := Aside0.mk q.2.2.2
                  rw [hm1] at HQ
                  have HRR := Aside0.mk hr
                  clear q hr hll hrl hm1
                  have u1 := U1.out.1
                  have u2 := U2.out.1
                  have u3 := U3.out.1
                  by_cases hlr : ll < rl
                  · have c1 : decide (ll < rl) = true := decide_eq_true hlr
                    clear hlr
                    go_upto_region 25 with (go_at_call 97; refine (prt_n w0 _ g cap n a b p d4 HS4.out HR.out HK.out.1 HK.out.2 HBIG.out.2.2 HL.out HRR.out).mono ?_; rintro e w6 ⟨rfl, h6⟩; have HR6 := Aside0.mk h6; clear h6)
                    go_wp2_with (go_at_call 78; refine (HIH.out _ a mid lim2 d5 (by clear u1 u2 u3; have := HM.out; have := HI.out; omega) HS5.out HR6.out HM.out.1 (by clear u1 u2 u3; have := HM.out; omega) HQ.out.1).mono ?_; rintro e w7 ⟨rfl, d6, h7, p7, s7⟩; have HR7 := Aside0.mk h7; have HZ := Aside0.mk (And.intro p7 s7); clear h7 p7 s7)
                    clear u1 u2 u3
                    go_roundg (b - m1)
                    case measure => have := HM.out; have := HI.out; have := HBIG.out; omega
                    case rel =>
                      have z := HQ.out.2.2.1 d6 HZ.out.1 HZ.out.2
                      exact ⟨m1, b, lim2, _, ap, d6, by first | rfl | rw [U3.out.1], rfl, rfl, rfl, rfl, ⟨by have := HM.out; have := HI.out; omega⟩, HR7, ⟨by rw [HZ.out.1.1]; exact HS5.out⟩, ⟨z.1⟩, ⟨fun R h1 h2 => by have y := z.2 R h1 h2; exact HF.out R (Sort.permIn_trans _ _ _ a b HP.out y.1) y.2⟩⟩
                  · have c1 : decide (ll < rl) = false := decide_eq_false hlr
                    clear hlr
                    go_upto_region 28 with (go_at_call 97; refine (prt_n w0 _ g cap n a b p d4 HS4.out HR.out HK.out.1 HK.out.2 HBIG.out.2.2 HL.out HRR.out).mono ?_; rintro e w6 ⟨rfl, h6⟩; have HR6 := Aside0.mk h6; clear h6)
                    go_wp2_with (go_at_call 78; refine (HIH.out _ m1 b lim2 d5 (by clear u1 u2 u3; have := HM.out; have := HI.out; omega) HS5.out HR6.out (by clear u1 u2 u3; have := HM.out; omega) HBIG.out.2.2 HQ.out.2.1).mono ?_; rintro e w7 ⟨rfl, d6, h7, p7, s7⟩; have HR7 := Aside0.mk h7; have HZ := Aside0.mk (And.intro p7 s7); clear h7 p7 s7)
                    clear u1 u2 u3
                    go_roundg (mid - a)
                    case measure => have := HM.out; have := HI.out; have := HBIG.out; omega
                    case rel =>
                      have z := HQ.out.2.2.2 d6 HZ.out.1 HZ.out.2
                      exact ⟨a, mid, lim2, _, ap, d6, rfl, rfl, rfl, rfl, rfl, ⟨by have := HM.out; have := HI.out; omega⟩, HR7, ⟨by rw [HZ.out.1.1]; exact HS5.out⟩, ⟨z.1⟩, ⟨fun R h1 h2 => by have y := z.2 R h1 h2; exact HF.out R (Sort.permIn_trans _ _ _ a b HP.out y.1) y.2⟩⟩
end Go.Proofs.Ythhcgepofldgaaa.PByteK
