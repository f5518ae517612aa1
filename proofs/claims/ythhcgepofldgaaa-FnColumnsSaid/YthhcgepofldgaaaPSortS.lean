/- draft -/
import Derived.Test.YthhcgepofldgaaaPSortI
import Derived.Test.YthhcgepofldgaaaKStable2
namespace Go.Proofs.Ythhcgepofldgaaa.PSortS
open Go.RowKit Go.Proofs.YthhcgepofldgaaaW.PrintWords Go.Proofs.Ythhcgepofldgaaa.K Go.Proofs.Ythhcgepofldgaaa.PSortM Go.Proofs.Ythhcgepofldgaaa.PSortI
set_option linter.unusedVariables false
set_option maxHeartbeats 4000000
set_option maxRecDepth 100000
/-- What the whole sort leaves. -/
def StablePost (w0 : World) (g : Nat) (cf : Int → Int → Int) (d : List Int) (e : Ending) (w' : World) : Prop := e = .returned (.tuple #[]) ∧ ∃ d', AtRow w0 w' g d' ∧ List.Perm d' d ∧ Inc cf d' 0 d.length
theorem stableCmp {w0 : World} {g gc : Nat} {cb : Array Value} {cf : Int → Int → Int} {V : Int → Prop} (hX : Cx w0 g gc cb cf V) (W : World) (cap n : Nat) (d : List Int) (h : AtRow w0 W g d) (hn : d.length = n) (hlen : n ≤ 120)
    (h1 : ∀ i j, i < j → j < n → K.at_ d i < K.at_ d j) (hV : ∀ x ∈ d, V x) :
    Calls Try.prog 87 #[.slice (some ⟨g, 0, none⟩) n cap, .int .i64 n, .func (.func gc) #[] cb] W (StablePost w0 g cf d) := by
  have HX := Aside0.mk hX
  have H := Aside0.mk h
  have HN := Aside0.mk hn
  have HL := Aside0.mk hlen
  have HO := Aside0.mk h1
  have HV := Aside0.mk hV
  have INS : Aside0 (∀ (W1 : World) (d1 : List Int) (a b : Nat), AtRow w0 W1 g d1 → List.Perm d1 d → Ins cf d d1 a → a ≤ b → b ≤ n → Calls Try.prog 104 #[.slice (some ⟨g, 0, none⟩) n cap, .int .i64 a, .int .i64 b, .func (.func gc) #[] cb] W1 (MergePost w0 g cf d1 a b)) := ⟨fun W1 d1 a b x1 x2 x3 x4 x5 => by
    have hl : d1.length = n := x2.length_eq.trans hn
    rw [← hl]
    by_cases e : a = b
    · subst e
      exact insSort0 hX W1 cap d1 a x1 (by omega) (by omega)
    · exact insSort hX W1 cap d1 a b x1 (by omega) (by omega) (by omega) (fun i j i1 i2 i3 => by rw [x3.2 i i1, x3.2 j (by omega)]; exact h1 i j i2 (by omega)) (fun x hx => hV x (x2.mem_iff.mp hx))⟩
  have MRG : Aside0 (∀ (W1 : World) (d1 : List Int) (a m b : Nat), AtRow w0 W1 g d1 → List.Perm d1 d → a < m → m < b → b ≤ n → Piece cf d d1 a m → Piece cf d d1 m b → Calls Try.prog 105 #[.slice (some ⟨g, 0, none⟩) n cap, .int .i64 a, .int .i64 m, .int .i64 b, .func (.func gc) #[] cb] W1 (MergePost w0 g cf d1 a b)) := ⟨fun W1 d1 a m b x1 x2 x3 x4 x5 x6 x7 => by
    have hl : d1.length = n := x2.length_eq.trans hn
    rw [← hl]
    exact symMerge hX cap (b - a) W1 d1 a m b (Nat.le_refl _) x1 x3 x4 (by omega) (by omega) x6.1 x7.1 (x6.below h1 x7 x5) (fun x hx => hV x (x2.mem_iff.mp hx))⟩
  clear h hn h1 hV hX hlen
  go_enter Try.func87, Try.ntmps87
  go_wp2
  go_loopg [7, 8] n (fun k v7 v8 w' => ∃ (a : Nat) (d1 : List Int), v7 = .int .i64 a ∧ v8 = .int .i64 ((a + 20 : Nat) : Int) ∧ Aside0 (a % 20 = 0 ∧ a ≤ n ∧ n - a ≤ k) ∧ Aside0 (AtRow w0 w' g d1) ∧ Aside0 (List.Perm d1 d) ∧ Aside0 (Ins cf d d1 a))
  case atStart => exact ⟨0, d, rfl, rfl, ⟨by omega⟩, H, ⟨List.Perm.refl _⟩, ⟨fun t q1 q2 => by omega, fun k _ => rfl⟩⟩
  case round =>
    obtain ⟨a, d1, rfl, rfl, HA, HR, HP, HI⟩ := hrel
    obtain ⟨e1, e2, e3⟩ := HA.out
    have e4 := HL.out
    obtain ⟨b, hb⟩ : ∃ b, a + 20 = b := ⟨_, rfl⟩
    rw [hb]
    by_cases hbn : b ≤ n
    · have c1 : decide (b ≤ n) = true := decide_eq_true hbn
      have hC := Aside0.mk (INS.out wr d1 a b HR.out HP.out HI.out (by omega) hbn)
      have W1 := Aside0.mk (w64of (z := (b : Int) + 20) (n := b + 20) (by omega) (by omega))
      have HBN := Aside0.mk hbn
      have HB := Aside0.mk hb
      clear e1 e2 e3 e4 hbn hb
      go_wp2_with fail
      refine hC.out.mono ?_
      rintro e_ w1 ⟨rfl, d2, hR2, hM2, hP2, hI2⟩
      have HR2 := Aside0.mk hR2
      have HM2 := Aside0.mk hM2
      have HP2 := Aside0.mk (hP2.trans HP.out)
      have HI2 := Aside0.mk hI2
      clear hR2 hM2 hP2 hI2
      go_wp2
      go_roundg (n - b)
      case measure => have := HA.out; have := HBN.out; have := HB.out; omega
      case rel =>
        have e1 := HA.out
        have e2 := HBN.out
        have e3 := HB.out
        have hM := HM2.out
        have hI := HI2.out
        rw [← e3] at hM hI
        refine ⟨b, d2, rfl, by first | rfl | rw [W1.out], ⟨by omega⟩, HR2, HP2, ⟨?_⟩⟩
        rw [← e3]
        exact HI.out.step e1.1 hM hI
    · have c1 : decide (b ≤ n) = false := decide_eq_false hbn
      have hC := Aside0.mk (INS.out wr d1 a n HR.out HP.out HI.out e2 (Nat.le_refl _))
      have HBN := Aside0.mk hbn
      have HB := Aside0.mk hb
      clear e1 e2 e3 e4 hbn hb
      go_wp2_with fail
      refine hC.out.mono ?_
      rintro e_ w1 ⟨rfl, d2, hR2, hM2, hP2, hI2⟩
      have HR2 := Aside0.mk hR2
      have HP2 := Aside0.mk (hP2.trans HP.out)
      have HLV : Aside0 (Lev cf d d2 20 n) := ⟨by
        have e1 := HA.out
        have e2 := HBN.out
        have e3 := HB.out
        exact HI.out.end_ e1.1 e1.2.1 (by omega) hM2 hI2⟩
      clear hR2 hM2 hP2 hI2 hC
      go_wp2
      go_loopg [6, 7, 8, 9] 200 (fun k v6 v7 v8 v9 w' => ∃ (s : Nat) (d3 : List Int), v6 = .int .i64 s ∧ Aside0 (Sz s ∧ 200 - s ≤ k) ∧ Aside0 (AtRow w0 w' g d3) ∧ Aside0 (List.Perm d3 d) ∧ Aside0 (Lev cf d d3 s n))
      case atStart => exact ⟨20, d2, rfl, ⟨.inl rfl, by omega⟩, HR2, HP2, HLV⟩
      case round =>
        clear HR2 HP2 HLV
        obtain ⟨s, d3, rfl, HS, HR3, HP3, HL3⟩ := hrel
        by_cases hsn : s < n
        · have c2 : decide (s < n) = true := decide_eq_true hsn
          obtain ⟨s2, hs2⟩ : ∃ s2, 2 * s = s2 := ⟨_, rfl⟩
          have e1 := HS.out.1
          have e2 := HL.out
          have hs3 : 20 ≤ s ∧ s ≤ 80 := by rcases e1 with rfl | rfl | rfl | rfl <;> omega
          have W2 := Aside0.mk (w64of (z := 2 * (s : Int)) (n := s2) (by omega) (by omega))
          have W3 := Aside0.mk (w64of (z := (s : Int) * 2) (n := s2) (by omega) (by omega))
          have HS2 := Aside0.mk hs2
          have HSN := Aside0.mk hsn
          have HS3 := Aside0.mk hs3
          clear e1 e2 hs2 hsn hs3
          go_wp2
          go_loopg [7, 8] n (fun k v7 v8 w' => ∃ (a : Nat) (d4 : List Int), v7 = .int .i64 a ∧ v8 = .int .i64 ((a + s2 : Nat) : Int) ∧ Aside0 (a % s2 = 0 ∧ a ≤ n ∧ n - a ≤ k) ∧ Aside0 (AtRow w0 w' g d4) ∧ Aside0 (List.Perm d4 d) ∧ Aside0 (Mix cf d d4 s n a))
          case atStart => exact ⟨0, d3, rfl, by rw [Nat.zero_add]; first | rfl | rw [W2.out], ⟨Nat.zero_mod _, by omega, by omega⟩, HR3, HP3, ⟨HL3.out.mix HS.out.1⟩⟩
          case round =>
            obtain ⟨a, d4, rfl, rfl, HA4, HR4, HP4, HM4⟩ := hrel
            obtain ⟨e1, e2, e3⟩ := HA4.out
            have e4 := HL.out
            have e5 := HS2.out
            have e6 := HS3.out
            have e7 := HSN.out
            obtain ⟨b4, hb4⟩ : ∃ b4, a + s2 = b4 := ⟨_, rfl⟩
            obtain ⟨m4, hm4⟩ : ∃ m4, a + s = m4 := ⟨_, rfl⟩
            rw [hb4]
            have W4 := Aside0.mk (w64of (z := (a : Int) + (s : Int)) (n := m4) (by omega) (by omega))
            have ha2 : a % (2 * s) = 0 := by rw [e5]; exact e1
            by_cases hbn : b4 ≤ n
            · have c3 : decide (b4 ≤ n) = true := decide_eq_true hbn
              have hp := HM4.out.two HS.out.1 ha2 (by omega)
              rw [hm4, show a + 2 * s = b4 by omega] at hp
              have hC := Aside0.mk (MRG.out wr d4 a m4 b4 HR4.out HP4.out (by omega) (by omega) hbn hp.1 hp.2)
              have W5 := Aside0.mk (w64of (z := 2 * (s : Int)) (n := s2) (by omega) (by omega))
              have W6 := Aside0.mk (w64of (z := (b4 : Int) + (s2 : Int)) (n := b4 + s2) (by omega) (by omega))
              have HB4 := Aside0.mk hb4
              have HBN4 := Aside0.mk hbn
              have HA2 := Aside0.mk ha2
              clear e1 e2 e3 e4 e5 e6 e7 hbn hb4 hm4 hp ha2
              have w4 := W4.out
              go_wp2_with fail
              refine hC.out.mono ?_
              rintro e_ w1 ⟨rfl, d5, hR5, hM5, hP5, hI5⟩
              have HR5 := Aside0.mk hR5
              have HM5 := Aside0.mk hM5
              have HP5 := Aside0.mk (hP5.trans HP4.out)
              have HI5 := Aside0.mk hI5
              clear hR5 hM5 hP5 hI5
              go_wp2
              clear w4
              have e1 := HA4.out
              have e2 := HBN4.out
              have e3 := HB4.out
              have e5 := HS2.out
              have e6 := HS3.out
              go_roundg (n - b4)
              case measure => omega
              case rel =>
                have q := HM4.out.step HS.out.1 HA2.out (by omega) (by rw [show a + 2 * s = b4 by omega]; exact HM5.out) (by rw [show a + 2 * s = b4 by omega]; exact HI5.out)
                rw [show a + 2 * s = b4 by omega, e5] at q
                exact ⟨b4, d5, rfl, by rw [W5.out, W6.out], ⟨q.2, by omega⟩, HR5, HP5, ⟨q.1⟩⟩
            · have c3 : decide (b4 ≤ n) = false := decide_eq_false hbn
              by_cases hmn : m4 < n
              · have c4 : decide (m4 < n) = true := decide_eq_true hmn
                have hp := HM4.out.last HS.out.1 ha2 (by omega) (by omega)
                rw [hm4] at hp
                have hC := Aside0.mk (MRG.out wr d4 a m4 n HR4.out HP4.out (by omega) hmn (Nat.le_refl _) hp.1 hp.2)
                have HX1 : Aside0 (a + s < n ∧ n < a + 2 * s ∧ a % (2 * s) = 0) := ⟨by omega⟩
                clear e1 e2 e3 e4 e5 e6 e7 hbn hmn hb4 hm4 hp ha2
                have w4 := W4.out
                go_wp2_with fail
                refine hC.out.mono ?_
                rintro e_ w1 ⟨rfl, d5, hR5, hM5, hP5, hI5⟩
                have HR5 := Aside0.mk hR5
                have HP5 := Aside0.mk (hP5.trans HP4.out)
                have HL5 := Aside0.mk (HM4.out.end1 HS.out.1 HX1.out.2.2 HX1.out.1 HX1.out.2.1 hM5 hI5)
                clear hR5 hM5 hP5 hI5
                go_wp2
                clear w4
                have e5 := HS2.out
                have e6 := HS3.out
                have e8 := HS.out
                go_roundg (200 - s2)
                case measure => omega
                case rel =>
                  have hL := HL5.out
                  rw [e5] at hL
                  exact ⟨s2, d5, by first | rfl | rw [W3.out], ⟨by unfold Sz at *; omega, Nat.le_refl _⟩, HR5, HP5, ⟨hL⟩⟩
              · have c4 : decide (m4 < n) = false := decide_eq_false hmn
                have HL5 := Aside0.mk (HM4.out.end2 HS.out.1 ha2 e2 (by omega))
                clear e1 e2 e3 e4 e5 e6 e7 hbn hmn hb4 hm4 ha2
                have w4 := W4.out
                go_wp2
                clear w4
                have e5 := HS2.out
                have e6 := HS3.out
                have e8 := HS.out
                go_roundg (200 - s2)
                case measure => omega
                case rel =>
                  have hL := HL5.out
                  rw [e5] at hL
                  exact ⟨s2, _, by first | rfl | rw [W3.out], ⟨by unfold Sz at *; omega, Nat.le_refl _⟩, HR4, HP4, ⟨hL⟩⟩
        · have c2 : decide (s < n) = false := decide_eq_false hsn
          have HSN := Aside0.mk hsn
          clear hsn
          go_wp2
          go_end0
          exact ⟨rfl, d3, HR3.out, HP3.out, by rw [HN.out]; exact HL3.out.all (by have := HSN.out; omega)⟩
end Go.Proofs.Ythhcgepofldgaaa.PSortS
