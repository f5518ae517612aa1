/- draft -/
import Derived.Test.YthhcgepofldgaaaProg
import Derived.Shelf.SlSortCmp.Insertion
import Derived.Test.YthhcgepofldgaaaWWords
import Derived.Test.YthhcgepofldgaaaWMore
import Derived.Test.YthhcgepofldgaaaKStable
namespace Go.Proofs.Ythhcgepofldgaaa.PSortM
open Go.RowKit Go.Proofs.YthhcgepofldgaaaW.PrintWords Go.Proofs.Ythhcgepofldgaaa.K
set_option maxHeartbeats 4000000
set_option maxRecDepth 100000
/-- The world w0 with the row in block g holding d; it may have drawn. -/
structure AtRow (w0 W : World) (g : Nat) (d : List Int) : Prop where
  os : W.os = w0.os
  tape : W.tape = w0.tape
  output : W.output = w0.output
  size : W.heap.size = w0.heap.size
  block : ∀ k, k ≠ g → W.heap[k]? = w0.heap[k]?
  cells : ∀ c0 c1 : Array Value, w0.heap[g]? = some (.cells c0 3 (0, 0)) → W.heap[g]? = some (.cells c1 3 (0, 0)) → c1.size = c0.size
  row : ∃ cur : Array Value, W.heap[g]? = some (.cells cur 3 (0, 0)) ∧ d.length ≤ cur.size ∧ ∀ j, j < d.length → cur[j]? = some (.int .i64 (d.getD j 0))
theorem AtRow.cell {w0 W : World} {g : Nat} {d : List Int} (h : AtRow w0 W g d) (j : Nat) (hj : j < d.length) : W.cell? ⟨g, j, none⟩ = some (.int .i64 (d.getD j 0)) ∧ W.frozen? ⟨g, j, none⟩ = false := by
  obtain ⟨cur, h1, h2, h3⟩ := h.row
  have h4 := h3 j hj
  exact ⟨by simp only [World.cell?, h1]; exact h4, by simp [World.frozen?, h1]⟩
theorem AtRow.set {w0 W : World} {g : Nat} {d : List Int} (h : AtRow w0 W g d) (j : Nat) (x : Int) : AtRow w0 (W.setCell ⟨g, j, none⟩ (.int .i64 x)) g (d.set j x) := by
  obtain ⟨cur, h1, h2, h3⟩ := h.row
  refine ⟨h.os, h.tape, h.output, by simpa [World.setCell] using h.size, fun k hk => ?_, fun c0 c1 q0 q1 => ?_, cur.setIfInBounds j (.int .i64 x), ?_, by simpa using h2, fun i hi => ?_⟩
  · rw [← h.block k hk]
    simp [World.setCell, Array.getElem?_modify, Ne.symm hk]
  · simp only [World.setCell, Array.getElem?_modify, if_true, h1, Option.map_some] at q1
    have q2 : Obj.cells (cur.setIfInBounds j (.int .i64 x)) 3 (0, 0) = .cells c1 3 (0, 0) := Option.some.inj q1
    injection q2 with q2
    rw [← q2, Array.size_setIfInBounds]
    exact h.cells c0 cur q0 h1
  · simp only [World.setCell, Array.getElem?_modify, if_true, h1, Option.map_some]
    rfl
  · rw [List.length_set] at hi
    have hc := h3 i hi
    have hcs : i < cur.size := (Array.getElem?_eq_some_iff.1 hc).1
    rw [Array.getElem?_setIfInBounds, List.getD_eq_getElem?_getD, List.getElem?_set]
    by_cases e : j = i
    · subst e
      simp [hi, hcs]
    · rw [if_neg e, if_neg e, hc, List.getD_eq_getElem?_getD]
theorem AtRow.drewN {w0 W : World} {g : Nat} {d : List Int} (h : AtRow w0 W g d) (n : Nat) : AtRow w0 (W.drewN n) g d := ⟨h.os, h.tape, h.output, h.size, h.block, h.cells, h.row⟩
theorem AtRow.drew {w0 W : World} {g : Nat} {d : List Int} (h : AtRow w0 W g d) : AtRow w0 W.drew g d := ⟨h.os, h.tape, h.output, h.size, h.block, h.cells, h.row⟩
theorem wI {x : Nat} (h : x < 1000000) : IntKind.i64.wrap (x : Int) = (x : Int) := by rw [IntKind.wrap_i64]; omega
theorem wI_add {a b c : Nat} (h : a + b = c) (hc : c < 1000000) : IntKind.i64.wrap ((a : Int) + (b : Int)) = (c : Int) := by rw [IntKind.wrap_i64]; omega
theorem w64s {i : Nat} (h : i < 1000000) : wrap64 ((i : Int) + 1) = ((i + 1 : Nat) : Int) := by unfold wrap64; omega
theorem swapRange (w0 W : World) (g cap : Nat) (d : List Int) (a b n : Nat) (F : Value) (h : AtRow w0 W g d) (ha : a + n ≤ d.length) (hb : b + n ≤ d.length) (hab : a + n ≤ b) (hlen : d.length < 1000) :
    Calls Try.prog 116 #[.slice (some ⟨g, 0, none⟩) d.length cap, .int .i64 a, .int .i64 b, .int .i64 n, F] W fun e w' => e = .returned (.tuple #[]) ∧ AtRow w0 w' g (swR d a b n) := by
  have H := Aside0.mk h
  have HA := Aside0.mk ha
  have HB := Aside0.mk hb
  have HL := Aside0.mk hlen
  have HAB := Aside0.mk hab
  clear h ha hb hlen hab
  go_enter Try.func116, Try.ntmps116
  go_wp2
  go_loopg [10] n (fun k v10 w' => ∃ i : Nat, v10 = .int .i64 i ∧ Aside0 (i ≤ n ∧ n - i ≤ k) ∧ Aside0 (AtRow w0 w' g (swR d a b i)))
  case atStart => exact ⟨0, rfl, ⟨by omega, by omega⟩, H⟩
  case round =>
    obtain ⟨i, rfl, HI, HR⟩ := hrel
    by_cases hlt : i < n
    · have c1 : decide (i < n) = true := decide_eq_true hlt
      obtain ⟨x, hx⟩ : ∃ x, a + i = x := ⟨_, rfl⟩
      obtain ⟨y, hy⟩ : ∃ y, b + i = y := ⟨_, rfl⟩
      have hxl : x < (swR d a b i).length := by rw [swR_length]; have := HA.out; omega
      have hyl : y < (swR d a b i).length := by rw [swR_length]; have := HB.out; omega
      have hx1 : ((x : Int) < (d.length : Int)) = True := eq_true (by rw [swR_length] at hxl; omega)
      have hy1 : ((y : Int) < (d.length : Int)) = True := eq_true (by rw [swR_length] at hyl; omega)
      have hx2 : (x < d.length) = True := eq_true (by rw [swR_length] at hxl; omega)
      have hy2 : (y < d.length) = True := eq_true (by rw [swR_length] at hyl; omega)
      have w1 := wI_add hx (by have := HL.out; rw [swR_length] at hxl; omega)
      have w2 := wI_add hy (by have := HL.out; rw [swR_length] at hyl; omega)
      obtain ⟨cx, fx⟩ := HR.out.cell x hxl
      obtain ⟨cy, fy⟩ := HR.out.cell y hyl
      obtain ⟨u, hu⟩ : ∃ u, (swR d a b i).getD x 0 = u := ⟨_, rfl⟩
      obtain ⟨v, hv⟩ : ∃ v, (swR d a b i).getD y 0 = v := ⟨_, rfl⟩
      rw [hu] at cx
      rw [hv] at cy
      have n1 : (x = y) = False := eq_false (by have := HAB.out; omega)
      have n2 : (y = x) = False := eq_false (by have := HAB.out; omega)
      have HX := Aside0.mk hx
      have HY := Aside0.mk hy
      have HU := Aside0.mk hu
      have HV := Aside0.mk hv
      have HLT := Aside0.mk hlt
      clear hx hy hu hv hlt hxl hyl
      go_wp2_with fail
      go_big_region
      all_goals go_wp2
      go_roundg (n - (i + 1))
      case measure => have := HI.out; have := HLT.out; omega
      case rel =>
        refine ⟨i + 1, ?_, ⟨by have := HI.out; have := HLT.out; omega⟩, ⟨?_⟩⟩
        · rw [w64s (by have := HLT.out; have := HA.out; have := HL.out; omega)]
        · have q := ((HR.out.set x v).set y u).drew
          rw [swR, HX.out, HY.out, swp, HU.out, HV.out]
          exact q
    · have c1 : decide (i < n) = false := decide_eq_false hlt
      have HI2 := Aside0.mk (show i = n by have := HI.out; omega)
      clear hlt
      go_wp2
      go_end0
      exact ⟨rfl, by have h := HR.out; rw [HI2.out] at h; exact h⟩
theorem w64of {z : Int} {n : Nat} (h : z = (n : Int)) (hn : n < 1000000) : wrap64 z = (n : Int) := by unfold wrap64; omega
/-- What the rotation leaves. -/
def RotPost (w0 : World) (g : Nat) (d : List Int) (a m b : Nat) (e : Ending) (w' : World) : Prop := e = .returned (.tuple #[]) ∧ ∃ d', AtRow w0 w' g d' ∧ Rot d d' a m b ∧ List.Perm d' d
theorem rotate (w0 W : World) (g cap : Nat) (d : List Int) (a m b : Nat) (F : Value) (h : AtRow w0 W g d) (ha : a < m) (hm : m < b) (hb : b ≤ d.length) (hlen : d.length < 1000) :
    Calls Try.prog 114 #[.slice (some ⟨g, 0, none⟩) d.length cap, .int .i64 a, .int .i64 m, .int .i64 b, F] W (RotPost w0 g d a m b) := by
  have H := Aside0.mk h
  have HA := Aside0.mk ha
  have HM := Aside0.mk hm
  have HB := Aside0.mk hb
  have HL := Aside0.mk hlen
  have W1 := Aside0.mk (w64of (z := (m : Int) - (a : Int)) (n := m - a) (by omega) (by omega))
  have W2 := Aside0.mk (w64of (z := (b : Int) - (m : Int)) (n := b - m) (by omega) (by omega))
  clear h ha hm hb hlen
  have hw1 := W1.out
  have hw2 := W2.out
  go_enter Try.func114, Try.ntmps114
  go_wp2
  clear hw1 hw2
  go_loopg [10, 11] (b - a) (fun k v10 v11 w' => ∃ (i j : Nat) (d1 : List Int), v10 = .int .i64 i ∧ v11 = .int .i64 j ∧ Aside0 (0 < i ∧ 0 < j ∧ i ≤ m ∧ m + j ≤ d.length ∧ i + j ≤ k) ∧ Aside0 (d1.length = d.length) ∧ Aside0 (AtRow w0 w' g d1) ∧ Aside0 (∀ k, rotF d1 (m - i) m (m + j) k = rotF d a m b k) ∧ Aside0 (List.Perm d1 d))
  case atStart =>
    have h1 := HA.out
    have h2 := HM.out
    have h3 := HB.out
    exact ⟨m - a, b - m, d, by first | rfl | rw [W1.out], by first | rfl | rw [W2.out], ⟨by omega⟩, ⟨rfl⟩, H, ⟨fun k => by rw [show m - (m - a) = a by omega, show m + (b - m) = b by omega]⟩, ⟨List.Perm.refl _⟩⟩
  case round =>
    obtain ⟨i, j, d1, rfl, rfl, HI, HD, HR, HF, HP⟩ := hrel
    obtain ⟨hi0, hj0, him, hmj, hk⟩ := HI.out
    have hd1 := HD.out
    have hlen := HL.out
    rcases Nat.lt_trichotomy i j with hij | hij | hij
    · have c1 : ((i : Int) != (j : Int)) = true := bne_iff_ne.mpr (by omega)
      have c2 : decide (j < i) = false := decide_eq_false (by omega)
      have c3 : (i != j) = true := bne_iff_ne.mpr (by omega)
      obtain ⟨x, hx⟩ : ∃ x, m - i = x := ⟨_, rfl⟩
      obtain ⟨y, hy⟩ : ∃ y, m + j - i = y := ⟨_, rfl⟩
      have hC := Aside0.mk (swapRange w0 wr g cap d1 x y i F HR.out (by omega) (by omega) (by omega) (by omega))
      rw [hd1] at hC
      have W1 := Aside0.mk (w64of (z := (m : Int) - (i : Int)) (n := x) (by omega) (by omega))
      have W3 := Aside0.mk (w64of (z := (m : Int) + (j : Int) - (i : Int)) (n := y) (by omega) (by omega))
      have W4 := Aside0.mk (w64of (z := (j : Int) - (i : Int)) (n := j - i) (by omega) (by omega))
      have W2 : Aside0 (wrap64 ((m : Int) + (j : Int)) = (m : Int) + (j : Int)) := ⟨by have := w64of (z := (m : Int) + (j : Int)) (n := m + j) (by omega) (by omega); rw [this]; omega⟩
      have HX := Aside0.mk hx
      have HY := Aside0.mk hy
      have HIJ := Aside0.mk hij
      clear hi0 hj0 him hmj hk hd1 hlen hx hy hij
      have w1 := W1.out; have w2 := W2.out; have w3 := W3.out; have w4 := W4.out; go_wp2_with (go_at_call 116; refine hC.out.mono ?_; rintro e w' ⟨rfl, hR⟩; have HR2 := Aside0.mk hR; clear hR)
      clear w1 w2 w3 w4
      have e1 := HI.out
      have e2 := HX.out
      have e5 := HD.out
      have e6 := HL.out
      have e3 := HY.out
      have e4 := HIJ.out
      go_roundg (i + (j - i))
      case measure => omega
      case rel =>
        refine ⟨i, j - i, swR d1 x y i, rfl, by first | rfl | rw [W4.out], ⟨by omega⟩, ⟨by rw [swR_length, e5]⟩, HR2, ⟨fun k => ?_⟩, ⟨(swR_perm d1 x y i (by omega) (by omega)).trans HP.out⟩⟩
        rw [← HF.out k, ← e2, ← e3]
        exact rot_right d1 m i j (by omega) (by omega) e4 k
    · subst hij
      have c1 : ((i : Int) != (i : Int)) = false := by simp
      have c3 : (i != i) = false := by simp
      obtain ⟨x, hx⟩ : ∃ x, m - i = x := ⟨_, rfl⟩
      have hC := Aside0.mk (swapRange w0 wr g cap d1 x m i F HR.out (by omega) (by omega) (by omega) (by omega))
      rw [hd1] at hC
      have W1 := Aside0.mk (w64of (z := (m : Int) - (i : Int)) (n := x) (by omega) (by omega))
      have HX := Aside0.mk hx
      clear hi0 hj0 him hmj hk hd1 hlen hx
      have w1 := W1.out; go_wp2_with (go_at_call 116; refine hC.out.mono ?_; rintro e w' ⟨rfl, hR⟩; have HR2 := Aside0.mk hR; clear hR)
      clear w1
      have e1 := HI.out
      have e2 := HX.out
      have e5 := HD.out
      have e6 := HL.out
      go_end0
      refine ⟨rfl, _, HR2.out, ⟨by rw [swR_length, e5], fun k => ?_⟩, (swR_perm d1 x m i (by omega) (by omega)).trans HP.out⟩
      rw [← HF.out k, ← e2]
      exact rot_end d1 m i (by omega) (by omega) k
    · have c1 : ((i : Int) != (j : Int)) = true := bne_iff_ne.mpr (by omega)
      have c2 : decide (j < i) = true := decide_eq_true (by omega)
      have c3 : (i != j) = true := bne_iff_ne.mpr (by omega)
      obtain ⟨x, hx⟩ : ∃ x, m - i = x := ⟨_, rfl⟩
      have hC := Aside0.mk (swapRange w0 wr g cap d1 x m j F HR.out (by omega) (by omega) (by omega) (by omega))
      rw [hd1] at hC
      have W1 := Aside0.mk (w64of (z := (m : Int) - (i : Int)) (n := x) (by omega) (by omega))
      have W4 := Aside0.mk (w64of (z := (i : Int) - (j : Int)) (n := i - j) (by omega) (by omega))
      have HX := Aside0.mk hx
      have HIJ := Aside0.mk hij
      clear hi0 hj0 him hmj hk hd1 hlen hx hij
      have w1 := W1.out; have w4 := W4.out; go_wp2_with (go_at_call 116; refine hC.out.mono ?_; rintro e w' ⟨rfl, hR⟩; have HR2 := Aside0.mk hR; clear hR)
      clear w1 w4
      have e1 := HI.out
      have e2 := HX.out
      have e5 := HD.out
      have e6 := HL.out
      have e4 := HIJ.out
      go_roundg (i - j + j)
      case measure => omega
      case rel =>
        refine ⟨i - j, j, swR d1 x m j, by first | rfl | rw [W4.out], rfl, ⟨by omega⟩, ⟨by rw [swR_length, e5]⟩, HR2, ⟨fun k => ?_⟩, ⟨(swR_perm d1 x m j (by omega) (by omega)).trans HP.out⟩⟩
        rw [← HF.out k, ← e2]
        exact rot_left d1 m i j (by omega) (by omega) e4 k
/-- What is asked of a comparison (function gc, bound to cb): in every world that is w0 but for the row, at numbers of which V holds, it hands back what cf says; it may draw. -/
structure Cx (w0 : World) (g gc : Nat) (cb : Array Value) (cf : Int → Int → Int) (V : Int → Prop) : Prop where
  eg : ∀ args w, (callFunc gc args).run Try.prog w = .ok (.enter gc args) w
  ask : ∀ (W : World) (d : List Int) (x y : Int), AtRow w0 W g d → V x → V y → Calls Try.prog gc (#[.int .i64 x, .int .i64 y] ++ cb) W fun e w' => e = .returned (.int .i64 (cf x y)) ∧ ∃ q, w' = W.drewN q
  cmp : Cmp cf
theorem Cx.at_ {w0 : World} {g gc : Nat} {cb : Array Value} {cf : Int → Int → Int} {V : Int → Prop} (h : Cx w0 g gc cb cf V) {W : World} {d : List Int} {x y : Int} (hR : AtRow w0 W g d) (hx : V x) (hy : V y) :
    ∀ n, Calls Try.prog gc (#[.int .i64 x, .int .i64 y] ++ cb) (W.drewN n) fun e w' => e = .returned (.int .i64 (cf x y)) ∧ ∃ q, w' = (W.drewN n).drewN q := fun n => h.ask _ d x y (hR.drewN n) hx hy
theorem V_at {d : List Int} {V : Int → Prop} (h : ∀ x ∈ d, V x) {i : Nat} (hi : i < d.length) : V (K.at_ d i) := by
  have : K.at_ d i = d[i] := by simp [K.at_, List.getD_eq_getElem?_getD, hi]
  rw [this]
  exact h _ (List.getElem_mem hi)
theorem AtRow.cell' {w0 W : World} {g : Nat} {d : List Int} (h : AtRow w0 W g d) (j : Nat) (hj : j < d.length) : W.cell? ⟨g, j, none⟩ = some (.int .i64 (K.at_ d j)) := (h.cell j hj).1
/-- What a merge leaves. -/
def MergePost (w0 : World) (g : Nat) (cf : Int → Int → Int) (d : List Int) (a b : Nat) (e : Ending) (w' : World) : Prop := e = .returned (.tuple #[]) ∧ ∃ d', AtRow w0 w' g d' ∧ Moved d d' a b ∧ List.Perm d' d ∧ Inc cf d' a b
theorem i64of {i j : Nat} (h : i + j < 1000000) : wrap64 ((i : Int) + (j : Int)) = (i : Int) + (j : Int) := by unfold wrap64; omega
theorem u64of {i j : Nat} (h : i + j < 1000000) : IntKind.u64.wrap ((i : Int) + (j : Int)) = (i : Int) + (j : Int) := by rw [IntKind.wrap_u64]; omega
theorem half {i j : Nat} : ((i : Int) + (j : Int)) / 2 = (((i + j) / 2 : Nat) : Int) := by omega
theorem mergeA {w0 : World} {g gc : Nat} {cb : Array Value} {cf : Int → Int → Int} {V : Int → Prop} (hX : Cx w0 g gc cb cf V) (W : World) (cap : Nat) (d : List Int) (a b : Nat) (h : AtRow w0 W g d) (hm : a + 1 < b) (hb : b ≤ d.length) (hlen : d.length < 1000)
    (h1 : Inc cf d (a + 1) b) (h2 : Below_ d a (a + 1) b) (hV : ∀ x ∈ d, V x) :
    Calls Try.prog 105 #[.slice (some ⟨g, 0, none⟩) d.length cap, .int .i64 a, .int .i64 ((a + 1 : Nat) : Int), .int .i64 b, .func (.func gc) #[] cb] W (MergePost w0 g cf d a b) := by
  have eg := hX.eg
  have HX := Aside0.mk hX
  have H := Aside0.mk h
  have HM := Aside0.mk hm
  have HB := Aside0.mk hb
  have HL := Aside0.mk hlen
  have HI1 := Aside0.mk h1
  have HB2 := Aside0.mk h2
  have HV := Aside0.mk hV
  obtain ⟨m, hma⟩ : ∃ m, a + 1 = m := ⟨_, rfl⟩
  rw [hma]
  have W1 := Aside0.mk (w64of (z := (m : Int) - (a : Int)) (n := 1) (by omega) (by omega))
  have HMA := Aside0.mk hma
  clear h hm hb hlen h1 h2 hV hX hma
  have w1 := W1.out
  go_enter Try.func105, Try.ntmps105
  go_wp2
  clear w1
  go_loopg [10, 11] (b - m) (fun k v10 v11 w' => ∃ (i j : Nat), v10 = .int .i64 i ∧ v11 = .int .i64 j ∧ Aside0 (m ≤ i ∧ i ≤ j ∧ j ≤ b ∧ j - i ≤ k) ∧ Aside0 (AtRow w0 w' g d) ∧ Aside0 (∀ h, m ≤ h → h < i → cf (K.at_ d h) (K.at_ d a) < 0) ∧ Aside0 (∀ h, j ≤ h → h < b → 0 ≤ cf (K.at_ d h) (K.at_ d a)))
  case atStart =>
    have e1 := HM.out
    have e2 := HMA.out
    exact ⟨m, b, rfl, rfl, ⟨by omega⟩, H, ⟨fun h q1 q2 => by omega⟩, ⟨fun h q1 q2 => by omega⟩⟩
  case round =>
    obtain ⟨i, j, rfl, rfl, HI, HR, HLo, HHi⟩ := hrel
    have e0 := HMA.out
    have e1 := HM.out
    have e2 := HB.out
    have e3 := HL.out
    obtain ⟨e4, e5, e6, e7⟩ := HI.out
    by_cases hij : i < j
    · obtain ⟨h, hh⟩ : ∃ h, (i + j) / 2 = h := ⟨_, rfl⟩
      have c1 : decide (i < j) = true := decide_eq_true hij
      have hhb : ((h : Int) < (d.length : Int)) = True := eq_true (by omega)
      have hab : ((a : Int) < (d.length : Int)) = True := eq_true (by omega)
      have hhn : (h < d.length) = True := eq_true (by omega)
      have han : (a < d.length) = True := eq_true (by omega)
      have ch := HR.out.cell' h (by omega)
      have ca := HR.out.cell' a (by omega)
      have hc := HX.out.at_ HR.out (V_at HV.out (show h < d.length by omega)) (V_at HV.out (show a < d.length by omega))
      obtain ⟨xh, hxh⟩ : ∃ x, K.at_ d h = x := ⟨_, rfl⟩
      obtain ⟨xa, hxa⟩ : ∃ x, K.at_ d a = x := ⟨_, rfl⟩
      rw [hxh] at ch hc
      rw [hxa] at ca hc
      have W2 := Aside0.mk (u64of (i := i) (j := j) (by omega))
      have W3 := Aside0.mk (w64of (z := (h : Int) + 1) (n := h + 1) (by omega) (by omega))
      have W4 := Aside0.mk (w64of (z := ((i : Int) + (j : Int)) / 2) (n := h) (by omega) (by omega))
      have W5 := Aside0.mk (i64of (i := i) (j := j) (by omega))
      have HH := Aside0.mk hh
      have HIJ := Aside0.mk hij
      have HXH := Aside0.mk hxh
      have HXA := Aside0.mk hxa
      clear e0 e1 e2 e3 e4 e5 e6 e7 hh hij hxh hxa
      go_wp2_with fail
      simp only [W5.out, W2.out, W4.out]
      by_cases hlt : cf xh xa < 0
      · have c2 : decide (cf xh xa < 0) = true := decide_eq_true hlt
        have HLT := Aside0.mk hlt
        clear hlt
        go_quiet (first | (go_at_fn gc; refine Calls.quiet_of (hc _)))
        go_wp2
        go_roundg (j - (h + 1))
        case measure => have := HI.out; have := HH.out; have := HIJ.out; omega
        case rel =>
          have e0 := HI.out
          have e1 := HH.out
          have e2 := HIJ.out
          refine ⟨h + 1, j, by first | rfl | rw [W3.out], rfl, ⟨by omega⟩, ⟨HR.out.drewN _⟩, ⟨fun q q1 q2 => ?_⟩, HHi⟩
          by_cases e : q < h
          · refine HX.out.cmp.le_lt (y := K.at_ d h) (HI1.out q h (by have := HMA.out; omega) e (by have := HM.out; omega)).le ?_
            rw [HXH.out, HXA.out]; exact HLT.out
          · obtain rfl : q = h := by omega
            rw [HXH.out, HXA.out]; exact HLT.out
      · have c2 : decide (cf xh xa < 0) = false := decide_eq_false hlt
        have HLT := Aside0.mk (Int.not_lt.mp hlt)
        clear hlt
        go_quiet (first | (go_at_fn gc; refine Calls.quiet_of (hc _)))
        go_wp2
        go_roundg (h - i)
        case measure => have := HI.out; have := HH.out; have := HIJ.out; omega
        case rel =>
          have e0 := HI.out
          have e1 := HH.out
          have e2 := HIJ.out
          refine ⟨i, h, rfl, rfl, ⟨by omega⟩, ⟨HR.out.drewN _⟩, HLo, ⟨fun q q1 q2 => ?_⟩⟩
          by_cases e : h < q
          · refine Int.not_lt.mp fun hcon => ?_
            have := HX.out.cmp.le_lt (HI1.out h q (by have := HMA.out; omega) e q2).le hcon
            rw [HXH.out, HXA.out] at this
            exact absurd this (Int.not_lt.mpr HLT.out)
          · obtain rfl : q = h := by omega
            rw [HXH.out, HXA.out]; exact HLT.out
    · have c1 : decide (i < j) = false := decide_eq_false hij
      have W2 := Aside0.mk (w64of (z := (i : Int) - 1) (n := i - 1) (by omega) (by omega))
      have HIJ := Aside0.mk hij
      clear e0 e1 e2 e3 e4 e5 e6 e7 hij
      go_wp2
      go_loopg [13] b (fun k v13 w' => ∃ (k' : Nat) (d2 : List Int), v13 = .int .i64 k' ∧ Aside0 (a ≤ k' ∧ k' ≤ i - 1 ∧ i - k' ≤ k) ∧ Aside0 (d2.length = d.length) ∧ Aside0 (AtRow w0 w' g d2) ∧ Aside0 (Rot d d2 a (a + 1) (k' + 1)) ∧ Aside0 (List.Perm d2 d))
      case atStart =>
        have e0 := HI.out
        have e1 := HMA.out
        exact ⟨a, d, rfl, ⟨by omega⟩, ⟨rfl⟩, HR, ⟨rot_nil d a (a + 1)⟩, ⟨List.Perm.refl _⟩⟩
      case round =>
        obtain ⟨k, d2, rfl, HK, HD2, HR2, HT, HP⟩ := hrel
        have e0 := HI.out
        have e1 := HMA.out
        have e2 := HB.out
        have e3 := HL.out
        obtain ⟨e4, e5, e6⟩ := HK.out
        have e7 := HD2.out
        by_cases hk : k < i - 1
        · obtain ⟨y, hy⟩ : ∃ y, k + 1 = y := ⟨_, rfl⟩
          have c2 : ((k : Int) < (i : Int) - 1) = True := eq_true (by omega)
          have c3 : decide ((k : Int) < (i : Int) - 1) = true := decide_eq_true (by omega)
          have c4 : decide (k < i - 1) = true := decide_eq_true hk
          have x1 : ((k : Int) < (d.length : Int)) = True := eq_true (by omega)
          have y1 : ((y : Int) < (d.length : Int)) = True := eq_true (by omega)
          have x2 : (k < d.length) = True := eq_true (by omega)
          have y2 : (y < d.length) = True := eq_true (by omega)
          have n1 : (k = y) = False := eq_false (by omega)
          have n2 : (y = k) = False := eq_false (by omega)
          obtain ⟨cx, fx⟩ := HR2.out.cell k (by omega)
          obtain ⟨cy, fy⟩ := HR2.out.cell y (by omega)
          obtain ⟨u, hu⟩ : ∃ u, d2.getD k 0 = u := ⟨_, rfl⟩
          obtain ⟨v, hv⟩ : ∃ v, d2.getD y 0 = v := ⟨_, rfl⟩
          rw [hu] at cx
          rw [hv] at cy
          have W3 := Aside0.mk (w64of (z := (k : Int) + 1) (n := y) (by omega) (by omega))
          have W4 := Aside0.mk (show IntKind.i64.wrap ((k : Int) + 1) = (y : Int) by rw [IntKind.wrap_i64]; omega)
          have HY := Aside0.mk hy
          have HU := Aside0.mk hu
          have HV := Aside0.mk hv
          have HKI := Aside0.mk hk
          clear e0 e1 e2 e3 e4 e5 e6 e7 hy hu hv hk
          have w2 := W2.out
          have w3 := W3.out
          have w4 := W4.out
          go_wp2_with fail
          go_big_region
          all_goals go_wp2
          clear w2 w3 w4
          go_roundg (i - y)
          case measure => have := HK.out; have := HY.out; have := HKI.out; omega
          case rel =>
            have e0 := HI.out
            have e2 := HB.out
            have e4 := HK.out
            have e5 := HKI.out
            have e6 := HY.out
            have e7 := HD2.out
            refine ⟨y, swp d2 k y, by first | rfl | rw [W3.out], ⟨by omega⟩, ⟨by rw [swp_length, e7]⟩, ⟨?_⟩, ⟨?_⟩, ⟨(swp_perm d2 k y (by omega) (by omega)).trans HP.out⟩⟩
            · have q := ((HR2.out.set k v).set y u).drew
              rw [swp, HU.out, HV.out]
              exact q
            · rw [← e6]; exact rot_up HT.out (by omega) (by omega)
        · have c2 : ((k : Int) < (i : Int) - 1) = False := eq_false (by omega)
          have c3 : decide ((k : Int) < (i : Int) - 1) = false := decide_eq_false (by omega)
          have c4 : decide (k < i - 1) = false := decide_eq_false hk
          have HKI := Aside0.mk (show k + 1 = i by omega)
          clear e0 e1 e2 e3 e4 e5 e6 e7 hk
          have w2 := W2.out
          go_wp2
          refine bodyPost_ret (results_none rfl _ _ _) rfl ?_
          have e0 := HI.out
          have e1 := HMA.out
          have hT := HT.out
          rw [HKI.out] at hT
          have hiI : i = j := by have := HIJ.out; omega
          refine ⟨rfl, d2, HR2.out, (hT.moved (by omega) (by omega)).wide (Nat.le_refl _) (by omega), HP.out, ?_⟩
          refine incA HX.out.cmp HI1.out HB2.out hT (by omega) (by omega) (fun h q1 q2 => HLo.out h (by omega) q2) (fun h q1 q2 => Int.not_lt.mpr (HHi.out h (by omega) q2))
theorem mergeB {w0 : World} {g gc : Nat} {cb : Array Value} {cf : Int → Int → Int} {V : Int → Prop} (hX : Cx w0 g gc cb cf V) (W : World) (cap : Nat) (d : List Int) (a m : Nat) (h : AtRow w0 W g d) (hm : a + 1 < m) (hb : m + 1 ≤ d.length) (hlen : d.length < 1000)
    (h1 : Inc cf d a m) (h2 : Below_ d a m (m + 1)) (hV : ∀ x ∈ d, V x) :
    Calls Try.prog 105 #[.slice (some ⟨g, 0, none⟩) d.length cap, .int .i64 a, .int .i64 m, .int .i64 ((m + 1 : Nat) : Int), .func (.func gc) #[] cb] W (MergePost w0 g cf d a (m + 1)) := by
  have eg := hX.eg
  have HX := Aside0.mk hX
  have H := Aside0.mk h
  have HM := Aside0.mk hm
  have HB := Aside0.mk hb
  have HL := Aside0.mk hlen
  have HI1 := Aside0.mk h1
  have HB2 := Aside0.mk h2
  have HV := Aside0.mk hV
  obtain ⟨b, hmb⟩ : ∃ b, m + 1 = b := ⟨_, rfl⟩
  rw [hmb]
  obtain ⟨p, hp⟩ : ∃ p, m - a = p := ⟨_, rfl⟩
  have W1 := Aside0.mk (w64of (z := (m : Int) - (a : Int)) (n := p) (by omega) (by omega))
  have W2 := Aside0.mk (w64of (z := (b : Int) - (m : Int)) (n := 1) (by omega) (by omega))
  have c1 : ((p : Int) == 1) = false := by simp; omega
  have c2 : (p == 1) = false := by simp; omega
  have HMB := Aside0.mk hmb
  clear h hm hb hlen h1 h2 hV hX hmb hp
  have w1 := W1.out
  have w2 := W2.out
  go_enter Try.func105, Try.ntmps105
  go_wp2
  clear w1 w2
  go_loopg [14, 15] (m - a) (fun k v14 v15 w' => ∃ (i j : Nat), v14 = .int .i64 i ∧ v15 = .int .i64 j ∧ Aside0 (a ≤ i ∧ i ≤ j ∧ j ≤ m ∧ j - i ≤ k) ∧ Aside0 (AtRow w0 w' g d) ∧ Aside0 (∀ h, a ≤ h → h < i → 0 ≤ cf (K.at_ d m) (K.at_ d h)) ∧ Aside0 (∀ h, j ≤ h → h < m → cf (K.at_ d m) (K.at_ d h) < 0))
  case atStart =>
    have e1 := HM.out
    exact ⟨a, m, rfl, rfl, ⟨by omega⟩, H, ⟨fun h q1 q2 => by omega⟩, ⟨fun h q1 q2 => by omega⟩⟩
  case round =>
    obtain ⟨i, j, rfl, rfl, HI, HR, HLo, HHi⟩ := hrel
    have e1 := HM.out
    have e2 := HB.out
    have e3 := HL.out
    obtain ⟨e4, e5, e6, e7⟩ := HI.out
    by_cases hij : i < j
    · obtain ⟨h, hh⟩ : ∃ h, (i + j) / 2 = h := ⟨_, rfl⟩
      have c3 : decide (i < j) = true := decide_eq_true hij
      have hhb : ((h : Int) < (d.length : Int)) = True := eq_true (by omega)
      have hab : ((m : Int) < (d.length : Int)) = True := eq_true (by omega)
      have hhn : (h < d.length) = True := eq_true (by omega)
      have han : (m < d.length) = True := eq_true (by omega)
      have ch := HR.out.cell' h (by omega)
      have ca := HR.out.cell' m (by omega)
      have hc := HX.out.at_ HR.out (V_at HV.out (show m < d.length by omega)) (V_at HV.out (show h < d.length by omega))
      obtain ⟨xh, hxh⟩ : ∃ x, K.at_ d h = x := ⟨_, rfl⟩
      obtain ⟨xa, hxa⟩ : ∃ x, K.at_ d m = x := ⟨_, rfl⟩
      rw [hxh] at ch hc
      rw [hxa] at ca hc
      have W2 := Aside0.mk (u64of (i := i) (j := j) (by omega))
      have W3 := Aside0.mk (w64of (z := (h : Int) + 1) (n := h + 1) (by omega) (by omega))
      have W4 := Aside0.mk (w64of (z := ((i : Int) + (j : Int)) / 2) (n := h) (by omega) (by omega))
      have W5 := Aside0.mk (i64of (i := i) (j := j) (by omega))
      have HH := Aside0.mk hh
      have HIJ := Aside0.mk hij
      have HXH := Aside0.mk hxh
      have HXA := Aside0.mk hxa
      clear e1 e2 e3 e4 e5 e6 e7 hh hij hxh hxa
      go_wp2_with fail
      simp only [W5.out, W2.out, W4.out]
      by_cases hlt : cf xa xh < 0
      · have c4 : decide (cf xa xh < 0) = true := decide_eq_true hlt
        have HLT := Aside0.mk hlt
        clear hlt
        go_quiet (first | (go_at_fn gc; refine Calls.quiet_of (hc _)))
        go_wp2
        go_roundg (h - i)
        case measure => have := HI.out; have := HH.out; have := HIJ.out; omega
        case rel =>
          have e0 := HI.out
          have e1 := HH.out
          have e2 := HIJ.out
          refine ⟨i, h, rfl, rfl, ⟨by omega⟩, ⟨HR.out.drewN _⟩, HLo, ⟨fun q q1 q2 => ?_⟩⟩
          by_cases e : h < q
          · have := HX.out.cmp.lt_le (x := K.at_ d m) (by rw [HXH.out, HXA.out]; exact HLT.out : cf (K.at_ d m) (K.at_ d h) < 0) (HI1.out h q (by omega) e q2).le
            exact this
          · obtain rfl : q = h := by omega
            rw [HXH.out, HXA.out]; exact HLT.out
      · have c4 : decide (cf xa xh < 0) = false := decide_eq_false hlt
        have HLT := Aside0.mk (Int.not_lt.mp hlt)
        clear hlt
        go_quiet (first | (go_at_fn gc; refine Calls.quiet_of (hc _)))
        go_wp2
        go_roundg (j - (h + 1))
        case measure => have := HI.out; have := HH.out; have := HIJ.out; omega
        case rel =>
          have e0 := HI.out
          have e1 := HH.out
          have e2 := HIJ.out
          refine ⟨h + 1, j, by first | rfl | rw [W3.out], rfl, ⟨by omega⟩, ⟨HR.out.drewN _⟩, ⟨fun q q1 q2 => ?_⟩, HHi⟩
          by_cases e : q < h
          · refine Int.not_lt.mp fun hcon => ?_
            have := HX.out.cmp.lt_le hcon (HI1.out q h (by omega) e (by omega)).le
            rw [HXH.out, HXA.out] at this
            exact absurd this (Int.not_lt.mpr HLT.out)
          · obtain rfl : q = h := by omega
            rw [HXH.out, HXA.out]; exact HLT.out
    · have c3 : decide (i < j) = false := decide_eq_false hij
      have HIJ := Aside0.mk hij
      clear e1 e2 e3 e4 e5 e6 e7 hij
      go_wp2
      go_loopg [17] b (fun k v17 w' => ∃ (k' : Nat) (d2 : List Int), v17 = .int .i64 k' ∧ Aside0 (i ≤ k' ∧ k' ≤ m ∧ k' ≤ k) ∧ Aside0 (d2.length = d.length) ∧ Aside0 (AtRow w0 w' g d2) ∧ Aside0 (Rot d d2 k' m (m + 1)) ∧ Aside0 (List.Perm d2 d))
      case atStart =>
        have e0 := HI.out
        have e1 := HMB.out
        exact ⟨m, d, rfl, ⟨by omega⟩, ⟨rfl⟩, HR, ⟨rot_nil' d m (m + 1)⟩, ⟨List.Perm.refl _⟩⟩
      case round =>
        obtain ⟨x, d2, rfl, HK, HD2, HR2, HT, HP⟩ := hrel
        have e0 := HI.out
        have e2 := HB.out
        have e3 := HL.out
        obtain ⟨e4, e5, e6⟩ := HK.out
        have e7 := HD2.out
        by_cases hk : i < x
        · obtain ⟨y, hy⟩ : ∃ y, x - 1 = y := ⟨_, rfl⟩
          have c4 : decide (i < x) = true := decide_eq_true hk
          have x1 : ((x : Int) < (d.length : Int)) = True := eq_true (by omega)
          have y1 : ((y : Int) < (d.length : Int)) = True := eq_true (by omega)
          have x2 : (x < d.length) = True := eq_true (by omega)
          have y2 : (y < d.length) = True := eq_true (by omega)
          have n1 : (x = y) = False := eq_false (by omega)
          have n2 : (y = x) = False := eq_false (by omega)
          obtain ⟨cx, fx⟩ := HR2.out.cell x (by omega)
          obtain ⟨cy, fy⟩ := HR2.out.cell y (by omega)
          obtain ⟨u, hu⟩ : ∃ u, d2.getD x 0 = u := ⟨_, rfl⟩
          obtain ⟨v, hv⟩ : ∃ v, d2.getD y 0 = v := ⟨_, rfl⟩
          rw [hu] at cx
          rw [hv] at cy
          have W3 := Aside0.mk (w64of (z := (x : Int) - 1) (n := y) (by omega) (by omega))
          have W4 := Aside0.mk (show IntKind.i64.wrap ((x : Int) - 1) = (y : Int) by rw [IntKind.wrap_i64]; omega)
          have HY := Aside0.mk hy
          have HU := Aside0.mk hu
          have HV := Aside0.mk hv
          have HKI := Aside0.mk hk
          clear e0 e2 e3 e4 e5 e6 e7 hy hu hv hk
          have w3 := W3.out
          have w4 := W4.out
          go_wp2_with fail
          go_big_region
          all_goals go_wp2
          clear w3 w4
          go_roundg y
          case measure => have := HK.out; have := HY.out; have := HKI.out; omega
          case rel =>
            have e0 := HI.out
            have e2 := HB.out
            have e4 := HK.out
            have e5 := HKI.out
            have e6 := HY.out
            have e7 := HD2.out
            refine ⟨y, swp d2 x y, by first | rfl | rw [W3.out], ⟨by omega⟩, ⟨by rw [swp_length, e7]⟩, ⟨?_⟩, ⟨?_⟩, ⟨(swp_perm d2 x y (by omega) (by omega)).trans HP.out⟩⟩
            · have q := ((HR2.out.set x v).set y u).drew
              rw [swp, HU.out, HV.out]
              exact q
            · obtain rfl : x = y + 1 := by omega
              exact rot_down HT.out (by omega) (by omega)
        · have c4 : decide (i < x) = false := decide_eq_false hk
          have HKI := Aside0.mk (show x = i by omega)
          clear e0 e2 e3 e4 e5 e6 e7 hk
          go_wp2
          refine bodyPost_ret (results_none rfl _ _ _) rfl ?_
          have e0 := HI.out
          have e1 := HMB.out
          have hT := HT.out
          rw [HKI.out] at hT
          have hiI : i = j := by have := HIJ.out; omega
          refine ⟨rfl, d2, HR2.out, (hT.moved (by omega) (by omega)).wide (by omega) (by omega), HP.out, ?_⟩
          rw [← e1]
          exact incB HX.out.cmp HI1.out HB2.out hT (by omega) (by omega) (fun h q1 q2 => Int.not_lt.mpr (HLo.out h (by omega) q2)) (fun h q1 q2 => HHi.out h (by omega) q2)
theorem rot_eq {d : List Int} {r m e : Nat} (h : r = m) : Rot d d r m e := by subst h; exact rot_nil' d r e
theorem rot_eq2 {d : List Int} {r m e : Nat} (h : e = m) : Rot d d r m e := by subst h; exact rot_nil d r e
theorem symMerge {w0 : World} {g gc : Nat} {cb : Array Value} {cf : Int → Int → Int} {V : Int → Prop} (hX : Cx w0 g gc cb cf V) (cap : Nat) : ∀ (n : Nat) (W : World) (d : List Int) (a m b : Nat), b - a ≤ n → AtRow w0 W g d → a < m → m < b → b ≤ d.length → d.length < 1000 →
    Inc cf d a m → Inc cf d m b → Below_ d a m b → (∀ x ∈ d, V x) →
    Calls Try.prog 105 #[.slice (some ⟨g, 0, none⟩) d.length cap, .int .i64 a, .int .i64 m, .int .i64 b, .func (.func gc) #[] cb] W (MergePost w0 g cf d a b) := by
  intro n
  induction n with
  | zero => intro W d a m b hn _ h1 h2; omega
  | succ n ih =>
  intro W d a m b hn h ham hmb hb hlen hi1 hi2 hbl hV
  by_cases q1 : m = a + 1
  · subst q1
    exact mergeA hX W cap d a b h hmb hb hlen hi2 hbl hV
  by_cases q2 : b = m + 1
  · subst q2
    exact mergeB hX W cap d a m h (by omega) hb hlen hi1 hbl hV
  have eg := hX.eg
  have HX := Aside0.mk hX
  have H := Aside0.mk h
  have HL := Aside0.mk hlen
  have HI1 := Aside0.mk hi1
  have HI2 := Aside0.mk hi2
  have HBL := Aside0.mk hbl
  have HV := Aside0.mk hV
  have IH := Aside0.mk ih
  obtain ⟨mid, hmid⟩ : ∃ mid, (a + b) / 2 = mid := ⟨_, rfl⟩
  obtain ⟨nn, hnn⟩ : ∃ nn, mid + m = nn := ⟨_, rfl⟩
  obtain ⟨p, hp⟩ : ∃ p, nn - 1 = p := ⟨_, rfl⟩
  obtain ⟨p0, hp0⟩ : ∃ p0, m - a = p0 := ⟨_, rfl⟩
  obtain ⟨q0, hq0⟩ : ∃ q0, b - m = q0 := ⟨_, rfl⟩
  obtain ⟨lo, hlo⟩ : ∃ lo, lo = if (a + b) / 2 < m then (a + b) / 2 + m - b else a := ⟨_, rfl⟩
  obtain ⟨r0, hr0⟩ : ∃ r0, r0 = if (a + b) / 2 < m then (a + b) / 2 else m := ⟨_, rfl⟩
  have c1 : ((p0 : Int) == 1) = false := by simp; omega
  have c2 : (p0 == 1) = false := by simp; omega
  have c3 : ((q0 : Int) == 1) = false := by simp; omega
  have c4 : (q0 == 1) = false := by simp; omega
  have W1 := Aside0.mk (w64of (z := (m : Int) - (a : Int)) (n := p0) (by omega) (by omega))
  have W2 := Aside0.mk (w64of (z := (b : Int) - (m : Int)) (n := q0) (by omega) (by omega))
  have W3 := Aside0.mk (u64of (i := a) (j := b) (by omega))
  have W4 := Aside0.mk (w64of (z := ((a : Int) + (b : Int)) / 2) (n := mid) (by omega) (by omega))
  have W5 := Aside0.mk (i64of (i := a) (j := b) (by omega))
  have W6 := Aside0.mk (w64of (z := (mid : Int) + (m : Int)) (n := nn) (by omega) (by omega))
  have W7 := Aside0.mk (w64of (z := (nn : Int) - 1) (n := p) (by omega) (by omega))
  have HQ : Aside0 (a ≤ lo ∧ lo ≤ r0 ∧ r0 ≤ m ∧ mid + m ≤ lo + b ∧ r0 ≤ mid ∧ mid < b ∧ a < mid) := ⟨by rw [hlo, hr0]; split <;> omega⟩
  have HE : Aside0 ((a + b) / 2 = mid ∧ mid + m = nn ∧ nn - 1 = p ∧ a + 1 < m ∧ m + 1 < b ∧ b ≤ d.length ∧ d.length < 1000 ∧ b - a ≤ n + 1) := ⟨by omega⟩
  have HLO := Aside0.mk hlo
  have HR0 := Aside0.mk hr0
  by_cases cm : mid < m
  case pos =>
    have SL : Aside0 (Value.int .i64 (wrap64 ((nn : Int) - (b : Int))) = Value.int .i64 (lo : Int)) := ⟨congrArg (Value.int .i64) (w64of (by rw [hlo]; split <;> omega) (by rw [hlo]; split <;> omega))⟩
    have SR : Aside0 (Value.int .i64 (mid : Int) = Value.int .i64 (r0 : Int)) := ⟨by rw [hr0, if_pos (by omega), hmid]⟩
    have c5 : decide (mid < m) = true := decide_eq_true cm
    clear hn h ham hmb hb hlen hi1 hi2 hbl hV q1 q2 hX hmid hnn hp hp0 hq0 hlo hr0 ih cm
    have w1 := W1.out
    have w2 := W2.out
    go_enter Try.func105, Try.ntmps105
    go_upto_region 25 with (fail)
    simp only [W5.out, W3.out, W4.out]
    clear w1 w2
    go_upto_region 27 with (fail)
    simp only [W6.out]
    go_upto_region 33 with (fail)
    simp only [W7.out, SL.out]
    go_loopg [20, 21] (r0 - lo) (fun k v20 v21 w' => ∃ (s r : Nat), v20 = .int .i64 s ∧ v21 = .int .i64 r ∧ Aside0 (lo ≤ s ∧ s ≤ r ∧ r ≤ r0 ∧ r - s ≤ k) ∧ Aside0 (AtRow w0 w' g d) ∧ Aside0 (∀ c, lo ≤ c → c < s → 0 ≤ cf (K.at_ d (p - c)) (K.at_ d c)) ∧ Aside0 (∀ c, r ≤ c → c < r0 → cf (K.at_ d (p - c)) (K.at_ d c) < 0))
    case atStart =>
      have e1 := HQ.out
      exact ⟨lo, r0, by first | rfl | exact SL.out, by first | rfl | exact SR.out, ⟨by omega⟩, H, ⟨fun c x1 x2 => by omega⟩, ⟨fun c x1 x2 => by omega⟩⟩
    case round =>
      obtain ⟨s, r, rfl, rfl, HI, HR, HLo, HHi⟩ := hrel
      have e1 := HQ.out
      have e2 := HE.out
      obtain ⟨e4, e5, e6, e7⟩ := HI.out
      by_cases hsr : s < r
      · obtain ⟨c, hcc⟩ : ∃ c, (s + r) / 2 = c := ⟨_, rfl⟩
        obtain ⟨y, hy⟩ : ∃ y, p - c = y := ⟨_, rfl⟩
        have c6 : decide (s < r) = true := decide_eq_true hsr
        have x1 : ((c : Int) < (d.length : Int)) = True := eq_true (by omega)
        have y1 : ((y : Int) < (d.length : Int)) = True := eq_true (by omega)
        have x2 : (c < d.length) = True := eq_true (by omega)
        have y2 : (y < d.length) = True := eq_true (by omega)
        have ch := HR.out.cell' y (by omega)
        have ca := HR.out.cell' c (by omega)
        have hc := HX.out.at_ HR.out (V_at HV.out (show y < d.length by omega)) (V_at HV.out (show c < d.length by omega))
        obtain ⟨xh, hxh⟩ : ∃ x, K.at_ d y = x := ⟨_, rfl⟩
        obtain ⟨xa, hxa⟩ : ∃ x, K.at_ d c = x := ⟨_, rfl⟩
        rw [hxh] at ch hc
        rw [hxa] at ca hc
        have V2 := Aside0.mk (u64of (i := s) (j := r) (by omega))
        have V3 := Aside0.mk (w64of (z := (c : Int) + 1) (n := c + 1) (by omega) (by omega))
        have V4 := Aside0.mk (w64of (z := ((s : Int) + (r : Int)) / 2) (n := c) (by omega) (by omega))
        have V5 := Aside0.mk (i64of (i := s) (j := r) (by omega))
        have V6 := Aside0.mk (w64of (z := (p : Int) - (c : Int)) (n := y) (by omega) (by omega))
        have V7 := Aside0.mk (show IntKind.i64.wrap ((p : Int) - (c : Int)) = (y : Int) from (by rw [IntKind.wrap_i64]; omega))
        have HH := Aside0.mk hcc
        have HY := Aside0.mk hy
        have HSR := Aside0.mk hsr
        have HXH := Aside0.mk hxh
        have HXA := Aside0.mk hxa
        clear e1 e2 e4 e5 e6 e7 hcc hy hsr hxh hxa
        go_wp2_with fail
        simp only [V5.out, V2.out, V4.out]
        have v6 := V6.out
        have v7 := V7.out
        by_cases hlt : cf xh xa < 0
        · have c7 : decide (cf xh xa < 0) = true := decide_eq_true hlt
          have HLT := Aside0.mk hlt
          clear hlt
          go_quiet (first | (go_at_fn gc; refine Calls.quiet_of (hc _)))
          go_wp2
          clear v6 v7
          go_roundg (c - s)
          case measure => have := HI.out; have := HH.out; have := HSR.out; omega
          case rel =>
            have e0 := HI.out
            have e1 := HH.out
            have e2 := HSR.out
            have e3 := HQ.out
            have e4 := HE.out
            have e5 := HY.out
            refine ⟨s, c, rfl, rfl, ⟨by omega⟩, ⟨HR.out.drewN _⟩, HLo, ⟨fun q x1 x2 => ?_⟩⟩
            by_cases e : c < q
            · have k1 : cf (K.at_ d y) (K.at_ d c) < 0 := by rw [HXH.out, HXA.out]; exact HLT.out
              have k2 := HI2.out (p - q) y (by omega) (by omega) (by omega)
              have k3 := HI1.out c q (by omega) e (by omega)
              exact HX.out.cmp.lt_le (HX.out.cmp.le_lt k2.le k1) k3.le
            · obtain rfl : q = c := by omega
              rw [e5, HXH.out, HXA.out]; exact HLT.out
        · have c7 : decide (cf xh xa < 0) = false := decide_eq_false hlt
          have HLT := Aside0.mk (Int.not_lt.mp hlt)
          clear hlt
          go_quiet (first | (go_at_fn gc; refine Calls.quiet_of (hc _)))
          go_wp2
          clear v6 v7
          go_roundg (r - (c + 1))
          case measure => have := HI.out; have := HH.out; have := HSR.out; omega
          case rel =>
            have e0 := HI.out
            have e1 := HH.out
            have e2 := HSR.out
            have e3 := HQ.out
            have e4 := HE.out
            have e5 := HY.out
            refine ⟨c + 1, r, by first | rfl | rw [V3.out], rfl, ⟨by omega⟩, ⟨HR.out.drewN _⟩, ⟨fun q x1 x2 => ?_⟩, HHi⟩
            by_cases e : q < c
            · refine Int.not_lt.mp fun hcon => ?_
              have k2 := HI2.out y (p - q) (by omega) (by omega) (by omega)
              have k3 := HI1.out q c (by omega) e (by omega)
              have := HX.out.cmp.lt_le (HX.out.cmp.le_lt k2.le hcon) k3.le
              rw [HXH.out, HXA.out] at this
              exact absurd this (Int.not_lt.mpr HLT.out)
            · obtain rfl : q = c := by omega
              rw [e5, HXH.out, HXA.out]; exact HLT.out
      · obtain rfl : r = s := by omega
        obtain ⟨e, he⟩ : ∃ e, nn - r = e := ⟨_, rfl⟩
        have c6 : decide (r < r) = false := decide_eq_false (Nat.lt_irrefl _)
        have V1 := Aside0.mk (w64of (z := (nn : Int) - (r : Int)) (n := e) (by omega) (by omega))
        have SP : ∀ d', Rot d d' r m e → a ≤ r ∧ r ≤ m ∧ r ≤ mid ∧ m ≤ e ∧ e ≤ b ∧ Split cf d' a r mid e b := fun d' hR => by
          have hm := HE.out.1
          have he2 : (a + b) / 2 + m - r = e := by omega
          have hp2 : (a + b) / 2 + m - 1 = p := by omega
          have := splitC HX.out.cmp (show a < m by omega) (show m < b by omega) HI1.out HI2.out HBL.out HLO.out HR0.out e4 e6 (fun c x1 x2 => by rw [hp2]; exact Int.not_lt.mpr (HLo.out c x1 x2)) (fun c x1 x2 => by rw [hp2]; exact HHi.out c x1 x2) (by rw [he2]; exact hR)
          rw [he2, hm] at this
          exact this
        have HSP := Aside0.mk SP
        have HEN := Aside0.mk he
        clear SP he e1 e2 e4 e5 e6 e7 hsr
        have g1 := HQ.out
        have g2 := HE.out
        have g3 := HI.out
        have g4 := HEN.out
        have g5 : r ≤ m ∧ r ≤ mid ∧ a ≤ r ∧ m ≤ e ∧ e ≤ b ∧ e = mid + m - r := by omega
        have M1 : Aside0 (a < r → r < mid → ∀ (w1 : World) (d1 : List Int), AtRow w0 w1 g d1 → Rot d d1 r m e → List.Perm d1 d → Calls Try.prog 105 #[.slice (some ⟨g, 0, none⟩) d.length cap, .int .i64 a, .int .i64 r, .int .i64 mid, .func (.func gc) #[] cb] w1 (MergePost w0 g cf d1 a mid)) := ⟨fun y1 y2 w1 d1 x1 x2 x3 => by
          have S := (HSP.out d1 x2).2.2.2.2.2
          have hl := x2.len
          have := IH.out w1 d1 a r mid (by omega) x1 y1 y2 (by omega) (by omega) S.i1 S.i2 S.b1 (fun x hx => HV.out x (x3.mem_iff.mp hx))
          rw [hl] at this
          exact this⟩
        have M2 : Aside0 (r < m → e < b → ∀ (w1 : World) (d1 d2 : List Int), AtRow w0 w1 g d2 → Rot d d1 r m e → Moved d1 d2 a mid → List.Perm d2 d → Calls Try.prog 105 #[.slice (some ⟨g, 0, none⟩) d.length cap, .int .i64 mid, .int .i64 e, .int .i64 b, .func (.func gc) #[] cb] w1 (MergePost w0 g cf d2 mid b)) := ⟨fun y1 y2 w1 d1 d2 x1 x2 x3 x4 => by
          have S := (HSP.out d1 x2).2.2.2.2.2.after x3 (by omega)
          have hl := x3.len.trans x2.len
          have := IH.out w1 d2 mid e b (by omega) x1 (by omega) y2 (by omega) (by omega) S.1 S.2.1 S.2.2 (fun x hx => HV.out x (x4.mem_iff.mp hx))
          rw [hl] at this
          exact this⟩
        have FIN : Aside0 (∀ (d1 d2 d3 : List Int), Rot d d1 r m e → Moved d1 d2 a mid → Inc cf d2 a mid → Moved d2 d3 mid b → Inc cf d3 mid b → Moved d d3 a b ∧ Inc cf d3 a b) := ⟨fun d1 d2 d3 x1 x2 x3 x4 x5 => finC (by omega) (by omega) (by omega) (by omega) (by omega) (by omega) x1 (HSP.out d1 x1).2.2.2.2.2 x2 x3 x4 x5⟩
        have N1 : Aside0 (¬ (a < r ∧ r < mid) → ∀ (d1 : List Int), Rot d d1 r m e → Inc cf d1 a mid) := ⟨fun y d1 x1 => by
          have S := (HSP.out d1 x1).2.2.2.2.2
          by_cases z : a < r
          · have : r = mid := by omega
            rw [← this]; exact S.i1
          · have : a = r := by omega
            rw [this]; exact S.i2⟩
        have N2 : Aside0 (¬ (r < m ∧ e < b) → ∀ (d1 d2 : List Int), Rot d d1 r m e → Moved d1 d2 a mid → Inc cf d2 mid b) := ⟨fun y d1 d2 x1 x2 => by
          have S := (HSP.out d1 x1).2.2.2.2.2.after x2 (by omega)
          by_cases z : r < m
          · have : e = b := by omega
            rw [← this]; exact S.1
          · have : mid = e := by omega
            rw [this]; exact S.2.1⟩
        by_cases hA : r < m
        · by_cases hB : r < mid
          · by_cases hC : a < r
            · by_cases hD : e < b
              · have k1 : decide (r < m) = true := decide_eq_true hA
                have k2 : decide (m < e) = true := decide_eq_true (by omega)
                have k3 : decide (a < r) = true := decide_eq_true hC
                have k4 : decide (r < mid) = true := decide_eq_true hB
                have k5 : decide (mid < e) = true := decide_eq_true (by omega)
                have k6 : decide (e < b) = true := decide_eq_true hD
                have hRot := Aside0.mk (rotate w0 wr g cap d r m e (.func (.func gc) #[] cb) HR.out hA (by omega) (by omega) (by omega))
                have hM1 := Aside0.mk (M1.out hC hB)
                have hM2 := Aside0.mk (M2.out hA hD)
                clear hA hB hC hD g1 g2 g3 g4 g5
                have v1 := V1.out
                go_wp2_with fail
                refine hRot.out.mono ?_
                rintro e_ w1 ⟨rfl, d1, hR1, hT1, hP1⟩
                have HR1 := Aside0.mk hR1
                have HT1 := Aside0.mk hT1
                have HP1 := Aside0.mk hP1
                clear hR1 hT1 hP1
                go_wp2_with fail
                refine (hM1.out _ d1 HR1.out HT1.out HP1.out).mono ?_
                rintro e_ w2 ⟨rfl, d2, hR2, hV2, hP2, hI2⟩
                have HR2 := Aside0.mk hR2
                have HV2 := Aside0.mk hV2
                have HP2 := Aside0.mk (hP2.trans HP1.out)
                have HJ2 := Aside0.mk hI2
                clear hR2 hV2 hP2 hI2
                go_wp2_with fail
                refine (hM2.out _ d1 d2 HR2.out HT1.out HV2.out HP2.out).mono ?_
                rintro e_ w3 ⟨rfl, d3, hR3, hV3, hP3, hI3⟩
                have HR3 := Aside0.mk hR3
                have HV3 := Aside0.mk hV3
                have HP3 := Aside0.mk (hP3.trans HP2.out)
                have HJ3 := Aside0.mk hI3
                clear hR3 hV3 hP3 hI3
                go_wp2
                clear v1
                go_end0
                have hF := FIN.out d1 d2 d3 HT1.out HV2.out HJ2.out HV3.out HJ3.out
                exact ⟨rfl, d3, HR3.out, hF.1, HP3.out, hF.2⟩
              · have k1 : decide (r < m) = true := decide_eq_true hA
                have k2 : decide (m < e) = true := decide_eq_true (by omega)
                have k3 : decide (a < r) = true := decide_eq_true hC
                have k4 : decide (r < mid) = true := decide_eq_true hB
                have k5 : decide (mid < e) = true := decide_eq_true (by omega)
                have k6 : decide (e < b) = false := decide_eq_false hD
                have hRot := Aside0.mk (rotate w0 wr g cap d r m e (.func (.func gc) #[] cb) HR.out hA (by omega) (by omega) (by omega))
                have hM1 := Aside0.mk (M1.out hC hB)
                have hN2 := Aside0.mk (N2.out (by omega))
                clear hA hB hC hD g1 g2 g3 g4 g5
                have v1 := V1.out
                go_wp2_with fail
                refine hRot.out.mono ?_
                rintro e_ w1 ⟨rfl, d1, hR1, hT1, hP1⟩
                have HR1 := Aside0.mk hR1
                have HT1 := Aside0.mk hT1
                have HP1 := Aside0.mk hP1
                clear hR1 hT1 hP1
                go_wp2_with fail
                refine (hM1.out _ d1 HR1.out HT1.out HP1.out).mono ?_
                rintro e_ w2 ⟨rfl, d2, hR2, hV2, hP2, hI2⟩
                have HR2 := Aside0.mk hR2
                have HV2 := Aside0.mk hV2
                have HP2 := Aside0.mk (hP2.trans HP1.out)
                have HJ2 := Aside0.mk hI2
                clear hR2 hV2 hP2 hI2
                go_wp2
                clear v1
                go_end0
                have hF := FIN.out d1 d2 d2 HT1.out HV2.out HJ2.out (Moved.refl _ _ _) (hN2.out d1 d2 HT1.out HV2.out)
                exact ⟨rfl, d2, HR2.out, hF.1, HP2.out, hF.2⟩
            · by_cases hD : e < b
              · have k1 : decide (r < m) = true := decide_eq_true hA
                have k2 : decide (m < e) = true := decide_eq_true (by omega)
                have k3 : decide (a < r) = false := decide_eq_false hC
                have k4 : decide (r < mid) = true := decide_eq_true hB
                have k5 : decide (mid < e) = true := decide_eq_true (by omega)
                have k6 : decide (e < b) = true := decide_eq_true hD
                have hRot := Aside0.mk (rotate w0 wr g cap d r m e (.func (.func gc) #[] cb) HR.out hA (by omega) (by omega) (by omega))
                have hN1 := Aside0.mk (N1.out (by omega))
                have hM2 := Aside0.mk (M2.out hA hD)
                clear hA hB hC hD g1 g2 g3 g4 g5
                have v1 := V1.out
                go_wp2_with fail
                refine hRot.out.mono ?_
                rintro e_ w1 ⟨rfl, d1, hR1, hT1, hP1⟩
                have HR1 := Aside0.mk hR1
                have HT1 := Aside0.mk hT1
                have HP1 := Aside0.mk hP1
                clear hR1 hT1 hP1
                go_wp2_with fail
                refine (hM2.out _ d1 d1 HR1.out HT1.out (Moved.refl _ _ _) HP1.out).mono ?_
                rintro e_ w3 ⟨rfl, d3, hR3, hV3, hP3, hI3⟩
                have HR3 := Aside0.mk hR3
                have HV3 := Aside0.mk hV3
                have HP3 := Aside0.mk (hP3.trans HP1.out)
                have HJ3 := Aside0.mk hI3
                clear hR3 hV3 hP3 hI3
                go_wp2
                clear v1
                go_end0
                have hF := FIN.out d1 d1 d3 HT1.out (Moved.refl _ _ _) (hN1.out d1 HT1.out) HV3.out HJ3.out
                exact ⟨rfl, d3, HR3.out, hF.1, HP3.out, hF.2⟩
              · have k1 : decide (r < m) = true := decide_eq_true hA
                have k2 : decide (m < e) = true := decide_eq_true (by omega)
                have k3 : decide (a < r) = false := decide_eq_false hC
                have k4 : decide (r < mid) = true := decide_eq_true hB
                have k5 : decide (mid < e) = true := decide_eq_true (by omega)
                have k6 : decide (e < b) = false := decide_eq_false hD
                have hRot := Aside0.mk (rotate w0 wr g cap d r m e (.func (.func gc) #[] cb) HR.out hA (by omega) (by omega) (by omega))
                have hN1 := Aside0.mk (N1.out (by omega))
                have hN2 := Aside0.mk (N2.out (by omega))
                clear hA hB hC hD g1 g2 g3 g4 g5
                have v1 := V1.out
                go_wp2_with fail
                refine hRot.out.mono ?_
                rintro e_ w1 ⟨rfl, d1, hR1, hT1, hP1⟩
                have HR1 := Aside0.mk hR1
                have HT1 := Aside0.mk hT1
                have HP1 := Aside0.mk hP1
                clear hR1 hT1 hP1
                go_wp2
                clear v1
                go_end0
                have hF := FIN.out d1 d1 d1 HT1.out (Moved.refl _ _ _) (hN1.out d1 HT1.out) (Moved.refl _ _ _) (hN2.out d1 d1 HT1.out (Moved.refl _ _ _))
                exact ⟨rfl, d1, HR1.out, hF.1, HP1.out, hF.2⟩
          · by_cases hC : a < r
            · by_cases hD : e < b
              · have k1 : decide (r < m) = true := decide_eq_true hA
                have k2 : decide (m < e) = false := decide_eq_false (by omega)
                have k3 : decide (a < r) = true := decide_eq_true hC
                have k4 : decide (r < mid) = false := decide_eq_false hB
                have k5 : decide (mid < e) = true := decide_eq_true (by omega)
                have k6 : decide (e < b) = true := decide_eq_true hD
                have HT1 : Aside0 (Rot d d r m e) := ⟨rot_eq2 (by omega)⟩
                have hN1 := Aside0.mk (N1.out (by omega))
                have hM2 := Aside0.mk (M2.out hA hD)
                clear hA hB hC hD g1 g2 g3 g4 g5
                have v1 := V1.out
                go_wp2_with fail
                refine (hM2.out _ d d HR.out HT1.out (Moved.refl _ _ _) (List.Perm.refl _)).mono ?_
                rintro e_ w3 ⟨rfl, d3, hR3, hV3, hP3, hI3⟩
                have HR3 := Aside0.mk hR3
                have HV3 := Aside0.mk hV3
                have HP3 := Aside0.mk (hP3.trans (List.Perm.refl _))
                have HJ3 := Aside0.mk hI3
                clear hR3 hV3 hP3 hI3
                go_wp2
                clear v1
                go_end0
                have hF := FIN.out d d d3 HT1.out (Moved.refl _ _ _) (hN1.out d HT1.out) HV3.out HJ3.out
                exact ⟨rfl, d3, HR3.out, hF.1, HP3.out, hF.2⟩
              · have k1 : decide (r < m) = true := decide_eq_true hA
                have k2 : decide (m < e) = false := decide_eq_false (by omega)
                have k3 : decide (a < r) = true := decide_eq_true hC
                have k4 : decide (r < mid) = false := decide_eq_false hB
                have k5 : decide (mid < e) = true := decide_eq_true (by omega)
                have k6 : decide (e < b) = false := decide_eq_false hD
                have HT1 : Aside0 (Rot d d r m e) := ⟨rot_eq2 (by omega)⟩
                have hN1 := Aside0.mk (N1.out (by omega))
                have hN2 := Aside0.mk (N2.out (by omega))
                clear hA hB hC hD g1 g2 g3 g4 g5
                have v1 := V1.out
                go_wp2
                clear v1
                go_end0
                have hF := FIN.out d d d HT1.out (Moved.refl _ _ _) (hN1.out d HT1.out) (Moved.refl _ _ _) (hN2.out d d HT1.out (Moved.refl _ _ _))
                exact ⟨rfl, d, HR.out, hF.1, (List.Perm.refl _), hF.2⟩
            · by_cases hD : e < b
              · have k1 : decide (r < m) = true := decide_eq_true hA
                have k2 : decide (m < e) = false := decide_eq_false (by omega)
                have k3 : decide (a < r) = false := decide_eq_false hC
                have k4 : decide (r < mid) = false := decide_eq_false hB
                have k5 : decide (mid < e) = true := decide_eq_true (by omega)
                have k6 : decide (e < b) = true := decide_eq_true hD
                have HT1 : Aside0 (Rot d d r m e) := ⟨rot_eq2 (by omega)⟩
                have hN1 := Aside0.mk (N1.out (by omega))
                have hM2 := Aside0.mk (M2.out hA hD)
                clear hA hB hC hD g1 g2 g3 g4 g5
                have v1 := V1.out
                go_wp2_with fail
                refine (hM2.out _ d d HR.out HT1.out (Moved.refl _ _ _) (List.Perm.refl _)).mono ?_
                rintro e_ w3 ⟨rfl, d3, hR3, hV3, hP3, hI3⟩
                have HR3 := Aside0.mk hR3
                have HV3 := Aside0.mk hV3
                have HP3 := Aside0.mk (hP3.trans (List.Perm.refl _))
                have HJ3 := Aside0.mk hI3
                clear hR3 hV3 hP3 hI3
                go_wp2
                clear v1
                go_end0
                have hF := FIN.out d d d3 HT1.out (Moved.refl _ _ _) (hN1.out d HT1.out) HV3.out HJ3.out
                exact ⟨rfl, d3, HR3.out, hF.1, HP3.out, hF.2⟩
              · have k1 : decide (r < m) = true := decide_eq_true hA
                have k2 : decide (m < e) = false := decide_eq_false (by omega)
                have k3 : decide (a < r) = false := decide_eq_false hC
                have k4 : decide (r < mid) = false := decide_eq_false hB
                have k5 : decide (mid < e) = true := decide_eq_true (by omega)
                have k6 : decide (e < b) = false := decide_eq_false hD
                have HT1 : Aside0 (Rot d d r m e) := ⟨rot_eq2 (by omega)⟩
                have hN1 := Aside0.mk (N1.out (by omega))
                have hN2 := Aside0.mk (N2.out (by omega))
                clear hA hB hC hD g1 g2 g3 g4 g5
                have v1 := V1.out
                go_wp2
                clear v1
                go_end0
                have hF := FIN.out d d d HT1.out (Moved.refl _ _ _) (hN1.out d HT1.out) (Moved.refl _ _ _) (hN2.out d d HT1.out (Moved.refl _ _ _))
                exact ⟨rfl, d, HR.out, hF.1, (List.Perm.refl _), hF.2⟩
        · by_cases hB : r < mid
          · by_cases hC : a < r
            · by_cases hD : e < b
              · have k1 : decide (r < m) = false := decide_eq_false hA
                have k2 : decide (m < e) = true := decide_eq_true (by omega)
                have k3 : decide (a < r) = true := decide_eq_true hC
                have k4 : decide (r < mid) = true := decide_eq_true hB
                have k5 : decide (mid < e) = false := decide_eq_false (by omega)
                have k6 : decide (e < b) = true := decide_eq_true hD
                have HT1 : Aside0 (Rot d d r m e) := ⟨rot_eq (by omega)⟩
                have hM1 := Aside0.mk (M1.out hC hB)
                have hN2 := Aside0.mk (N2.out (by omega))
                clear hA hB hC hD g1 g2 g3 g4 g5
                have v1 := V1.out
                go_wp2_with fail
                refine (hM1.out _ d HR.out HT1.out (List.Perm.refl _)).mono ?_
                rintro e_ w2 ⟨rfl, d2, hR2, hV2, hP2, hI2⟩
                have HR2 := Aside0.mk hR2
                have HV2 := Aside0.mk hV2
                have HP2 := Aside0.mk (hP2.trans (List.Perm.refl _))
                have HJ2 := Aside0.mk hI2
                clear hR2 hV2 hP2 hI2
                go_wp2
                clear v1
                go_end0
                have hF := FIN.out d d2 d2 HT1.out HV2.out HJ2.out (Moved.refl _ _ _) (hN2.out d d2 HT1.out HV2.out)
                exact ⟨rfl, d2, HR2.out, hF.1, HP2.out, hF.2⟩
              · have k1 : decide (r < m) = false := decide_eq_false hA
                have k2 : decide (m < e) = true := decide_eq_true (by omega)
                have k3 : decide (a < r) = true := decide_eq_true hC
                have k4 : decide (r < mid) = true := decide_eq_true hB
                have k5 : decide (mid < e) = false := decide_eq_false (by omega)
                have k6 : decide (e < b) = false := decide_eq_false hD
                have HT1 : Aside0 (Rot d d r m e) := ⟨rot_eq (by omega)⟩
                have hM1 := Aside0.mk (M1.out hC hB)
                have hN2 := Aside0.mk (N2.out (by omega))
                clear hA hB hC hD g1 g2 g3 g4 g5
                have v1 := V1.out
                go_wp2_with fail
                refine (hM1.out _ d HR.out HT1.out (List.Perm.refl _)).mono ?_
                rintro e_ w2 ⟨rfl, d2, hR2, hV2, hP2, hI2⟩
                have HR2 := Aside0.mk hR2
                have HV2 := Aside0.mk hV2
                have HP2 := Aside0.mk (hP2.trans (List.Perm.refl _))
                have HJ2 := Aside0.mk hI2
                clear hR2 hV2 hP2 hI2
                go_wp2
                clear v1
                go_end0
                have hF := FIN.out d d2 d2 HT1.out HV2.out HJ2.out (Moved.refl _ _ _) (hN2.out d d2 HT1.out HV2.out)
                exact ⟨rfl, d2, HR2.out, hF.1, HP2.out, hF.2⟩
            · by_cases hD : e < b
              · have k1 : decide (r < m) = false := decide_eq_false hA
                have k2 : decide (m < e) = true := decide_eq_true (by omega)
                have k3 : decide (a < r) = false := decide_eq_false hC
                have k4 : decide (r < mid) = true := decide_eq_true hB
                have k5 : decide (mid < e) = false := decide_eq_false (by omega)
                have k6 : decide (e < b) = true := decide_eq_true hD
                have HT1 : Aside0 (Rot d d r m e) := ⟨rot_eq (by omega)⟩
                have hN1 := Aside0.mk (N1.out (by omega))
                have hN2 := Aside0.mk (N2.out (by omega))
                clear hA hB hC hD g1 g2 g3 g4 g5
                have v1 := V1.out
                go_wp2
                clear v1
                go_end0
                have hF := FIN.out d d d HT1.out (Moved.refl _ _ _) (hN1.out d HT1.out) (Moved.refl _ _ _) (hN2.out d d HT1.out (Moved.refl _ _ _))
                exact ⟨rfl, d, HR.out, hF.1, (List.Perm.refl _), hF.2⟩
              · have k1 : decide (r < m) = false := decide_eq_false hA
                have k2 : decide (m < e) = true := decide_eq_true (by omega)
                have k3 : decide (a < r) = false := decide_eq_false hC
                have k4 : decide (r < mid) = true := decide_eq_true hB
                have k5 : decide (mid < e) = false := decide_eq_false (by omega)
                have k6 : decide (e < b) = false := decide_eq_false hD
                have HT1 : Aside0 (Rot d d r m e) := ⟨rot_eq (by omega)⟩
                have hN1 := Aside0.mk (N1.out (by omega))
                have hN2 := Aside0.mk (N2.out (by omega))
                clear hA hB hC hD g1 g2 g3 g4 g5
                have v1 := V1.out
                go_wp2
                clear v1
                go_end0
                have hF := FIN.out d d d HT1.out (Moved.refl _ _ _) (hN1.out d HT1.out) (Moved.refl _ _ _) (hN2.out d d HT1.out (Moved.refl _ _ _))
                exact ⟨rfl, d, HR.out, hF.1, (List.Perm.refl _), hF.2⟩
          · by_cases hC : a < r
            · by_cases hD : e < b
              · have k1 : decide (r < m) = false := decide_eq_false hA
                have k2 : decide (m < e) = false := decide_eq_false (by omega)
                have k3 : decide (a < r) = true := decide_eq_true hC
                have k4 : decide (r < mid) = false := decide_eq_false hB
                have k5 : decide (mid < e) = false := decide_eq_false (by omega)
                have k6 : decide (e < b) = true := decide_eq_true hD
                have HT1 : Aside0 (Rot d d r m e) := ⟨rot_eq (by omega)⟩
                have hN1 := Aside0.mk (N1.out (by omega))
                have hN2 := Aside0.mk (N2.out (by omega))
                clear hA hB hC hD g1 g2 g3 g4 g5
                have v1 := V1.out
                go_wp2
                clear v1
                go_end0
                have hF := FIN.out d d d HT1.out (Moved.refl _ _ _) (hN1.out d HT1.out) (Moved.refl _ _ _) (hN2.out d d HT1.out (Moved.refl _ _ _))
                exact ⟨rfl, d, HR.out, hF.1, (List.Perm.refl _), hF.2⟩
              · have k1 : decide (r < m) = false := decide_eq_false hA
                have k2 : decide (m < e) = false := decide_eq_false (by omega)
                have k3 : decide (a < r) = true := decide_eq_true hC
                have k4 : decide (r < mid) = false := decide_eq_false hB
                have k5 : decide (mid < e) = false := decide_eq_false (by omega)
                have k6 : decide (e < b) = false := decide_eq_false hD
                have HT1 : Aside0 (Rot d d r m e) := ⟨rot_eq (by omega)⟩
                have hN1 := Aside0.mk (N1.out (by omega))
                have hN2 := Aside0.mk (N2.out (by omega))
                clear hA hB hC hD g1 g2 g3 g4 g5
                have v1 := V1.out
                go_wp2
                clear v1
                go_end0
                have hF := FIN.out d d d HT1.out (Moved.refl _ _ _) (hN1.out d HT1.out) (Moved.refl _ _ _) (hN2.out d d HT1.out (Moved.refl _ _ _))
                exact ⟨rfl, d, HR.out, hF.1, (List.Perm.refl _), hF.2⟩
            · by_cases hD : e < b
              · have k1 : decide (r < m) = false := decide_eq_false hA
                have k2 : decide (m < e) = false := decide_eq_false (by omega)
                have k3 : decide (a < r) = false := decide_eq_false hC
                have k4 : decide (r < mid) = false := decide_eq_false hB
                have k5 : decide (mid < e) = false := decide_eq_false (by omega)
                have k6 : decide (e < b) = true := decide_eq_true hD
                have HT1 : Aside0 (Rot d d r m e) := ⟨rot_eq (by omega)⟩
                have hN1 := Aside0.mk (N1.out (by omega))
                have hN2 := Aside0.mk (N2.out (by omega))
                clear hA hB hC hD g1 g2 g3 g4 g5
                have v1 := V1.out
                go_wp2
                clear v1
                go_end0
                have hF := FIN.out d d d HT1.out (Moved.refl _ _ _) (hN1.out d HT1.out) (Moved.refl _ _ _) (hN2.out d d HT1.out (Moved.refl _ _ _))
                exact ⟨rfl, d, HR.out, hF.1, (List.Perm.refl _), hF.2⟩
              · have k1 : decide (r < m) = false := decide_eq_false hA
                have k2 : decide (m < e) = false := decide_eq_false (by omega)
                have k3 : decide (a < r) = false := decide_eq_false hC
                have k4 : decide (r < mid) = false := decide_eq_false hB
                have k5 : decide (mid < e) = false := decide_eq_false (by omega)
                have k6 : decide (e < b) = false := decide_eq_false hD
                have HT1 : Aside0 (Rot d d r m e) := ⟨rot_eq (by omega)⟩
                have hN1 := Aside0.mk (N1.out (by omega))
                have hN2 := Aside0.mk (N2.out (by omega))
                clear hA hB hC hD g1 g2 g3 g4 g5
                have v1 := V1.out
                go_wp2
                clear v1
                go_end0
                have hF := FIN.out d d d HT1.out (Moved.refl _ _ _) (hN1.out d HT1.out) (Moved.refl _ _ _) (hN2.out d d HT1.out (Moved.refl _ _ _))
                exact ⟨rfl, d, HR.out, hF.1, (List.Perm.refl _), hF.2⟩
  case neg =>
    have SL : Aside0 (Value.int .i64 (a : Int) = Value.int .i64 (lo : Int)) := ⟨by rw [hlo, if_neg (by omega)]⟩
    have SR : Aside0 (Value.int .i64 (m : Int) = Value.int .i64 (r0 : Int)) := ⟨by rw [hr0, if_neg (by omega)]⟩
    have c5 : decide (mid < m) = false := decide_eq_false cm
    clear hn h ham hmb hb hlen hi1 hi2 hbl hV q1 q2 hX hmid hnn hp hp0 hq0 hlo hr0 ih cm
    have w1 := W1.out
    have w2 := W2.out
    go_enter Try.func105, Try.ntmps105
    go_upto_region 25 with (fail)
    simp only [W5.out, W3.out, W4.out]
    clear w1 w2
    go_upto_region 27 with (fail)
    simp only [W6.out]
    go_upto_region 33 with (fail)
    simp only [W7.out]
    go_loopg [20, 21] (r0 - lo) (fun k v20 v21 w' => ∃ (s r : Nat), v20 = .int .i64 s ∧ v21 = .int .i64 r ∧ Aside0 (lo ≤ s ∧ s ≤ r ∧ r ≤ r0 ∧ r - s ≤ k) ∧ Aside0 (AtRow w0 w' g d) ∧ Aside0 (∀ c, lo ≤ c → c < s → 0 ≤ cf (K.at_ d (p - c)) (K.at_ d c)) ∧ Aside0 (∀ c, r ≤ c → c < r0 → cf (K.at_ d (p - c)) (K.at_ d c) < 0))
    case atStart =>
      have e1 := HQ.out
      exact ⟨lo, r0, by first | rfl | exact SL.out, by first | rfl | exact SR.out, ⟨by omega⟩, H, ⟨fun c x1 x2 => by omega⟩, ⟨fun c x1 x2 => by omega⟩⟩
    case round =>
      obtain ⟨s, r, rfl, rfl, HI, HR, HLo, HHi⟩ := hrel
      have e1 := HQ.out
      have e2 := HE.out
      obtain ⟨e4, e5, e6, e7⟩ := HI.out
      by_cases hsr : s < r
      · obtain ⟨c, hcc⟩ : ∃ c, (s + r) / 2 = c := ⟨_, rfl⟩
        obtain ⟨y, hy⟩ : ∃ y, p - c = y := ⟨_, rfl⟩
        have c6 : decide (s < r) = true := decide_eq_true hsr
        have x1 : ((c : Int) < (d.length : Int)) = True := eq_true (by omega)
        have y1 : ((y : Int) < (d.length : Int)) = True := eq_true (by omega)
        have x2 : (c < d.length) = True := eq_true (by omega)
        have y2 : (y < d.length) = True := eq_true (by omega)
        have ch := HR.out.cell' y (by omega)
        have ca := HR.out.cell' c (by omega)
        have hc := HX.out.at_ HR.out (V_at HV.out (show y < d.length by omega)) (V_at HV.out (show c < d.length by omega))
        obtain ⟨xh, hxh⟩ : ∃ x, K.at_ d y = x := ⟨_, rfl⟩
        obtain ⟨xa, hxa⟩ : ∃ x, K.at_ d c = x := ⟨_, rfl⟩
        rw [hxh] at ch hc
        rw [hxa] at ca hc
        have V2 := Aside0.mk (u64of (i := s) (j := r) (by omega))
        have V3 := Aside0.mk (w64of (z := (c : Int) + 1) (n := c + 1) (by omega) (by omega))
        have V4 := Aside0.mk (w64of (z := ((s : Int) + (r : Int)) / 2) (n := c) (by omega) (by omega))
        have V5 := Aside0.mk (i64of (i := s) (j := r) (by omega))
        have V6 := Aside0.mk (w64of (z := (p : Int) - (c : Int)) (n := y) (by omega) (by omega))
        have V7 := Aside0.mk (show IntKind.i64.wrap ((p : Int) - (c : Int)) = (y : Int) from (by rw [IntKind.wrap_i64]; omega))
        have HH := Aside0.mk hcc
        have HY := Aside0.mk hy
        have HSR := Aside0.mk hsr
        have HXH := Aside0.mk hxh
        have HXA := Aside0.mk hxa
        clear e1 e2 e4 e5 e6 e7 hcc hy hsr hxh hxa
        go_wp2_with fail
        simp only [V5.out, V2.out, V4.out]
        have v6 := V6.out
        have v7 := V7.out
        by_cases hlt : cf xh xa < 0
        · have c7 : decide (cf xh xa < 0) = true := decide_eq_true hlt
          have HLT := Aside0.mk hlt
          clear hlt
          go_quiet (first | (go_at_fn gc; refine Calls.quiet_of (hc _)))
          go_wp2
          clear v6 v7
          go_roundg (c - s)
          case measure => have := HI.out; have := HH.out; have := HSR.out; omega
          case rel =>
            have e0 := HI.out
            have e1 := HH.out
            have e2 := HSR.out
            have e3 := HQ.out
            have e4 := HE.out
            have e5 := HY.out
            refine ⟨s, c, rfl, rfl, ⟨by omega⟩, ⟨HR.out.drewN _⟩, HLo, ⟨fun q x1 x2 => ?_⟩⟩
            by_cases e : c < q
            · have k1 : cf (K.at_ d y) (K.at_ d c) < 0 := by rw [HXH.out, HXA.out]; exact HLT.out
              have k2 := HI2.out (p - q) y (by omega) (by omega) (by omega)
              have k3 := HI1.out c q (by omega) e (by omega)
              exact HX.out.cmp.lt_le (HX.out.cmp.le_lt k2.le k1) k3.le
            · obtain rfl : q = c := by omega
              rw [e5, HXH.out, HXA.out]; exact HLT.out
        · have c7 : decide (cf xh xa < 0) = false := decide_eq_false hlt
          have HLT := Aside0.mk (Int.not_lt.mp hlt)
          clear hlt
          go_quiet (first | (go_at_fn gc; refine Calls.quiet_of (hc _)))
          go_wp2
          clear v6 v7
          go_roundg (r - (c + 1))
          case measure => have := HI.out; have := HH.out; have := HSR.out; omega
          case rel =>
            have e0 := HI.out
            have e1 := HH.out
            have e2 := HSR.out
            have e3 := HQ.out
            have e4 := HE.out
            have e5 := HY.out
            refine ⟨c + 1, r, by first | rfl | rw [V3.out], rfl, ⟨by omega⟩, ⟨HR.out.drewN _⟩, ⟨fun q x1 x2 => ?_⟩, HHi⟩
            by_cases e : q < c
            · refine Int.not_lt.mp fun hcon => ?_
              have k2 := HI2.out y (p - q) (by omega) (by omega) (by omega)
              have k3 := HI1.out q c (by omega) e (by omega)
              have := HX.out.cmp.lt_le (HX.out.cmp.le_lt k2.le hcon) k3.le
              rw [HXH.out, HXA.out] at this
              exact absurd this (Int.not_lt.mpr HLT.out)
            · obtain rfl : q = c := by omega
              rw [e5, HXH.out, HXA.out]; exact HLT.out
      · obtain rfl : r = s := by omega
        obtain ⟨e, he⟩ : ∃ e, nn - r = e := ⟨_, rfl⟩
        have c6 : decide (r < r) = false := decide_eq_false (Nat.lt_irrefl _)
        have V1 := Aside0.mk (w64of (z := (nn : Int) - (r : Int)) (n := e) (by omega) (by omega))
        have SP : ∀ d', Rot d d' r m e → a ≤ r ∧ r ≤ m ∧ r ≤ mid ∧ m ≤ e ∧ e ≤ b ∧ Split cf d' a r mid e b := fun d' hR => by
          have hm := HE.out.1
          have he2 : (a + b) / 2 + m - r = e := by omega
          have hp2 : (a + b) / 2 + m - 1 = p := by omega
          have := splitC HX.out.cmp (show a < m by omega) (show m < b by omega) HI1.out HI2.out HBL.out HLO.out HR0.out e4 e6 (fun c x1 x2 => by rw [hp2]; exact Int.not_lt.mpr (HLo.out c x1 x2)) (fun c x1 x2 => by rw [hp2]; exact HHi.out c x1 x2) (by rw [he2]; exact hR)
          rw [he2, hm] at this
          exact this
        have HSP := Aside0.mk SP
        have HEN := Aside0.mk he
        clear SP he e1 e2 e4 e5 e6 e7 hsr
        have g1 := HQ.out
        have g2 := HE.out
        have g3 := HI.out
        have g4 := HEN.out
        have g5 : r ≤ m ∧ r ≤ mid ∧ a ≤ r ∧ m ≤ e ∧ e ≤ b ∧ e = mid + m - r := by omega
        have M1 : Aside0 (a < r → r < mid → ∀ (w1 : World) (d1 : List Int), AtRow w0 w1 g d1 → Rot d d1 r m e → List.Perm d1 d → Calls Try.prog 105 #[.slice (some ⟨g, 0, none⟩) d.length cap, .int .i64 a, .int .i64 r, .int .i64 mid, .func (.func gc) #[] cb] w1 (MergePost w0 g cf d1 a mid)) := ⟨fun y1 y2 w1 d1 x1 x2 x3 => by
          have S := (HSP.out d1 x2).2.2.2.2.2
          have hl := x2.len
          have := IH.out w1 d1 a r mid (by omega) x1 y1 y2 (by omega) (by omega) S.i1 S.i2 S.b1 (fun x hx => HV.out x (x3.mem_iff.mp hx))
          rw [hl] at this
          exact this⟩
        have M2 : Aside0 (r < m → e < b → ∀ (w1 : World) (d1 d2 : List Int), AtRow w0 w1 g d2 → Rot d d1 r m e → Moved d1 d2 a mid → List.Perm d2 d → Calls Try.prog 105 #[.slice (some ⟨g, 0, none⟩) d.length cap, .int .i64 mid, .int .i64 e, .int .i64 b, .func (.func gc) #[] cb] w1 (MergePost w0 g cf d2 mid b)) := ⟨fun y1 y2 w1 d1 d2 x1 x2 x3 x4 => by
          have S := (HSP.out d1 x2).2.2.2.2.2.after x3 (by omega)
          have hl := x3.len.trans x2.len
          have := IH.out w1 d2 mid e b (by omega) x1 (by omega) y2 (by omega) (by omega) S.1 S.2.1 S.2.2 (fun x hx => HV.out x (x4.mem_iff.mp hx))
          rw [hl] at this
          exact this⟩
        have FIN : Aside0 (∀ (d1 d2 d3 : List Int), Rot d d1 r m e → Moved d1 d2 a mid → Inc cf d2 a mid → Moved d2 d3 mid b → Inc cf d3 mid b → Moved d d3 a b ∧ Inc cf d3 a b) := ⟨fun d1 d2 d3 x1 x2 x3 x4 x5 => finC (by omega) (by omega) (by omega) (by omega) (by omega) (by omega) x1 (HSP.out d1 x1).2.2.2.2.2 x2 x3 x4 x5⟩
        have N1 : Aside0 (¬ (a < r ∧ r < mid) → ∀ (d1 : List Int), Rot d d1 r m e → Inc cf d1 a mid) := ⟨fun y d1 x1 => by
          have S := (HSP.out d1 x1).2.2.2.2.2
          by_cases z : a < r
          · have : r = mid := by omega
            rw [← this]; exact S.i1
          · have : a = r := by omega
            rw [this]; exact S.i2⟩
        have N2 : Aside0 (¬ (r < m ∧ e < b) → ∀ (d1 d2 : List Int), Rot d d1 r m e → Moved d1 d2 a mid → Inc cf d2 mid b) := ⟨fun y d1 d2 x1 x2 => by
          have S := (HSP.out d1 x1).2.2.2.2.2.after x2 (by omega)
          by_cases z : r < m
          · have : e = b := by omega
            rw [← this]; exact S.1
          · have : mid = e := by omega
            rw [this]; exact S.2.1⟩
        by_cases hA : r < m
        · by_cases hB : r < mid
          · by_cases hC : a < r
            · by_cases hD : e < b
              · have k1 : decide (r < m) = true := decide_eq_true hA
                have k2 : decide (m < e) = true := decide_eq_true (by omega)
                have k3 : decide (a < r) = true := decide_eq_true hC
                have k4 : decide (r < mid) = true := decide_eq_true hB
                have k5 : decide (mid < e) = true := decide_eq_true (by omega)
                have k6 : decide (e < b) = true := decide_eq_true hD
                have hRot := Aside0.mk (rotate w0 wr g cap d r m e (.func (.func gc) #[] cb) HR.out hA (by omega) (by omega) (by omega))
                have hM1 := Aside0.mk (M1.out hC hB)
                have hM2 := Aside0.mk (M2.out hA hD)
                clear hA hB hC hD g1 g2 g3 g4 g5
                have v1 := V1.out
                go_wp2_with fail
                refine hRot.out.mono ?_
                rintro e_ w1 ⟨rfl, d1, hR1, hT1, hP1⟩
                have HR1 := Aside0.mk hR1
                have HT1 := Aside0.mk hT1
                have HP1 := Aside0.mk hP1
                clear hR1 hT1 hP1
                go_wp2_with fail
                refine (hM1.out _ d1 HR1.out HT1.out HP1.out).mono ?_
                rintro e_ w2 ⟨rfl, d2, hR2, hV2, hP2, hI2⟩
                have HR2 := Aside0.mk hR2
                have HV2 := Aside0.mk hV2
                have HP2 := Aside0.mk (hP2.trans HP1.out)
                have HJ2 := Aside0.mk hI2
                clear hR2 hV2 hP2 hI2
                go_wp2_with fail
                refine (hM2.out _ d1 d2 HR2.out HT1.out HV2.out HP2.out).mono ?_
                rintro e_ w3 ⟨rfl, d3, hR3, hV3, hP3, hI3⟩
                have HR3 := Aside0.mk hR3
                have HV3 := Aside0.mk hV3
                have HP3 := Aside0.mk (hP3.trans HP2.out)
                have HJ3 := Aside0.mk hI3
                clear hR3 hV3 hP3 hI3
                go_wp2
                clear v1
                go_end0
                have hF := FIN.out d1 d2 d3 HT1.out HV2.out HJ2.out HV3.out HJ3.out
                exact ⟨rfl, d3, HR3.out, hF.1, HP3.out, hF.2⟩
              · have k1 : decide (r < m) = true := decide_eq_true hA
                have k2 : decide (m < e) = true := decide_eq_true (by omega)
                have k3 : decide (a < r) = true := decide_eq_true hC
                have k4 : decide (r < mid) = true := decide_eq_true hB
                have k5 : decide (mid < e) = true := decide_eq_true (by omega)
                have k6 : decide (e < b) = false := decide_eq_false hD
                have hRot := Aside0.mk (rotate w0 wr g cap d r m e (.func (.func gc) #[] cb) HR.out hA (by omega) (by omega) (by omega))
                have hM1 := Aside0.mk (M1.out hC hB)
                have hN2 := Aside0.mk (N2.out (by omega))
                clear hA hB hC hD g1 g2 g3 g4 g5
                have v1 := V1.out
                go_wp2_with fail
                refine hRot.out.mono ?_
                rintro e_ w1 ⟨rfl, d1, hR1, hT1, hP1⟩
                have HR1 := Aside0.mk hR1
                have HT1 := Aside0.mk hT1
                have HP1 := Aside0.mk hP1
                clear hR1 hT1 hP1
                go_wp2_with fail
                refine (hM1.out _ d1 HR1.out HT1.out HP1.out).mono ?_
                rintro e_ w2 ⟨rfl, d2, hR2, hV2, hP2, hI2⟩
                have HR2 := Aside0.mk hR2
                have HV2 := Aside0.mk hV2
                have HP2 := Aside0.mk (hP2.trans HP1.out)
                have HJ2 := Aside0.mk hI2
                clear hR2 hV2 hP2 hI2
                go_wp2
                clear v1
                go_end0
                have hF := FIN.out d1 d2 d2 HT1.out HV2.out HJ2.out (Moved.refl _ _ _) (hN2.out d1 d2 HT1.out HV2.out)
                exact ⟨rfl, d2, HR2.out, hF.1, HP2.out, hF.2⟩
            · by_cases hD : e < b
              · have k1 : decide (r < m) = true := decide_eq_true hA
                have k2 : decide (m < e) = true := decide_eq_true (by omega)
                have k3 : decide (a < r) = false := decide_eq_false hC
                have k4 : decide (r < mid) = true := decide_eq_true hB
                have k5 : decide (mid < e) = true := decide_eq_true (by omega)
                have k6 : decide (e < b) = true := decide_eq_true hD
                have hRot := Aside0.mk (rotate w0 wr g cap d r m e (.func (.func gc) #[] cb) HR.out hA (by omega) (by omega) (by omega))
                have hN1 := Aside0.mk (N1.out (by omega))
                have hM2 := Aside0.mk (M2.out hA hD)
                clear hA hB hC hD g1 g2 g3 g4 g5
                have v1 := V1.out
                go_wp2_with fail
                refine hRot.out.mono ?_
                rintro e_ w1 ⟨rfl, d1, hR1, hT1, hP1⟩
                have HR1 := Aside0.mk hR1
                have HT1 := Aside0.mk hT1
                have HP1 := Aside0.mk hP1
                clear hR1 hT1 hP1
                go_wp2_with fail
                refine (hM2.out _ d1 d1 HR1.out HT1.out (Moved.refl _ _ _) HP1.out).mono ?_
                rintro e_ w3 ⟨rfl, d3, hR3, hV3, hP3, hI3⟩
                have HR3 := Aside0.mk hR3
                have HV3 := Aside0.mk hV3
                have HP3 := Aside0.mk (hP3.trans HP1.out)
                have HJ3 := Aside0.mk hI3
                clear hR3 hV3 hP3 hI3
                go_wp2
                clear v1
                go_end0
                have hF := FIN.out d1 d1 d3 HT1.out (Moved.refl _ _ _) (hN1.out d1 HT1.out) HV3.out HJ3.out
                exact ⟨rfl, d3, HR3.out, hF.1, HP3.out, hF.2⟩
              · have k1 : decide (r < m) = true := decide_eq_true hA
                have k2 : decide (m < e) = true := decide_eq_true (by omega)
                have k3 : decide (a < r) = false := decide_eq_false hC
                have k4 : decide (r < mid) = true := decide_eq_true hB
                have k5 : decide (mid < e) = true := decide_eq_true (by omega)
                have k6 : decide (e < b) = false := decide_eq_false hD
                have hRot := Aside0.mk (rotate w0 wr g cap d r m e (.func (.func gc) #[] cb) HR.out hA (by omega) (by omega) (by omega))
                have hN1 := Aside0.mk (N1.out (by omega))
                have hN2 := Aside0.mk (N2.out (by omega))
                clear hA hB hC hD g1 g2 g3 g4 g5
                have v1 := V1.out
                go_wp2_with fail
                refine hRot.out.mono ?_
                rintro e_ w1 ⟨rfl, d1, hR1, hT1, hP1⟩
                have HR1 := Aside0.mk hR1
                have HT1 := Aside0.mk hT1
                have HP1 := Aside0.mk hP1
                clear hR1 hT1 hP1
                go_wp2
                clear v1
                go_end0
                have hF := FIN.out d1 d1 d1 HT1.out (Moved.refl _ _ _) (hN1.out d1 HT1.out) (Moved.refl _ _ _) (hN2.out d1 d1 HT1.out (Moved.refl _ _ _))
                exact ⟨rfl, d1, HR1.out, hF.1, HP1.out, hF.2⟩
          · by_cases hC : a < r
            · by_cases hD : e < b
              · have k1 : decide (r < m) = true := decide_eq_true hA
                have k2 : decide (m < e) = false := decide_eq_false (by omega)
                have k3 : decide (a < r) = true := decide_eq_true hC
                have k4 : decide (r < mid) = false := decide_eq_false hB
                have k5 : decide (mid < e) = true := decide_eq_true (by omega)
                have k6 : decide (e < b) = true := decide_eq_true hD
                have HT1 : Aside0 (Rot d d r m e) := ⟨rot_eq2 (by omega)⟩
                have hN1 := Aside0.mk (N1.out (by omega))
                have hM2 := Aside0.mk (M2.out hA hD)
                clear hA hB hC hD g1 g2 g3 g4 g5
                have v1 := V1.out
                go_wp2_with fail
                refine (hM2.out _ d d HR.out HT1.out (Moved.refl _ _ _) (List.Perm.refl _)).mono ?_
                rintro e_ w3 ⟨rfl, d3, hR3, hV3, hP3, hI3⟩
                have HR3 := Aside0.mk hR3
                have HV3 := Aside0.mk hV3
                have HP3 := Aside0.mk (hP3.trans (List.Perm.refl _))
                have HJ3 := Aside0.mk hI3
                clear hR3 hV3 hP3 hI3
                go_wp2
                clear v1
                go_end0
                have hF := FIN.out d d d3 HT1.out (Moved.refl _ _ _) (hN1.out d HT1.out) HV3.out HJ3.out
                exact ⟨rfl, d3, HR3.out, hF.1, HP3.out, hF.2⟩
              · have k1 : decide (r < m) = true := decide_eq_true hA
                have k2 : decide (m < e) = false := decide_eq_false (by omega)
                have k3 : decide (a < r) = true := decide_eq_true hC
                have k4 : decide (r < mid) = false := decide_eq_false hB
                have k5 : decide (mid < e) = true := decide_eq_true (by omega)
                have k6 : decide (e < b) = false := decide_eq_false hD
                have HT1 : Aside0 (Rot d d r m e) := ⟨rot_eq2 (by omega)⟩
                have hN1 := Aside0.mk (N1.out (by omega))
                have hN2 := Aside0.mk (N2.out (by omega))
                clear hA hB hC hD g1 g2 g3 g4 g5
                have v1 := V1.out
                go_wp2
                clear v1
                go_end0
                have hF := FIN.out d d d HT1.out (Moved.refl _ _ _) (hN1.out d HT1.out) (Moved.refl _ _ _) (hN2.out d d HT1.out (Moved.refl _ _ _))
                exact ⟨rfl, d, HR.out, hF.1, (List.Perm.refl _), hF.2⟩
            · by_cases hD : e < b
              · have k1 : decide (r < m) = true := decide_eq_true hA
                have k2 : decide (m < e) = false := decide_eq_false (by omega)
                have k3 : decide (a < r) = false := decide_eq_false hC
                have k4 : decide (r < mid) = false := decide_eq_false hB
                have k5 : decide (mid < e) = true := decide_eq_true (by omega)
                have k6 : decide (e < b) = true := decide_eq_true hD
                have HT1 : Aside0 (Rot d d r m e) := ⟨rot_eq2 (by omega)⟩
                have hN1 := Aside0.mk (N1.out (by omega))
                have hM2 := Aside0.mk (M2.out hA hD)
                clear hA hB hC hD g1 g2 g3 g4 g5
                have v1 := V1.out
                go_wp2_with fail
                refine (hM2.out _ d d HR.out HT1.out (Moved.refl _ _ _) (List.Perm.refl _)).mono ?_
                rintro e_ w3 ⟨rfl, d3, hR3, hV3, hP3, hI3⟩
                have HR3 := Aside0.mk hR3
                have HV3 := Aside0.mk hV3
                have HP3 := Aside0.mk (hP3.trans (List.Perm.refl _))
                have HJ3 := Aside0.mk hI3
                clear hR3 hV3 hP3 hI3
                go_wp2
                clear v1
                go_end0
                have hF := FIN.out d d d3 HT1.out (Moved.refl _ _ _) (hN1.out d HT1.out) HV3.out HJ3.out
                exact ⟨rfl, d3, HR3.out, hF.1, HP3.out, hF.2⟩
              · have k1 : decide (r < m) = true := decide_eq_true hA
                have k2 : decide (m < e) = false := decide_eq_false (by omega)
                have k3 : decide (a < r) = false := decide_eq_false hC
                have k4 : decide (r < mid) = false := decide_eq_false hB
                have k5 : decide (mid < e) = true := decide_eq_true (by omega)
                have k6 : decide (e < b) = false := decide_eq_false hD
                have HT1 : Aside0 (Rot d d r m e) := ⟨rot_eq2 (by omega)⟩
                have hN1 := Aside0.mk (N1.out (by omega))
                have hN2 := Aside0.mk (N2.out (by omega))
                clear hA hB hC hD g1 g2 g3 g4 g5
                have v1 := V1.out
                go_wp2
                clear v1
                go_end0
                have hF := FIN.out d d d HT1.out (Moved.refl _ _ _) (hN1.out d HT1.out) (Moved.refl _ _ _) (hN2.out d d HT1.out (Moved.refl _ _ _))
                exact ⟨rfl, d, HR.out, hF.1, (List.Perm.refl _), hF.2⟩
        · by_cases hB : r < mid
          · by_cases hC : a < r
            · by_cases hD : e < b
              · have k1 : decide (r < m) = false := decide_eq_false hA
                have k2 : decide (m < e) = true := decide_eq_true (by omega)
                have k3 : decide (a < r) = true := decide_eq_true hC
                have k4 : decide (r < mid) = true := decide_eq_true hB
                have k5 : decide (mid < e) = false := decide_eq_false (by omega)
                have k6 : decide (e < b) = true := decide_eq_true hD
                have HT1 : Aside0 (Rot d d r m e) := ⟨rot_eq (by omega)⟩
                have hM1 := Aside0.mk (M1.out hC hB)
                have hN2 := Aside0.mk (N2.out (by omega))
                clear hA hB hC hD g1 g2 g3 g4 g5
                have v1 := V1.out
                go_wp2_with fail
                refine (hM1.out _ d HR.out HT1.out (List.Perm.refl _)).mono ?_
                rintro e_ w2 ⟨rfl, d2, hR2, hV2, hP2, hI2⟩
                have HR2 := Aside0.mk hR2
                have HV2 := Aside0.mk hV2
                have HP2 := Aside0.mk (hP2.trans (List.Perm.refl _))
                have HJ2 := Aside0.mk hI2
                clear hR2 hV2 hP2 hI2
                go_wp2
                clear v1
                go_end0
                have hF := FIN.out d d2 d2 HT1.out HV2.out HJ2.out (Moved.refl _ _ _) (hN2.out d d2 HT1.out HV2.out)
                exact ⟨rfl, d2, HR2.out, hF.1, HP2.out, hF.2⟩
              · have k1 : decide (r < m) = false := decide_eq_false hA
                have k2 : decide (m < e) = true := decide_eq_true (by omega)
                have k3 : decide (a < r) = true := decide_eq_true hC
                have k4 : decide (r < mid) = true := decide_eq_true hB
                have k5 : decide (mid < e) = false := decide_eq_false (by omega)
                have k6 : decide (e < b) = false := decide_eq_false hD
                have HT1 : Aside0 (Rot d d r m e) := ⟨rot_eq (by omega)⟩
                have hM1 := Aside0.mk (M1.out hC hB)
                have hN2 := Aside0.mk (N2.out (by omega))
                clear hA hB hC hD g1 g2 g3 g4 g5
                have v1 := V1.out
                go_wp2_with fail
                refine (hM1.out _ d HR.out HT1.out (List.Perm.refl _)).mono ?_
                rintro e_ w2 ⟨rfl, d2, hR2, hV2, hP2, hI2⟩
                have HR2 := Aside0.mk hR2
                have HV2 := Aside0.mk hV2
                have HP2 := Aside0.mk (hP2.trans (List.Perm.refl _))
                have HJ2 := Aside0.mk hI2
                clear hR2 hV2 hP2 hI2
                go_wp2
                clear v1
                go_end0
                have hF := FIN.out d d2 d2 HT1.out HV2.out HJ2.out (Moved.refl _ _ _) (hN2.out d d2 HT1.out HV2.out)
                exact ⟨rfl, d2, HR2.out, hF.1, HP2.out, hF.2⟩
            · by_cases hD : e < b
              · have k1 : decide (r < m) = false := decide_eq_false hA
                have k2 : decide (m < e) = true := decide_eq_true (by omega)
                have k3 : decide (a < r) = false := decide_eq_false hC
                have k4 : decide (r < mid) = true := decide_eq_true hB
                have k5 : decide (mid < e) = false := decide_eq_false (by omega)
                have k6 : decide (e < b) = true := decide_eq_true hD
                have HT1 : Aside0 (Rot d d r m e) := ⟨rot_eq (by omega)⟩
                have hN1 := Aside0.mk (N1.out (by omega))
                have hN2 := Aside0.mk (N2.out (by omega))
                clear hA hB hC hD g1 g2 g3 g4 g5
                have v1 := V1.out
                go_wp2
                clear v1
                go_end0
                have hF := FIN.out d d d HT1.out (Moved.refl _ _ _) (hN1.out d HT1.out) (Moved.refl _ _ _) (hN2.out d d HT1.out (Moved.refl _ _ _))
                exact ⟨rfl, d, HR.out, hF.1, (List.Perm.refl _), hF.2⟩
              · have k1 : decide (r < m) = false := decide_eq_false hA
                have k2 : decide (m < e) = true := decide_eq_true (by omega)
                have k3 : decide (a < r) = false := decide_eq_false hC
                have k4 : decide (r < mid) = true := decide_eq_true hB
                have k5 : decide (mid < e) = false := decide_eq_false (by omega)
                have k6 : decide (e < b) = false := decide_eq_false hD
                have HT1 : Aside0 (Rot d d r m e) := ⟨rot_eq (by omega)⟩
                have hN1 := Aside0.mk (N1.out (by omega))
                have hN2 := Aside0.mk (N2.out (by omega))
                clear hA hB hC hD g1 g2 g3 g4 g5
                have v1 := V1.out
                go_wp2
                clear v1
                go_end0
                have hF := FIN.out d d d HT1.out (Moved.refl _ _ _) (hN1.out d HT1.out) (Moved.refl _ _ _) (hN2.out d d HT1.out (Moved.refl _ _ _))
                exact ⟨rfl, d, HR.out, hF.1, (List.Perm.refl _), hF.2⟩
          · by_cases hC : a < r
            · by_cases hD : e < b
              · have k1 : decide (r < m) = false := decide_eq_false hA
                have k2 : decide (m < e) = false := decide_eq_false (by omega)
                have k3 : decide (a < r) = true := decide_eq_true hC
                have k4 : decide (r < mid) = false := decide_eq_false hB
                have k5 : decide (mid < e) = false := decide_eq_false (by omega)
                have k6 : decide (e < b) = true := decide_eq_true hD
                have HT1 : Aside0 (Rot d d r m e) := ⟨rot_eq (by omega)⟩
                have hN1 := Aside0.mk (N1.out (by omega))
                have hN2 := Aside0.mk (N2.out (by omega))
                clear hA hB hC hD g1 g2 g3 g4 g5
                have v1 := V1.out
                go_wp2
                clear v1
                go_end0
                have hF := FIN.out d d d HT1.out (Moved.refl _ _ _) (hN1.out d HT1.out) (Moved.refl _ _ _) (hN2.out d d HT1.out (Moved.refl _ _ _))
                exact ⟨rfl, d, HR.out, hF.1, (List.Perm.refl _), hF.2⟩
              · have k1 : decide (r < m) = false := decide_eq_false hA
                have k2 : decide (m < e) = false := decide_eq_false (by omega)
                have k3 : decide (a < r) = true := decide_eq_true hC
                have k4 : decide (r < mid) = false := decide_eq_false hB
                have k5 : decide (mid < e) = false := decide_eq_false (by omega)
                have k6 : decide (e < b) = false := decide_eq_false hD
                have HT1 : Aside0 (Rot d d r m e) := ⟨rot_eq (by omega)⟩
                have hN1 := Aside0.mk (N1.out (by omega))
                have hN2 := Aside0.mk (N2.out (by omega))
                clear hA hB hC hD g1 g2 g3 g4 g5
                have v1 := V1.out
                go_wp2
                clear v1
                go_end0
                have hF := FIN.out d d d HT1.out (Moved.refl _ _ _) (hN1.out d HT1.out) (Moved.refl _ _ _) (hN2.out d d HT1.out (Moved.refl _ _ _))
                exact ⟨rfl, d, HR.out, hF.1, (List.Perm.refl _), hF.2⟩
            · by_cases hD : e < b
              · have k1 : decide (r < m) = false := decide_eq_false hA
                have k2 : decide (m < e) = false := decide_eq_false (by omega)
                have k3 : decide (a < r) = false := decide_eq_false hC
                have k4 : decide (r < mid) = false := decide_eq_false hB
                have k5 : decide (mid < e) = false := decide_eq_false (by omega)
                have k6 : decide (e < b) = true := decide_eq_true hD
                have HT1 : Aside0 (Rot d d r m e) := ⟨rot_eq (by omega)⟩
                have hN1 := Aside0.mk (N1.out (by omega))
                have hN2 := Aside0.mk (N2.out (by omega))
                clear hA hB hC hD g1 g2 g3 g4 g5
                have v1 := V1.out
                go_wp2
                clear v1
                go_end0
                have hF := FIN.out d d d HT1.out (Moved.refl _ _ _) (hN1.out d HT1.out) (Moved.refl _ _ _) (hN2.out d d HT1.out (Moved.refl _ _ _))
                exact ⟨rfl, d, HR.out, hF.1, (List.Perm.refl _), hF.2⟩
              · have k1 : decide (r < m) = false := decide_eq_false hA
                have k2 : decide (m < e) = false := decide_eq_false (by omega)
                have k3 : decide (a < r) = false := decide_eq_false hC
                have k4 : decide (r < mid) = false := decide_eq_false hB
                have k5 : decide (mid < e) = false := decide_eq_false (by omega)
                have k6 : decide (e < b) = false := decide_eq_false hD
                have HT1 : Aside0 (Rot d d r m e) := ⟨rot_eq (by omega)⟩
                have hN1 := Aside0.mk (N1.out (by omega))
                have hN2 := Aside0.mk (N2.out (by omega))
                clear hA hB hC hD g1 g2 g3 g4 g5
                have v1 := V1.out
                go_wp2
                clear v1
                go_end0
                have hF := FIN.out d d d HT1.out (Moved.refl _ _ _) (hN1.out d HT1.out) (Moved.refl _ _ _) (hN2.out d d HT1.out (Moved.refl _ _ _))
                exact ⟨rfl, d, HR.out, hF.1, (List.Perm.refl _), hF.2⟩
end Go.Proofs.Ythhcgepofldgaaa.PSortM
