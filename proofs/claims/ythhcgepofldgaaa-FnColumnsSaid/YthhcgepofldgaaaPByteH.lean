/- The walks of a sort of bytes: the pivot. -/
import Derived.Test.YthhcgepofldgaaaPByteB
namespace Go.Proofs.Ythhcgepofldgaaa.PByteH
open Go.RowKit Go.Proofs.YthhcgepofldgaaaW.PrintWords Go.Proofs.Ythhcgepofldgaaa.PByteA Go.Proofs.Ythhcgepofldgaaa.PByteU Go.Proofs.Ythhcgepofldgaaa.PByteB
set_option linter.unusedVariables false
set_option maxHeartbeats 4000000
set_option maxRecDepth 100000
/-- A box that holds one number. -/
def BoxI (W : World) (B : Nat) (k : IntKind) (e : TypeId) (s : Int) : Prop := W.heap[B]? = some (.cells #[.int k s] e (0, 0))
theorem BoxI.cell {W : World} {B : Nat} {k : IntKind} {e : TypeId} {s : Int} (h : BoxI W B k e s) : W.cell? ⟨B, 0, none⟩ = some (.int k s) ∧ W.frozen? ⟨B, 0, none⟩ = false := by
  unfold BoxI at h
  exact ⟨by simp [World.cell?, h], by simp [World.frozen?, h]⟩
theorem BoxI.drewN {W : World} {B : Nat} {k : IntKind} {e : TypeId} {s : Int} (h : BoxI W B k e s) (n : Nat) : BoxI (W.drewN n) B k e s := h
theorem BoxI.drew {W : World} {B : Nat} {k : IntKind} {e : TypeId} {s : Int} (h : BoxI W B k e s) : BoxI W.drew B k e s := h
theorem BoxI.put {W : World} {B : Nat} {k : IntKind} {e : TypeId} {s : Int} (h : BoxI W B k e s) (t : Int) : BoxI (W.setCell ⟨B, 0, none⟩ (.int k t)) B k e t := by
  unfold BoxI at h ⊢
  simp only [World.setCell, Array.getElem?_modify, if_true, h, Option.map_some]
  rfl
theorem BoxI.far {W : World} {B g j : Nat} {k : IntKind} {e : TypeId} {s : Int} {v : Value} (h : BoxI W B k e s) (hne : B ≠ g) : BoxI (W.setCell ⟨g, j, none⟩ v) B k e s := by
  unfold BoxI at h ⊢
  simp only [World.setCell, Array.getElem?_modify, if_neg (Ne.symm hne), h]
theorem boxAt {w0 W : World} {g B : Nat} {d : Array Int} (h : AtB w0 W g d) (hB : w0.heap.size ≤ B) (v : Value) : AtB w0 (W.setCell ⟨B, 0, none⟩ v) g d :=
  h.grown (Below.setCell (Below.refl _ W) hB v) (by simp [World.setCell])
theorem order2 (w0 W : World) (g cap n a b B : Nat) (s : Int) (d : Array Int) (hn : d.size = n) (h : AtB w0 W g d) (hB : w0.heap.size ≤ B) (hs : BoxI W B .i64 3 s) (ha : a < d.size) (hb : b < d.size) (hlen : d.size < 1000) :
    Calls Try.prog 115 #[.slice (some ⟨g, 0, none⟩) n cap, .int .i64 a, .int .i64 b, .pointer (some ⟨B, 0, none⟩)] W fun e w' => ∃ (x y : Nat) (t : Int), e = .returned (.tuple #[.int .i64 x, .int .i64 y]) ∧ ((x = a ∧ y = b) ∨ (x = b ∧ y = a)) ∧ AtB w0 w' g d ∧ BoxI w' B .i64 3 t := by
  subst hn
  have H := Aside0.mk h
  have HBB := Aside0.mk hB
  have HSB := Aside0.mk hs
  have x1 : ((a : Int) < (d.size : Int)) = True := eq_true (by omega)
  have y1 : ((b : Int) < (d.size : Int)) = True := eq_true (by omega)
  have x2 : (a < d.size) = True := eq_true (by omega)
  have y2 : (b < d.size) = True := eq_true (by omega)
  obtain ⟨cx, fx⟩ := h.cell a (by omega)
  obtain ⟨cy, fy⟩ := h.cell b (by omega)
  obtain ⟨cb, fb⟩ := hs.cell
  obtain ⟨u, hu⟩ : ∃ u, d[a]! = u := ⟨_, rfl⟩
  obtain ⟨v, hv⟩ : ∃ v, d[b]! = v := ⟨_, rfl⟩
  rw [hu] at cx
  rw [hv] at cy
  have hc2 : ∀ n, Calls Try.prog 95 #[.int .u8 v, .int .u8 u] (W.drewN n) fun e w' => e = .returned (.bool (decide (v < u))) ∧ ∃ q, w' = (W.drewN n).drewN q := fun n => lessQ _ _ _
  clear h hB hs ha hb hlen hu hv
  by_cases hlt : v < u
  · have c1 : decide (v < u) = true := decide_eq_true hlt
    clear hlt
    go_enter Try.func115, Try.ntmps115
    go_wp2_with fail
    go_quiet (first | (go_at_call 95; refine Calls.quiet_of (hc2 _)))
    have HR := Aside0.mk (H.out.drewN nq)
    have HX := Aside0.mk (HSB.out.drewN nq)
    have cb2 : (W.drewN nq).cell? ⟨B, 0, none⟩ = some (.int .i64 s) := cb
    have fb2 : (W.drewN nq).frozen? ⟨B, 0, none⟩ = false := fb
    clear cx cy cb fx fy fb hc2
    generalize W.drewN nq = wq at HR HX cb2 fb2 ⊢
    rw [c1]
    go_wp2
    go_ret2
    exact ⟨b, a, _, rfl, .inr ⟨rfl, rfl⟩, boxAt HR.out HBB.out _, HX.out.put _⟩
  · have c1 : decide (v < u) = false := decide_eq_false hlt
    clear hlt
    go_enter Try.func115, Try.ntmps115
    go_wp2_with fail
    go_quiet (first | (go_at_call 95; refine Calls.quiet_of (hc2 _)))
    rw [c1]
    go_wp2
    go_ret2
    exact ⟨a, b, s, rfl, .inl ⟨rfl, rfl⟩, H.out.drewN _, HSB.out.drewN _⟩
theorem median (w0 W : World) (g cap n a b c B : Nat) (s : Int) (d : Array Int) (hn : d.size = n) (h : AtB w0 W g d) (hB : w0.heap.size ≤ B) (hs : BoxI W B .i64 3 s) (ha : a < d.size) (hb : b < d.size) (hc : c < d.size) (hlen : d.size < 1000) :
    Calls Try.prog 111 #[.slice (some ⟨g, 0, none⟩) n cap, .int .i64 a, .int .i64 b, .int .i64 c, .pointer (some ⟨B, 0, none⟩)] W fun e w' => ∃ (x : Nat) (t : Int), e = .returned (.int .i64 x) ∧ (x = a ∨ x = b ∨ x = c) ∧ AtB w0 w' g d ∧ BoxI w' B .i64 3 t := by
  go_enter Try.func111, Try.ntmps111
  go_upto_region 2 with (go_at_call 115; refine (order2 w0 _ g cap n a b B s d hn h hB hs ha hb hlen).mono ?_; rintro e w1 ⟨x1, y1, t1, rfl, q1, h1, b1⟩)
  go_upto_region 3 with (go_at_call 115; refine (order2 w0 _ g cap n y1 c B t1 d hn h1 hB b1 (by omega) hc hlen).mono ?_; rintro e w2 ⟨x2, y2, t2, rfl, q2, h2, b2⟩)
  go_upto_region 4 with (go_at_call 115; refine (order2 w0 _ g cap n x1 x2 B t2 d hn h2 hB b2 (by omega) (by omega) hlen).mono ?_; rintro e w3 ⟨x3, y3, t3, rfl, q3, h3, b3⟩)
  go_wp2
  go_ret
  exact ⟨y3, t3, rfl, by omega, h3, b3⟩
theorem medAdj (w0 W : World) (g cap n a B : Nat) (s : Int) (d : Array Int) (hn : d.size = n) (h : AtB w0 W g d) (hB : w0.heap.size ≤ B) (hs : BoxI W B .i64 3 s) (ha : 0 < a) (hb : a + 1 < d.size) (hlen : d.size < 1000) :
    Calls Try.prog 110 #[.slice (some ⟨g, 0, none⟩) n cap, .int .i64 a, .pointer (some ⟨B, 0, none⟩)] W fun e w' => ∃ (x : Nat) (t : Int), e = .returned (.int .i64 x) ∧ (a ≤ x + 1 ∧ x ≤ a + 1) ∧ AtB w0 w' g d ∧ BoxI w' B .i64 3 t := by
  have w1 := both (z := (a : Int) - 1) (n := a - 1) (by omega) (by omega)
  have w2 := both (z := (a : Int) + 1) (n := a + 1) (by omega) (by omega)
  have e1 : a - 1 < d.size := by omega
  have e2 : a < d.size := by omega
  obtain ⟨p, hp⟩ : ∃ p, a - 1 = p := ⟨_, rfl⟩
  obtain ⟨q, hq⟩ : ∃ q, a + 1 = q := ⟨_, rfl⟩
  rw [hp] at w1 e1
  rw [hq] at w2 hb
  have hm := median w0 W g cap n p a q B s d hn h hB hs e1 e2 hb hlen
  have HP := Aside0.mk hp
  have HQ := Aside0.mk hq
  have v1 := w1.1
  have v2 := w2.1
  clear hn h hB hs e1 e2 hb hlen hp hq ha w1 w2
  go_enter Try.func110, Try.ntmps110
  go_wp2_with (go_at_call 111; refine hm.mono ?_; rintro e w1 ⟨x1, t1, rfl, q1, h1, b1⟩)
  go_ret
  exact ⟨x1, t1, rfl, by have := HP.out; have := HQ.out; omega, h1, b1⟩
theorem boxMade {w0 W : World} {g : Nat} {d : Array Int} (h : AtB w0 W g d) (k : IntKind) (e : TypeId) (x : Int) : AtB w0 (W.alloc (.cells #[.int k x] e)) g d ∧ BoxI (W.alloc (.cells #[.int k x] e)) W.heap.size k e x := by
  have q := below_alloc (Below.refl W.heap.size W) (.cells #[.int k x] e)
  refine ⟨h.grown ⟨q.os, q.tape, q.output, q.size, fun i hi => q.block i (Nat.lt_of_lt_of_le hi h.size)⟩ q.size, ?_⟩
  unfold BoxI
  show (W.heap.push _)[W.heap.size]? = _
  exact Array.getElem?_push_size
theorem choose (w0 W : World) (g cap n a b : Nat) (d : Array Int) (hn : d.size = n) (h : AtB w0 W g d) (hab : a + 12 < b) (hb : b ≤ d.size) (hlen : d.size < 1000) :
    Calls Try.prog 92 #[.slice (some ⟨g, 0, none⟩) n cap, .int .i64 a, .int .i64 b] W fun e w' => ∃ (p k : Nat), e = .returned (.tuple #[.int .i64 p, .int .i64 k]) ∧ (a < p ∧ p + 1 < b ∧ k < 3) ∧ AtB w0 w' g d := by
  obtain ⟨l, hl⟩ : ∃ l, b - a = l := ⟨_, rfl⟩
  obtain ⟨q, hq⟩ : ∃ q, l / 4 = q := ⟨_, rfl⟩
  obtain ⟨q2, hq2⟩ : ∃ q2, q * 2 = q2 := ⟨_, rfl⟩
  obtain ⟨q3, hq3⟩ : ∃ q3, q * 3 = q3 := ⟨_, rfl⟩
  obtain ⟨i, hi⟩ : ∃ i, a + q = i := ⟨_, rfl⟩
  obtain ⟨j, hj⟩ : ∃ j, a + q2 = j := ⟨_, rfl⟩
  obtain ⟨k, hk⟩ : ∃ k, a + q3 = k := ⟨_, rfl⟩
  have HALL := Aside0.mk (show b - a = l ∧ l / 4 = q ∧ q * 2 = q2 ∧ q * 3 = q3 ∧ a + q = i ∧ a + q2 = j ∧ a + q3 = k ∧ a + 12 < b ∧ b ≤ d.size from ⟨hl, hq, hq2, hq3, hi, hj, hk, hab, hb⟩)
  have V1 := Aside0.mk (both (z := (b : Int) - (a : Int)) (n := l) (by omega) (by omega)).1
  have V2 := Aside0.mk (both (z := (l : Int) / 4) (n := q) (by omega) (by omega)).1
  have V3 := Aside0.mk (both (z := (q : Int) * 1) (n := q) (by omega) (by omega)).1
  have V4 := Aside0.mk (both (z := (q : Int) * 2) (n := q2) (by omega) (by omega)).1
  have V5 := Aside0.mk (both (z := (q : Int) * 3) (n := q3) (by omega) (by omega)).1
  have V6 := Aside0.mk (both (z := (a : Int) + (q : Int)) (n := i) (by omega) (by omega)).1
  have V7 := Aside0.mk (both (z := (a : Int) + (q2 : Int)) (n := j) (by omega) (by omega)).1
  have V8 := Aside0.mk (both (z := (a : Int) + (q3 : Int)) (n := k) (by omega) (by omega)).1
  have V9 := Aside0.mk (both (z := (q : Int)) (n := q) (by omega) (by omega)).1
  have HN := Aside0.mk hn
  have HL := Aside0.mk hlen
  have h8 : decide (8 ≤ l) = true := decide_eq_true (by omega)
  have h8b : decide ((8 : Int) ≤ (l : Int)) = true := decide_eq_true (by omega)
  have hm := boxMade h .i64 3 0
  have hB := h.size
  clear h hab hb hl hq hq2 hq3 hi hj hk
  have HM := Aside0.mk hm
  have HB0 := Aside0.mk hB
  clear hm hB
  obtain ⟨B, hB⟩ : ∃ B, W.heap.size = B := ⟨_, rfl⟩
  obtain ⟨W1, hW1⟩ : ∃ W1, W.alloc (.cells #[.int .i64 0] 3) = W1 := ⟨_, rfl⟩
  have A0 := Aside0.mk HM.out.1
  have B0 := Aside0.mk HM.out.2
  rw [hB] at HB0 B0
  rw [hW1] at A0 B0
  have HB := HB0
  clear HM HB0
  by_cases h50 : 50 ≤ l
  · have c1 : decide (50 ≤ l) = true := decide_eq_true h50
    have c2 : decide ((50 : Int) ≤ (l : Int)) = true := decide_eq_true (by omega)
    have H50 := Aside0.mk h50
    clear h50 hn hlen
    have v1 := V1.out
    have v2 := V2.out
    have v3 := V3.out
    have v4 := V4.out
    have v5 := V5.out
    have v6 := V6.out
    have v7 := V7.out
    have v8 := V8.out
    have v9 := V9.out
    go_enter Try.func92, Try.ntmps92
    go_upto_region 3 with (fail)
    clear hB hW1
    go_upto_region 9 with (go_at_call 110; (try simp only [v6, v7, v8]); refine (medAdj w0 _ g cap n i B 0 d HN.out A0.out HB.out B0.out (by clear v1 v2 v3 v4 v5 v6 v7 v8 v9; have := HALL.out; have := H50.out; omega) (by clear v1 v2 v3 v4 v5 v6 v7 v8 v9; have := HALL.out; have := H50.out; omega) HL.out).mono ?_; rintro e w1 ⟨x1, t1, rfl, q1, h1, b1⟩; have A1 := Aside0.mk h1; have Q1 := Aside0.mk q1; have B1 := Aside0.mk b1; clear h1 q1 b1)
    go_upto_region 10 with (go_at_call 110; (try simp only [v6, v7, v8]); refine (medAdj w0 _ g cap n j B t1 d HN.out A1.out HB.out B1.out (by clear v1 v2 v3 v4 v5 v6 v7 v8 v9; have := HALL.out; have := H50.out; omega) (by clear v1 v2 v3 v4 v5 v6 v7 v8 v9; have := HALL.out; have := H50.out; omega) HL.out).mono ?_; rintro e w2 ⟨x2, t2, rfl, q2, h2, b2⟩; have A2 := Aside0.mk h2; have Q2 := Aside0.mk q2; have B2 := Aside0.mk b2; clear h2 q2 b2)
    go_upto_region 11 with (go_at_call 110; (try simp only [v6, v7, v8]); refine (medAdj w0 _ g cap n k B t2 d HN.out A2.out HB.out B2.out (by clear v1 v2 v3 v4 v5 v6 v7 v8 v9; have := HALL.out; have := H50.out; omega) (by clear v1 v2 v3 v4 v5 v6 v7 v8 v9; have := HALL.out; have := H50.out; omega) HL.out).mono ?_; rintro e w3 ⟨x3, t3, rfl, q3, h3, b3⟩; have A3 := Aside0.mk h3; have Q3 := Aside0.mk q3; have B3 := Aside0.mk b3; clear h3 q3 b3)
    have Q0 := Aside0.mk (And.intro Q1.out (And.intro Q2.out Q3.out))
    go_wp2_with (go_at_call 111; (try simp only [v6, v7, v8]); refine (median w0 _ g cap n x1 x2 x3 B t3 d HN.out A3.out HB.out B3.out (by clear v1 v2 v3 v4 v5 v6 v7 v8 v9; have := HALL.out; have := HL.out; have := Q0.out; omega) (by clear v1 v2 v3 v4 v5 v6 v7 v8 v9; have := HALL.out; have := HL.out; have := Q0.out; omega) (by clear v1 v2 v3 v4 v5 v6 v7 v8 v9; have := HALL.out; have := HL.out; have := Q0.out; omega) HL.out).mono ?_; rintro e w4 ⟨x4, t4, rfl, q4, h4, b4⟩; have A4 := Aside0.mk h4; have Q4 := Aside0.mk q4; have cb := b4.cell.1; clear h4 q4 b4)
    all_goals go_ret2
    · clear v1 v2 v3 v4 v5 v6 v7 v8 v9; exact ⟨x4, 1, rfl, by have := HALL.out; have := Q0.out; have := Q4.out; have := H50.out; omega, A4.out⟩
    · clear v1 v2 v3 v4 v5 v6 v7 v8 v9; exact ⟨x4, 2, rfl, by have := HALL.out; have := Q0.out; have := Q4.out; have := H50.out; omega, A4.out⟩
    · clear v1 v2 v3 v4 v5 v6 v7 v8 v9; exact ⟨x4, 0, rfl, by have := HALL.out; have := Q0.out; have := Q4.out; have := H50.out; omega, A4.out⟩
  · have c1 : decide (50 ≤ l) = false := decide_eq_false h50
    have c2 : decide ((50 : Int) ≤ (l : Int)) = false := decide_eq_false (by omega)
    have H50 := Aside0.mk h50
    have Q0 := Aside0.mk trivial
    clear h50 hn hlen
    have v1 := V1.out
    have v2 := V2.out
    have v3 := V3.out
    have v4 := V4.out
    have v5 := V5.out
    have v6 := V6.out
    have v7 := V7.out
    have v8 := V8.out
    have v9 := V9.out
    go_enter Try.func92, Try.ntmps92
    go_upto_region 3 with (fail)
    clear hB hW1
    go_wp2_with (go_at_call 111; (try simp only [v6, v7, v8]); refine (median w0 _ g cap n i j k B 0 d HN.out A0.out HB.out B0.out (by clear v1 v2 v3 v4 v5 v6 v7 v8 v9; have := HALL.out; have := HL.out; have := Q0.out; omega) (by clear v1 v2 v3 v4 v5 v6 v7 v8 v9; have := HALL.out; have := HL.out; have := Q0.out; omega) (by clear v1 v2 v3 v4 v5 v6 v7 v8 v9; have := HALL.out; have := HL.out; have := Q0.out; omega) HL.out).mono ?_; rintro e w4 ⟨x4, t4, rfl, q4, h4, b4⟩; have A4 := Aside0.mk h4; have Q4 := Aside0.mk q4; have cb := b4.cell.1; clear h4 q4 b4)
    all_goals go_ret2
    · clear v1 v2 v3 v4 v5 v6 v7 v8 v9; exact ⟨x4, 1, rfl, by have := HALL.out; have := Q0.out; have := Q4.out; have := H50.out; omega, A4.out⟩
    · clear v1 v2 v3 v4 v5 v6 v7 v8 v9; exact ⟨x4, 2, rfl, by have := HALL.out; have := Q0.out; have := Q4.out; have := H50.out; omega, A4.out⟩
    · clear v1 v2 v3 v4 v5 v6 v7 v8 v9; exact ⟨x4, 0, rfl, by have := HALL.out; have := Q0.out; have := Q4.out; have := H50.out; omega, A4.out⟩
end Go.Proofs.Ythhcgepofldgaaa.PByteH
