/- A law's functions as plain Lean functions, each with the walk that shows that the code computes it: written by this session's program wip/tools/ppmake.py. -/
import Derived.Test.YtbloniemhkfnlaaKZ
import Derived.Test.YtbloniemhkfnlaaPFnSpacedx0
namespace Go.Proofs.Ytbloniemhkfnlaa.PFnSpaced
open Go.RowKit Go.Proofs.YtbloniemhkfnlaaW.PrintWords Go.Proofs.YtbloniemhkfnlaaW.PrintLast Go.Proofs.YtbloniemhkfnlaaW.PrintMore
attribute [local go_sem] max2_int min2_int max_two min_two max_three min_three max_four min_four   -- for this text's walks alone
set_option linter.unusedVariables false
set_option linter.unusedSimpArgs false

/-! ### spec_l1In: function 69 -/
def spec_l1In.f (a0 : Int) (a1 : Int) (a2 : Int) : Option (Bool) := if a0 ≥ a1 then (some (decide (a0 ≤ a2))) else (some false)
set_option maxHeartbeats 8000000 in
set_option maxRecDepth 100000 in
theorem spec_l1In.calls (a0 : Int) (a1 : Int) (a2 : Int) (r : Bool) (w : World) (h : spec_l1In.f a0 a1 a2 = some r) :
  Calls Try.prog 69 #[.int .i64 a0, .int .i64 a1, .int .i64 a2] w fun e w' => e = .returned (.bool r) ∧ Drawn0 w w' := by
 have H : (if a0 ≥ a1 then (some (decide (a0 ≤ a2))) else (some false)) = some r := h; clear h
 by_cases c4 : a0 ≥ a1
 ·rw [if_pos c4] at H; have c4b0 : decide (a1 ≤ a0) = true := decide_eq_true c4; clear c4; obtain rfl := Option.some.inj H
  go_enter Try.func69, Try.ntmps69
  go_wp2
  go_ret
  exact ⟨by first | rfl | (simp; done) | (simp [*]; done), by repeat (first | exact Drawn0.refl _ | apply Drawn0.step)⟩
 ·rw [if_neg c4] at H; have c4b0 : decide (a1 ≤ a0) = false := decide_eq_false c4; clear c4; obtain rfl := Option.some.inj H
  go_enter Try.func69, Try.ntmps69
  go_wp2
  go_ret
  exact ⟨by first | rfl | (simp; done) | (simp [*]; done), by repeat (first | exact Drawn0.refl _ | apply Drawn0.step)⟩

/-! ### spec_l8T: function 36 -/
def spec_l8T.f (a0 : Int) : Option (Bool) := (spec_l1In.f a0 1 4).bind fun t101 => (some t101)
set_option maxHeartbeats 8000000 in
set_option maxRecDepth 100000 in
theorem spec_l8T.calls (a0 : Int) (r : Bool) (w : World) (h : spec_l8T.f a0 = some r) :
  Calls Try.prog 36 #[.int .i64 a0] w fun e w' => e = .returned (.bool r) ∧ Drawn0 w w' := by
 have H : ((spec_l1In.f a0 1 4).bind fun t101 => (some t101)) = some r := h; clear h; obtain ⟨t101, A2, H⟩ := bi_ H; obtain rfl := Option.some.inj H
 go_enter Try.func36, Try.ntmps36
 go_wp2_with (first | ((with_reducible refine gate_callee (f := 69) rfl ?_); refine goL_ (some 4) Try.func69 #[.int .i64 a0, .int .i64 1, .int .i64 4] ?_; (with_reducible refine (spec_l1In.calls a0 1 4 t101 _ A2.out).mono ?_); rintro e w' ⟨rfl, ⟨nd, rfl⟩⟩; refine ⟨_, rfl, ?_⟩))
 go_ret
 exact ⟨by first | rfl | (simp; done) | (simp [*]; done), by repeat (first | exact Drawn0.refl _ | apply Drawn0.step)⟩

/-! ### spec_l8Fits: function 40 -/
def spec_l8Fits.f (l0 : List Int) (a1 : Int) : Option (Bool) := (spec_l8T.f a1).bind fun t102 => (if t102 = true then ((spec_l1In.f (l0.length : Int) (wrap64 ((wrap64 (2 * a1)) + 1)) 24).bind fun t103 => (some t103)) else (some false))
set_option maxHeartbeats 8000000 in
set_option maxRecDepth 100000 in
theorem spec_l8Fits.calls (A0 : Option Addr) (c0 : Nat) (l0 : List Int) (a1 : Int) (r : Bool) (w : World) (hr0 : Kd.C (Kd.int .u8) w A0 l0.length l0) (hc0 : l0.length ≤ c0) (h : spec_l8Fits.f l0 a1 = some r) :
  Calls Try.prog 40 #[.slice A0 l0.length c0, .int .i64 a1] w fun e w' => e = .returned (.bool r) ∧ Drawn0 w w' := by
 have HR0 := am hr0; have HC0 := am hc0; clear hr0 hc0; have H : ((spec_l8T.f a1).bind fun t102 => (if t102 = true then ((spec_l1In.f (l0.length : Int) (wrap64 ((wrap64 (2 * a1)) + 1)) 24).bind fun t103 => (some t103)) else (some false))) = some r := h; clear h; obtain ⟨t102, A3, H⟩ := bi_ H
 by_cases c4 : t102 = true
 ·subst c4
  have H1 : ((spec_l1In.f (l0.length : Int) (wrap64 ((wrap64 (2 * a1)) + 1)) 24).bind fun t103 => (some t103)) = some r := by rw [if_pos rfl] at H; exact H
  clear H; have H := H1; clear H1; obtain ⟨t103, A5, H⟩ := bi_ H; obtain rfl := Option.some.inj H
  go_enter Try.func40, Try.ntmps40
  go_wp2_with (first | ((with_reducible refine gate_callee (f := 36) rfl ?_); refine goL_ (some 6) Try.func36 #[.int .i64 a1] ?_; (with_reducible refine (spec_l8T.calls a1 true _ A3.out).mono ?_); rintro e w' ⟨rfl, ⟨nd, rfl⟩⟩; refine ⟨_, rfl, ?_⟩) | (go_at_call 69; (with_reducible refine (spec_l1In.calls (l0.length : Int) (wrap64 ((wrap64 (2 * a1)) + 1)) 24 t103 _ A5.out).mono ?_); rintro e w' ⟨rfl, ⟨nd, rfl⟩⟩))
  go_ret
  exact ⟨by first | rfl | (simp; done) | (simp [*]; done), by repeat (first | exact Drawn0.refl _ | apply Drawn0.step)⟩
 ·replace c4 := Bool.eq_false_iff.mpr c4
  subst c4
  have H1 : (some false) = some r := by rw [if_neg (show ¬ (false = true) by decide)] at H; exact H
  clear H; have H := H1; clear H1; obtain rfl := Option.some.inj H
  go_enter Try.func40, Try.ntmps40
  go_wp2_with (first | ((with_reducible refine gate_callee (f := 36) rfl ?_); refine goL_ (some 6) Try.func36 #[.int .i64 a1] ?_; (with_reducible refine (spec_l8T.calls a1 false _ A3.out).mono ?_); rintro e w' ⟨rfl, ⟨nd, rfl⟩⟩; refine ⟨_, rfl, ?_⟩))
  go_ret
  exact ⟨by first | rfl | (simp; done) | (simp [*]; done), by repeat (first | exact Drawn0.refl _ | apply Drawn0.step)⟩

/-! ### spec_l1Times: function 72 -/
def spec_l1Times.l0 : Nat → Int → Int → Int → Option (Int)
 | 0, _, _, _ => none
 | k + 1, x5, x6, x7 => if x7 > 0 then (if (Go.bits .and .i64 x7 1) = 1 then (if (wrap64 (x6 * 2)) > 255 then (spec_l1Times.l0 k (Go.bits .xor .i64 x5 x6) (Go.bits .xor .i64 (wrap64 (x6 * 2)) 283) (x7 / 2)) else (spec_l1Times.l0 k (Go.bits .xor .i64 x5 x6) (wrap64 (x6 * 2)) (x7 / 2))) else (if (wrap64 (x6 * 2)) > 255 then (spec_l1Times.l0 k x5 (Go.bits .xor .i64 (wrap64 (x6 * 2)) 283) (x7 / 2)) else (spec_l1Times.l0 k x5 (wrap64 (x6 * 2)) (x7 / 2)))) else (some ((x5) % 256))
def spec_l1Times.f (k : Nat) (a0 : Int) (a1 : Int) : Option (Int) := spec_l1Times.l0 k 0 (wrap64 (a0)) (wrap64 (a1))
theorem spec_l1Times.mono_l : ∀ k, (∀ y0 y1 y2, LeO (spec_l1Times.l0 k y0 y1 y2) (spec_l1Times.l0 (k + 1) y0 y1 y2))
 | 0 => fun _ _ _ r h => by simp [spec_l1Times.l0] at h
 | k + 1 => by
  have ih0 := spec_l1Times.mono_l k
  ·intro y0 y1 y2
   unfold spec_l1Times.l0
   repeat' first | apply LeO.refl | apply LeO.none | apply LeO.ite | apply ih0 | (refine LeO.bind ?_ (fun _ => ?_))
theorem spec_l1Times.mono : ∀ a0 a1 k, LeO (spec_l1Times.f k a0 a1) (spec_l1Times.f (k + 1) a0 a1) := by
 intro a0 a1 k; have ih0 := spec_l1Times.mono_l k
 unfold spec_l1Times.f
 repeat' first | apply LeO.refl | apply LeO.none | apply LeO.ite | apply ih0 | (refine LeO.bind ?_ (fun _ => ?_))
set_option maxHeartbeats 8000000 in
set_option maxRecDepth 100000 in
theorem spec_l1Times.calls (k : Nat) (a0 : Int) (a1 : Int) (r : Int) (w : World) (h : spec_l1Times.f k a0 a1 = some r) :
  Calls Try.prog 72 #[.int .u8 a0, .int .u8 a1] w fun e w' => e = .returned (.int .u8 r) ∧ Drawn0 w w' := by
 have H : (spec_l1Times.l0 k 0 (wrap64 (a0)) (wrap64 (a1))) = some r := h; clear h; have H' := am H; clear H
 go_enter Try.func72, Try.ntmps72
 go_wp2
 go_loopg [5, 6, 7] k (fun kq v5 v6 v7 w' => ∃ (x5_1 : Int) (x6_1 : Int) (x7_1 : Int), v5 = .int .i64 x5_1 ∧ v6 = .int .i64 x6_1 ∧ v7 = .int .i64 x7_1 ∧ Aside0 (spec_l1Times.l0 kq x5_1 x6_1 x7_1 = some r) ∧ Aside0 (kq ≤ k) ∧ Drawn0 w w')
 case atStart => exact ⟨(0), (wrap64 (a0)), (wrap64 (a1)), rfl, rfl, rfl, H', ⟨Nat.le_refl _⟩, by repeat (first | exact Drawn0.refl _ | apply Drawn0.step)⟩
 case round =>
  clear H'; obtain ⟨x5_1, x6_1, x7_1, rfl, rfl, rfl, HA, HK1, ⟨m1, rfl⟩⟩ := hrel
  cases gk with
  | zero => exact absurd HA.out (by simp [spec_l1Times.l0])
  | succ k1 =>
   have H := HA.out; clear HA
   simp only [spec_l1Times.l0] at H
   by_cases c3 : x7_1 > 0
   ·rw [if_pos c3] at H; have c3b0 : decide (0 < x7_1) = true := decide_eq_true c3; clear c3
    by_cases c4 : (Go.bits .and .i64 x7_1 1) = 1
    ·rw [if_pos c4] at H; have c4b0 : ((Go.bits .and .i64 x7_1 1) == 1) = true := beq_iff_eq.mpr c4; have c4b1 : ((Go.bits .and .i64 x7_1 1) != 1) = false := bne_eq_false_iff_eq.mpr c4; clear c4
     by_cases c5 : (wrap64 (x6_1 * 2)) > 255
     ·rw [if_pos c5] at H; have c5b0 : decide (255 < (wrap64 (x6_1 * 2))) = true := decide_eq_true c5; clear c5; have H' := am H; clear H
      go_wp2
      go_roundg k1
      case measure => have := HK1.out; omega
      case rel => exact ⟨(Go.bits .xor .i64 x5_1 x6_1), (Go.bits .xor .i64 (wrap64 (x6_1 * 2)) 283), (x7_1 / 2), rfl, rfl, rfl, H', ⟨by have := HK1.out; omega⟩, by repeat (first | exact Drawn0.refl _ | apply Drawn0.step)⟩
     ·rw [if_neg c5] at H; have c5b0 : decide (255 < (wrap64 (x6_1 * 2))) = false := decide_eq_false c5; clear c5; have H' := am H; clear H
      go_wp2
      go_roundg k1
      case measure => have := HK1.out; omega
      case rel => exact ⟨(Go.bits .xor .i64 x5_1 x6_1), (wrap64 (x6_1 * 2)), (x7_1 / 2), rfl, rfl, rfl, H', ⟨by have := HK1.out; omega⟩, by repeat (first | exact Drawn0.refl _ | apply Drawn0.step)⟩
    ·rw [if_neg c4] at H; have c4b0 : ((Go.bits .and .i64 x7_1 1) == 1) = false := beq_eq_false_iff_ne.mpr c4; have c4b1 : ((Go.bits .and .i64 x7_1 1) != 1) = true := bne_iff_ne.mpr c4
     by_cases c6 : (wrap64 (x6_1 * 2)) > 255
     ·rw [if_pos c6] at H; have c6b0 : decide (255 < (wrap64 (x6_1 * 2))) = true := decide_eq_true c6; clear c6; have H' := am H; clear H
      go_wp2
      go_roundg k1
      case measure => have := HK1.out; omega
      case rel => exact ⟨(x5_1), (Go.bits .xor .i64 (wrap64 (x6_1 * 2)) 283), (x7_1 / 2), rfl, rfl, rfl, H', ⟨by have := HK1.out; omega⟩, by repeat (first | exact Drawn0.refl _ | apply Drawn0.step)⟩
     ·rw [if_neg c6] at H; have c6b0 : decide (255 < (wrap64 (x6_1 * 2))) = false := decide_eq_false c6; clear c6; have H' := am H; clear H
      go_wp2
      go_roundg k1
      case measure => have := HK1.out; omega
      case rel => exact ⟨(x5_1), (wrap64 (x6_1 * 2)), (x7_1 / 2), rfl, rfl, rfl, H', ⟨by have := HK1.out; omega⟩, by repeat (first | exact Drawn0.refl _ | apply Drawn0.step)⟩
   ·rw [if_neg c3] at H; have c3b0 : decide (0 < x7_1) = false := decide_eq_false c3; clear c3; obtain rfl := Option.some.inj H
    go_wp2
    go_ret
    exact ⟨by first | rfl | (simp; done) | (simp [*]; done), by repeat (first | exact Drawn0.refl _ | apply Drawn0.step)⟩

/-! ### spec_l7At: function 52 -/
def spec_l7At.l0 : Nat → List Int → Int → Int → Int → Option (Int)
 | 0, _, _, _, _ => none
 | k + 1, x0, x1, x5, x6 => if x6 ≥ 0 then ((spec_l1Times.f k x5 x1).bind fun t104 => (if 0 ≤ x6 then (if x6 < (x0.length : Int) then (spec_l7At.l0 k x0 x1 (Go.bits .xor .u8 t104 (rd x0 x6)) (wrap64 (x6 - 1))) else (none)) else (none))) else (some x5)
def spec_l7At.f (k : Nat) (l0 : List Int) (a1 : Int) : Option (Int) := spec_l7At.l0 k l0 a1 0 (wrap64 ((l0.length : Int) - 1))
theorem spec_l7At.mono_l : ∀ k, (∀ y0 y1 y2 y3, LeO (spec_l7At.l0 k y0 y1 y2 y3) (spec_l7At.l0 (k + 1) y0 y1 y2 y3))
 | 0 => fun _ _ _ _ r h => by simp [spec_l7At.l0] at h
 | k + 1 => by
  have ih0 := spec_l7At.mono_l k
  ·intro y0 y1 y2 y3
   unfold spec_l7At.l0
   repeat' first | apply LeO.refl | apply LeO.none | apply LeO.ite | apply ih0 | apply spec_l1Times.mono | (refine LeO.bind ?_ (fun _ => ?_))
theorem spec_l7At.mono : ∀ a0 a1 k, LeO (spec_l7At.f k a0 a1) (spec_l7At.f (k + 1) a0 a1) := by
 intro a0 a1 k; have ih0 := spec_l7At.mono_l k
 unfold spec_l7At.f
 repeat' first | apply LeO.refl | apply LeO.none | apply LeO.ite | apply ih0 | apply spec_l1Times.mono | (refine LeO.bind ?_ (fun _ => ?_))
set_option maxHeartbeats 8000000 in
set_option maxRecDepth 100000 in
theorem spec_l7At.calls (k : Nat) (A0 : Option Addr) (c0 : Nat) (l0 : List Int) (a1 : Int) (r : Int) (w : World) (hr0 : Kd.C (Kd.int .u8) w A0 l0.length l0) (hc0 : l0.length ≤ c0) (h : spec_l7At.f k l0 a1 = some r) :
  Calls Try.prog 52 #[.slice A0 l0.length c0, .int .u8 a1] w fun e w' => e = .returned (.int .u8 r) ∧ Drawn0 w w' := by
 have HR0 := am hr0; have HC0 := am hc0; clear hr0 hc0; have H : (spec_l7At.l0 k l0 a1 0 (wrap64 ((l0.length : Int) - 1))) = some r := h; clear h; have H' := am H; clear H
 go_enter Try.func52, Try.ntmps52
 go_wp2
 repeat (go_quiet (fail); try go_wp2)
 go_loopg [5, 6] k (fun kq v5 v6 w' => ∃ (x5_1 : Int) (x6_1 : Int), v5 = .int .u8 x5_1 ∧ v6 = .int .i64 x6_1 ∧ Aside0 (spec_l7At.l0 kq l0 a1 x5_1 x6_1 = some r) ∧ Aside0 (kq ≤ k) ∧ Drawn0 w w')
 case atStart => exact ⟨(0), (wrap64 ((l0.length : Int) - 1)), rfl, rfl, H', ⟨Nat.le_refl _⟩, by repeat (first | exact Drawn0.refl _ | apply Drawn0.step)⟩
 case round =>
  clear H'; obtain ⟨x5_1, x6_1, rfl, rfl, HA, HK1, ⟨m1, rfl⟩⟩ := hrel
  cases gk with
  | zero => exact absurd HA.out (by simp [spec_l7At.l0])
  | succ k1 =>
   have H := HA.out; clear HA
   simp only [spec_l7At.l0] at H
   by_cases c3 : x6_1 ≥ 0
   ·rw [if_pos c3] at H; have c3b0 : decide (0 ≤ x6_1) = true := decide_eq_true c3; clear c3; obtain ⟨t104, A4, H⟩ := bi_ H
    obtain ⟨c5, H⟩ := it_ H; have c5b0 := decide_eq_true c5; clear c5
    obtain ⟨c6, H⟩ := it_ H; have c6b0 := decide_eq_true c6; clear c6; have H' := am H; clear H
    go_wp2_with (first | (go_at_call 72; (with_reducible refine (spec_l1Times.calls k1 x5_1 a1 t104 _ A4.out).mono ?_); rintro e w' ⟨rfl, ⟨nd, rfl⟩⟩; (try first | exact ⟨rfl, _, World.drewN_drewN _ _ _⟩ | exact ⟨rfl, _, Eq.trans (World.drewN_drewN _ _ _) (congrArg (World.drewN _) (Nat.add_assoc _ _ _))⟩); have p105 : 0 ≤ (x6_1 : Int) := od_; have q105 : x6_1 < (l0.length : Int) := od_; obtain ⟨ad105, e105, hx105_0⟩ := Kd.at_int HR0.out x6_1 p105 q105; cases e105; replace p105 := eq_true p105; replace q105 := eq_true q105))
    repeat (go_quiet (first | (go_at_call 72; (with_reducible refine (spec_l1Times.calls k1 x5_1 a1 t104 _ A4.out).mono ?_); rintro e w' ⟨rfl, ⟨nd, rfl⟩⟩; (try first | exact ⟨rfl, _, World.drewN_drewN _ _ _⟩ | exact ⟨rfl, _, Eq.trans (World.drewN_drewN _ _ _) (congrArg (World.drewN _) (Nat.add_assoc _ _ _))⟩); have p105 : 0 ≤ (x6_1 : Int) := od_; have q105 : x6_1 < (l0.length : Int) := od_; obtain ⟨ad105, e105, hx105_0⟩ := Kd.at_int HR0.out x6_1 p105 q105; cases e105; replace p105 := eq_true p105; replace q105 := eq_true q105)); try go_wp2_with (first | (go_at_call 72; (with_reducible refine (spec_l1Times.calls k1 x5_1 a1 t104 _ A4.out).mono ?_); rintro e w' ⟨rfl, ⟨nd, rfl⟩⟩; (try first | exact ⟨rfl, _, World.drewN_drewN _ _ _⟩ | exact ⟨rfl, _, Eq.trans (World.drewN_drewN _ _ _) (congrArg (World.drewN _) (Nat.add_assoc _ _ _))⟩); have p105 : 0 ≤ (x6_1 : Int) := od_; have q105 : x6_1 < (l0.length : Int) := od_; obtain ⟨ad105, e105, hx105_0⟩ := Kd.at_int HR0.out x6_1 p105 q105; cases e105; replace p105 := eq_true p105; replace q105 := eq_true q105)))
    go_roundg k1
    case measure => have := HK1.out; omega
    case rel => exact ⟨(Go.bits .xor .u8 t104 (rd l0 x6_1)), (wrap64 (x6_1 - 1)), rfl, rfl, H', ⟨by have := HK1.out; omega⟩, by repeat (first | exact Drawn0.refl _ | apply Drawn0.step)⟩
   ·rw [if_neg c3] at H; have c3b0 : decide (0 ≤ x6_1) = false := decide_eq_false c3; clear c3; obtain rfl := Option.some.inj H
    go_wp2
    repeat (go_quiet (fail); try go_wp2)
    go_ret
    exact ⟨by first | rfl | (simp; done) | (simp [*]; done), by repeat (first | exact Drawn0.refl _ | apply Drawn0.step)⟩

/-! ### spec_l1Power: function 54 -/
def spec_l1Power.l0 : Nat → Int → Int → Int → Option (Int)
 | 0, _, _, _ => none
 | k + 1, x0, x1, x5 => if x1 > 0 then ((spec_l1Times.f k x5 x0).bind fun t106 => (spec_l1Power.l0 k x0 (wrap64 (x1 - 1)) t106)) else (some x5)
def spec_l1Power.f (k : Nat) (a0 : Int) (a1 : Int) : Option (Int) := spec_l1Power.l0 k a0 a1 1
theorem spec_l1Power.mono_l : ∀ k, (∀ y0 y1 y2, LeO (spec_l1Power.l0 k y0 y1 y2) (spec_l1Power.l0 (k + 1) y0 y1 y2))
 | 0 => fun _ _ _ r h => by simp [spec_l1Power.l0] at h
 | k + 1 => by
  have ih0 := spec_l1Power.mono_l k
  ·intro y0 y1 y2
   unfold spec_l1Power.l0
   repeat' first | apply LeO.refl | apply LeO.none | apply LeO.ite | apply ih0 | apply spec_l1Times.mono | (refine LeO.bind ?_ (fun _ => ?_))
theorem spec_l1Power.mono : ∀ a0 a1 k, LeO (spec_l1Power.f k a0 a1) (spec_l1Power.f (k + 1) a0 a1) := by
 intro a0 a1 k; have ih0 := spec_l1Power.mono_l k
 unfold spec_l1Power.f
 repeat' first | apply LeO.refl | apply LeO.none | apply LeO.ite | apply ih0 | apply spec_l1Times.mono | (refine LeO.bind ?_ (fun _ => ?_))
set_option maxHeartbeats 8000000 in
set_option maxRecDepth 100000 in
theorem spec_l1Power.calls (k : Nat) (a0 : Int) (a1 : Int) (r : Int) (w : World) (h : spec_l1Power.f k a0 a1 = some r) :
  Calls Try.prog 54 #[.int .u8 a0, .int .i64 a1] w fun e w' => e = .returned (.int .u8 r) ∧ Drawn0 w w' := by
 have H : (spec_l1Power.l0 k a0 a1 1) = some r := h; clear h; have H' := am H; clear H
 go_enter Try.func54, Try.ntmps54
 go_wp2
 go_loopg [1, 5] k (fun kq v1 v5 w' => ∃ (x1_1 : Int) (x5_1 : Int), v1 = .int .i64 x1_1 ∧ v5 = .int .u8 x5_1 ∧ Aside0 (spec_l1Power.l0 kq a0 x1_1 x5_1 = some r) ∧ Aside0 (kq ≤ k) ∧ Drawn0 w w')
 case atStart => exact ⟨(a1), (1), rfl, rfl, H', ⟨Nat.le_refl _⟩, by repeat (first | exact Drawn0.refl _ | apply Drawn0.step)⟩
 case round =>
  clear H'; obtain ⟨x1_1, x5_1, rfl, rfl, HA, HK1, ⟨m1, rfl⟩⟩ := hrel
  cases gk with
  | zero => exact absurd HA.out (by simp [spec_l1Power.l0])
  | succ k1 =>
   have H := HA.out; clear HA
   simp only [spec_l1Power.l0] at H
   by_cases c3 : x1_1 > 0
   ·rw [if_pos c3] at H; have c3b0 : decide (0 < x1_1) = true := decide_eq_true c3; clear c3; obtain ⟨t106, A4, H⟩ := bi_ H; have H' := am H; clear H
    go_wp2_with (first | ((with_reducible refine gate_callee (f := 72) rfl ?_); refine goL_ (some 12) Try.func72 #[.int .u8 x5_1, .int .u8 a0] ?_; (with_reducible refine (spec_l1Times.calls k1 x5_1 a0 t106 _ A4.out).mono ?_); rintro e w' ⟨rfl, ⟨nd, rfl⟩⟩; refine ⟨_, rfl, ?_⟩))
    go_roundg k1
    case measure => have := HK1.out; omega
    case rel => exact ⟨(wrap64 (x1_1 - 1)), (t106), rfl, rfl, H', ⟨by have := HK1.out; omega⟩, by repeat (first | exact Drawn0.refl _ | apply Drawn0.step)⟩
   ·rw [if_neg c3] at H; have c3b0 : decide (0 < x1_1) = false := decide_eq_false c3; clear c3; obtain rfl := Option.some.inj H
    go_wp2
    go_ret
    exact ⟨by first | rfl | (simp; done) | (simp [*]; done), by repeat (first | exact Drawn0.refl _ | apply Drawn0.step)⟩

/-! ### spec_l8Syndromes: function 41 -/
def spec_l8Syndromes.l0 : Nat → List Int → Int → List Int → Int → Option (List Int)
 | 0, _, _, _, _ => none
 | k + 1, x0, x1, x5, x6 => if x6 ≤ (wrap64 (2 * x1)) then ((spec_l1Power.f k 3 x6).bind fun t107 => ((spec_l7At.f k x0 t107).bind fun t108 => (if x5.length < 140737488355328 then (spec_l8Syndromes.l0 k x0 x1 (x5 ++ [t108]) (wrap64 (x6 + 1))) else (none)))) else (some x5)
def spec_l8Syndromes.f (k : Nat) (l0 : List Int) (a1 : Int) : Option (List Int) := spec_l8Syndromes.l0 k l0 a1 ([] : List Int) 1
theorem spec_l8Syndromes.mono_l : ∀ k, (∀ y0 y1 y2 y3, LeO (spec_l8Syndromes.l0 k y0 y1 y2 y3) (spec_l8Syndromes.l0 (k + 1) y0 y1 y2 y3))
 | 0 => fun _ _ _ _ r h => by simp [spec_l8Syndromes.l0] at h
 | k + 1 => by
  have ih0 := spec_l8Syndromes.mono_l k
  ·intro y0 y1 y2 y3
   unfold spec_l8Syndromes.l0
   repeat' first | apply LeO.refl | apply LeO.none | apply LeO.ite | apply ih0 | apply spec_l1Power.mono | apply spec_l7At.mono | (refine LeO.bind ?_ (fun _ => ?_))
theorem spec_l8Syndromes.mono : ∀ a0 a1 k, LeO (spec_l8Syndromes.f k a0 a1) (spec_l8Syndromes.f (k + 1) a0 a1) := by
 intro a0 a1 k; have ih0 := spec_l8Syndromes.mono_l k
 unfold spec_l8Syndromes.f
 repeat' first | apply LeO.refl | apply LeO.none | apply LeO.ite | apply ih0 | apply spec_l1Power.mono | apply spec_l7At.mono | (refine LeO.bind ?_ (fun _ => ?_))
set_option maxHeartbeats 8000000 in
set_option maxRecDepth 100000 in
theorem spec_l8Syndromes.calls (k : Nat) (A0 : Option Addr) (c0 : Nat) (l0 : List Int) (a1 : Int) (r : List Int) (w : World) (hr0 : Kd.C (Kd.int .u8) w A0 l0.length l0) (hc0 : l0.length ≤ c0) (h : spec_l8Syndromes.f k l0 a1 = some r) :
  Calls Try.prog 41 #[.slice A0 l0.length c0, .int .i64 a1] w fun e w' => ∃ v0_ : Value, e = .returned (v0_) ∧ Kd.R (Kd.int .u8) 5 w' w.heap.size (fun _ => True) v0_ r ∧ Below w.heap.size w w' := by
 have HR0 := am hr0; have HC0 := am hc0; clear hr0 hc0; have HB := am (Below.refl w.heap.size w); have H : (spec_l8Syndromes.l0 k l0 a1 ([] : List Int) 1) = some r := h; clear h; have H' := am H; clear H
 go_enter Try.func41, Try.ntmps41
 go_wp2
 go_loopg [5, 6] k (fun kq v5 v6 w' => ∃ (x5_1 : List Int) (x6_1 : Int), v6 = .int .i64 x6_1 ∧ Aside0 (spec_l8Syndromes.l0 kq l0 a1 x5_1 x6_1 = some r) ∧ Aside0 (kq ≤ k) ∧ Aside0 (Kd.R (Kd.int .u8) 5 w' w.heap.size (fun _ => True) v5 x5_1) ∧ Aside0 (Below w.heap.size w w'))
 case atStart => exact ⟨(([] : List Int)), (1), rfl, H', ⟨Nat.le_refl _⟩, ⟨by first | apply Kd.R_nil | apply Kd.N_nil | apply Kd.V_nil | apply Kd.Q_nil | apply Kd.S_nil⟩, ⟨zB HB.out⟩⟩
 case round =>
  clear H'; obtain ⟨x5_1, x6_1, rfl, HA, HK1, HO_5, HB⟩ := hrel
  cases gk with
  | zero => exact absurd HA.out (by simp [spec_l8Syndromes.l0])
  | succ k1 =>
   have H := HA.out; clear HA
   simp only [spec_l8Syndromes.l0] at H
   by_cases c3 : x6_1 ≤ (wrap64 (2 * a1))
   ·rw [if_pos c3] at H; have c3b0 := decide_eq_true c3; clear c3; obtain ⟨t107, A4, H⟩ := bi_ H; obtain ⟨t108, A5, H⟩ := bi_ H
    obtain ⟨c6, H⟩ := it_ H; have LMc6 := am c6; clear c6; obtain ⟨y109, hy109⟩ : ∃ y_ : List Int, y_ = (x5_1 ++ [t108]) := ⟨_, rfl⟩
    replace H : (spec_l8Syndromes.l0 k1 l0 a1 y109 (wrap64 (x6_1 + 1))) = some r := by first | (rw [hy109]; exact H) | (have H2_ := (Option.bind_some _ _).symm.trans H; first | exact H2_ | (rw [hy109]; exact H2_)) | exact H
    have Ny109 := am hy109; clear hy109; have H' := am H; clear H
    go_wp2_with (first | ((with_reducible refine gate_callee (f := 54) rfl ?_); refine goL_ (some 16) Try.func54 #[.int .u8 3, .int .i64 x6_1] ?_; (with_reducible refine (spec_l1Power.calls k1 3 x6_1 t107 _ A4.out).mono ?_); rintro e w' ⟨rfl, ⟨nd, rfl⟩⟩; refine ⟨_, rfl, ?_⟩) | ((with_reducible refine gate_callee (f := 52) rfl ?_); refine goL_ (some 17) Try.func52 #[.slice A0 l0.length c0, .int .u8 t107] ?_; (with_reducible refine (spec_l7At.calls k1 _ _ l0 t107 t108 _ ?side1 ?side2 A5.out).mono ?_); (case side1 => exact zC (Kd.C_below HR0.out HB.out)); (case side2 => exact HC0.out); rintro e w' ⟨rfl, ⟨nd, rfl⟩⟩; refine ⟨_, rfl, ?_⟩) | ((with_reducible refine gate_builtin (b := .append) (xs := #[.tmp 13, .tmp 18]) rfl ?_); at_builtin; refine Kd.R_append (Kd.int .u8) (w0 := w) w.heap.size rfl (.tmp 13) (.tmp 18) 22 5 (.int .u8 0) 1 rfl Try.underlying22 info5 rfl (by decide) (by omega) u5 x5_1 t108 [.int .u8 t108] (fun _ => True) (fun _ => False) rfl rfl ?aP (fun _ hk => hk.elim) ?aF ?aO ?aB ?aS ?aL ?_; (case aP => exact rfl); (case aB => exact (zB HB.out)); (case aF => exact (fun _ _ => trivial)); (case aO => exact (zR HO_5.out)); (case aS => exact (zs_ HB.out)); (case aL => have := LMc6.out; omega); intro v110 w7 ho hb hg hat; rw [← Ny109.out] at ho; replace HB := am (hb); have HO111 := am (ho); (try clear HO_5); clear ho hb hg hat))
    go_roundg k1
    case measure => have := HK1.out; omega
    case rel => exact ⟨(y109), (wrap64 (x6_1 + 1)), rfl, H', ⟨by have := HK1.out; omega⟩, ⟨zR HO111.out⟩, ⟨zB HB.out⟩⟩
   ·rw [if_neg c3] at H; have c3b0 := decide_eq_false c3; clear c3; obtain rfl := Option.some.inj H
    go_wp2
    go_ret
    exact ⟨_, rfl, zR HO_5.out, zB HB.out⟩

/-! ### spec_SyndromesOf: function 17 -/
def spec_SyndromesOf.f (k : Nat) (l0 : List Int) (a1 : Int) : Option (List Int × Bool) := (spec_l8Fits.f l0 a1).bind fun t112 => (if t112 = true then ((spec_l8Syndromes.f k l0 a1).bind fun t113 => (some (t113, true))) else (some (([] : List Int), false)))
theorem spec_SyndromesOf.mono : ∀ a0 a1 k, LeO (spec_SyndromesOf.f k a0 a1) (spec_SyndromesOf.f (k + 1) a0 a1) := by
 intro a0 a1 k
 unfold spec_SyndromesOf.f
 repeat' first | apply LeO.refl | apply LeO.none | apply LeO.ite | apply spec_l8Syndromes.mono | (refine LeO.bind ?_ (fun _ => ?_))
set_option maxHeartbeats 8000000 in
set_option maxRecDepth 100000 in
theorem spec_SyndromesOf.calls (k : Nat) (A0 : Option Addr) (c0 : Nat) (l0 : List Int) (a1 : Int) (r1 : List Int) (r2 : Bool) (w : World) (hr0 : Kd.C (Kd.int .u8) w A0 l0.length l0) (hc0 : l0.length ≤ c0) (h : spec_SyndromesOf.f k l0 a1 = some (r1, r2)) :
  Calls Try.prog 17 #[.slice A0 l0.length c0, .int .i64 a1] w fun e w' => ∃ v0_ : Value, e = .returned (.tuple #[v0_, .bool r2]) ∧ Kd.R (Kd.int .u8) 5 w' w.heap.size (fun _ => True) v0_ r1 ∧ Below w.heap.size w w' := by
 have HR0 := am hr0; have HC0 := am hc0; clear hr0 hc0; have HB := am (Below.refl w.heap.size w); have H : ((spec_l8Fits.f l0 a1).bind fun t112 => (if t112 = true then ((spec_l8Syndromes.f k l0 a1).bind fun t113 => (some (t113, true))) else (some (([] : List Int), false)))) = some (r1, r2) := h; clear h; obtain ⟨t112, A3, H⟩ := bi_ H
 by_cases c4 : t112 = true
 ·subst c4
  have H1 : ((spec_l8Syndromes.f k l0 a1).bind fun t113 => (some (t113, true))) = some (r1, r2) := by rw [if_pos rfl] at H; exact H
  clear H; have H := H1; clear H1; obtain ⟨t113, A5, H⟩ := bi_ H
  simp only [Option.some.injEq, Prod.mk.injEq] at H
  obtain ⟨rfl, rfl⟩ := H
  go_enter Try.func17, Try.ntmps17
  go_wp2_with (first | ((with_reducible refine gate_callee (f := 40) rfl ?_); refine goL_ (some 8) Try.func40 #[.slice A0 l0.length c0, .int .i64 a1] ?_; (with_reducible refine (spec_l8Fits.calls _ _ l0 a1 true _ ?side1 ?side2 A3.out).mono ?_); (case side1 => exact zC HR0.out); (case side2 => exact HC0.out); rintro e w' ⟨rfl, ⟨nd, rfl⟩⟩; refine ⟨_, rfl, ?_⟩) | ((with_reducible refine gate_callee (f := 41) rfl ?_); refine goL_ (some 12) Try.func41 #[.slice A0 l0.length c0, .int .i64 a1] ?_; (with_reducible refine (spec_l8Syndromes.calls k _ _ l0 a1 t113 _ ?side1 ?side2 A5.out).mono ?_); (case side1 => exact zC HR0.out); (case side2 => exact HC0.out); rintro e w6 ⟨v114, rfl, ho0, hb⟩; refine ⟨_, rfl, ?_⟩; have HO115 := am (Kd.R_lower ho0 (zs_ HB.out)); replace HB := am (below_step (zB HB.out) hb); (try clear hb); (try clear ho0)))
  go_ret2
  exact ⟨_, rfl, zR HO115.out, zB HB.out⟩
 ·replace c4 := Bool.eq_false_iff.mpr c4
  subst c4
  have H1 : (some (([] : List Int), false)) = some (r1, r2) := by rw [if_neg (show ¬ (false = true) by decide)] at H; exact H
  clear H; have H := H1; clear H1
  simp only [Option.some.injEq, Prod.mk.injEq] at H
  obtain ⟨rfl, rfl⟩ := H
  go_enter Try.func17, Try.ntmps17
  go_wp2_with (first | ((with_reducible refine gate_callee (f := 40) rfl ?_); refine goL_ (some 8) Try.func40 #[.slice A0 l0.length c0, .int .i64 a1] ?_; (with_reducible refine (spec_l8Fits.calls _ _ l0 a1 false _ ?side1 ?side2 A3.out).mono ?_); (case side1 => exact zC HR0.out); (case side2 => exact HC0.out); rintro e w' ⟨rfl, ⟨nd, rfl⟩⟩; refine ⟨_, rfl, ?_⟩))
  go_ret2
  exact ⟨_, rfl, by first | apply Kd.R_nil | apply Kd.N_nil | apply Kd.V_nil | apply Kd.Q_nil | apply Kd.S_nil, zB HB.out⟩

/-! ### impl_within: function 47 -/
def impl_within.f (a0 : Int) (a1 : Int) (a2 : Int) : Option (Bool) := if a0 ≥ a1 then (some (decide (a0 ≤ a2))) else (some false)
set_option maxHeartbeats 8000000 in
set_option maxRecDepth 100000 in
theorem impl_within.calls (a0 : Int) (a1 : Int) (a2 : Int) (r : Bool) (w : World) (h : impl_within.f a0 a1 a2 = some r) :
  Calls Try.prog 47 #[.int .i64 a0, .int .i64 a1, .int .i64 a2] w fun e w' => e = .returned (.bool r) ∧ Drawn0 w w' := by
 have H : (if a0 ≥ a1 then (some (decide (a0 ≤ a2))) else (some false)) = some r := h; clear h
 by_cases c4 : a0 ≥ a1
 ·rw [if_pos c4] at H; have c4b0 : decide (a1 ≤ a0) = true := decide_eq_true c4; clear c4; obtain rfl := Option.some.inj H
  go_enter Try.func47, Try.ntmps47
  go_wp2
  go_ret
  exact ⟨by first | rfl | (simp; done) | (simp [*]; done), by repeat (first | exact Drawn0.refl _ | apply Drawn0.step)⟩
 ·rw [if_neg c4] at H; have c4b0 : decide (a1 ≤ a0) = false := decide_eq_false c4; clear c4; obtain rfl := Option.some.inj H
  go_enter Try.func47, Try.ntmps47
  go_wp2
  go_ret
  exact ⟨by first | rfl | (simp; done) | (simp [*]; done), by repeat (first | exact Drawn0.refl _ | apply Drawn0.step)⟩

/-! ### impl_isCount: function 38 -/
def impl_isCount.f (a0 : Int) : Option (Bool) := (impl_within.f a0 1 4).bind fun t116 => (some t116)
set_option maxHeartbeats 8000000 in
set_option maxRecDepth 100000 in
theorem impl_isCount.calls (a0 : Int) (r : Bool) (w : World) (h : impl_isCount.f a0 = some r) :
  Calls Try.prog 38 #[.int .i64 a0] w fun e w' => e = .returned (.bool r) ∧ Drawn0 w w' := by
 have H : ((impl_within.f a0 1 4).bind fun t116 => (some t116)) = some r := h; clear h; obtain ⟨t116, A2, H⟩ := bi_ H; obtain rfl := Option.some.inj H
 go_enter Try.func38, Try.ntmps38
 go_wp2_with (first | ((with_reducible refine gate_callee (f := 47) rfl ?_); refine goL_ (some 4) Try.func47 #[.int .i64 a0, .int .i64 1, .int .i64 4] ?_; (with_reducible refine (impl_within.calls a0 1 4 t116 _ A2.out).mono ?_); rintro e w' ⟨rfl, ⟨nd, rfl⟩⟩; refine ⟨_, rfl, ?_⟩))
 go_ret
 exact ⟨by first | rfl | (simp; done) | (simp [*]; done), by repeat (first | exact Drawn0.refl _ | apply Drawn0.step)⟩

/-! ### impl_isLong: function 42 -/
def impl_isLong.f (l0 : List Int) (a1 : Int) : Option (Bool) := (impl_isCount.f a1).bind fun t117 => (if t117 = true then ((impl_within.f (l0.length : Int) (wrap64 ((wrap64 (2 * a1)) + 1)) 24).bind fun t118 => (some t118)) else (some false))
set_option maxHeartbeats 8000000 in
set_option maxRecDepth 100000 in
theorem impl_isLong.calls (A0 : Option Addr) (c0 : Nat) (l0 : List Int) (a1 : Int) (r : Bool) (w : World) (hr0 : Kd.C (Kd.int .u8) w A0 l0.length l0) (hc0 : l0.length ≤ c0) (h : impl_isLong.f l0 a1 = some r) :
  Calls Try.prog 42 #[.slice A0 l0.length c0, .int .i64 a1] w fun e w' => e = .returned (.bool r) ∧ Drawn0 w w' := by
 have HR0 := am hr0; have HC0 := am hc0; clear hr0 hc0; have H : ((impl_isCount.f a1).bind fun t117 => (if t117 = true then ((impl_within.f (l0.length : Int) (wrap64 ((wrap64 (2 * a1)) + 1)) 24).bind fun t118 => (some t118)) else (some false))) = some r := h; clear h; obtain ⟨t117, A3, H⟩ := bi_ H
 by_cases c4 : t117 = true
 ·subst c4
  have H1 : ((impl_within.f (l0.length : Int) (wrap64 ((wrap64 (2 * a1)) + 1)) 24).bind fun t118 => (some t118)) = some r := by rw [if_pos rfl] at H; exact H
  clear H; have H := H1; clear H1; obtain ⟨t118, A5, H⟩ := bi_ H; obtain rfl := Option.some.inj H
  go_enter Try.func42, Try.ntmps42
  go_wp2_with (first | ((with_reducible refine gate_callee (f := 38) rfl ?_); refine goL_ (some 6) Try.func38 #[.int .i64 a1] ?_; (with_reducible refine (impl_isCount.calls a1 true _ A3.out).mono ?_); rintro e w' ⟨rfl, ⟨nd, rfl⟩⟩; refine ⟨_, rfl, ?_⟩) | (go_at_call 47; (with_reducible refine (impl_within.calls (l0.length : Int) (wrap64 ((wrap64 (2 * a1)) + 1)) 24 t118 _ A5.out).mono ?_); rintro e w' ⟨rfl, ⟨nd, rfl⟩⟩))
  go_ret
  exact ⟨by first | rfl | (simp; done) | (simp [*]; done), by repeat (first | exact Drawn0.refl _ | apply Drawn0.step)⟩
 ·replace c4 := Bool.eq_false_iff.mpr c4
  subst c4
  have H1 : (some false) = some r := by rw [if_neg (show ¬ (false = true) by decide)] at H; exact H
  clear H; have H := H1; clear H1; obtain rfl := Option.some.inj H
  go_enter Try.func42, Try.ntmps42
  go_wp2_with (first | ((with_reducible refine gate_callee (f := 38) rfl ?_); refine goL_ (some 6) Try.func38 #[.int .i64 a1] ?_; (with_reducible refine (impl_isCount.calls a1 false _ A3.out).mono ?_); rintro e w' ⟨rfl, ⟨nd, rfl⟩⟩; refine ⟨_, rfl, ?_⟩))
  go_ret
  exact ⟨by first | rfl | (simp; done) | (simp [*]; done), by repeat (first | exact Drawn0.refl _ | apply Drawn0.step)⟩

/-! ### impl_Times: function 48 -/
def impl_Times.l0 : Nat → Int → Int → Int → Int → Option (Int)
 | 0, _, _, _, _ => none
 | k + 1, x1, x5, x6, x7 => if x6 < 8 then (if 0 ≤ x6 then (if (Go.bits .and .u8 (shr .u8 x1 x6) 1) = 1 then (if (wrap64 (x7 * 2)) > 255 then (impl_Times.l0 k x1 (Go.bits .xor .i64 x5 x7) (wrap64 (x6 + 1)) (Go.bits .xor .i64 (wrap64 (x7 * 2)) 283)) else (impl_Times.l0 k x1 (Go.bits .xor .i64 x5 x7) (wrap64 (x6 + 1)) (wrap64 (x7 * 2)))) else (if (wrap64 (x7 * 2)) > 255 then (impl_Times.l0 k x1 x5 (wrap64 (x6 + 1)) (Go.bits .xor .i64 (wrap64 (x7 * 2)) 283)) else (impl_Times.l0 k x1 x5 (wrap64 (x6 + 1)) (wrap64 (x7 * 2))))) else (none)) else (some ((x5) % 256))
def impl_Times.f (k : Nat) (a0 : Int) (a1 : Int) : Option (Int) := impl_Times.l0 k a1 0 0 (wrap64 (a0))
theorem impl_Times.mono_l : ∀ k, (∀ y0 y1 y2 y3, LeO (impl_Times.l0 k y0 y1 y2 y3) (impl_Times.l0 (k + 1) y0 y1 y2 y3))
 | 0 => fun _ _ _ _ r h => by simp [impl_Times.l0] at h
 | k + 1 => by
  have ih0 := impl_Times.mono_l k
  ·intro y0 y1 y2 y3
   unfold impl_Times.l0
   repeat' first | apply LeO.refl | apply LeO.none | apply LeO.ite | apply ih0 | (refine LeO.bind ?_ (fun _ => ?_))
theorem impl_Times.mono : ∀ a0 a1 k, LeO (impl_Times.f k a0 a1) (impl_Times.f (k + 1) a0 a1) := by
 intro a0 a1 k; have ih0 := impl_Times.mono_l k
 unfold impl_Times.f
 repeat' first | apply LeO.refl | apply LeO.none | apply LeO.ite | apply ih0 | (refine LeO.bind ?_ (fun _ => ?_))
set_option maxHeartbeats 8000000 in
set_option maxRecDepth 100000 in
theorem impl_Times.calls (k : Nat) (a0 : Int) (a1 : Int) (r : Int) (w : World) (h : impl_Times.f k a0 a1 = some r) :
  Calls Try.prog 48 #[.int .u8 a0, .int .u8 a1] w fun e w' => e = .returned (.int .u8 r) ∧ Drawn0 w w' := by
 have H : (impl_Times.l0 k a1 0 0 (wrap64 (a0))) = some r := h; clear h; have H' := am H; clear H
 go_enter Try.func48, Try.ntmps48
 go_wp2
 go_loopg [5, 6, 7] k (fun kq v5 v6 v7 w' => ∃ (x5_1 : Int) (x6_1 : Int) (x7_1 : Int), v5 = .int .i64 x5_1 ∧ v6 = .int .i64 x6_1 ∧ v7 = .int .i64 x7_1 ∧ Aside0 (impl_Times.l0 kq a1 x5_1 x6_1 x7_1 = some r) ∧ Aside0 (kq ≤ k) ∧ Drawn0 w w')
 case atStart => exact ⟨(0), (0), (wrap64 (a0)), rfl, rfl, rfl, H', ⟨Nat.le_refl _⟩, by repeat (first | exact Drawn0.refl _ | apply Drawn0.step)⟩
 case round =>
  clear H'; obtain ⟨x5_1, x6_1, x7_1, rfl, rfl, rfl, HA, HK1, ⟨m1, rfl⟩⟩ := hrel
  cases gk with
  | zero => exact absurd HA.out (by simp [impl_Times.l0])
  | succ k1 =>
   have H := HA.out; clear HA
   simp only [impl_Times.l0] at H
   by_cases c3 : x6_1 < 8
   ·rw [if_pos c3] at H; have c3b0 := decide_eq_true c3; clear c3
    obtain ⟨c4, H⟩ := it_ H; have c4b0 := eq_true c4; have c4b1 := decide_eq_true c4; clear c4; obtain ⟨ji5, hji5⟩ : ∃ j_ : Int, (shr .u8 a1 x6_1) = j_ := ⟨_, rfl⟩
    replace H : (if (Go.bits .and .u8 (ji5) 1) = 1 then (if (wrap64 (x7_1 * 2)) > 255 then (impl_Times.l0 k1 a1 (Go.bits .xor .i64 x5_1 x7_1) (wrap64 (x6_1 + 1)) (Go.bits .xor .i64 (wrap64 (x7_1 * 2)) 283)) else (impl_Times.l0 k1 a1 (Go.bits .xor .i64 x5_1 x7_1) (wrap64 (x6_1 + 1)) (wrap64 (x7_1 * 2)))) else (if (wrap64 (x7_1 * 2)) > 255 then (impl_Times.l0 k1 a1 x5_1 (wrap64 (x6_1 + 1)) (Go.bits .xor .i64 (wrap64 (x7_1 * 2)) 283)) else (impl_Times.l0 k1 a1 x5_1 (wrap64 (x6_1 + 1)) (wrap64 (x7_1 * 2))))) = some r := by first | (rw [hji5] at H; exact H) | (simp only [hji5] at H ⊢; exact H)
    have hji5_ : (a1 / 2 ^ min x6_1.toNat 8) = ji5 := hji5; have hji5z : x6_1 ≤ 8 → (a1 / 2 ^ x6_1.toNat) = ji5 := shr_small hji5
    by_cases c6 : (Go.bits .and .u8 (ji5) 1) = 1
    ·rw [if_pos c6] at H; have c6b0 : ((Go.bits .and .u8 (ji5) 1) == 1) = true := beq_iff_eq.mpr c6; have c6b1 : ((Go.bits .and .u8 (ji5) 1) != 1) = false := bne_eq_false_iff_eq.mpr c6; clear c6
     by_cases c7 : (wrap64 (x7_1 * 2)) > 255
     ·rw [if_pos c7] at H; have c7b0 : decide (255 < (wrap64 (x7_1 * 2))) = true := decide_eq_true c7
      try simp only [hji5] at c7b0
      clear c7; have H' := am H; clear H
      go_wp2
      go_roundg k1
      case measure => have := HK1.out; omega
      case rel => exact ⟨(Go.bits .xor .i64 x5_1 x7_1), (wrap64 (x6_1 + 1)), (Go.bits .xor .i64 (wrap64 (x7_1 * 2)) 283), rfl, rfl, rfl, (by first | exact H' | (have H2_ := H'; simp only [hji5] at H2_ ⊢; exact H2_)), ⟨by have := HK1.out; omega⟩, by repeat (first | exact Drawn0.refl _ | apply Drawn0.step)⟩
     ·rw [if_neg c7] at H; have c7b0 : decide (255 < (wrap64 (x7_1 * 2))) = false := decide_eq_false c7
      try simp only [hji5] at c7b0
      clear c7; have H' := am H; clear H
      go_wp2
      go_roundg k1
      case measure => have := HK1.out; omega
      case rel => exact ⟨(Go.bits .xor .i64 x5_1 x7_1), (wrap64 (x6_1 + 1)), (wrap64 (x7_1 * 2)), rfl, rfl, rfl, (by first | exact H' | (have H2_ := H'; simp only [hji5] at H2_ ⊢; exact H2_)), ⟨by have := HK1.out; omega⟩, by repeat (first | exact Drawn0.refl _ | apply Drawn0.step)⟩
    ·rw [if_neg c6] at H; have c6b0 : ((Go.bits .and .u8 (ji5) 1) == 1) = false := beq_eq_false_iff_ne.mpr c6; have c6b1 : ((Go.bits .and .u8 (ji5) 1) != 1) = true := bne_iff_ne.mpr c6
     by_cases c8 : (wrap64 (x7_1 * 2)) > 255
     ·rw [if_pos c8] at H; have c8b0 : decide (255 < (wrap64 (x7_1 * 2))) = true := decide_eq_true c8
      try simp only [hji5] at c8b0
      clear c8; have H' := am H; clear H
      go_wp2
      go_roundg k1
      case measure => have := HK1.out; omega
      case rel => exact ⟨(x5_1), (wrap64 (x6_1 + 1)), (Go.bits .xor .i64 (wrap64 (x7_1 * 2)) 283), rfl, rfl, rfl, (by first | exact H' | (have H2_ := H'; simp only [hji5] at H2_ ⊢; exact H2_)), ⟨by have := HK1.out; omega⟩, by repeat (first | exact Drawn0.refl _ | apply Drawn0.step)⟩
     ·rw [if_neg c8] at H; have c8b0 : decide (255 < (wrap64 (x7_1 * 2))) = false := decide_eq_false c8
      try simp only [hji5] at c8b0
      clear c8; have H' := am H; clear H
      go_wp2
      go_roundg k1
      case measure => have := HK1.out; omega
      case rel => exact ⟨(x5_1), (wrap64 (x6_1 + 1)), (wrap64 (x7_1 * 2)), rfl, rfl, rfl, (by first | exact H' | (have H2_ := H'; simp only [hji5] at H2_ ⊢; exact H2_)), ⟨by have := HK1.out; omega⟩, by repeat (first | exact Drawn0.refl _ | apply Drawn0.step)⟩
   ·rw [if_neg c3] at H; have c3b0 := decide_eq_false c3; clear c3; obtain rfl := Option.some.inj H
    go_wp2
    go_ret
    exact ⟨by first | rfl | (simp; done) | (simp [*]; done), by repeat (first | exact Drawn0.refl _ | apply Drawn0.step)⟩

/-! ### impl_valueAt: function 57 -/
def impl_valueAt.l0 : Nat → List Int → Int → Int → Int → Option (Int)
 | 0, _, _, _, _ => none
 | k + 1, x0, x1, x5, x6 => if x6 ≥ 0 then ((impl_Times.f k x5 x1).bind fun t119 => (if 0 ≤ x6 then (if x6 < (x0.length : Int) then (impl_valueAt.l0 k x0 x1 (Go.bits .xor .u8 t119 (rd x0 x6)) (wrap64 (x6 - 1))) else (none)) else (none))) else (some x5)
def impl_valueAt.f (k : Nat) (l0 : List Int) (a1 : Int) : Option (Int) := impl_valueAt.l0 k l0 a1 0 (wrap64 ((l0.length : Int) - 1))
theorem impl_valueAt.mono_l : ∀ k, (∀ y0 y1 y2 y3, LeO (impl_valueAt.l0 k y0 y1 y2 y3) (impl_valueAt.l0 (k + 1) y0 y1 y2 y3))
 | 0 => fun _ _ _ _ r h => by simp [impl_valueAt.l0] at h
 | k + 1 => by
  have ih0 := impl_valueAt.mono_l k
  ·intro y0 y1 y2 y3
   unfold impl_valueAt.l0
   repeat' first | apply LeO.refl | apply LeO.none | apply LeO.ite | apply ih0 | apply impl_Times.mono | (refine LeO.bind ?_ (fun _ => ?_))
theorem impl_valueAt.mono : ∀ a0 a1 k, LeO (impl_valueAt.f k a0 a1) (impl_valueAt.f (k + 1) a0 a1) := by
 intro a0 a1 k; have ih0 := impl_valueAt.mono_l k
 unfold impl_valueAt.f
 repeat' first | apply LeO.refl | apply LeO.none | apply LeO.ite | apply ih0 | apply impl_Times.mono | (refine LeO.bind ?_ (fun _ => ?_))
set_option maxHeartbeats 8000000 in
set_option maxRecDepth 100000 in
theorem impl_valueAt.calls (k : Nat) (A0 : Option Addr) (c0 : Nat) (l0 : List Int) (a1 : Int) (r : Int) (w : World) (hr0 : Kd.C (Kd.int .u8) w A0 l0.length l0) (hc0 : l0.length ≤ c0) (h : impl_valueAt.f k l0 a1 = some r) :
  Calls Try.prog 57 #[.slice A0 l0.length c0, .int .u8 a1] w fun e w' => e = .returned (.int .u8 r) ∧ Drawn0 w w' := by
 have HR0 := am hr0; have HC0 := am hc0; clear hr0 hc0; have H : (impl_valueAt.l0 k l0 a1 0 (wrap64 ((l0.length : Int) - 1))) = some r := h; clear h; have H' := am H; clear H
 go_enter Try.func57, Try.ntmps57
 go_wp2
 repeat (go_quiet (fail); try go_wp2)
 go_loopg [5, 6] k (fun kq v5 v6 w' => ∃ (x5_1 : Int) (x6_1 : Int), v5 = .int .u8 x5_1 ∧ v6 = .int .i64 x6_1 ∧ Aside0 (impl_valueAt.l0 kq l0 a1 x5_1 x6_1 = some r) ∧ Aside0 (kq ≤ k) ∧ Drawn0 w w')
 case atStart => exact ⟨(0), (wrap64 ((l0.length : Int) - 1)), rfl, rfl, H', ⟨Nat.le_refl _⟩, by repeat (first | exact Drawn0.refl _ | apply Drawn0.step)⟩
 case round =>
  clear H'; obtain ⟨x5_1, x6_1, rfl, rfl, HA, HK1, ⟨m1, rfl⟩⟩ := hrel
  cases gk with
  | zero => exact absurd HA.out (by simp [impl_valueAt.l0])
  | succ k1 =>
   have H := HA.out; clear HA
   simp only [impl_valueAt.l0] at H
   by_cases c3 : x6_1 ≥ 0
   ·rw [if_pos c3] at H; have c3b0 : decide (0 ≤ x6_1) = true := decide_eq_true c3; clear c3; obtain ⟨t119, A4, H⟩ := bi_ H
    obtain ⟨c5, H⟩ := it_ H; have c5b0 := decide_eq_true c5; clear c5
    obtain ⟨c6, H⟩ := it_ H; have c6b0 := decide_eq_true c6; clear c6; have H' := am H; clear H
    go_wp2_with (first | (go_at_call 48; (with_reducible refine (impl_Times.calls k1 x5_1 a1 t119 _ A4.out).mono ?_); rintro e w' ⟨rfl, ⟨nd, rfl⟩⟩; (try first | exact ⟨rfl, _, World.drewN_drewN _ _ _⟩ | exact ⟨rfl, _, Eq.trans (World.drewN_drewN _ _ _) (congrArg (World.drewN _) (Nat.add_assoc _ _ _))⟩); have p120 : 0 ≤ (x6_1 : Int) := od_; have q120 : x6_1 < (l0.length : Int) := od_; obtain ⟨ad120, e120, hx120_0⟩ := Kd.at_int HR0.out x6_1 p120 q120; cases e120; replace p120 := eq_true p120; replace q120 := eq_true q120))
    repeat (go_quiet (first | (go_at_call 48; (with_reducible refine (impl_Times.calls k1 x5_1 a1 t119 _ A4.out).mono ?_); rintro e w' ⟨rfl, ⟨nd, rfl⟩⟩; (try first | exact ⟨rfl, _, World.drewN_drewN _ _ _⟩ | exact ⟨rfl, _, Eq.trans (World.drewN_drewN _ _ _) (congrArg (World.drewN _) (Nat.add_assoc _ _ _))⟩); have p120 : 0 ≤ (x6_1 : Int) := od_; have q120 : x6_1 < (l0.length : Int) := od_; obtain ⟨ad120, e120, hx120_0⟩ := Kd.at_int HR0.out x6_1 p120 q120; cases e120; replace p120 := eq_true p120; replace q120 := eq_true q120)); try go_wp2_with (first | (go_at_call 48; (with_reducible refine (impl_Times.calls k1 x5_1 a1 t119 _ A4.out).mono ?_); rintro e w' ⟨rfl, ⟨nd, rfl⟩⟩; (try first | exact ⟨rfl, _, World.drewN_drewN _ _ _⟩ | exact ⟨rfl, _, Eq.trans (World.drewN_drewN _ _ _) (congrArg (World.drewN _) (Nat.add_assoc _ _ _))⟩); have p120 : 0 ≤ (x6_1 : Int) := od_; have q120 : x6_1 < (l0.length : Int) := od_; obtain ⟨ad120, e120, hx120_0⟩ := Kd.at_int HR0.out x6_1 p120 q120; cases e120; replace p120 := eq_true p120; replace q120 := eq_true q120)))
    go_roundg k1
    case measure => have := HK1.out; omega
    case rel => exact ⟨(Go.bits .xor .u8 t119 (rd l0 x6_1)), (wrap64 (x6_1 - 1)), rfl, rfl, H', ⟨by have := HK1.out; omega⟩, by repeat (first | exact Drawn0.refl _ | apply Drawn0.step)⟩
   ·rw [if_neg c3] at H; have c3b0 : decide (0 ≤ x6_1) = false := decide_eq_false c3; clear c3; obtain rfl := Option.some.inj H
    go_wp2
    repeat (go_quiet (fail); try go_wp2)
    go_ret
    exact ⟨by first | rfl | (simp; done) | (simp [*]; done), by repeat (first | exact Drawn0.refl _ | apply Drawn0.step)⟩

end Go.Proofs.Ytbloniemhkfnlaa.PFnSpaced
