/- A law's functions as plain Lean functions, each with the walk that shows that the code computes it: written by this session's program wip/tools/ppmake.py. -/
import Derived.Test.YtaoemgkalmhnbaaDoorPFnExactTakeGammax0
namespace Go.Proofs.YtaoemgkalmhnbaaDoor.PFnExactTakeGamma
open Go.RowKit Go.Proofs.YtaoemgkalmhnbaaDoorW.PrintWords Go.Proofs.YtaoemgkalmhnbaaDoorW.PrintLast Go.Proofs.YtaoemgkalmhnbaaDoorW.PrintMore
attribute [local go_sem] max2_int min2_int max_two min_two max_three min_three max_four min_four   -- for this text's walks alone
set_option linter.unusedVariables false
set_option linter.unusedSimpArgs false

/-! ### spec_l1In: function 21 -/
def spec_l1In.f (a0 : Int) (a1 : Int) (a2 : Int) : Option (Bool) := if a0 ≥ a1 then (some (decide (a0 ≤ a2))) else (some false)
set_option maxHeartbeats 8000000 in
set_option maxRecDepth 100000 in
theorem spec_l1In.calls (a0 : Int) (a1 : Int) (a2 : Int) (r : Bool) (w : World) (h : spec_l1In.f a0 a1 a2 = some r) :
    Calls Tryd.prog 21 #[.int .i64 a0, .int .i64 a1, .int .i64 a2] w fun e w' => e = .returned (.bool r) ∧ Drawn0 w w' := by
  have H : (if a0 ≥ a1 then (some (decide (a0 ≤ a2))) else (some false)) = some r := h
  clear h
  by_cases c4 : a0 ≥ a1
  · rw [if_pos c4] at H
    have c4b0 : decide (a1 ≤ a0) = true := decide_eq_true c4
    clear c4
    obtain rfl := Option.some.inj H
    go_enter Tryd.func21, Tryd.ntmps21
    go_wp2
    go_ret
    exact ⟨by first | rfl | (simp; done) | (simp [*]; done), by repeat (first | exact Drawn0.refl _ | apply Drawn0.step)⟩
  · rw [if_neg c4] at H
    have c4b0 : decide (a1 ≤ a0) = false := decide_eq_false c4
    clear c4
    obtain rfl := Option.some.inj H
    go_enter Tryd.func21, Tryd.ntmps21
    go_wp2
    go_ret
    exact ⟨by first | rfl | (simp; done) | (simp [*]; done), by repeat (first | exact Drawn0.refl _ | apply Drawn0.step)⟩

/-! ### spec_l13Number: function 15 -/
def spec_l13Number.f (a0 : Int) : Option (Bool) := (spec_l1In.f a0 1 1000000).bind fun t101 => (some t101)
set_option maxHeartbeats 8000000 in
set_option maxRecDepth 100000 in
theorem spec_l13Number.calls (a0 : Int) (r : Bool) (w : World) (h : spec_l13Number.f a0 = some r) :
    Calls Tryd.prog 15 #[.int .i64 a0] w fun e w' => e = .returned (.bool r) ∧ Drawn0 w w' := by
  have H : ((spec_l1In.f a0 1 1000000).bind fun t101 => (some t101)) = some r := h
  clear h
  replace H := Option.bind_eq_some_iff.mp H
  obtain ⟨t101, A20, H⟩ := H
  replace H : (some t101) = some r := H
  have A2 := Aside0.mk A20
  clear A20
  obtain rfl := Option.some.inj H
  go_enter Tryd.func15, Tryd.ntmps15
  go_wp2_with (first | ((with_reducible refine gate_callee (f := 21) rfl ?_); refine goesL_ (some 4) rfl rfl Tryd.func21 (by kernel_rfl) rfl #[.int .i64 a0, .int .i64 1, .int .i64 1000000] rfl (by (try simp only [List.map_toArray, List.map_cons, List.map_nil]); first | done | rfl | (simp only [List.length_drop, List.length_take]; rfl)) ?_; (with_reducible refine (spec_l1In.calls a0 1 1000000 t101 _ A2.out).mono ?_); rintro e w' ⟨rfl, ⟨nd, rfl⟩⟩; refine ⟨_, rfl, ?_⟩))
  go_ret
  exact ⟨by first | rfl | (simp; done) | (simp [*]; done), by repeat (first | exact Drawn0.refl _ | apply Drawn0.step)⟩

/-! ### spec_l13Read: function 32 -/
mutual
def spec_l13Read.j0 : Nat → ByteArray → Int → Bool → Option (Int × Bool)
  | 0, _, _, _ => none
  | k + 1, x0, x1, x15 => if x15 = true then (some (0, false)) else (spec_l13Read.l0 k x0 x1 0 0)
def spec_l13Read.l0 : Nat → ByteArray → Int → Int → Int → Option (Int × Bool)
  | 0, _, _, _, _ => none
  | k + 1, x0, x1, x6, x7 => if x7 < x1 then (if 0 ≤ x7 then (if x7 < (x0.size : Int) then (if (bt x0 x7) = 48 then (spec_l13Read.l0 k x0 x1 (wrap64 ((wrap64 (2 * x6)) + (((bt x0 x7) - 48) % 256))) (wrap64 (x7 + 1))) else (if (bt x0 x7) = 49 then (spec_l13Read.l0 k x0 x1 (wrap64 ((wrap64 (2 * x6)) + (((bt x0 x7) - 48) % 256))) (wrap64 (x7 + 1))) else (some (0, false)))) else (none)) else (none)) else (some (x6, true))
end
def spec_l13Read.f (k : Nat) (a0 : ByteArray) (a1 : Int) : Option (Int × Bool) := if a1 > (a0.size : Int) then (spec_l13Read.j0 k a0 a1 true) else (spec_l13Read.j0 k a0 a1 (decide (a1 > 30)))
theorem spec_l13Read.mono_l : ∀ k, (∀ y0 y1 y2, LeO (spec_l13Read.j0 k y0 y1 y2) (spec_l13Read.j0 (k + 1) y0 y1 y2)) ∧ (∀ y0 y1 y2 y3, LeO (spec_l13Read.l0 k y0 y1 y2 y3) (spec_l13Read.l0 (k + 1) y0 y1 y2 y3))
  | 0 => ⟨fun _ _ _ r h => by simp [spec_l13Read.j0] at h, fun _ _ _ _ r h => by simp [spec_l13Read.l0] at h⟩
  | k + 1 => by
    obtain ⟨ih0, ih1⟩ := spec_l13Read.mono_l k
    refine ⟨?_, ?_⟩
    · intro y0 y1 y2
      unfold spec_l13Read.j0
      repeat' first
      | (with_reducible exact ih0 _ _ _)
      | (with_reducible exact ih1 _ _ _ _)
      | (with_reducible exact LeO.refl _)
      | (with_reducible exact LeO.none _)
      | (with_reducible refine LeO.ite ?_ ?_)
      | (with_reducible refine LeO.bind ?_ (fun _ => ?_))
      | exact ih0 _ _ _
      | exact ih1 _ _ _ _
      | exact LeO.none _
      | refine LeO.ite ?_ ?_
      | refine LeO.bind ?_ (fun _ => ?_)
    · intro y0 y1 y2 y3
      unfold spec_l13Read.l0
      repeat' first
      | (with_reducible exact ih0 _ _ _)
      | (with_reducible exact ih1 _ _ _ _)
      | (with_reducible exact LeO.refl _)
      | (with_reducible exact LeO.none _)
      | (with_reducible refine LeO.ite ?_ ?_)
      | (with_reducible refine LeO.bind ?_ (fun _ => ?_))
      | exact ih0 _ _ _
      | exact ih1 _ _ _ _
      | exact LeO.none _
      | refine LeO.ite ?_ ?_
      | refine LeO.bind ?_ (fun _ => ?_)
theorem spec_l13Read.mono : ∀ a0 a1 k, LeO (spec_l13Read.f k a0 a1) (spec_l13Read.f (k + 1) a0 a1) := by
  intro a0 a1 k
  obtain ⟨ih0, ih1⟩ := spec_l13Read.mono_l k
  unfold spec_l13Read.f
  repeat' first
      | (with_reducible exact ih0 _ _ _)
      | (with_reducible exact ih1 _ _ _ _)
      | (with_reducible exact LeO.refl _)
      | (with_reducible exact LeO.none _)
      | (with_reducible refine LeO.ite ?_ ?_)
      | (with_reducible refine LeO.bind ?_ (fun _ => ?_))
      | exact ih0 _ _ _
      | exact ih1 _ _ _ _
      | exact LeO.none _
      | refine LeO.ite ?_ ?_
      | refine LeO.bind ?_ (fun _ => ?_)
set_option maxHeartbeats 8000000 in
set_option maxRecDepth 100000 in
theorem spec_l13Read.calls (k : Nat) (a0 : ByteArray) (a1 : Int) (r1 : Int) (r2 : Bool) (w : World) (h : spec_l13Read.f k a0 a1 = some (r1, r2)) :
    Calls Tryd.prog 32 #[.string a0, .int .i64 a1] w fun e w' => e = .returned (.tuple #[.int .i64 r1, .bool r2]) ∧ Drawn0 w w' := by
  have H : (if a1 > (a0.size : Int) then (spec_l13Read.j0 k a0 a1 true) else (spec_l13Read.j0 k a0 a1 (decide (a1 > 30)))) = some (r1, r2) := h
  clear h
  have HC3 := Aside0.mk H
  clear H
  go_enter Tryd.func32, Tryd.ntmps32
  go_upto_region 1 with (fail)
  go_cut [15] (fun v15 wc => ∃ (kq : Nat) (x15_2 : Bool), v15 = .bool x15_2 ∧ Aside0 (spec_l13Read.j0 kq a0 a1 x15_2 = some (r1, r2)) ∧ Aside0 (kq ≤ k) ∧ Drawn0 w wc)
  case first =>
    have H := HC3.out
    clear HC3
    by_cases c4 : a1 > (a0.size : Int)
    · rw [if_pos c4] at H
      have c4b0 : decide ((a0.size : Int) < a1) = true := decide_eq_true c4
      clear c4
      (first | rw [c4b0] | (simp only [i64_w, i32_w]; rw [c4b0]) | skip)
      have H' := Aside0.mk H
      clear H
      go_wp2
      go_meet
      case rel => exact ⟨_, (true), (by first | rfl | (simp; done) | (simp [*]; done)), H', ⟨by first | omega | exact Nat.le_refl _⟩, by repeat (first | exact Drawn0.refl _ | apply Drawn0.step)⟩
    · rw [if_neg c4] at H
      have c4b0 : decide ((a0.size : Int) < a1) = false := decide_eq_false c4
      clear c4
      (first | rw [c4b0] | (simp only [i64_w, i32_w]; rw [c4b0]) | skip)
      have H' := Aside0.mk H
      clear H
      go_wp2
      go_meet
      case rel => exact ⟨_, (decide (a1 > 30)), (by first | rfl | (simp; done) | (simp [*]; done)), H', ⟨by first | omega | exact Nat.le_refl _⟩, by repeat (first | exact Drawn0.refl _ | apply Drawn0.step)⟩
  case rest =>
    clear HC3
    try clear p2
    try clear c3
    try clear c4
    try clear c4b0
    obtain ⟨kq, x15_2, rfl, HA, HJ2, ⟨mc2, rfl⟩⟩ := hcut
    cases kq with
    | zero => exact absurd HA.out (by simp [spec_l13Read.j0])
    | succ kj2 =>
      have H := HA.out
      clear HA
      simp only [spec_l13Read.j0] at H
      by_cases c5 : x15_2 = true
      · subst c5
        have H1 : (some (0, false)) = some (r1, r2) := by rw [if_pos rfl] at H; exact H
        clear H
        have H := H1
        clear H1
        simp only [Option.some.injEq, Prod.mk.injEq] at H
        obtain ⟨rfl, rfl⟩ := H
        go_wp2
        go_ret2
        exact ⟨by first | rfl | (simp; done) | (simp [*]; done), by repeat (first | exact Drawn0.refl _ | apply Drawn0.step)⟩
      · replace c5 := Bool.eq_false_iff.mpr c5
        subst c5
        have H1 : (spec_l13Read.l0 kj2 a0 a1 0 0) = some (r1, r2) := by rw [if_neg (show ¬ (false = true) by decide)] at H; exact H
        clear H
        have H := H1
        clear H1
        have H' := Aside0.mk H
        clear H
        go_wp2
        go_loopg [6, 7] kj2 (fun kq v6 v7 w' => ∃ (x6_2 : Int) (x7_2 : Int), v6 = .int .i64 x6_2 ∧ v7 = .int .i64 x7_2 ∧ Aside0 (spec_l13Read.l0 kq a0 a1 x6_2 x7_2 = some (r1, r2)) ∧ Aside0 (kq ≤ kj2) ∧ Drawn0 w w')
        case atStart => exact ⟨(0), (0), (by first | rfl | (simp; done) | (simp [*]; done)), (by first | rfl | (simp; done) | (simp [*]; done)), H', ⟨Nat.le_refl _⟩, by repeat (first | exact Drawn0.refl _ | apply Drawn0.step)⟩
        case round =>
          clear H'
          try clear c2
          try clear p2
          try clear c3
          try clear c4
          try clear c4b0
          try clear c5
          try clear p2
          obtain ⟨x6_2, x7_2, rfl, rfl, HA, HK2, ⟨m2, rfl⟩⟩ := hrel
          cases gk with
          | zero => exact absurd HA.out (by simp [spec_l13Read.l0])
          | succ k2 =>
            have H := HA.out
            clear HA
            simp only [spec_l13Read.l0] at H
            by_cases c6 : x7_2 < a1
            · rw [if_pos c6] at H
              have c6b0 : decide (x7_2 < a1) = true := decide_eq_true c6
              clear c6
              by_cases c7 : 0 ≤ x7_2
              · rw [if_pos c7] at H
                have c7b0 : decide (0 ≤ x7_2) = true := decide_eq_true c7
                clear c7
                by_cases c8 : x7_2 < (a0.size : Int)
                · rw [if_pos c8] at H
                  have c8b0 : decide (x7_2 < (a0.size : Int)) = true := decide_eq_true c8
                  clear c8
                  by_cases c10 : (bt a0 x7_2) = 48
                  · rw [if_pos c10] at H
                    have c10b0 : ((bt a0 x7_2) == 48) = true := beq_iff_eq.mpr c10
                    have c10b1 : ((bt a0 x7_2) != 48) = false := bne_eq_false_iff_eq.mpr c10
                    clear c10
                    have H' := Aside0.mk H
                    clear H
                    have p9 : 0 ≤ (x7_2 : Int) := of_decide_eq_true (by first | (with_reducible assumption) | assumption)
                    have q9 : x7_2 < (a0.size : Int) := of_decide_eq_true (by first | (with_reducible assumption) | assumption)
                    have hx9 := bt_at a0 x7_2
                    replace p9 := eq_true p9
                    replace q9 := eq_true q9
                    have p11 : 0 ≤ (x7_2 : Int) := of_decide_eq_true (by first | (with_reducible assumption) | assumption)
                    have q11 : x7_2 < (a0.size : Int) := of_decide_eq_true (by first | (with_reducible assumption) | assumption)
                    have hx11 := bt_at a0 x7_2
                    replace p11 := eq_true p11
                    replace q11 := eq_true q11
                    go_wp2
                    go_roundg k2
                    case measure => have := HJ2.out; have := HK2.out; omega
                    case rel => exact ⟨(wrap64 ((wrap64 (2 * x6_2)) + (((bt a0 x7_2) - 48) % 256))), (wrap64 (x7_2 + 1)), (by first | rfl | (simp; done) | (simp [*]; done)), (by first | rfl | (simp; done) | (simp [*]; done)), H', ⟨by have := HJ2.out; have := HK2.out; omega⟩, by repeat (first | exact Drawn0.refl _ | apply Drawn0.step)⟩
                  · rw [if_neg c10] at H
                    have c10b0 : ((bt a0 x7_2) == 48) = false := beq_eq_false_iff_ne.mpr c10
                    have c10b1 : ((bt a0 x7_2) != 48) = true := bne_iff_ne.mpr c10
                    by_cases c13 : (bt a0 x7_2) = 49
                    · rw [if_pos c13] at H
                      have c13b0 : ((bt a0 x7_2) == 49) = true := beq_iff_eq.mpr c13
                      have c13b1 : ((bt a0 x7_2) != 49) = false := bne_eq_false_iff_eq.mpr c13
                      clear c13
                      have H' := Aside0.mk H
                      clear H
                      have p9 : 0 ≤ (x7_2 : Int) := of_decide_eq_true (by first | (with_reducible assumption) | assumption)
                      have q9 : x7_2 < (a0.size : Int) := of_decide_eq_true (by first | (with_reducible assumption) | assumption)
                      have hx9 := bt_at a0 x7_2
                      replace p9 := eq_true p9
                      replace q9 := eq_true q9
                      have p12 : 0 ≤ (x7_2 : Int) := of_decide_eq_true (by first | (with_reducible assumption) | assumption)
                      have q12 : x7_2 < (a0.size : Int) := of_decide_eq_true (by first | (with_reducible assumption) | assumption)
                      have hx12 := bt_at a0 x7_2
                      replace p12 := eq_true p12
                      replace q12 := eq_true q12
                      have p14 : 0 ≤ (x7_2 : Int) := of_decide_eq_true (by first | (with_reducible assumption) | assumption)
                      have q14 : x7_2 < (a0.size : Int) := of_decide_eq_true (by first | (with_reducible assumption) | assumption)
                      have hx14 := bt_at a0 x7_2
                      replace p14 := eq_true p14
                      replace q14 := eq_true q14
                      go_wp2
                      go_roundg k2
                      case measure => have := HJ2.out; have := HK2.out; omega
                      case rel => exact ⟨(wrap64 ((wrap64 (2 * x6_2)) + (((bt a0 x7_2) - 48) % 256))), (wrap64 (x7_2 + 1)), (by first | rfl | (simp; done) | (simp [*]; done)), (by first | rfl | (simp; done) | (simp [*]; done)), H', ⟨by have := HJ2.out; have := HK2.out; omega⟩, by repeat (first | exact Drawn0.refl _ | apply Drawn0.step)⟩
                    · rw [if_neg c13] at H
                      have c13b0 : ((bt a0 x7_2) == 49) = false := beq_eq_false_iff_ne.mpr c13
                      have c13b1 : ((bt a0 x7_2) != 49) = true := bne_iff_ne.mpr c13
                      simp only [Option.some.injEq, Prod.mk.injEq] at H
                      obtain ⟨rfl, rfl⟩ := H
                      have p9 : 0 ≤ (x7_2 : Int) := of_decide_eq_true (by first | (with_reducible assumption) | assumption)
                      have q9 : x7_2 < (a0.size : Int) := of_decide_eq_true (by first | (with_reducible assumption) | assumption)
                      have hx9 := bt_at a0 x7_2
                      replace p9 := eq_true p9
                      replace q9 := eq_true q9
                      have p12 : 0 ≤ (x7_2 : Int) := of_decide_eq_true (by first | (with_reducible assumption) | assumption)
                      have q12 : x7_2 < (a0.size : Int) := of_decide_eq_true (by first | (with_reducible assumption) | assumption)
                      have hx12 := bt_at a0 x7_2
                      replace p12 := eq_true p12
                      replace q12 := eq_true q12
                      go_wp2
                      go_ret2
                      exact ⟨by first | rfl | (simp; done) | (simp [*]; done), by repeat (first | exact Drawn0.refl _ | apply Drawn0.step)⟩
                · rw [if_neg c8] at H
                  exact absurd H (by simp)
              · rw [if_neg c7] at H
                exact absurd H (by simp)
            · rw [if_neg c6] at H
              have c6b0 : decide (x7_2 < a1) = false := decide_eq_false c6
              clear c6
              simp only [Option.some.injEq, Prod.mk.injEq] at H
              obtain ⟨rfl, rfl⟩ := H
              go_wp2
              go_ret2
              exact ⟨by first | rfl | (simp; done) | (simp [*]; done), by repeat (first | exact Drawn0.refl _ | apply Drawn0.step)⟩

/-! ### spec_l13TakeGamma: function 26 -/
mutual
def spec_l13TakeGamma.j1 : Nat → ByteArray → Int → Option (Int × Int × Bool)
  | 0, _, _ => none
  | k + 1, x0, x5 => if 0 ≤ x5 then (if x5 ≤ (x0.size : Int) then ((spec_l13Read.f k (x0.extract (x5 : Int).toNat x0.size) (wrap64 (x5 + 1))).bind fun bt102 => (if bt102.2 = true then ((spec_l13Number.f bt102.1).bind fun t104 => (if t104 = true then (some (bt102.1, wrap64 ((wrap64 (2 * x5)) + 1), true)) else (some (0, 0, false)))) else (some (0, 0, false)))) else (none)) else (none)
def spec_l13TakeGamma.l0 : Nat → ByteArray → Int → Option (Int × Int × Bool)
  | 0, _, _ => none
  | k + 1, x0, x5 => if x5 < (x0.size : Int) then (if 0 ≤ x5 then (if (bt x0 x5) = 48 then (spec_l13TakeGamma.l0 k x0 (wrap64 (x5 + 1))) else (spec_l13TakeGamma.j1 k x0 x5)) else (none)) else (spec_l13TakeGamma.j1 k x0 x5)
end
def spec_l13TakeGamma.f (k : Nat) (a0 : ByteArray) : Option (Int × Int × Bool) := spec_l13TakeGamma.l0 k a0 0
theorem spec_l13TakeGamma.mono_l : ∀ k, (∀ y0 y1, LeO (spec_l13TakeGamma.j1 k y0 y1) (spec_l13TakeGamma.j1 (k + 1) y0 y1)) ∧ (∀ y0 y1, LeO (spec_l13TakeGamma.l0 k y0 y1) (spec_l13TakeGamma.l0 (k + 1) y0 y1))
  | 0 => ⟨fun _ _ r h => by simp [spec_l13TakeGamma.j1] at h, fun _ _ r h => by simp [spec_l13TakeGamma.l0] at h⟩
  | k + 1 => by
    obtain ⟨ih0, ih1⟩ := spec_l13TakeGamma.mono_l k
    refine ⟨?_, ?_⟩
    · intro y0 y1
      unfold spec_l13TakeGamma.j1
      repeat' first
      | (with_reducible exact ih0 _ _)
      | (with_reducible exact ih1 _ _)
      | (with_reducible exact spec_l13Read.mono _ _ _)
      | (with_reducible exact LeO.refl _)
      | (with_reducible exact LeO.none _)
      | (with_reducible refine LeO.ite ?_ ?_)
      | (with_reducible refine LeO.bind ?_ (fun _ => ?_))
      | exact ih0 _ _
      | exact ih1 _ _
      | exact spec_l13Read.mono _ _ _
      | exact LeO.none _
      | refine LeO.ite ?_ ?_
      | refine LeO.bind ?_ (fun _ => ?_)
    · intro y0 y1
      unfold spec_l13TakeGamma.l0
      repeat' first
      | (with_reducible exact ih0 _ _)
      | (with_reducible exact ih1 _ _)
      | (with_reducible exact spec_l13Read.mono _ _ _)
      | (with_reducible exact LeO.refl _)
      | (with_reducible exact LeO.none _)
      | (with_reducible refine LeO.ite ?_ ?_)
      | (with_reducible refine LeO.bind ?_ (fun _ => ?_))
      | exact ih0 _ _
      | exact ih1 _ _
      | exact spec_l13Read.mono _ _ _
      | exact LeO.none _
      | refine LeO.ite ?_ ?_
      | refine LeO.bind ?_ (fun _ => ?_)
theorem spec_l13TakeGamma.mono : ∀ a0 k, LeO (spec_l13TakeGamma.f k a0) (spec_l13TakeGamma.f (k + 1) a0) := by
  intro a0 k
  obtain ⟨ih0, ih1⟩ := spec_l13TakeGamma.mono_l k
  unfold spec_l13TakeGamma.f
  repeat' first
      | (with_reducible exact ih0 _ _)
      | (with_reducible exact ih1 _ _)
      | (with_reducible exact spec_l13Read.mono _ _ _)
      | (with_reducible exact LeO.refl _)
      | (with_reducible exact LeO.none _)
      | (with_reducible refine LeO.ite ?_ ?_)
      | (with_reducible refine LeO.bind ?_ (fun _ => ?_))
      | exact ih0 _ _
      | exact ih1 _ _
      | exact spec_l13Read.mono _ _ _
      | exact LeO.none _
      | refine LeO.ite ?_ ?_
      | refine LeO.bind ?_ (fun _ => ?_)
set_option maxHeartbeats 8000000 in
set_option maxRecDepth 100000 in
theorem spec_l13TakeGamma.calls (k : Nat) (a0 : ByteArray) (r1 : Int) (r2 : Int) (r3 : Bool) (w : World) (h : spec_l13TakeGamma.f k a0 = some (r1, r2, r3)) :
    Calls Tryd.prog 26 #[.string a0] w fun e w' => e = .returned (.tuple #[.int .i64 r1, .int .i64 r2, .bool r3]) ∧ Drawn0 w w' := by
  have H : (spec_l13TakeGamma.l0 k a0 0) = some (r1, r2, r3) := h
  clear h
  have HC2 := Aside0.mk H
  clear H
  go_enter Tryd.func26, Tryd.ntmps26
  go_upto_block 0 with (fail)
  go_cut [5] (fun v5 wc => ∃ (kq : Nat) (x5_1 : Int), v5 = .int .i64 x5_1 ∧ Aside0 (spec_l13TakeGamma.j1 kq a0 x5_1 = some (r1, r2, r3)) ∧ Aside0 (kq ≤ k) ∧ Drawn0 w wc)
  case first =>
    have H := HC2.out
    clear HC2
    have H' := Aside0.mk H
    clear H
    go_wp2
    go_loopg [5] k (fun kq v5 w' => ∃ (x5_1 : Int), v5 = .int .i64 x5_1 ∧ Aside0 (spec_l13TakeGamma.l0 kq a0 x5_1 = some (r1, r2, r3)) ∧ Aside0 (kq ≤ k) ∧ Drawn0 w w')
    case atStart => exact ⟨(0), (by first | rfl | (simp; done) | (simp [*]; done)), H', ⟨Nat.le_refl _⟩, by repeat (first | exact Drawn0.refl _ | apply Drawn0.step)⟩
    case round =>
      clear H'
      try clear c2
      try clear p2
      obtain ⟨x5_1, rfl, HA, HK1, ⟨m1, rfl⟩⟩ := hrel
      cases gk with
      | zero => exact absurd HA.out (by simp [spec_l13TakeGamma.l0])
      | succ k1 =>
        have H := HA.out
        clear HA
        simp only [spec_l13TakeGamma.l0] at H
        by_cases c3 : x5_1 < (a0.size : Int)
        · rw [if_pos c3] at H
          have c3b0 : decide (x5_1 < (a0.size : Int)) = true := decide_eq_true c3
          clear c3
          (first | rw [c3b0] | (simp only [i64_w, i32_w]; rw [c3b0]) | skip)
          by_cases c4 : 0 ≤ x5_1
          · rw [if_pos c4] at H
            have c4b0 : decide (0 ≤ x5_1) = true := decide_eq_true c4
            clear c4
            by_cases c6 : (bt a0 x5_1) = 48
            · rw [if_pos c6] at H
              have c6b0 : ((bt a0 x5_1) == 48) = true := beq_iff_eq.mpr c6
              have c6b1 : ((bt a0 x5_1) != 48) = false := bne_eq_false_iff_eq.mpr c6
              clear c6
              have H' := Aside0.mk H
              clear H
              have p5 : 0 ≤ (x5_1 : Int) := of_decide_eq_true (by first | (with_reducible assumption) | assumption)
              have q5 : x5_1 < (a0.size : Int) := of_decide_eq_true (by first | (with_reducible assumption) | assumption)
              have hx5 := bt_at a0 x5_1
              replace p5 := eq_true p5
              replace q5 := eq_true q5
              go_wp2
              go_roundg k1
              case measure => have := HK1.out; omega
              case rel => exact ⟨(wrap64 (x5_1 + 1)), (by first | rfl | (simp; done) | (simp [*]; done)), H', ⟨by have := HK1.out; omega⟩, by repeat (first | exact Drawn0.refl _ | apply Drawn0.step)⟩
            · rw [if_neg c6] at H
              have c6b0 : ((bt a0 x5_1) == 48) = false := beq_eq_false_iff_ne.mpr c6
              have c6b1 : ((bt a0 x5_1) != 48) = true := bne_iff_ne.mpr c6
              have H' := Aside0.mk H
              clear H
              have p5 : 0 ≤ (x5_1 : Int) := of_decide_eq_true (by first | (with_reducible assumption) | assumption)
              have q5 : x5_1 < (a0.size : Int) := of_decide_eq_true (by first | (with_reducible assumption) | assumption)
              have hx5 := bt_at a0 x5_1
              replace p5 := eq_true p5
              replace q5 := eq_true q5
              go_wp2
              go_meet
              case rel => exact ⟨_, (x5_1), (by first | rfl | (simp; done) | (simp [*]; done)), H', ⟨by have := HK1.out; first | omega | exact Nat.le_refl _⟩, by repeat (first | exact Drawn0.refl _ | apply Drawn0.step)⟩
          · rw [if_neg c4] at H
            exact absurd H (by simp)
        · rw [if_neg c3] at H
          have c3b0 : decide (x5_1 < (a0.size : Int)) = false := decide_eq_false c3
          clear c3
          (first | rw [c3b0] | (simp only [i64_w, i32_w]; rw [c3b0]) | skip)
          have H' := Aside0.mk H
          clear H
          go_wp2
          go_meet
          case rel => exact ⟨_, (x5_1), (by first | rfl | (simp; done) | (simp [*]; done)), H', ⟨by have := HK1.out; first | omega | exact Nat.le_refl _⟩, by repeat (first | exact Drawn0.refl _ | apply Drawn0.step)⟩
  case rest =>
    clear HC2
    try clear c2
    try clear p2
    try clear c3
    try clear c3b0
    try clear c4
    try clear c4b0
    try clear p5
    try clear q5
    try clear hx5
    try clear c6
    try clear c6b0
    try clear c6b1
    try clear p6
    try clear p2
    try clear p5
    try clear q5
    obtain ⟨kq, x5_1, rfl, HA, HJ1, ⟨mc1, rfl⟩⟩ := hcut
    cases kq with
    | zero => exact absurd HA.out (by simp [spec_l13TakeGamma.j1])
    | succ kj1 =>
      have H := HA.out
      clear HA
      simp only [spec_l13TakeGamma.j1] at H
      by_cases c7 : 0 ≤ x5_1
      · rw [if_pos c7] at H
        have c7b0 := eq_true c7
        have c7b1 : decide (0 ≤ x5_1) = true := decide_eq_true c7
        clear c7
        by_cases c8 : x5_1 ≤ (a0.size : Int)
        · rw [if_pos c8] at H
          have c8b0 := eq_true c8
          have c8b1 : decide (x5_1 ≤ (a0.size : Int)) = true := decide_eq_true c8
          clear c8
          replace H := Option.bind_eq_some_iff.mp H
          obtain ⟨⟨t102, t103⟩, A90, H⟩ := H
          replace H : (if t103 = true then ((spec_l13Number.f t102).bind fun t104 => (if t104 = true then (some (t102, wrap64 ((wrap64 (2 * x5_1)) + 1), true)) else (some (0, 0, false)))) else (some (0, 0, false))) = some (r1, r2, r3) := H
          have A9 := Aside0.mk A90
          clear A90
          by_cases c10 : t103 = true
          · subst c10
            have H1 : ((spec_l13Number.f t102).bind fun t104 => (if t104 = true then (some (t102, wrap64 ((wrap64 (2 * x5_1)) + 1), true)) else (some (0, 0, false)))) = some (r1, r2, r3) := by rw [if_pos rfl] at H; exact H
            clear H
            have H := H1
            clear H1
            replace H := Option.bind_eq_some_iff.mp H
            obtain ⟨t104, A110, H⟩ := H
            replace H : (if t104 = true then (some (t102, wrap64 ((wrap64 (2 * x5_1)) + 1), true)) else (some (0, 0, false))) = some (r1, r2, r3) := H
            have A11 := Aside0.mk A110
            clear A110
            by_cases c12 : t104 = true
            · subst c12
              have H1 : (some (t102, wrap64 ((wrap64 (2 * x5_1)) + 1), true)) = some (r1, r2, r3) := by rw [if_pos rfl] at H; exact H
              clear H
              have H := H1
              clear H1
              simp only [Option.some.injEq, Prod.mk.injEq] at H
              obtain ⟨rfl, rfl, rfl⟩ := H
              go_wp2_with (first | ((with_reducible refine gate_callee (f := 32) rfl ?_); refine goesL_ (some 26) rfl rfl Tryd.func32 (by kernel_rfl) rfl #[.string (a0.extract (x5_1 : Int).toNat a0.size), .int .i64 (wrap64 (x5_1 + 1))] rfl (by (try simp only [List.map_toArray, List.map_cons, List.map_nil]); first | done | rfl | (simp only [List.length_drop, List.length_take]; rfl)) ?_; (with_reducible refine (spec_l13Read.calls kj1 (a0.extract (x5_1 : Int).toNat a0.size) (wrap64 (x5_1 + 1)) t102 true _ A9.out).mono ?_); rintro e w' ⟨rfl, ⟨nd, rfl⟩⟩; refine ⟨_, rfl, ?_⟩) | (go_at_call 15; (with_reducible refine (spec_l13Number.calls t102 true _ A11.out).mono ?_); rintro e w' ⟨rfl, ⟨nd, rfl⟩⟩))
              go_ret3
              exact ⟨by first | rfl | (simp; done) | (simp [*]; done), by repeat (first | exact Drawn0.refl _ | apply Drawn0.step)⟩
            · replace c12 := Bool.eq_false_iff.mpr c12
              subst c12
              have H1 : (some (0, 0, false)) = some (r1, r2, r3) := by rw [if_neg (show ¬ (false = true) by decide)] at H; exact H
              clear H
              have H := H1
              clear H1
              simp only [Option.some.injEq, Prod.mk.injEq] at H
              obtain ⟨rfl, rfl, rfl⟩ := H
              go_wp2_with (first | ((with_reducible refine gate_callee (f := 32) rfl ?_); refine goesL_ (some 26) rfl rfl Tryd.func32 (by kernel_rfl) rfl #[.string (a0.extract (x5_1 : Int).toNat a0.size), .int .i64 (wrap64 (x5_1 + 1))] rfl (by (try simp only [List.map_toArray, List.map_cons, List.map_nil]); first | done | rfl | (simp only [List.length_drop, List.length_take]; rfl)) ?_; (with_reducible refine (spec_l13Read.calls kj1 (a0.extract (x5_1 : Int).toNat a0.size) (wrap64 (x5_1 + 1)) t102 true _ A9.out).mono ?_); rintro e w' ⟨rfl, ⟨nd, rfl⟩⟩; refine ⟨_, rfl, ?_⟩) | (go_at_call 15; (with_reducible refine (spec_l13Number.calls t102 false _ A11.out).mono ?_); rintro e w' ⟨rfl, ⟨nd, rfl⟩⟩))
              go_ret3
              exact ⟨by first | rfl | (simp; done) | (simp [*]; done), by repeat (first | exact Drawn0.refl _ | apply Drawn0.step)⟩
          · replace c10 := Bool.eq_false_iff.mpr c10
            subst c10
            have H1 : (some (0, 0, false)) = some (r1, r2, r3) := by rw [if_neg (show ¬ (false = true) by decide)] at H; exact H
            clear H
            have H := H1
            clear H1
            simp only [Option.some.injEq, Prod.mk.injEq] at H
            obtain ⟨rfl, rfl, rfl⟩ := H
            go_wp2_with (first | ((with_reducible refine gate_callee (f := 32) rfl ?_); refine goesL_ (some 26) rfl rfl Tryd.func32 (by kernel_rfl) rfl #[.string (a0.extract (x5_1 : Int).toNat a0.size), .int .i64 (wrap64 (x5_1 + 1))] rfl (by (try simp only [List.map_toArray, List.map_cons, List.map_nil]); first | done | rfl | (simp only [List.length_drop, List.length_take]; rfl)) ?_; (with_reducible refine (spec_l13Read.calls kj1 (a0.extract (x5_1 : Int).toNat a0.size) (wrap64 (x5_1 + 1)) t102 false _ A9.out).mono ?_); rintro e w' ⟨rfl, ⟨nd, rfl⟩⟩; refine ⟨_, rfl, ?_⟩))
            go_ret3
            exact ⟨by first | rfl | (simp; done) | (simp [*]; done), by repeat (first | exact Drawn0.refl _ | apply Drawn0.step)⟩
        · rw [if_neg c8] at H
          exact absurd H (by simp)
      · rw [if_neg c7] at H
        exact absurd H (by simp)

/-! ### spec_TakeGamma: function 13 -/
def spec_TakeGamma.f (k : Nat) (a0 : ByteArray) : Option (Int × Int × Bool) := (spec_l13TakeGamma.f k a0).bind fun bt105 => (some (bt105.1, bt105.2.1, bt105.2.2))
theorem spec_TakeGamma.mono : ∀ a0 k, LeO (spec_TakeGamma.f k a0) (spec_TakeGamma.f (k + 1) a0) := by
  intro a0 k
  unfold spec_TakeGamma.f
  repeat' first
      | (with_reducible exact spec_l13TakeGamma.mono _ _)
      | (with_reducible exact LeO.refl _)
      | (with_reducible exact LeO.none _)
      | (with_reducible refine LeO.ite ?_ ?_)
      | (with_reducible refine LeO.bind ?_ (fun _ => ?_))
      | exact spec_l13TakeGamma.mono _ _
      | exact LeO.none _
      | refine LeO.ite ?_ ?_
      | refine LeO.bind ?_ (fun _ => ?_)
set_option maxHeartbeats 8000000 in
set_option maxRecDepth 100000 in
theorem spec_TakeGamma.calls (k : Nat) (a0 : ByteArray) (r1 : Int) (r2 : Int) (r3 : Bool) (w : World) (h : spec_TakeGamma.f k a0 = some (r1, r2, r3)) :
    Calls Tryd.prog 13 #[.string a0] w fun e w' => e = .returned (.tuple #[.int .i64 r1, .int .i64 r2, .bool r3]) ∧ Drawn0 w w' := by
  have H : ((spec_l13TakeGamma.f k a0).bind fun bt105 => (some (bt105.1, bt105.2.1, bt105.2.2))) = some (r1, r2, r3) := h
  clear h
  replace H := Option.bind_eq_some_iff.mp H
  obtain ⟨⟨t105, t106, t107⟩, A20, H⟩ := H
  replace H : (some (t105, t106, t107)) = some (r1, r2, r3) := H
  have A2 := Aside0.mk A20
  clear A20
  simp only [Option.some.injEq, Prod.mk.injEq] at H
  obtain ⟨rfl, rfl, rfl⟩ := H
  go_enter Tryd.func13, Tryd.ntmps13
  go_wp2_with (first | ((with_reducible refine gate_callee (f := 26) rfl ?_); refine goesL_ (some 6) rfl rfl Tryd.func26 (by kernel_rfl) rfl #[.string a0] rfl (by (try simp only [List.map_toArray, List.map_cons, List.map_nil]); first | done | rfl | (simp only [List.length_drop, List.length_take]; rfl)) ?_; (with_reducible refine (spec_l13TakeGamma.calls k a0 t105 t106 t107 _ A2.out).mono ?_); rintro e w' ⟨rfl, ⟨nd, rfl⟩⟩; refine ⟨_, rfl, ?_⟩))
  go_ret3
  exact ⟨by first | rfl | (simp; done) | (simp [*]; done), by repeat (first | exact Drawn0.refl _ | apply Drawn0.step)⟩

/-! ### impl_within: function 24 -/
def impl_within.f (a0 : Int) (a1 : Int) (a2 : Int) : Option (Bool) := if a0 ≥ a1 then (some (decide (a0 ≤ a2))) else (some false)
set_option maxHeartbeats 8000000 in
set_option maxRecDepth 100000 in
theorem impl_within.calls (a0 : Int) (a1 : Int) (a2 : Int) (r : Bool) (w : World) (h : impl_within.f a0 a1 a2 = some r) :
    Calls Tryd.prog 24 #[.int .i64 a0, .int .i64 a1, .int .i64 a2] w fun e w' => e = .returned (.bool r) ∧ Drawn0 w w' := by
  have H : (if a0 ≥ a1 then (some (decide (a0 ≤ a2))) else (some false)) = some r := h
  clear h
  by_cases c4 : a0 ≥ a1
  · rw [if_pos c4] at H
    have c4b0 : decide (a1 ≤ a0) = true := decide_eq_true c4
    clear c4
    obtain rfl := Option.some.inj H
    go_enter Tryd.func24, Tryd.ntmps24
    go_wp2
    go_ret
    exact ⟨by first | rfl | (simp; done) | (simp [*]; done), by repeat (first | exact Drawn0.refl _ | apply Drawn0.step)⟩
  · rw [if_neg c4] at H
    have c4b0 : decide (a1 ≤ a0) = false := decide_eq_false c4
    clear c4
    obtain rfl := Option.some.inj H
    go_enter Tryd.func24, Tryd.ntmps24
    go_wp2
    go_ret
    exact ⟨by first | rfl | (simp; done) | (simp [*]; done), by repeat (first | exact Drawn0.refl _ | apply Drawn0.step)⟩

/-! ### impl_isNumber: function 17 -/
def impl_isNumber.f (a0 : Int) : Option (Bool) := (impl_within.f a0 1 1000000).bind fun t108 => (some t108)
set_option maxHeartbeats 8000000 in
set_option maxRecDepth 100000 in
theorem impl_isNumber.calls (a0 : Int) (r : Bool) (w : World) (h : impl_isNumber.f a0 = some r) :
    Calls Tryd.prog 17 #[.int .i64 a0] w fun e w' => e = .returned (.bool r) ∧ Drawn0 w w' := by
  have H : ((impl_within.f a0 1 1000000).bind fun t108 => (some t108)) = some r := h
  clear h
  replace H := Option.bind_eq_some_iff.mp H
  obtain ⟨t108, A20, H⟩ := H
  replace H : (some t108) = some r := H
  have A2 := Aside0.mk A20
  clear A20
  obtain rfl := Option.some.inj H
  go_enter Tryd.func17, Tryd.ntmps17
  go_wp2_with (first | ((with_reducible refine gate_callee (f := 24) rfl ?_); refine goesL_ (some 4) rfl rfl Tryd.func24 (by kernel_rfl) rfl #[.int .i64 a0, .int .i64 1, .int .i64 1000000] rfl (by (try simp only [List.map_toArray, List.map_cons, List.map_nil]); first | done | rfl | (simp only [List.length_drop, List.length_take]; rfl)) ?_; (with_reducible refine (impl_within.calls a0 1 1000000 t108 _ A2.out).mono ?_); rintro e w' ⟨rfl, ⟨nd, rfl⟩⟩; refine ⟨_, rfl, ?_⟩))
  go_ret
  exact ⟨by first | rfl | (simp; done) | (simp [*]; done), by repeat (first | exact Drawn0.refl _ | apply Drawn0.step)⟩

/-! ### strings_Repeat: function 29 -/
def strings_Repeat.f (a0 : ByteArray) (a1 : Int) : Option (ByteArray) := if 0 ≤ a1 then (if a1 ≤ 9223372036854775807 then (if a0.size * a1.toNat ≤ 140737488355328 then some ⟨(Lib.repeatL a0.data.toList a1.toNat).toArray⟩ else none) else none) else none
theorem strings_Repeat.calls (a0 : ByteArray) (a1 : Int) (r : ByteArray) (w : World) (h : strings_Repeat.f a0 a1 = some r) :
    Calls Tryd.prog 29 #[.string a0, .int .i64 a1] w fun e w' => e = .returned (.string r) ∧ Below w.heap.size w w' := by
  unfold strings_Repeat.f at h
  by_cases h1 : 0 ≤ a1
  case neg => rw [if_neg h1] at h; cases h
  rw [if_pos h1] at h
  by_cases h2 : a1 ≤ 9223372036854775807
  case neg => rw [if_neg h2] at h; cases h
  rw [if_pos h2] at h
  by_cases h3 : a0.size * a1.toNat ≤ 140737488355328
  case neg => rw [if_neg h3] at h; cases h
  rw [if_pos h3] at h
  injection h with h
  subst h
  obtain ⟨c, rfl⟩ := Int.eq_ofNat_of_zero_le h1
  have hcon := Tryd.strings_Repeat a0 c w (by omega) (by simpa using h3)
  simpa using hcon

/-! ### strconv_FormatInt: function 39 -/
set_option maxHeartbeats 4000000 in
set_option maxRecDepth 100000 in
theorem tz64_two (w : World) (hT : w.cell? ⟨3, 1, none⟩ = some (.int .u8 1)) : Calls Tryd.prog 59 #[.int .u64 2] w fun e w' => e = .returned (.int .i64 1) ∧ w' = w := by
  have key : IntKind.u64.wrap (Go.bits BinOp.and IntKind.u64 2 (IntKind.u64.wrap (-2)) * 285870213051353865) / 288230376151711744 = 1 := by decide +kernel
  go_enter Tryd.func59, Tryd.ntmps59
  go_wp2_with (simp only [key])
  go_ret
  exact ⟨rfl, rfl⟩
set_option maxHeartbeats 4000000 in
set_option maxRecDepth 100000 in
theorem tz_two (w : World) (hT : w.cell? ⟨3, 1, none⟩ = some (.int .u8 1)) : Calls Tryd.prog 57 #[.int .u64 2] w fun e w' => e = .returned (.int .i64 1) ∧ w' = w := by
  go_enter Tryd.func57, Tryd.ntmps57
  have hw : IntKind.u64.wrap 2 = 2 := by decide +kernel
  go_wp2_with ((with_reducible refine gate_callee (f := 59) rfl ?_); refine goesL_ (some 7) rfl rfl Tryd.func59 (by kernel_rfl) rfl #[.int .u64 2] rfl (by (try simp only [List.map_toArray, List.map_cons, List.map_nil]); first | done | rfl) ?_; (with_reducible refine (tz64_two _ hT).mono ?_); rintro e w' ⟨rfl, rfl⟩; refine ⟨_, rfl, ?_⟩)
  go_ret
  exact ⟨rfl, rfl⟩
set_option maxHeartbeats 4000000 in
set_option maxRecDepth 100000 in
theorem pow_two (w : World) : Calls Tryd.prog 56 #[.int .i64 2] w fun e w' => e = .returned (.bool true) ∧ w' = w := by
  go_enter Tryd.func56, Tryd.ntmps56
  go_wp2
  go_ret
  exact ⟨rfl, rfl⟩

/-- A number's binary digits, the highest first. -/
def binL (n : Nat) : List Nat := if n < 2 then [n] else binL (n / 2) ++ [n % 2]
termination_by n
decreasing_by omega
/-- The digits that stand in the array, from place i on. -/
def Held (W : World) (g i : Nat) (ds : List Nat) : Prop := ∃ cs, W.heap[g]? = some (.cells cs 72 (0, 0)) ∧ cs.size = 65 ∧ i + ds.length = 65 ∧ ∀ j, j < ds.length → cs[i + j]? = some (.int .u8 ((48 + ds.getD j 0 : Nat) : Int))
theorem Held.cell {W : World} {g i : Nat} {ds : List Nat} (h : Held W g i ds) (j : Nat) (hj : j < 65) : ∃ u, W.cell? ⟨g, j, none⟩ = some u ∧ W.frozen? ⟨g, j, none⟩ = false := by
  obtain ⟨cs, h1, h2, _⟩ := h
  exact ⟨cs[j], by simp [World.cell?, h1, h2, hj], by simp [World.frozen?, h1]⟩
theorem Held.put {W : World} {g i : Nat} {ds : List Nat} (h : Held W g (i + 1) ds) (d : Nat) (x : Int) (hx : x = ((48 + d : Nat) : Int)) : Held (W.setCell ⟨g, i, none⟩ (.int .u8 x)) g i (d :: ds) := by
  obtain ⟨cs, h1, h2, h3, h4⟩ := h
  subst hx
  refine ⟨cs.setIfInBounds i (.int .u8 ((48 + d : Nat) : Int)), ?_, by simpa using h2, by rw [List.length_cons]; omega, ?_⟩
  · simp only [World.setCell, Array.getElem?_modify, if_true, h1, Option.map_some]
    rfl
  · intro j hj
    rw [List.length_cons] at hj
    rw [Array.getElem?_setIfInBounds]
    cases j with
    | zero =>
      have : i < cs.size := by omega
      simp [this]
    | succ j =>
      rw [if_neg (by omega), show i + (j + 1) = i + 1 + j by omega, h4 j (by omega)]
      simp
theorem Held.len {W : World} {g i : Nat} {ds : List Nat} (h : Held W g i ds) : i + ds.length = 65 := by
  obtain ⟨cs, _, _, h3, _⟩ := h
  exact h3
set_option maxHeartbeats 4000000 in
set_option maxRecDepth 100000 in
theorem Held.conv {W : World} {g i : Nat} {ds : List Nat} (h : Held W g i ds) : (convert 38 9 (.slice (some ⟨g, i, none⟩) (65 - i) (65 - i))).run Tryd.prog W = .ok (.string (strOfNums (ds.map fun d => ((48 + d : Nat) : Int)))) W := by
  have hl := h.len
  obtain ⟨cs, h1, h2, h3, h4⟩ := h
  have hz : (ds.map fun d => ((48 + d : Nat) : Int)).length = 65 - i := by rw [List.length_map]; omega
  refine Kd.C_string Tryd.underlying38 Tryd.underlying5 Tryd.underlying9 (A := some ⟨g, i, none⟩) (n := 65 - i) (c := 65 - i) ?_
  refine Kd.C_of_reads (d := 0) ⟨hz, by omega, fun _ => ⟨_, rfl, fun j hj => ?_⟩⟩
  have hj' : j < ds.length := by omega
  rw [show (⟨g, i, none⟩ : Addr).add j = ⟨g, i + j, none⟩ from by unfold Addr.add; split <;> simp_all]
  simp only [World.cell?, h1]
  rw [h4 j hj']
  simp [List.getD_eq_getElem?_getD, hj']
set_option maxHeartbeats 4000000 in
set_option maxRecDepth 100000 in
theorem slice_at (W : World) (g i : Nat) (hi : i < 65) : (Instr.sliceAt 72 (.pointer (some ⟨g, 0, none⟩)) (some (.int .i64 (i : Int))) none none).run Tryd.prog W = .ok (.slice (some ⟨g, i, none⟩) (65 - i) (65 - i)) W := by
  have hal : Tryd.prog.arrayLen 72 = 65 := by kernel_rfl
  rw [run_sliceAt_array_l W 72 ⟨g, 0, none⟩ (by kernel_rfl) .i64 (i : Int) (by omega) (by rw [hal]; omega)]
  go_simp
  try omega
theorem dig_at (u : Nat) (hu : u < 2) (h : u < ({ data := #[48, 49, 50, 51, 52, 53, 54, 55, 56, 57, 97, 98, 99, 100, 101, 102, 103, 104, 105, 106, 107, 108, 109, 110, 111, 112, 113, 114, 115, 116, 117, 118, 119, 120, 121, 122] } : ByteArray).size) : (({ data := #[48, 49, 50, 51, 52, 53, 54, 55, 56, 57, 97, 98, 99, 100, 101, 102, 103, 104, 105, 106, 107, 108, 109, 110, 111, 112, 113, 114, 115, 116, 117, 118, 119, 120, 121, 122] } : ByteArray)[u]'h).toNat = 48 + u := by
  have e : u = 0 ∨ u = 1 := by omega
  rcases e with rfl | rfl <;> rfl
theorem slice_goes {ops : Array Oper} {Q : Exit → Act → World → Prop} {rest : List Oper} {o : Oper} {a : Act} {W : World} (x : Operand) (g i : Nat) (hi : i < 65) {y : Operand} (hg : o.guard = none) (ho : o.op = .slice 72 x (some y) none none) (hx : a.eval x = .pointer (some ⟨g, 0, none⟩)) (hy : a.eval y = .int .i64 (i : Int))
    (h : wpList Tryd.prog ops Q rest (a.put o.dst (.slice (some ⟨g, i, none⟩) (65 - i) (65 - i))) W) : wpList Tryd.prog ops Q (o :: rest) a W := by
  refine wpList_plain hg fun K hK => ?_
  unfold Oper.wp execOp
  simp only [ho, Sem.run_bind, Sem.run_pure, Option.map_some, Option.map_none, hx, hy, slice_at W g i hi, Result.andThen_ok]
  exact hK _ _ h
theorem conv_goes2 {ops : Array Oper} {Q : Exit → Act → World → Prop} {rest : List Oper} {o : Oper} {a : Act} {W : World} {x : Operand} {v s : Value} (hg : o.guard = none) (ho : o.op = .convert 38 9 x) (hx : a.eval x = v) (hr : (convert 38 9 v).run Tryd.prog W = .ok s W)
    (h : wpList Tryd.prog ops Q rest (a.put o.dst s) W) : wpList Tryd.prog ops Q (o :: rest) a W := by
  refine wpList_plain hg fun K hK => ?_
  unfold Oper.wp execOp
  simp only [ho, Sem.run_bind, Sem.run_pure, hx, hr, Result.andThen_ok]
  exact hK _ _ h
theorem K_w64 (i : Nat) (h : i < 1000) : wrap64 (i : Int) = (i : Int) := by unfold wrap64; omega
/-- A number that has no more than i + 1 binary digits. -/
def Fits (u i : Nat) : Prop := u < 2 ^ (i + 1) ∧ u < 1152921504606846976
theorem Fits.pos {u i : Nat} (h : Fits u i) (c : 2 ≤ u) : ∃ j, i = j + 1 ∧ Fits (u / 2) j := by
  obtain ⟨h, h2⟩ := h
  cases i with
  | zero => simp at h; omega
  | succ j => exact ⟨j, rfl, by rw [Nat.pow_succ] at h; omega, Nat.lt_of_le_of_lt (Nat.div_le_self _ _) h2⟩
theorem Fits.start {n : Nat} (h : n < 1152921504606846976) : Fits n 64 := by
  exact ⟨Nat.lt_trans h (by decide), h⟩
theorem keepT {w : World} {x : Value} (hG : 3 < w.heap.size) (hT : w.cell? ⟨3, 1, none⟩ = some x) (o : Obj) : (w.alloc o).cell? ⟨3, 1, none⟩ = some x := (((Below.refl w.heap.size w).alloc (Nat.le_refl _) o).cell (p := ⟨3, 1, none⟩) hG).trans hT
theorem held_start (w : World) : Held (w.alloc (.cells Tryd.zeroCells72 72)) w.heap.size 65 [] := by
  refine ⟨Tryd.zeroCells72, ?_, by kernel_rfl, rfl, fun j hj => absurd hj (Nat.not_lt_zero _)⟩
  show (w.heap.push _)[w.heap.size]? = _
  exact Array.getElem?_push_size
theorem lt65 {i m : Nat} (h : i + 1 + m = 65) : i < 65 := by omega
theorem w_65 {i : Nat} (h : i < 65) : wrap64 (i : Int) = (i : Int) := by unfold wrap64; omega
theorem lt65i {i : Nat} (h : i < 65) : ((i : Int) < 65) = True := eq_true (by omega)
theorem ge0i (i : Nat) : (0 ≤ (i : Int)) = True := eq_true (by omega)
theorem ge2d {u : Nat} (c : (u : Int) ≥ 2) : decide ((2 : Int) ≤ (u : Int)) = true := decide_eq_true c
theorem ge2e {u : Nat} (c : (u : Int) ≥ 2) : decide ((u : Int) ≥ 2) = true := decide_eq_true c
theorem ge2n {u : Nat} (c : (u : Int) ≥ 2) : 2 ≤ u := by omega
theorem lt2d {u : Nat} (c : ¬ (u : Int) ≥ 2) : decide ((2 : Int) ≤ (u : Int)) = false := decide_eq_false c
theorem lt2e {u : Nat} (c : ¬ (u : Int) ≥ 2) : decide ((u : Int) ≥ 2) = false := decide_eq_false c
theorem lt2n {u : Nat} (c : ¬ (u : Int) ≥ 2) : u = 0 ∨ u = 1 := by omega
theorem no_zero {u : Nat} (c : (u : Int) ≥ 2) (h : u ≤ 0) : False := by omega
theorem half_le {u k : Nat} (c : 2 ≤ u) (h : u ≤ k + 1) : u / 2 ≤ k := by omega
theorem w_u64 (n : Int) (h0 : 0 ≤ n) (h1 : n < 2 ^ 63) : IntKind.u64.wrap n = n := by rw [IntKind.wrap_u64]; omega
theorem and_one {u i : Nat} (h : Fits u i) : Go.bits BinOp.and .u64 (u : Int) 1 = ((u % 2 : Nat) : Int) := by
  have hu := h.2
  have := bits_mask .u64 63 (by decide) w_u64 1 (by decide) (u : Int) (by omega) (by omega)
  rw [show ((2 : Int) ^ 1 - 1) = 1 from rfl, show ((2 : Int) ^ 1) = 2 from rfl] at this
  rw [this]
  omega
theorem dig_mod (u : Nat) (h) : (({ data := #[48, 49, 50, 51, 52, 53, 54, 55, 56, 57, 97, 98, 99, 100, 101, 102, 103, 104, 105, 106, 107, 108, 109, 110, 111, 112, 113, 114, 115, 116, 117, 118, 119, 120, 121, 122] } : ByteArray)[u % 2]'h).toNat = ((48 + u % 2 : Nat) : Int) := congrArg (Nat.cast (R := Int)) (dig_at (u % 2) (Nat.mod_lt _ (by decide)) h)
theorem binL_step (u : Nat) (c : 2 ≤ u) : binL u = binL (u / 2) ++ [u % 2] := by rw [binL, if_neg (by omega)]
theorem binL_small (u : Nat) (c : u = 0 ∨ u = 1) : binL u = [u] := by rw [binL, if_pos (by omega)]
set_option maxHeartbeats 4000000 in
set_option maxRecDepth 100000 in
theorem fmt_two (n : Nat) (hn : n < 1152921504606846976) (w : World) (hT : w.cell? ⟨3, 1, none⟩ = some (.int .u8 1)) (hG : 3 < w.heap.size) : Calls Tryd.prog 52 #[.slice none 0 0, .int .u64 n, .int .i64 2, .bool false, .bool false] w fun e w' => e = .returned (.tuple #[.slice none 0 0, .string (strOfNums ((binL n).map fun d => ((48 + d : Nat) : Int)))]) ∧ Below w.heap.size w w' := by
  have k1_ : IntKind.u64.wrap 2 = 2 := by decide +kernel
  have k2_ : IntKind.u64.wrap 1 = 1 := by decide +kernel
  have k3_ : IntKind.u64.wrap (2 - 1) = 1 := by decide +kernel
  have hfit := Aside0.mk (Fits.start hn)
  clear hn
  go_enter Tryd.func52, Tryd.ntmps52
  go_wp2_with (first | ((with_reducible refine gate_callee (f := 56) rfl ?_); refine goesL_ (some 34) rfl rfl Tryd.func56 (by kernel_rfl) rfl #[.int .i64 2] rfl (by (try simp only [List.map_toArray, List.map_cons, List.map_nil]); first | done | rfl) ?_; (with_reducible refine (pow_two _).mono ?_); rintro e w' ⟨rfl, rfl⟩; refine ⟨_, rfl, ?_⟩) | ((with_reducible refine gate_callee (f := 57) rfl ?_); refine goesL_ (some 37) rfl rfl Tryd.func57 (by kernel_rfl) rfl #[.int .u64 2] rfl (by (try simp only [List.map_toArray, List.map_cons, List.map_nil]); first | done | rfl) ?_; (with_reducible refine (tz_two _ (keepT hG hT _)).mono ?_); rintro e w' ⟨rfl, rfl⟩; refine ⟨_, rfl, ?_⟩))
  go_loopg [1, 13] n (fun kq v1 v13 w' => ∃ (u i : Nat) (ds : List Nat), v1 = .int .u64 (u : Int) ∧ v13 = .int .i64 ((i + 1 : Nat) : Int) ∧ Aside0 (binL n = binL u ++ ds) ∧ Aside0 (u ≤ kq) ∧ Aside0 (Fits u i) ∧ Aside0 (Held w' w.heap.size (i + 1) ds) ∧ Aside0 (Below w.heap.size w w'))
  case atStart => exact ⟨n, 64, [], rfl, rfl, ⟨by simp⟩, ⟨Nat.le_refl _⟩, hfit, ⟨held_start w⟩, ⟨(Below.refl _ _).alloc (Nat.le_refl _) _⟩⟩
  case round =>
    obtain ⟨u, i, ds, rfl, rfl, hD, hk, hu, hH, hB⟩ := hrel
    have h65 := lt65 hH.out.len
    have hw := w_65 h65
    obtain ⟨u0, hc0, hf0⟩ := hH.out.cell i h65
    have hb1 := lt65i h65
    have hb0 := ge0i i
    by_cases c : (u : Int) ≥ 2
    · cases gk with
      | zero => exact (no_zero c hk.out).elim
      | succ k1 =>
        have c1 := ge2d c
        have c2 := ge2e c
        have hb := and_one hu.out
        have HC := Aside0.mk (ge2n c)
        have H65 := Aside0.mk h65
        clear c h65
        go_wp2
        go_roundg k1
        case measure => omega
        case rel =>
          obtain ⟨j, rfl, hf⟩ := hu.out.pos HC.out
          exact ⟨u / 2, j, (u % 2) :: ds, by rw [Int.natCast_ediv]; rfl, rfl, ⟨by rw [hD.out, binL_step u HC.out]; simp⟩, ⟨half_le HC.out hk.out⟩, ⟨hf⟩, ⟨hH.out.put (u % 2) _ (dig_mod u _)⟩, ⟨below_set hB.out (Nat.le_refl _)⟩⟩
    · have c1 := lt2d c
      have c2 := lt2e c
      have E_ := Aside0.mk (lt2n c)
      have hP := Aside0.mk (fun (x : Int) hx => (hH.out.put u x hx).conv)
      have hB2 := Aside0.mk (fun (x : Int) => below_set (j := i) (v := .int .u8 x) hB.out (Nat.le_refl _))
      have hR := Aside0.mk (show binL n = u :: ds by rw [hD.out, binL_small u E_.out]; rfl)
      have H65 := Aside0.mk h65
      clear c hD hk hu hH hB h65
      rcases E_.out with rfl | rfl
      all_goals
        go_wp2_with (first | ((with_reducible refine gate_dst (N := 100) rfl ?_); refine slice_goes _ w.heap.size i H65.out rfl rfl rfl (by first | rfl | exact congrArg (Value.int .i64) hw) ?_) | ((with_reducible refine gate_dst (N := 101) rfl ?_); refine conv_goes2 rfl rfl rfl (hP.out _ rfl) ?_))
        go_ret2
        exact ⟨by rw [hR.out]; rfl, hB2.out _⟩

theorem w_u64n {n : Nat} (h : n < 1152921504606846976) : IntKind.u64.wrap (n : Int) = (n : Int) := by rw [IntKind.wrap_u64]; omega
theorem neg_no (n : Nat) : decide ((n : Int) < 0) = false := decide_eq_false (by omega)
set_option maxHeartbeats 4000000 in
set_option maxRecDepth 100000 in
theorem int_two (n : Nat) (hn : n < 1152921504606846976) (w : World) (hT : w.cell? ⟨3, 1, none⟩ = some (.int .u8 1)) : Calls Tryd.prog 46 #[.int .i64 n, .int .i64 2] w fun e w' => e = .returned (.string (strOfNums ((binL n).map fun d => ((48 + d : Nat) : Int)))) ∧ Below w.heap.size w w' := by
  have hC := Aside0.mk (fmt_two n hn w hT (World.block_lt_of_cell? w _ hT))
  have hu := w_u64n hn
  have hz := neg_no n
  have hz2 : decide ((n : Int) < 0) = false := neg_no n
  clear hn hT
  go_enter Tryd.func46, Tryd.ntmps46
  go_wp2_with (first | ((with_reducible refine gate_callee (f := 52) rfl ?_); refine goesL_ (some 50) rfl rfl Tryd.func52 (by kernel_rfl) rfl #[.slice none 0 0, .int .u64 n, .int .i64 2, .bool false, .bool false] rfl (by (try simp only [List.map_toArray, List.map_cons, List.map_nil]); first | done | rfl) ?_; (with_reducible refine hC.out.mono ?_); rintro e w' ⟨rfl, hb⟩; refine ⟨_, rfl, ?_⟩; have HB := Aside0.mk hb; clear hb))
  go_ret
  exact ⟨rfl, HB.out⟩
def strconv_FormatInt.f (a0 a1 : Int) : Option ByteArray := if a1 = 2 then (if 0 ≤ a0 then (if a0 < 1000000000 then some (strOfNums ((binL a0.toNat).map fun d => ((48 + d : Nat) : Int))) else none) else none) else none
theorem tab_keep {w w' : World} {x : Value} (hT : w.cell? ⟨3, 1, none⟩ = some x) (h : Below w.heap.size w w') : w'.cell? ⟨3, 1, none⟩ = some x :=
  (h.cell (p := ⟨3, 1, none⟩) (World.block_lt_of_cell? w _ hT)).trans hT
set_option maxHeartbeats 4000000 in
set_option maxRecDepth 100000 in
theorem strconv_FormatInt.calls (a0 a1 : Int) (r : ByteArray) (w : World) (hTb_ : w.cell? ⟨3, 1, none⟩ = some (.int .u8 1)) (h : strconv_FormatInt.f a0 a1 = some r) :
    Calls Tryd.prog 39 #[.int .i64 a0, .int .i64 a1] w fun e w' => e = .returned (.string r) ∧ Below w.heap.size w w' := by
  unfold strconv_FormatInt.f at h
  by_cases h1 : a1 = 2
  case neg => rw [if_neg h1] at h; cases h
  rw [if_pos h1] at h
  by_cases h2 : 0 ≤ a0
  case neg => rw [if_neg h2] at h; cases h
  rw [if_pos h2] at h
  by_cases h3 : a0 < 1000000000
  case neg => rw [if_neg h3] at h; cases h
  rw [if_pos h3] at h
  injection h with h
  subst h h1
  obtain ⟨n, rfl⟩ := Int.eq_ofNat_of_zero_le h2
  have hC := Aside0.mk (int_two n (by omega) w hTb_)
  clear h2 h3 hTb_
  go_enter Tryd.func39, Tryd.ntmps39
  go_wp2_with (first | ((with_reducible refine gate_callee (f := 46) rfl ?_); refine goesL_ (some 7) rfl rfl Tryd.func46 (by kernel_rfl) rfl #[.int .i64 n, .int .i64 2] rfl (by (try simp only [List.map_toArray, List.map_cons, List.map_nil]); first | done | rfl) ?_; (with_reducible refine hC.out.mono ?_); rintro e w' ⟨rfl, hb⟩; refine ⟨_, rfl, ?_⟩; have HB := Aside0.mk hb; clear hb))
  go_ret
  exact ⟨rfl, HB.out⟩

/-! ### impl_digits: function 30 -/
def impl_digits.f (a0 : Int) : Option (ByteArray) := (strconv_FormatInt.f a0 2).bind fun t109 => (some t109)
set_option maxHeartbeats 8000000 in
set_option maxRecDepth 100000 in
theorem impl_digits.calls (a0 : Int) (r : ByteArray) (w : World) (hTb_ : w.cell? ⟨3, 1, none⟩ = some (.int .u8 1)) (h : impl_digits.f a0 = some r) :
    Calls Tryd.prog 30 #[.int .i64 a0] w fun e w' => e = .returned (.string r) ∧ Below w.heap.size w w' := by
  have HB := Aside0.mk (Below.refl w.heap.size w)
  have HTb_ := Aside0.mk hTb_
  clear hTb_
  have H : ((strconv_FormatInt.f a0 2).bind fun t109 => (some t109)) = some r := h
  clear h
  replace H := Option.bind_eq_some_iff.mp H
  obtain ⟨t109, A20, H⟩ := H
  replace H : (some t109) = some r := H
  have A2 := Aside0.mk A20
  clear A20
  obtain rfl := Option.some.inj H
  go_enter Tryd.func30, Tryd.ntmps30
  go_wp2_with (first | ((with_reducible refine gate_callee (f := 39) rfl ?_); refine goesL_ (some 4) rfl rfl Tryd.func39 (by kernel_rfl) rfl #[.int .i64 a0, .int .i64 2] rfl (by (try simp only [List.map_toArray, List.map_cons, List.map_nil]); first | done | rfl | (simp only [List.length_drop, List.length_take]; rfl)) ?_; (with_reducible refine (strconv_FormatInt.calls (hTb_ := tab_keep HTb_.out (by repeat (first | (with_reducible first | exact HB.out | apply below_alloc | apply pw_below_drewN | apply below_drew1) | exact HB.out))) a0 2 t109 _ A2.out).mono ?_); rintro e w3 ⟨rfl, hb⟩; refine ⟨_, rfl, ?_⟩; have n0_ := Aside0.mk (below_step (by repeat (first | (with_reducible first | exact HB.out | apply below_alloc | apply pw_below_drewN | apply below_drew1) | exact HB.out)) hb); clear HB; have HB := n0_; clear n0_; (try clear hb); (try clear hb2); (try clear hk); (try clear hi)))
  go_ret
  exact ⟨by first | rfl | (simp [errW_none, errW_some] <;> rfl) | (simp [*, errW_none, errW_some] <;> rfl), by repeat (first | (with_reducible first | exact HB.out | apply below_alloc | apply pw_below_drewN | apply below_drew1) | exact HB.out)⟩

/-! ### impl_gamma: function 18 -/
def impl_gamma.f (a0 : Int) : Option (ByteArray) := (impl_digits.f a0).bind fun t110 => ((strings_Repeat.f (⟨#[48]⟩ : ByteArray) (wrap64 ((t110.size : Int) - 1))).bind fun t111 => ((impl_digits.f a0).bind fun t112 => (if t111.size + t112.size ≤ 9223372036854775807 then (some (t111 ++ t112)) else (none))))
set_option maxHeartbeats 8000000 in
set_option maxRecDepth 100000 in
theorem impl_gamma.calls (a0 : Int) (r : ByteArray) (w : World) (hTb_ : w.cell? ⟨3, 1, none⟩ = some (.int .u8 1)) (h : impl_gamma.f a0 = some r) :
    Calls Tryd.prog 18 #[.int .i64 a0] w fun e w' => e = .returned (.string r) ∧ Below w.heap.size w w' := by
  have HB := Aside0.mk (Below.refl w.heap.size w)
  have HTb_ := Aside0.mk hTb_
  clear hTb_
  have H : ((impl_digits.f a0).bind fun t110 => ((strings_Repeat.f (⟨#[48]⟩ : ByteArray) (wrap64 ((t110.size : Int) - 1))).bind fun t111 => ((impl_digits.f a0).bind fun t112 => (if t111.size + t112.size ≤ 9223372036854775807 then (some (t111 ++ t112)) else (none))))) = some r := h
  clear h
  replace H := Option.bind_eq_some_iff.mp H
  obtain ⟨t110, A20, H⟩ := H
  replace H : ((strings_Repeat.f (⟨#[48]⟩ : ByteArray) (wrap64 ((t110.size : Int) - 1))).bind fun t111 => ((impl_digits.f a0).bind fun t112 => (if t111.size + t112.size ≤ 9223372036854775807 then (some (t111 ++ t112)) else (none)))) = some r := H
  have A2 := Aside0.mk A20
  clear A20
  replace H := Option.bind_eq_some_iff.mp H
  obtain ⟨t111, A30, H⟩ := H
  replace H : ((impl_digits.f a0).bind fun t112 => (if t111.size + t112.size ≤ 9223372036854775807 then (some (t111 ++ t112)) else (none))) = some r := H
  have A3 := Aside0.mk A30
  clear A30
  replace H := Option.bind_eq_some_iff.mp H
  obtain ⟨t112, A40, H⟩ := H
  replace H : (if t111.size + t112.size ≤ 9223372036854775807 then (some (t111 ++ t112)) else (none)) = some r := H
  have A4 := Aside0.mk A40
  clear A40
  by_cases c5 : t111.size + t112.size ≤ 9223372036854775807
  · rw [if_pos c5] at H
    have c5b0 := eq_true c5
    have c5b1 : decide (t111.size + t112.size ≤ 9223372036854775807) = true := decide_eq_true c5
    try have c5b2 : (9223372036854775807 < t111.size + t112.size) = False := eq_false (Nat.not_lt.2 c5)
    try (have c5b3 := c5b2; simp only [ByteArray.size_append] at c5b3)
    obtain rfl := Option.some.inj H
    go_enter Tryd.func18, Tryd.ntmps18
    go_wp2_with (first | ((with_reducible refine gate_callee (f := 30) rfl ?_); refine goesL_ (some 4) rfl rfl Tryd.func30 (by kernel_rfl) rfl #[.int .i64 a0] rfl (by (try simp only [List.map_toArray, List.map_cons, List.map_nil]); first | done | rfl | (simp only [List.length_drop, List.length_take]; rfl)) ?_; (with_reducible refine (impl_digits.calls (hTb_ := tab_keep HTb_.out (by repeat (first | (with_reducible first | exact HB.out | apply below_alloc | apply pw_below_drewN | apply below_drew1) | exact HB.out))) a0 t110 _ A2.out).mono ?_); rintro e w6 ⟨rfl, hb⟩; refine ⟨_, rfl, ?_⟩; have n0_ := Aside0.mk (below_step (by repeat (first | (with_reducible first | exact HB.out | apply below_alloc | apply pw_below_drewN | apply below_drew1) | exact HB.out)) hb); clear HB; have HB := n0_; clear n0_; (try clear hb); (try clear hb2); (try clear hk); (try clear hi)) | ((with_reducible refine gate_callee (f := 29) rfl ?_); refine goesL_ (some 7) rfl rfl Tryd.func29 (by kernel_rfl) rfl #[.string (⟨#[48]⟩ : ByteArray), .int .i64 (wrap64 ((t110.size : Int) - 1))] rfl (by (try simp only [List.map_toArray, List.map_cons, List.map_nil]); first | done | rfl | (simp only [List.length_drop, List.length_take]; rfl)) ?_; (with_reducible refine (strings_Repeat.calls (⟨#[48]⟩ : ByteArray) (wrap64 ((t110.size : Int) - 1)) t111 _ A3.out).mono ?_); rintro e w7 ⟨rfl, hb⟩; refine ⟨_, rfl, ?_⟩; have n0_ := Aside0.mk (below_step (by repeat (first | (with_reducible first | exact HB.out | apply below_alloc | apply pw_below_drewN | apply below_drew1) | exact HB.out)) hb); clear HB; have HB := n0_; clear n0_; (try clear hb); (try clear hb2); (try clear hk); (try clear hi)) | ((with_reducible refine gate_callee (f := 30) rfl ?_); refine goesL_ (some 9) rfl rfl Tryd.func30 (by kernel_rfl) rfl #[.int .i64 a0] rfl (by (try simp only [List.map_toArray, List.map_cons, List.map_nil]); first | done | rfl | (simp only [List.length_drop, List.length_take]; rfl)) ?_; (with_reducible refine (impl_digits.calls (hTb_ := tab_keep HTb_.out (by repeat (first | (with_reducible first | exact HB.out | apply below_alloc | apply pw_below_drewN | apply below_drew1) | exact HB.out))) a0 t112 _ A4.out).mono ?_); rintro e w8 ⟨rfl, hb⟩; refine ⟨_, rfl, ?_⟩; have n0_ := Aside0.mk (below_step (by repeat (first | (with_reducible first | exact HB.out | apply below_alloc | apply pw_below_drewN | apply below_drew1) | exact HB.out)) hb); clear HB; have HB := n0_; clear n0_; (try clear hb); (try clear hb2); (try clear hk); (try clear hi)))
    go_ret
    exact ⟨by first | rfl | (simp [errW_none, errW_some] <;> rfl) | (simp [*, errW_none, errW_some] <;> rfl), by repeat (first | (with_reducible first | exact HB.out | apply below_alloc | apply pw_below_drewN | apply below_drew1) | exact HB.out)⟩
  · rw [if_neg c5] at H
    exact absurd H (by simp)

end Go.Proofs.YtaoemgkalmhnbaaDoor.PFnExactTakeGamma
