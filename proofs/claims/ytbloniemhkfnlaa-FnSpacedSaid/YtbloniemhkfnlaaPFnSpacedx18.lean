/- A law's functions as plain Lean functions, each with the walk that shows that the code computes it: written by this session's program wip/tools/ppmake.py. -/
import Derived.Test.YtbloniemhkfnlaaKZ
import Derived.Test.YtbloniemhkfnlaaPFnSpacedx0
import Derived.Test.YtbloniemhkfnlaaPFnSpacedx1
import Derived.Test.YtbloniemhkfnlaaPFnSpacedx2
import Derived.Test.YtbloniemhkfnlaaPFnSpacedx4
import Derived.Test.YtbloniemhkfnlaaPFnSpacedx6
import Derived.Test.YtbloniemhkfnlaaPFnSpacedx12
import Derived.Test.YtbloniemhkfnlaaPFnSpacedx15
import Derived.Test.YtbloniemhkfnlaaPFnSpacedx16
import Derived.Test.YtbloniemhkfnlaaPFnSpacedx17
namespace Go.Proofs.Ytbloniemhkfnlaa.PFnSpaced
open Go.RowKit Go.Proofs.YtbloniemhkfnlaaW.PrintWords Go.Proofs.YtbloniemhkfnlaaW.PrintLast Go.Proofs.YtbloniemhkfnlaaW.PrintMore
attribute [local go_sem] max2_int min2_int max_two min_two max_three min_three max_four min_four   -- for this text's walks alone
set_option linter.unusedVariables false
set_option linter.unusedSimpArgs false

/-! ### laws_FnSpaced: function 10 -/
mutual
def laws_FnSpaced.j1 : Nat → List Int → Option (Bool)
 | 0, _ => none
 | k + 1, x1 => (spec_DrawSyndromesOf.f k x1).bind fun bt514 => ((impl_SyndromesOf.f k bt514.1 bt514.2).bind fun bt518 => ((spec_SyndromesOf.f k bt514.1 bt514.2).bind fun bt522 => ((spec_DrawLocatorOf.f k x1).bind fun t526 => ((impl_LocatorOf.f k t526).bind fun bt529 => ((spec_LocatorOf.f k t526).bind fun bt533 => (if (bt518.2 != bt522.2) = true then (laws_FnSpaced.j2 k bt514.1 bt514.2 bt518.1 bt518.2 true) else ((laws_sameBytes.f bt518.1 bt522.1).bind fun t537 => (if t537 = true then (if (bt529.2 != bt533.2) = true then (laws_FnSpaced.j2 k bt514.1 bt514.2 bt518.1 bt518.2 true) else ((laws_sameBytes.f bt529.1 bt533.1).bind fun t538 => (laws_FnSpaced.j2 k bt514.1 bt514.2 bt518.1 bt518.2 (!t538)))) else (laws_FnSpaced.j2 k bt514.1 bt514.2 bt518.1 bt518.2 true)))))))))
def laws_FnSpaced.j2 : Nat → List Int → Int → List Int → Bool → Bool → Option (Bool)
 | 0, _, _, _, _, _ => none
 | k + 1, x17, x18, x19, x20, x168 => if x168 = true then (some false) else (if x20 = true then (laws_FnSpaced.l1 k x17 x18 x19 true x19 (x19.length : Int) 0) else (some ((x19.length : Int) == 0)))
def laws_FnSpaced.l1 : Nat → List Int → Int → List Int → Bool → List Int → Int → Int → Option (Bool)
 | 0, _, _, _, _, _, _, _ => none
 | k + 1, x17, x18, x19, x28, x174, x175, x176 => if x176 < x175 then (if 0 ≤ x176 then (if x176 < (x174.length : Int) then (if x28 = true then (laws_FnSpaced.l1 k x17 x18 x19 ((rd x174 x176) == 0) x174 x175 (wrap64 (x176 + 1))) else (laws_FnSpaced.l1 k x17 x18 x19 false x174 x175 (wrap64 (x176 + 1)))) else (none)) else (none)) else ((impl_IsWord.f k x17 x18).bind fun bt540 => (if bt540.2 = true then (if (bt540.1 == x28) = true then (some ((x19.length : Int) == (wrap64 (2 * x18)))) else (some false)) else (some false)))
def laws_FnSpaced.l0 : Nat → List Int → List Int → Int → List Int → List Int → Int → Int → Option (Bool)
 | 0, _, _, _, _, _, _, _ => none
 | k + 1, x1, x5, x6, x7, x11, x64, x65 => if x65 < x64 then (if x65 < (x1.length : Int) then (if 0 ≤ x65 then (if x65 < (x11.length : Int) then (laws_FnSpaced.l0 k x1 x5 x6 x7 (x11.set (x65 : Int).toNat (Go.bits .xor .u8 (rd x11 x65) (rd x1 x65))) x64 (wrap64 (x65 + 1))) else (none)) else (none)) else (laws_FnSpaced.l0 k x1 x5 x6 x7 x11 x64 (wrap64 (x65 + 1)))) else ((impl_EncodeWord.f k x11 x6).bind fun bt506 => ((impl_DistanceOf.f k x7 bt506.1).bind fun bt510 => (if bt506.2 = true then (if bt510.2 = true then (if bt510.1 > 0 then (if bt510.1 < (wrap64 ((wrap64 (2 * x6)) + 1)) then (some false) else ((laws_sameBytes.f x5 x11).bind fun t512 => (if ((bt510.1 == 0) != t512) = true then (some false) else (laws_FnSpaced.j1 k x1)))) else ((laws_sameBytes.f x5 x11).bind fun t513 => (if ((bt510.1 == 0) != t513) = true then (some false) else (laws_FnSpaced.j1 k x1)))) else (some false)) else (some false))))
end
def laws_FnSpaced.f (k : Nat) (l0 : List Int) (l1 : List Int) : Option (Bool) := if (wrap64 ((l0.length : Int) + (l1.length : Int))) > 1048576 then (some true) else ((spec_DrawEncodeWord.f k l0).bind fun bt485 => ((impl_EncodeWord.f k bt485.1 bt485.2).bind fun bt489 => ((spec_EncodeWord.f k bt485.1 bt485.2).bind fun bt493 => (if (bt489.2 != bt493.2) = true then (some false) else (if bt489.2 = true then ((some (([] : List Int) : List Int)).bind fun y497 => (if y497.length + bt485.1.length < 140737488355328 then ((some (y497 ++ bt485.1 : List Int)).bind fun y500 => (laws_FnSpaced.l0 k l1 bt485.1 bt485.2 bt489.1 y500 (y500.length : Int) 0)) else (none))) else (laws_FnSpaced.j1 k l1))))))
theorem laws_FnSpaced.mono_l : ∀ k, (∀ y0, LeO (laws_FnSpaced.j1 k y0) (laws_FnSpaced.j1 (k + 1) y0)) ∧ (∀ y0 y1 y2 y3 y4, LeO (laws_FnSpaced.j2 k y0 y1 y2 y3 y4) (laws_FnSpaced.j2 (k + 1) y0 y1 y2 y3 y4)) ∧ (∀ y0 y1 y2 y3 y4 y5 y6, LeO (laws_FnSpaced.l1 k y0 y1 y2 y3 y4 y5 y6) (laws_FnSpaced.l1 (k + 1) y0 y1 y2 y3 y4 y5 y6)) ∧ (∀ y0 y1 y2 y3 y4 y5 y6, LeO (laws_FnSpaced.l0 k y0 y1 y2 y3 y4 y5 y6) (laws_FnSpaced.l0 (k + 1) y0 y1 y2 y3 y4 y5 y6))
 | 0 => ⟨fun _ r h => by simp [laws_FnSpaced.j1] at h, fun _ _ _ _ _ r h => by simp [laws_FnSpaced.j2] at h, fun _ _ _ _ _ _ _ r h => by simp [laws_FnSpaced.l1] at h, fun _ _ _ _ _ _ _ r h => by simp [laws_FnSpaced.l0] at h⟩
 | k + 1 => by
  obtain ⟨ih0, ih1, ih2, ih3⟩ := laws_FnSpaced.mono_l k
  refine ⟨?_, ?_, ?_, ?_⟩
  ·intro y0
   unfold laws_FnSpaced.j1
   repeat' first
   | (with_reducible exact ih0 _)
   | (with_reducible exact ih1 _ _ _ _ _)
   | (with_reducible exact ih2 _ _ _ _ _ _ _)
   | (with_reducible exact ih3 _ _ _ _ _ _ _)
   | (with_reducible exact impl_DistanceOf.mono _ _ _)
   | (with_reducible exact impl_EncodeWord.mono _ _ _)
   | (with_reducible exact impl_IsWord.mono _ _ _)
   | (with_reducible exact impl_LocatorOf.mono _ _)
   | (with_reducible exact impl_SyndromesOf.mono _ _ _)
   | (with_reducible exact spec_DrawEncodeWord.mono _ _)
   | (with_reducible exact spec_DrawLocatorOf.mono _ _)
   | (with_reducible exact spec_DrawSyndromesOf.mono _ _)
   | (with_reducible exact spec_EncodeWord.mono _ _ _)
   | (with_reducible exact spec_LocatorOf.mono _ _)
   | (with_reducible exact spec_SyndromesOf.mono _ _ _)
   | (with_reducible exact LeO.refl _)
   | (with_reducible exact LeO.none _)
   | (with_reducible refine LeO.ite ?_ ?_)
   | (with_reducible refine LeO.bind ?_ (fun _ => ?_))
   | exact ih0 _
   | exact ih1 _ _ _ _ _
   | exact ih2 _ _ _ _ _ _ _
   | exact ih3 _ _ _ _ _ _ _
   | exact impl_DistanceOf.mono _ _ _
   | exact impl_EncodeWord.mono _ _ _
   | exact impl_IsWord.mono _ _ _
   | exact impl_LocatorOf.mono _ _
   | exact impl_SyndromesOf.mono _ _ _
   | exact spec_DrawEncodeWord.mono _ _
   | exact spec_DrawLocatorOf.mono _ _
   | exact spec_DrawSyndromesOf.mono _ _
   | exact spec_EncodeWord.mono _ _ _
   | exact spec_LocatorOf.mono _ _
   | exact spec_SyndromesOf.mono _ _ _
   | exact LeO.none _
   | refine LeO.ite ?_ ?_
   | refine LeO.bind ?_ (fun _ => ?_)
  ·intro y0 y1 y2 y3 y4
   unfold laws_FnSpaced.j2
   repeat' first | apply LeO.refl | apply LeO.none | apply LeO.ite | apply ih0 | apply ih1 | apply ih2 | apply ih3 | apply impl_DistanceOf.mono | apply impl_EncodeWord.mono | apply impl_IsWord.mono | apply impl_LocatorOf.mono | apply impl_SyndromesOf.mono | apply spec_DrawEncodeWord.mono | apply spec_DrawLocatorOf.mono | apply spec_DrawSyndromesOf.mono | apply spec_EncodeWord.mono | apply spec_LocatorOf.mono | apply spec_SyndromesOf.mono | (refine LeO.bind ?_ (fun _ => ?_))
  ·intro y0 y1 y2 y3 y4 y5 y6
   unfold laws_FnSpaced.l1
   repeat' first | apply LeO.refl | apply LeO.none | apply LeO.ite | apply ih0 | apply ih1 | apply ih2 | apply ih3 | apply impl_DistanceOf.mono | apply impl_EncodeWord.mono | apply impl_IsWord.mono | apply impl_LocatorOf.mono | apply impl_SyndromesOf.mono | apply spec_DrawEncodeWord.mono | apply spec_DrawLocatorOf.mono | apply spec_DrawSyndromesOf.mono | apply spec_EncodeWord.mono | apply spec_LocatorOf.mono | apply spec_SyndromesOf.mono | (refine LeO.bind ?_ (fun _ => ?_))
  ·intro y0 y1 y2 y3 y4 y5 y6
   unfold laws_FnSpaced.l0
   repeat' first
   | (with_reducible exact ih0 _)
   | (with_reducible exact ih1 _ _ _ _ _)
   | (with_reducible exact ih2 _ _ _ _ _ _ _)
   | (with_reducible exact ih3 _ _ _ _ _ _ _)
   | (with_reducible exact impl_DistanceOf.mono _ _ _)
   | (with_reducible exact impl_EncodeWord.mono _ _ _)
   | (with_reducible exact impl_IsWord.mono _ _ _)
   | (with_reducible exact impl_LocatorOf.mono _ _)
   | (with_reducible exact impl_SyndromesOf.mono _ _ _)
   | (with_reducible exact spec_DrawEncodeWord.mono _ _)
   | (with_reducible exact spec_DrawLocatorOf.mono _ _)
   | (with_reducible exact spec_DrawSyndromesOf.mono _ _)
   | (with_reducible exact spec_EncodeWord.mono _ _ _)
   | (with_reducible exact spec_LocatorOf.mono _ _)
   | (with_reducible exact spec_SyndromesOf.mono _ _ _)
   | (with_reducible exact LeO.refl _)
   | (with_reducible exact LeO.none _)
   | (with_reducible refine LeO.ite ?_ ?_)
   | (with_reducible refine LeO.bind ?_ (fun _ => ?_))
   | exact ih0 _
   | exact ih1 _ _ _ _ _
   | exact ih2 _ _ _ _ _ _ _
   | exact ih3 _ _ _ _ _ _ _
   | exact impl_DistanceOf.mono _ _ _
   | exact impl_EncodeWord.mono _ _ _
   | exact impl_IsWord.mono _ _ _
   | exact impl_LocatorOf.mono _ _
   | exact impl_SyndromesOf.mono _ _ _
   | exact spec_DrawEncodeWord.mono _ _
   | exact spec_DrawLocatorOf.mono _ _
   | exact spec_DrawSyndromesOf.mono _ _
   | exact spec_EncodeWord.mono _ _ _
   | exact spec_LocatorOf.mono _ _
   | exact spec_SyndromesOf.mono _ _ _
   | exact LeO.none _
   | refine LeO.ite ?_ ?_
   | refine LeO.bind ?_ (fun _ => ?_)
theorem laws_FnSpaced.mono : ∀ a0 a1 k, LeO (laws_FnSpaced.f k a0 a1) (laws_FnSpaced.f (k + 1) a0 a1) := by
 intro a0 a1 k; obtain ⟨ih0, ih1, ih2, ih3⟩ := laws_FnSpaced.mono_l k
 unfold laws_FnSpaced.f
 repeat' first | apply LeO.refl | apply LeO.none | apply LeO.ite | apply ih0 | apply ih1 | apply ih2 | apply ih3 | apply impl_DistanceOf.mono | apply impl_EncodeWord.mono | apply impl_IsWord.mono | apply impl_LocatorOf.mono | apply impl_SyndromesOf.mono | apply spec_DrawEncodeWord.mono | apply spec_DrawLocatorOf.mono | apply spec_DrawSyndromesOf.mono | apply spec_EncodeWord.mono | apply spec_LocatorOf.mono | apply spec_SyndromesOf.mono | (refine LeO.bind ?_ (fun _ => ?_))
def laws_FnSpaced.T14 : Bool × List (List Nat × List Nat) := (true, [([], []), ([], []), ([0, 1], [0, 1]), ([2], [2]), ([], []), ([], []), ([4, 5], [4, 5]), ([6], [6]), ([3, 7], [3, 7]), ([0, 1, 0, 1, 2, 3, 4, 5, 6, 7, 8], [0, 1]), ([9, 8, 0, 1, 2, 3, 4, 5, 6, 7, 8], [8, 9])])
def laws_FnSpaced.B14 : List Nat := [0, 0, 3, 7, 0, 0, 48, 112, 255, 511, 1023]
theorem laws_FnSpaced.tab14 : rtab .any (opsOf Try.f10 14) = laws_FnSpaced.T14 := by kernel_rfl
theorem laws_FnSpaced.bits14 : waitsOk laws_FnSpaced.T14.2 laws_FnSpaced.B14 = true := by kernel_rfl
set_option maxHeartbeats 8000000 in
set_option maxRecDepth 100000 in
theorem laws_FnSpaced.calls (k : Nat) (A0 : Option Addr) (c0 : Nat) (l0 : List Int) (A1 : Option Addr) (c1 : Nat) (l1 : List Int) (r : Bool) (w : World) (hr0 : Kd.C (Kd.int .u8) w A0 l0.length l0) (hc0 : l0.length ≤ c0) (hr1 : Kd.C (Kd.int .u8) w A1 l1.length l1) (hc1 : l1.length ≤ c1) (h : laws_FnSpaced.f k l0 l1 = some r) :
  Calls Try.prog 10 #[.slice A0 l0.length c0, .slice A1 l1.length c1] w fun e w' => e = .returned (.bool r) ∧ Below w.heap.size w w' := by
 have HR0 := am hr0; have HC0 := am hc0; clear hr0 hc0; have HR1 := am hr1; have HC1 := am hc1; clear hr1 hc1; have HB := am (Below.refl w.heap.size w); have H : (if (wrap64 ((l0.length : Int) + (l1.length : Int))) > 1048576 then (some true) else ((spec_DrawEncodeWord.f k l0).bind fun bt485 => ((impl_EncodeWord.f k bt485.1 bt485.2).bind fun bt489 => ((spec_EncodeWord.f k bt485.1 bt485.2).bind fun bt493 => (if (bt489.2 != bt493.2) = true then (some false) else (if bt489.2 = true then ((some (([] : List Int) : List Int)).bind fun y497 => (if y497.length + bt485.1.length < 140737488355328 then ((some (y497 ++ bt485.1 : List Int)).bind fun y500 => (laws_FnSpaced.l0 k l1 bt485.1 bt485.2 bt489.1 y500 (y500.length : Int) 0)) else (none))) else (laws_FnSpaced.j1 k l1))))))) = some r := h; clear h
 by_cases c3 : (wrap64 ((l0.length : Int) + (l1.length : Int))) > 1048576
 ·rw [if_pos c3] at H; have c3b0 : decide (1048576 < (wrap64 ((l0.length : Int) + (l1.length : Int)))) = true := decide_eq_true c3; clear c3; obtain rfl := Option.some.inj H
  go_enter Try.func10, Try.ntmps10
  go_wp2
  go_ret
  exact ⟨rfl, zB HB.out⟩
 ·rw [if_neg c3] at H; have c3b0 : decide (1048576 < (wrap64 ((l0.length : Int) + (l1.length : Int)))) = false := decide_eq_false c3; clear c3; obtain ⟨⟨t485, t486⟩, A4, H⟩ := bi_ H; dsimp only at H; obtain ⟨⟨t489, t490⟩, A5, H⟩ := bi_ H; dsimp only at H; obtain ⟨⟨t493, t494⟩, A6, H⟩ := bi_ H; dsimp only at H
  by_cases c7 : (t490 != t494) = true
  ·rw [if_pos c7] at H; have c7b0 : (t490 != t494) = true := c7
   (try (have c7b1 : decide (t490 = t494) = false := by simpa using c7))
   (try (have c7b2 : (t490 == t494) = false := by simpa using c7))
   (try (have c7b3 : ¬ (t490 = t494) := by simpa using c7))
   clear c7; obtain rfl := Option.some.inj H
   go_enter Try.func10, Try.ntmps10
   go_wp2_with (first | ((with_reducible refine gate_callee (f := 30) rfl ?_); refine goL_ (some 41) Try.func30 #[.slice A0 l0.length c0] ?_; (with_reducible refine (spec_DrawEncodeWord.calls k _ _ l0 t485 t486 _ ?side1 ?side2 A4.out).mono ?_); (case side1 => exact zC HR0.out); (case side2 => exact HC0.out); rintro e w8 ⟨v487, rfl, ho0, hb⟩; refine ⟨_, rfl, ?_⟩; have HO488 := am (Kd.R_lower ho0 (zs_ HB.out)); replace HB := am (below_step (zB HB.out) hb); (try clear hb); (try clear ho0); obtain ⟨Ao9, co9, eo9⟩ := Kd.R_slice HO488.out; subst eo9) | ((with_reducible refine gate_callee (f := 23) rfl ?_); refine goL_ (some 47) Try.func23 #[.slice Ao9 t485.length co9, .int .i64 t486] ?_; (with_reducible refine (impl_EncodeWord.calls k _ _ t485 t486 t489 t490 _ ?side1 ?side2 A5.out).mono ?_); (case side1 => exact zC ((Kd.R_reads' HO488.out).2.2)); (case side2 => exact (Kd.R_reads' HO488.out).2.1); rintro e w10 ⟨v491, rfl, ho0, hb⟩; refine ⟨_, rfl, ?_⟩; have HO492 := am (Kd.R_lower (Kd.R_new' ho0 (Kd.R_lt (zR HO488.out))) (zs_ HB.out)); replace HO488 := am (Kd.R_elder' (zR HO488.out) (Kd.R_base ho0) hb); replace HB := am (below_step (zB HB.out) hb); (try clear hb); (try clear ho0)) | ((with_reducible refine gate_callee (f := 22) rfl ?_); refine goL_ (some 53) Try.func22 #[.slice Ao9 t485.length co9, .int .i64 t486] ?_; (with_reducible refine (spec_EncodeWord.calls k _ _ t485 t486 t493 t494 _ ?side1 ?side2 A6.out).mono ?_); (case side1 => exact zC ((Kd.R_reads' HO488.out).2.2)); (case side2 => exact (Kd.R_reads' HO488.out).2.1); rintro e w11 ⟨v495, rfl, ho0, hb⟩; refine ⟨_, rfl, ?_⟩; have HO496 := am (Kd.R_lower (Kd.R_new' (Kd.R_new' ho0 (Kd.R_lt (zR HO488.out))) (Kd.R_lt (zR HO492.out))) (zs_ HB.out)); replace HO488 := am (Kd.R_elder' (zR HO488.out) (Kd.R_base ho0) hb); replace HO492 := am (Kd.R_elder' (zR HO492.out) (Kd.R_base ho0) hb); replace HB := am (below_step (zB HB.out) hb); (try clear hb); (try clear ho0)))
   go_ret
   exact ⟨rfl, zB HB.out⟩
  ·rw [if_neg c7] at H
   have c7b0 : (t490 != t494) = false := by simpa using c7
   (try (have c7b1 : decide (t490 = t494) = true := by simpa using c7))
   (try (have c7b2 : (t490 == t494) = true := by simpa using c7))
   clear c7; have HC12 := am H; clear H
   go_enter Try.func10, Try.ntmps10
   go_upto_if 59 with (first | ((with_reducible refine gate_callee (f := 30) rfl ?_); refine goL_ (some 41) Try.func30 #[.slice A0 l0.length c0] ?_; (with_reducible refine (spec_DrawEncodeWord.calls k _ _ l0 t485 t486 _ ?side1 ?side2 A4.out).mono ?_); (case side1 => exact zC HR0.out); (case side2 => exact HC0.out); rintro e w13 ⟨v487, rfl, ho0, hb⟩; refine ⟨_, rfl, ?_⟩; have HO488 := am (Kd.R_lower ho0 (zs_ HB.out)); replace HB := am (below_step (zB HB.out) hb); (try clear hb); (try clear ho0); obtain ⟨Ao14, co14, eo14⟩ := Kd.R_slice HO488.out; subst eo14) | ((with_reducible refine gate_callee (f := 23) rfl ?_); refine goL_ (some 47) Try.func23 #[.slice Ao14 t485.length co14, .int .i64 t486] ?_; (with_reducible refine (impl_EncodeWord.calls k _ _ t485 t486 t489 t490 _ ?side1 ?side2 A5.out).mono ?_); (case side1 => exact zC ((Kd.R_reads' HO488.out).2.2)); (case side2 => exact (Kd.R_reads' HO488.out).2.1); rintro e w15 ⟨v491, rfl, ho0, hb⟩; refine ⟨_, rfl, ?_⟩; have HO492 := am (Kd.R_lower (Kd.R_new' ho0 (Kd.R_lt (zR HO488.out))) (zs_ HB.out)); replace HO488 := am (Kd.R_elder' (zR HO488.out) (Kd.R_base ho0) hb); replace HB := am (below_step (zB HB.out) hb); (try clear hb); (try clear ho0)) | ((with_reducible refine gate_callee (f := 22) rfl ?_); refine goL_ (some 53) Try.func22 #[.slice Ao14 t485.length co14, .int .i64 t486] ?_; (with_reducible refine (spec_EncodeWord.calls k _ _ t485 t486 t493 t494 _ ?side1 ?side2 A6.out).mono ?_); (case side1 => exact zC ((Kd.R_reads' HO488.out).2.2)); (case side2 => exact (Kd.R_reads' HO488.out).2.1); rintro e w16 ⟨v495, rfl, ho0, hb⟩; refine ⟨_, rfl, ?_⟩; have HO496 := am (Kd.R_lower (Kd.R_new' (Kd.R_new' ho0 (Kd.R_lt (zR HO488.out))) (Kd.R_lt (zR HO492.out))) (zs_ HB.out)); replace HO488 := am (Kd.R_elder' (zR HO488.out) (Kd.R_base ho0) hb); replace HO492 := am (Kd.R_elder' (zR HO492.out) (Kd.R_base ho0) hb); replace HB := am (below_step (zB HB.out) hb); (try clear hb); (try clear ho0)))
   (try simp only [Act.put, List.setIfInBounds_toArray, List.set_cons_zero, List.set_cons_succ])
   go_cut [] (fun wc => ∃ (kq : Nat), Aside0 (laws_FnSpaced.j1 kq l1 = some r) ∧ Aside0 (kq ≤ k) ∧ Aside0 (Below w.heap.size w wc))
   case first =>
    have H := HC12.out; clear HC12
    by_cases c17 : t490 = true
    ·subst c17
     have H1 : ((some (([] : List Int) : List Int)).bind fun y497 => (if y497.length + t485.length < 140737488355328 then ((some (y497 ++ t485 : List Int)).bind fun y500 => (laws_FnSpaced.l0 k l1 t485 t486 t489 y500 (y500.length : Int) 0)) else (none))) = some r := by rw [if_pos rfl] at H; exact H
     clear H; have H := H1; clear H1; obtain ⟨y497, hy497⟩ : ∃ y_ : List Int, y_ = (([] : List Int)) := ⟨_, rfl⟩
     replace H : (if y497.length + t485.length < 140737488355328 then ((some (y497 ++ t485 : List Int)).bind fun y500 => (laws_FnSpaced.l0 k l1 t485 t486 t489 y500 (y500.length : Int) 0)) else (none)) = some r := by first | (rw [hy497]; exact H) | (have H2_ := (Option.bind_some _ _).symm.trans H; first | exact H2_ | (rw [hy497]; exact H2_)) | exact H
     have Ny497 := am hy497; clear hy497
     obtain ⟨c18, H⟩ := it_ H; have LMc18 := am c18; clear c18; obtain ⟨y500, hy500⟩ : ∃ y_ : List Int, y_ = (y497 ++ t485) := ⟨_, rfl⟩
     replace H : (laws_FnSpaced.l0 k l1 t485 t486 t489 y500 (y500.length : Int) 0) = some r := by first | (rw [hy500]; exact H) | (have H2_ := (Option.bind_some _ _).symm.trans H; first | exact H2_ | (rw [hy500]; exact H2_)) | exact H
     have Ny500 := am hy500; clear hy500; have H' := am H; clear H
     go_wp2_with (first | ((with_reducible refine gate_dst (N := 60) rfl ?_); (try (refine gate_guard (by rfl) ?_; dsimp only)); refine Kd.R_lit (Kd.int .u8) _ 5 ?hg (N := 60) ?hd (xs := ([] : List Int)) (inner := []) (ok := fun _ => True) (okp := fun _ => True) ?hr ?hp (fun _ hk => hk) trivial (Below.refl _ _) (Nat.le_refl _) (by simp) ?_; (case hd => rfl); (case hg => rfl); (case hr => first | (go_simp; done) | (go_simp; rfl)); (case hp => exact (Reps.none _ _)); intro v498 w19 ho20 hb hg_ hnew_; clear hg_ hnew_; (first | rw [← Ny497.out] at ho20 | (simp only [Int.reduceToNat] at ho20; rw [← Ny497.out] at ho20)); have HO499 := am (Kd.R_lower (Kd.R_new' (Kd.R_new' (Kd.R_new' ho20 (Kd.R_lt (zR HO488.out))) (Kd.R_lt (zR HO492.out))) (Kd.R_lt (zR HO496.out))) (zs_ HB.out)); replace HO488 := am (Kd.R_elder' (zR HO488.out) (Kd.R_base ho20) hb); replace HO492 := am (Kd.R_elder' (zR HO492.out) (Kd.R_base ho20) hb); replace HO496 := am (Kd.R_elder' (zR HO496.out) (Kd.R_base ho20) hb); replace HB := am (below_step (zB HB.out) hb); clear hb ho20) | ((with_reducible refine gate_builtin (b := .append) (xs := #[.tmp 60, .tmp 61]) rfl ?_); (try (refine gate_guard (by rfl) ?_; dsimp only)); at_builtin; refine Kd.R_append_rows (Kd.int .u8) (w0 := w) w.heap.size rfl (.tmp 60) (.tmp 61) 22 5 (.int .u8 0) 1 rfl Try.underlying22 info5 rfl (by decide) (by omega) v498 y497 t485 _ _ _ (fun k_ => some k_ ≠ (.slice Ao14 t485.length co14 : Value).ownBlock ∧ some k_ ≠ (v491 : Value).ownBlock ∧ some k_ ≠ (v495 : Value).ownBlock) (fun _ => False) rfl rfl ?aO ?aR (fun _ _ h => h) (fun _ h => h.elim) ?aF ?aB ?aS ?aL ?_; (case aR => exact zC ((Kd.R_reads' HO488.out).2.2)); (case aB => exact (zB HB.out)); (case aF => exact (fun k_ hk => ⟨Kd.fresh' (Kd.R_lt (zR HO488.out)) k_ hk, Kd.fresh' (Kd.R_lt (zR HO492.out)) k_ hk, Kd.fresh' (Kd.R_lt (zR HO496.out)) k_ hk⟩)); (case aO => exact (zR (Kd.R_mono HO499.out (fun _ hk => ⟨hk.1.1.2, ⟨hk.1.2, hk.2⟩⟩)))); (case aS => exact (zs_ HB.out)); (case aL => have := LMc18.out; omega); intro v501 w21 ho hb hg hat; rw [← Ny500.out] at ho; replace HO488 := am (Kd.R_after (ok := (fun k_ => some k_ ≠ (v491 : Value).ownBlock ∧ some k_ ≠ (v495 : Value).ownBlock)) (zR (Kd.R_mono HO488.out (fun _ hk => ⟨⟨hk.1.1.2, hk.1.2⟩, hk.2⟩))) hg hat); replace HO492 := am (Kd.R_after (ok := (fun k_ => some k_ ≠ (.slice Ao14 t485.length co14 : Value).ownBlock ∧ some k_ ≠ (v495 : Value).ownBlock)) (zR (Kd.R_mono HO492.out (fun _ hk => ⟨⟨hk.1.1.2, hk.1.2⟩, hk.2⟩))) hg hat); replace HO496 := am (Kd.R_after (ok := (fun k_ => some k_ ≠ (.slice Ao14 t485.length co14 : Value).ownBlock ∧ some k_ ≠ (v491 : Value).ownBlock)) (zR (Kd.R_mono HO496.out (fun _ hk => ⟨⟨hk.1.1.2, hk.1.2⟩, hk.2⟩))) hg hat); replace HB := am (hb); have HO502 := am (ho); (try clear HO499); clear ho hb hg hat; obtain ⟨Ao22, co22, eo22⟩ := Kd.R_slice HO502.out; subst eo22))
     go_loopg [65] k (fun kq v65 w' => ∃ (x11_1 : List Int) (x65_1 : Int), v65 = .int .i64 x65_1 ∧ Aside0 (laws_FnSpaced.l0 kq l1 t485 t486 t489 x11_1 (y500.length : Int) x65_1 = some r) ∧ Aside0 (kq ≤ k) ∧ Aside0 (Kd.R (Kd.int .u8) 5 w' w.heap.size (fun k_ => some k_ ≠ (v491 : Value).ownBlock ∧ some k_ ≠ ((.slice Ao22 y500.length co22) : Value).ownBlock) (.slice Ao14 t485.length co14) t485) ∧ Aside0 (Kd.R (Kd.int .u8) 5 w' w.heap.size (fun k_ => some k_ ≠ ((.slice Ao14 t485.length co14) : Value).ownBlock ∧ some k_ ≠ ((.slice Ao22 y500.length co22) : Value).ownBlock) v491 t489) ∧ Aside0 (Kd.R (Kd.int .u8) 5 w' w.heap.size (fun k_ => some k_ ≠ ((.slice Ao14 t485.length co14) : Value).ownBlock ∧ some k_ ≠ (v491 : Value).ownBlock) (.slice Ao22 y500.length co22) x11_1) ∧ Aside0 (Below w.heap.size w w'))
     case atStart => exact ⟨(y500), (0), rfl, H', ⟨Nat.le_refl _⟩, ⟨zR (Kd.R_mono HO488.out (fun _ hk => ⟨hk.1.1, hk.2⟩))⟩, ⟨zR (Kd.R_mono HO492.out (fun _ hk => ⟨hk.1.1, hk.2⟩))⟩, ⟨zR (Kd.R_mono HO502.out (fun _ hk => ⟨hk.1, hk.2.1⟩))⟩, ⟨zB HB.out⟩⟩
     case round =>
      clear H'; obtain ⟨x11_1, x65_1, rfl, HA, HK1, HO_5, HO_7, HO_11, HB⟩ := hrel; have hl11_1 := (Kd.R_reads' HO_11.out).1; rw [hl11_1] at HO_11
      (try simp only [hl11_1])
      (try simp only [hl11_1] at HO_5)
      (try simp only [hl11_1] at HO_7)
      cases gk with
      | zero => exact absurd HA.out (by simp [laws_FnSpaced.l0])
      | succ k1 =>
       have H := HA.out; clear HA
       simp only [laws_FnSpaced.l0] at H
       by_cases c23 : x65_1 < (y500.length : Int)
       ·rw [if_pos c23] at H; have c23b0 := decide_eq_true c23
        try simp only [hl11_1] at c23b0
        clear c23
        (first | rw [c23b0] | (simp only [i64_w, i32_w]; rw [c23b0]) | skip)
        by_cases c24 : x65_1 < (l1.length : Int)
        ·rw [if_pos c24] at H; have c24b0 := decide_eq_true c24
         try simp only [hl11_1] at c24b0
         clear c24
         obtain ⟨c25, H⟩ := it_ H; have c25b0 := decide_eq_true c25; clear c25
         obtain ⟨c26, H⟩ := it_ H; have c26b0 := decide_eq_true c26
         try simp only [hl11_1] at c26b0
         clear c26; (try rw [Option.bind_some] at H); generalize hy505 : (x11_1.set (x65_1 : Int).toNat (Go.bits .xor .u8 (rd x11_1 x65_1) (rd l1 x65_1))) = y505 at H; have Ny505 := am hy505.symm; clear hy505; have H' := am H; clear H
         try go_wp2
         replace HO_5 := am (Kd.R_drew HO_5.out); replace HO_7 := am (Kd.R_drew HO_7.out); replace HO_11 := am (Kd.R_drew HO_11.out); replace HB := am (below_drew1 HB.out); have p503 : 0 ≤ (x65_1 : Int) := od_; have q503 : x65_1 < (x11_1.length : Int) := od_; obtain ⟨ad503, e503, hx503_0⟩ := Kd.at_int (Kd.R_reads' HO_11.out).2.2 x65_1 p503 q503; cases e503; replace p503 := eq_true p503; replace q503 := eq_true q503; have p504 : 0 ≤ (x65_1 : Int) := od_; have q504 : x65_1 < (l1.length : Int) := od_; obtain ⟨ad504, e504, hx504_0⟩ := Kd.at_int HR1.out x65_1 p504 q504; have hw504_0 := hx504_0; cases e504; replace hx504_0 := (HB.out.cell (World.block_lt_of_cell? w _ hx504_0)).trans hx504_0; replace p504 := eq_true p504; replace q504 := eq_true q504; have p27 : 0 ≤ (x65_1 : Int) := od_; have q27 : (x65_1 : Int) < ((x11_1.length : Int) : Int) := od_; obtain ⟨go27, co27, eo27, gb27, gl27, cl27, HG27⟩ := Kd.R_form HO_11.out (by omega)
         (first | cases eo27 | (injection eo27 with ea_ en_ ec_; (first | subst ea_ | (injection ea_ with ea_; subst ea_)); subst ec_; clear en_))
         have GB27 := am gb27; have GG27 := am HG27; clear gb27 gl27 HG27
         (first | simp only [add_plain] at hx503_0 | skip)
         obtain ⟨hx27_0, hf27_0⟩ := Kd.R_celln 0 HO_11.out (x65_1 : Int) p27 q27; replace p27 := eq_true p27; replace q27 := eq_true q27; have HP29 := Kd.R_putn HO_11.out (x65_1 : Int) (Go.bits .xor .u8 (rd x11_1 x65_1) (rd l1 x65_1)); rw [← Ny505.out] at HP29; have HQ29 := am HP29; clear HP29
         refine start_ (n := 11) (S := fun w' => w'.cell? ⟨go27, (x65_1).toNat, none⟩ = some (.int .u8 (rd x11_1 x65_1)) ∧ w'.cell? (ad504.add (x65_1).toNat) = some (.int .u8 (rd l1 x65_1))) (ds := [10]) #[false, false, false, false, false, false, false, false, false, false, false] (by kernel_rfl) rfl rfl ⟨hx503_0, ((HB.out.cell (World.block_lt_of_cell? w _ hw504_0)).trans hw504_0)⟩ (fun hHeld => ?_); refine with_tabW laws_FnSpaced.tab14 laws_FnSpaced.bits14 (fun HT_ HW_ => ?_)
         generalize wr.drew = w28 at HO_5 HO_7 HO_11 HB GG27 HQ29 hf27_0 hx27_0 hx503_0 hx504_0 hHeld ⊢
         refine pu_ (i := 0) (some 72) #[true, false, false, false, false, false, false, false, false, false, false] HT_ ?_
         refine pu_ (i := 1) (some 73) #[true, true, false, false, false, false, false, false, false, false, false] HT_ ?_
         refine pu_ (i := 2) (some 74) #[true, true, true, false, false, false, false, false, false, false, false] HT_ ?_
         refine pu_ (i := 4) (some 76) #[true, true, true, false, true, false, false, false, false, false, false] HT_ ?_
         refine pu_ (i := 5) (some 77) #[true, true, true, false, true, true, false, false, false, false, false] HT_ ?_
         refine pu_ (i := 6) (some 78) #[true, true, true, false, true, true, true, false, false, false, false] HT_ ?_
         refine ta_ (i := 3) (some 75) #[true, true, true, true, true, true, true, false, false, false, false] HT_ HW_ hHeld ?_
         refine ta_ (i := 7) (some 79) #[true, true, true, true, true, true, true, true, false, false, false] HT_ HW_ hHeld ?_
         refine pu_ (i := 8) (some 80) #[true, true, true, true, true, true, true, true, true, false, false] HT_ ?_
         refine pu_ (i := 9) (some 81) #[true, true, true, true, true, true, true, true, true, true, false] HT_ ?_
         refine last_ (i := 10) (N := none) #[true, true, true, true, true, true, true, true, true, true, true] rfl rfl (one_of HT_.out (by kernel_rfl)) (by decide) (fun K hK => ?_)
         refine skip_ (w1 := ?_) (by rfl) rfl ?_ ?_
         rotate_left
         ·go_simp; rfl
         refine hK.out _ _ ?_
         clear hK K
         refine done_ (done_of HT_.out (by kernel_rfl)) ?_
         try go_wp2
         (try simp only [← hl11_1])
         go_roundg k1
         case measure => have := HK1.out; omega
         case rel => exact ⟨(y505), (wrap64 (x65_1 + 1)), rf_, H', ⟨by have := HK1.out; omega⟩, ⟨by (try simp only [hl11_1]); (with_reducible repeat (first | apply Kd.R_alloc | apply Kd.R_drewN | apply Kd.R_drew)); exact Kd.R_mono (Kd.R_far (p := ⟨go27, (x65_1 : Int).toNat, none⟩) (Kd.R_mono HO_5.out (fun k_ hk => (⟨hk, fun e_ => hk.2 (by rw [e_]; rfl)⟩ : _ ∧ k_ ≠ go27))) (fun _ hk => hk.2) (.int .u8 (Go.bits .xor .u8 (rd x11_1 x65_1) (rd l1 x65_1)))) (fun _ hk => ⟨hk.1.1, hk.1.2⟩)⟩, ⟨by (try simp only [hl11_1]); (with_reducible repeat (first | apply Kd.R_alloc | apply Kd.R_drewN | apply Kd.R_drew)); exact Kd.R_mono (Kd.R_far (p := ⟨go27, (x65_1 : Int).toNat, none⟩) (Kd.R_mono HO_7.out (fun k_ hk => (⟨hk, fun e_ => hk.2 (by rw [e_]; rfl)⟩ : _ ∧ k_ ≠ go27))) (fun _ hk => hk.2) (.int .u8 (Go.bits .xor .u8 (rd x11_1 x65_1) (rd l1 x65_1)))) (fun _ hk => ⟨hk.1.1, hk.1.2⟩)⟩, ⟨by (try simp only [hl11_1]); (with_reducible repeat (first | apply Kd.R_alloc | apply Kd.R_drewN | apply Kd.R_drew)); exact HQ29.out⟩, ⟨by repeat (first | (with_reducible first | exact HB.out | apply below_alloc | apply pw_below_drewN | apply below_drew1 | refine below_set ?_ GB27.out) | exact HB.out)⟩⟩
        ·rw [if_neg c24] at H; have c24b0 := decide_eq_false c24
         try simp only [hl11_1] at c24b0
         clear c24; have H' := am H; clear H
         go_wp2
         (try simp only [← hl11_1])
         go_roundg k1
         case measure => have := HK1.out; omega
         case rel => exact ⟨(x11_1), (wrap64 (x65_1 + 1)), rfl, H', ⟨by have := HK1.out; omega⟩, ⟨by (try simp only [hl11_1]); (with_reducible repeat (first | apply Kd.R_alloc | apply Kd.R_drewN | apply Kd.R_drew)); exact HO_5.out⟩, ⟨by (try simp only [hl11_1]); (with_reducible repeat (first | apply Kd.R_alloc | apply Kd.R_drewN | apply Kd.R_drew)); exact HO_7.out⟩, ⟨by (try simp only [hl11_1]); (with_reducible repeat (first | apply Kd.R_alloc | apply Kd.R_drewN | apply Kd.R_drew)); exact HO_11.out⟩, ⟨zB HB.out⟩⟩
       ·rw [if_neg c23] at H; have c23b0 := decide_eq_false c23
        try simp only [hl11_1] at c23b0
        clear c23
        (first | rw [c23b0] | (simp only [i64_w, i32_w]; rw [c23b0]) | skip)
        obtain ⟨⟨t506, t507⟩, A30, H⟩ := bi_ H; dsimp only at H; obtain ⟨⟨t510, t511⟩, A31, H⟩ := bi_ H; dsimp only at H
        by_cases c32 : t507 = true
        ·subst c32
         have H1 : (if t511 = true then (if t510 > 0 then (if t510 < (wrap64 ((wrap64 (2 * t486)) + 1)) then (some false) else ((laws_sameBytes.f t485 x11_1).bind fun t512 => (if ((t510 == 0) != t512) = true then (some false) else (laws_FnSpaced.j1 k1 l1)))) else ((laws_sameBytes.f t485 x11_1).bind fun t513 => (if ((t510 == 0) != t513) = true then (some false) else (laws_FnSpaced.j1 k1 l1)))) else (some false)) = some r := by rw [if_pos rfl] at H; exact H
         clear H; have H := H1; clear H1
         by_cases c33 : t511 = true
         ·subst c33
          have H1 : (if t510 > 0 then (if t510 < (wrap64 ((wrap64 (2 * t486)) + 1)) then (some false) else ((laws_sameBytes.f t485 x11_1).bind fun t512 => (if ((t510 == 0) != t512) = true then (some false) else (laws_FnSpaced.j1 k1 l1)))) else ((laws_sameBytes.f t485 x11_1).bind fun t513 => (if ((t510 == 0) != t513) = true then (some false) else (laws_FnSpaced.j1 k1 l1)))) = some r := by rw [if_pos rfl] at H; exact H
          clear H; have H := H1; clear H1
          by_cases c34 : t510 > 0
          ·rw [if_pos c34] at H; have c34b0 : decide (0 < t510) = true := decide_eq_true c34; clear c34
           by_cases c35 : t510 < (wrap64 ((wrap64 (2 * t486)) + 1))
           ·rw [if_pos c35] at H; have c35b0 := decide_eq_true c35; clear c35; obtain rfl := Option.some.inj H
            go_wp2_with (first | ((with_reducible refine gate_callee (f := 23) rfl ?_); refine goL_ (some 86) Try.func23 #[.slice Ao22 x11_1.length co22, .int .i64 t486] ?_; (with_reducible refine (impl_EncodeWord.calls k1 _ _ x11_1 t486 t506 true _ ?side1 ?side2 A30.out).mono ?_); (case side1 => exact zC ((Kd.R_reads' HO_11.out).2.2)); (case side2 => exact (Kd.R_reads' HO_11.out).2.1); rintro e w36 ⟨v508, rfl, ho0, hb⟩; refine ⟨_, rfl, ?_⟩; have HO509 := am (Kd.R_lower (Kd.R_new' (Kd.R_new' (Kd.R_new' ho0 (Kd.R_lt (zR HO_5.out))) (Kd.R_lt (zR HO_7.out))) (Kd.R_lt (zR HO_11.out))) (zs_ HB.out)); replace HO_5 := am (Kd.R_elder' (zR HO_5.out) (Kd.R_base ho0) hb); replace HO_7 := am (Kd.R_elder' (zR HO_7.out) (Kd.R_base ho0) hb); replace HO_11 := am (Kd.R_elder' (zR HO_11.out) (Kd.R_base ho0) hb); replace HB := am (below_step (zB HB.out) hb); (try clear hb); (try clear ho0); obtain ⟨Ao37, co37, eo37⟩ := Kd.R_slice HO_7.out; subst eo37; obtain ⟨Ao38, co38, eo38⟩ := Kd.R_slice HO509.out; subst eo38) | ((with_reducible refine gate_callee (f := 31) rfl ?_); refine goL_ (some 92) Try.func31 #[.slice Ao37 t489.length co37, .slice Ao38 t506.length co38] ?_; (with_reducible refine (impl_DistanceOf.calls k1 _ _ t489 _ _ t506 t510 true _ ?side1 ?side2 ?side3 ?side4 A31.out).mono ?_); (case side1 => exact zC ((Kd.R_reads' HO_7.out).2.2)); (case side2 => exact (Kd.R_reads' HO_7.out).2.1); (case side3 => exact zC ((Kd.R_reads' HO509.out).2.2)); (case side4 => exact (Kd.R_reads' HO509.out).2.1); rintro e w' ⟨rfl, ⟨nd, rfl⟩⟩; refine ⟨_, rfl, ?_⟩))
            go_ret
            exact ⟨rfl, zB HB.out⟩
           ·rw [if_neg c35] at H; have c35b0 := decide_eq_false c35; clear c35; obtain ⟨t512, A39, H⟩ := bi_ H
            by_cases c40 : ((t510 == 0) != t512) = true
            ·rw [if_pos c40] at H; have c40b0 : ((t510 == 0) != t512) = true := c40
             (try (have c40b1 : decide ((t510 == 0) = t512) = false := by simpa using c40))
             (try (have c40b2 : ((t510 == 0) == t512) = false := by simpa using c40))
             (try (have c40b3 : ¬ ((t510 == 0) = t512) := by simpa using c40))
             clear c40; obtain rfl := Option.some.inj H
             go_wp2_with (first | ((with_reducible refine gate_callee (f := 23) rfl ?_); refine goL_ (some 86) Try.func23 #[.slice Ao22 x11_1.length co22, .int .i64 t486] ?_; (with_reducible refine (impl_EncodeWord.calls k1 _ _ x11_1 t486 t506 true _ ?side1 ?side2 A30.out).mono ?_); (case side1 => exact zC ((Kd.R_reads' HO_11.out).2.2)); (case side2 => exact (Kd.R_reads' HO_11.out).2.1); rintro e w41 ⟨v508, rfl, ho0, hb⟩; refine ⟨_, rfl, ?_⟩; have HO509 := am (Kd.R_lower (Kd.R_new' (Kd.R_new' (Kd.R_new' ho0 (Kd.R_lt (zR HO_5.out))) (Kd.R_lt (zR HO_7.out))) (Kd.R_lt (zR HO_11.out))) (zs_ HB.out)); replace HO_5 := am (Kd.R_elder' (zR HO_5.out) (Kd.R_base ho0) hb); replace HO_7 := am (Kd.R_elder' (zR HO_7.out) (Kd.R_base ho0) hb); replace HO_11 := am (Kd.R_elder' (zR HO_11.out) (Kd.R_base ho0) hb); replace HB := am (below_step (zB HB.out) hb); (try clear hb); (try clear ho0); obtain ⟨Ao42, co42, eo42⟩ := Kd.R_slice HO_7.out; subst eo42; obtain ⟨Ao43, co43, eo43⟩ := Kd.R_slice HO509.out; subst eo43) | ((with_reducible refine gate_callee (f := 31) rfl ?_); refine goL_ (some 92) Try.func31 #[.slice Ao42 t489.length co42, .slice Ao43 t506.length co43] ?_; (with_reducible refine (impl_DistanceOf.calls k1 _ _ t489 _ _ t506 t510 true _ ?side1 ?side2 ?side3 ?side4 A31.out).mono ?_); (case side1 => exact zC ((Kd.R_reads' HO_7.out).2.2)); (case side2 => exact (Kd.R_reads' HO_7.out).2.1); (case side3 => exact zC ((Kd.R_reads' HO509.out).2.2)); (case side4 => exact (Kd.R_reads' HO509.out).2.1); rintro e w' ⟨rfl, ⟨nd, rfl⟩⟩; refine ⟨_, rfl, ?_⟩) | (go_at_call 32; (with_reducible refine (laws_sameBytes.calls _ _ t485 _ _ x11_1 t512 _ ?side1 ?side2 ?side3 ?side4 A39.out).mono ?_); (case side1 => exact zC ((Kd.R_reads' HO_5.out).2.2)); (case side2 => exact (Kd.R_reads' HO_5.out).2.1); (case side3 => exact zC ((Kd.R_reads' HO_11.out).2.2)); (case side4 => exact (Kd.R_reads' HO_11.out).2.1); rintro e w' ⟨rfl, ⟨nd, rfl⟩⟩))
             go_ret
             exact ⟨rfl, zB HB.out⟩
            ·rw [if_neg c40] at H
             have c40b0 : ((t510 == 0) != t512) = false := by simpa using c40
             (try (have c40b1 : decide ((t510 == 0) = t512) = true := by simpa using c40))
             (try (have c40b2 : ((t510 == 0) == t512) = true := by simpa using c40))
             clear c40; have H' := am H; clear H
             go_wp2_with (first | ((with_reducible refine gate_callee (f := 23) rfl ?_); refine goL_ (some 86) Try.func23 #[.slice Ao22 x11_1.length co22, .int .i64 t486] ?_; (with_reducible refine (impl_EncodeWord.calls k1 _ _ x11_1 t486 t506 true _ ?side1 ?side2 A30.out).mono ?_); (case side1 => exact zC ((Kd.R_reads' HO_11.out).2.2)); (case side2 => exact (Kd.R_reads' HO_11.out).2.1); rintro e w44 ⟨v508, rfl, ho0, hb⟩; refine ⟨_, rfl, ?_⟩; have HO509 := am (Kd.R_lower (Kd.R_new' (Kd.R_new' (Kd.R_new' ho0 (Kd.R_lt (zR HO_5.out))) (Kd.R_lt (zR HO_7.out))) (Kd.R_lt (zR HO_11.out))) (zs_ HB.out)); replace HO_5 := am (Kd.R_elder' (zR HO_5.out) (Kd.R_base ho0) hb); replace HO_7 := am (Kd.R_elder' (zR HO_7.out) (Kd.R_base ho0) hb); replace HO_11 := am (Kd.R_elder' (zR HO_11.out) (Kd.R_base ho0) hb); replace HB := am (below_step (zB HB.out) hb); (try clear hb); (try clear ho0); obtain ⟨Ao45, co45, eo45⟩ := Kd.R_slice HO_7.out; subst eo45; obtain ⟨Ao46, co46, eo46⟩ := Kd.R_slice HO509.out; subst eo46) | ((with_reducible refine gate_callee (f := 31) rfl ?_); refine goL_ (some 92) Try.func31 #[.slice Ao45 t489.length co45, .slice Ao46 t506.length co46] ?_; (with_reducible refine (impl_DistanceOf.calls k1 _ _ t489 _ _ t506 t510 true _ ?side1 ?side2 ?side3 ?side4 A31.out).mono ?_); (case side1 => exact zC ((Kd.R_reads' HO_7.out).2.2)); (case side2 => exact (Kd.R_reads' HO_7.out).2.1); (case side3 => exact zC ((Kd.R_reads' HO509.out).2.2)); (case side4 => exact (Kd.R_reads' HO509.out).2.1); rintro e w' ⟨rfl, ⟨nd, rfl⟩⟩; refine ⟨_, rfl, ?_⟩) | (go_at_call 32; (with_reducible refine (laws_sameBytes.calls _ _ t485 _ _ x11_1 t512 _ ?side1 ?side2 ?side3 ?side4 A39.out).mono ?_); (case side1 => exact zC ((Kd.R_reads' HO_5.out).2.2)); (case side2 => exact (Kd.R_reads' HO_5.out).2.1); (case side3 => exact zC ((Kd.R_reads' HO_11.out).2.2)); (case side4 => exact (Kd.R_reads' HO_11.out).2.1); rintro e w' ⟨rfl, ⟨nd, rfl⟩⟩))
             (try simp only [← hl11_1])
             go_meet
             case rel => exact ⟨_, H', ⟨by have := HK1.out; first | omega | exact Nat.le_refl _⟩, ⟨zB HB.out⟩⟩
          ·rw [if_neg c34] at H; have c34b0 : decide (0 < t510) = false := decide_eq_false c34; clear c34; obtain ⟨t513, A47, H⟩ := bi_ H
           by_cases c48 : ((t510 == 0) != t513) = true
           ·rw [if_pos c48] at H; have c48b0 : ((t510 == 0) != t513) = true := c48
            (try (have c48b1 : decide ((t510 == 0) = t513) = false := by simpa using c48))
            (try (have c48b2 : ((t510 == 0) == t513) = false := by simpa using c48))
            (try (have c48b3 : ¬ ((t510 == 0) = t513) := by simpa using c48))
            clear c48; obtain rfl := Option.some.inj H
            go_wp2_with (first | ((with_reducible refine gate_callee (f := 23) rfl ?_); refine goL_ (some 86) Try.func23 #[.slice Ao22 x11_1.length co22, .int .i64 t486] ?_; (with_reducible refine (impl_EncodeWord.calls k1 _ _ x11_1 t486 t506 true _ ?side1 ?side2 A30.out).mono ?_); (case side1 => exact zC ((Kd.R_reads' HO_11.out).2.2)); (case side2 => exact (Kd.R_reads' HO_11.out).2.1); rintro e w49 ⟨v508, rfl, ho0, hb⟩; refine ⟨_, rfl, ?_⟩; have HO509 := am (Kd.R_lower (Kd.R_new' (Kd.R_new' (Kd.R_new' ho0 (Kd.R_lt (zR HO_5.out))) (Kd.R_lt (zR HO_7.out))) (Kd.R_lt (zR HO_11.out))) (zs_ HB.out)); replace HO_5 := am (Kd.R_elder' (zR HO_5.out) (Kd.R_base ho0) hb); replace HO_7 := am (Kd.R_elder' (zR HO_7.out) (Kd.R_base ho0) hb); replace HO_11 := am (Kd.R_elder' (zR HO_11.out) (Kd.R_base ho0) hb); replace HB := am (below_step (zB HB.out) hb); (try clear hb); (try clear ho0); obtain ⟨Ao50, co50, eo50⟩ := Kd.R_slice HO_7.out; subst eo50; obtain ⟨Ao51, co51, eo51⟩ := Kd.R_slice HO509.out; subst eo51) | ((with_reducible refine gate_callee (f := 31) rfl ?_); refine goL_ (some 92) Try.func31 #[.slice Ao50 t489.length co50, .slice Ao51 t506.length co51] ?_; (with_reducible refine (impl_DistanceOf.calls k1 _ _ t489 _ _ t506 t510 true _ ?side1 ?side2 ?side3 ?side4 A31.out).mono ?_); (case side1 => exact zC ((Kd.R_reads' HO_7.out).2.2)); (case side2 => exact (Kd.R_reads' HO_7.out).2.1); (case side3 => exact zC ((Kd.R_reads' HO509.out).2.2)); (case side4 => exact (Kd.R_reads' HO509.out).2.1); rintro e w' ⟨rfl, ⟨nd, rfl⟩⟩; refine ⟨_, rfl, ?_⟩) | (go_at_call 32; (with_reducible refine (laws_sameBytes.calls _ _ t485 _ _ x11_1 t513 _ ?side1 ?side2 ?side3 ?side4 A47.out).mono ?_); (case side1 => exact zC ((Kd.R_reads' HO_5.out).2.2)); (case side2 => exact (Kd.R_reads' HO_5.out).2.1); (case side3 => exact zC ((Kd.R_reads' HO_11.out).2.2)); (case side4 => exact (Kd.R_reads' HO_11.out).2.1); rintro e w' ⟨rfl, ⟨nd, rfl⟩⟩))
            go_ret
            exact ⟨rfl, zB HB.out⟩
           ·rw [if_neg c48] at H
            have c48b0 : ((t510 == 0) != t513) = false := by simpa using c48
            (try (have c48b1 : decide ((t510 == 0) = t513) = true := by simpa using c48))
            (try (have c48b2 : ((t510 == 0) == t513) = true := by simpa using c48))
            clear c48; have H' := am H; clear H
            go_wp2_with (first | ((with_reducible refine gate_callee (f := 23) rfl ?_); refine goL_ (some 86) Try.func23 #[.slice Ao22 x11_1.length co22, .int .i64 t486] ?_; (with_reducible refine (impl_EncodeWord.calls k1 _ _ x11_1 t486 t506 true _ ?side1 ?side2 A30.out).mono ?_); (case side1 => exact zC ((Kd.R_reads' HO_11.out).2.2)); (case side2 => exact (Kd.R_reads' HO_11.out).2.1); rintro e w52 ⟨v508, rfl, ho0, hb⟩; refine ⟨_, rfl, ?_⟩; have HO509 := am (Kd.R_lower (Kd.R_new' (Kd.R_new' (Kd.R_new' ho0 (Kd.R_lt (zR HO_5.out))) (Kd.R_lt (zR HO_7.out))) (Kd.R_lt (zR HO_11.out))) (zs_ HB.out)); replace HO_5 := am (Kd.R_elder' (zR HO_5.out) (Kd.R_base ho0) hb); replace HO_7 := am (Kd.R_elder' (zR HO_7.out) (Kd.R_base ho0) hb); replace HO_11 := am (Kd.R_elder' (zR HO_11.out) (Kd.R_base ho0) hb); replace HB := am (below_step (zB HB.out) hb); (try clear hb); (try clear ho0); obtain ⟨Ao53, co53, eo53⟩ := Kd.R_slice HO_7.out; subst eo53; obtain ⟨Ao54, co54, eo54⟩ := Kd.R_slice HO509.out; subst eo54) | ((with_reducible refine gate_callee (f := 31) rfl ?_); refine goL_ (some 92) Try.func31 #[.slice Ao53 t489.length co53, .slice Ao54 t506.length co54] ?_; (with_reducible refine (impl_DistanceOf.calls k1 _ _ t489 _ _ t506 t510 true _ ?side1 ?side2 ?side3 ?side4 A31.out).mono ?_); (case side1 => exact zC ((Kd.R_reads' HO_7.out).2.2)); (case side2 => exact (Kd.R_reads' HO_7.out).2.1); (case side3 => exact zC ((Kd.R_reads' HO509.out).2.2)); (case side4 => exact (Kd.R_reads' HO509.out).2.1); rintro e w' ⟨rfl, ⟨nd, rfl⟩⟩; refine ⟨_, rfl, ?_⟩) | (go_at_call 32; (with_reducible refine (laws_sameBytes.calls _ _ t485 _ _ x11_1 t513 _ ?side1 ?side2 ?side3 ?side4 A47.out).mono ?_); (case side1 => exact zC ((Kd.R_reads' HO_5.out).2.2)); (case side2 => exact (Kd.R_reads' HO_5.out).2.1); (case side3 => exact zC ((Kd.R_reads' HO_11.out).2.2)); (case side4 => exact (Kd.R_reads' HO_11.out).2.1); rintro e w' ⟨rfl, ⟨nd, rfl⟩⟩))
            (try simp only [← hl11_1])
            go_meet
            case rel => exact ⟨_, H', ⟨by have := HK1.out; first | omega | exact Nat.le_refl _⟩, ⟨zB HB.out⟩⟩
         ·replace c33 := Bool.eq_false_iff.mpr c33
          subst c33
          have H1 : (some false) = some r := by rw [if_neg (show ¬ (false = true) by decide)] at H; exact H
          clear H; have H := H1; clear H1; obtain rfl := Option.some.inj H
          go_wp2_with (first | ((with_reducible refine gate_callee (f := 23) rfl ?_); refine goL_ (some 86) Try.func23 #[.slice Ao22 x11_1.length co22, .int .i64 t486] ?_; (with_reducible refine (impl_EncodeWord.calls k1 _ _ x11_1 t486 t506 true _ ?side1 ?side2 A30.out).mono ?_); (case side1 => exact zC ((Kd.R_reads' HO_11.out).2.2)); (case side2 => exact (Kd.R_reads' HO_11.out).2.1); rintro e w55 ⟨v508, rfl, ho0, hb⟩; refine ⟨_, rfl, ?_⟩; have HO509 := am (Kd.R_lower (Kd.R_new' (Kd.R_new' (Kd.R_new' ho0 (Kd.R_lt (zR HO_5.out))) (Kd.R_lt (zR HO_7.out))) (Kd.R_lt (zR HO_11.out))) (zs_ HB.out)); replace HO_5 := am (Kd.R_elder' (zR HO_5.out) (Kd.R_base ho0) hb); replace HO_7 := am (Kd.R_elder' (zR HO_7.out) (Kd.R_base ho0) hb); replace HO_11 := am (Kd.R_elder' (zR HO_11.out) (Kd.R_base ho0) hb); replace HB := am (below_step (zB HB.out) hb); (try clear hb); (try clear ho0); obtain ⟨Ao56, co56, eo56⟩ := Kd.R_slice HO_7.out; subst eo56; obtain ⟨Ao57, co57, eo57⟩ := Kd.R_slice HO509.out; subst eo57) | ((with_reducible refine gate_callee (f := 31) rfl ?_); refine goL_ (some 92) Try.func31 #[.slice Ao56 t489.length co56, .slice Ao57 t506.length co57] ?_; (with_reducible refine (impl_DistanceOf.calls k1 _ _ t489 _ _ t506 t510 false _ ?side1 ?side2 ?side3 ?side4 A31.out).mono ?_); (case side1 => exact zC ((Kd.R_reads' HO_7.out).2.2)); (case side2 => exact (Kd.R_reads' HO_7.out).2.1); (case side3 => exact zC ((Kd.R_reads' HO509.out).2.2)); (case side4 => exact (Kd.R_reads' HO509.out).2.1); rintro e w' ⟨rfl, ⟨nd, rfl⟩⟩; refine ⟨_, rfl, ?_⟩))
          go_ret
          exact ⟨rfl, zB HB.out⟩
        ·replace c32 := Bool.eq_false_iff.mpr c32
         subst c32
         have H1 : (some false) = some r := by rw [if_neg (show ¬ (false = true) by decide)] at H; exact H
         clear H; have H := H1; clear H1; obtain rfl := Option.some.inj H
         go_wp2_with (first | ((with_reducible refine gate_callee (f := 23) rfl ?_); refine goL_ (some 86) Try.func23 #[.slice Ao22 x11_1.length co22, .int .i64 t486] ?_; (with_reducible refine (impl_EncodeWord.calls k1 _ _ x11_1 t486 t506 false _ ?side1 ?side2 A30.out).mono ?_); (case side1 => exact zC ((Kd.R_reads' HO_11.out).2.2)); (case side2 => exact (Kd.R_reads' HO_11.out).2.1); rintro e w58 ⟨v508, rfl, ho0, hb⟩; refine ⟨_, rfl, ?_⟩; have HO509 := am (Kd.R_lower (Kd.R_new' (Kd.R_new' (Kd.R_new' ho0 (Kd.R_lt (zR HO_5.out))) (Kd.R_lt (zR HO_7.out))) (Kd.R_lt (zR HO_11.out))) (zs_ HB.out)); replace HO_5 := am (Kd.R_elder' (zR HO_5.out) (Kd.R_base ho0) hb); replace HO_7 := am (Kd.R_elder' (zR HO_7.out) (Kd.R_base ho0) hb); replace HO_11 := am (Kd.R_elder' (zR HO_11.out) (Kd.R_base ho0) hb); replace HB := am (below_step (zB HB.out) hb); (try clear hb); (try clear ho0); obtain ⟨Ao59, co59, eo59⟩ := Kd.R_slice HO_7.out; subst eo59; obtain ⟨Ao60, co60, eo60⟩ := Kd.R_slice HO509.out; subst eo60) | ((with_reducible refine gate_callee (f := 31) rfl ?_); refine goL_ (some 92) Try.func31 #[.slice Ao59 t489.length co59, .slice Ao60 t506.length co60] ?_; (with_reducible refine (impl_DistanceOf.calls k1 _ _ t489 _ _ t506 t510 t511 _ ?side1 ?side2 ?side3 ?side4 A31.out).mono ?_); (case side1 => exact zC ((Kd.R_reads' HO_7.out).2.2)); (case side2 => exact (Kd.R_reads' HO_7.out).2.1); (case side3 => exact zC ((Kd.R_reads' HO509.out).2.2)); (case side4 => exact (Kd.R_reads' HO509.out).2.1); rintro e w' ⟨rfl, ⟨nd, rfl⟩⟩; refine ⟨_, rfl, ?_⟩))
         go_ret
         exact ⟨rfl, zB HB.out⟩
    ·replace c17 := Bool.eq_false_iff.mpr c17
     subst c17
     have H1 : (laws_FnSpaced.j1 k l1) = some r := by rw [if_neg (show ¬ (false = true) by decide)] at H; exact H
     clear H; have H := H1; clear H1; have H' := am H; clear H
     go_wp2
     go_meet
     case rel => exact ⟨_, H', ⟨by first | omega | exact Nat.le_refl _⟩, ⟨zB HB.out⟩⟩
   case rest =>
    clear HC12; obtain ⟨kq, HA, HJ11, HB⟩ := hcut
    cases kq with
    | zero => exact absurd HA.out (by simp [laws_FnSpaced.j1])
    | succ kj11 =>
     have H := HA.out; clear HA
     simp only [laws_FnSpaced.j1] at H
     obtain ⟨⟨t514, t515⟩, A61, H⟩ := bi_ H; dsimp only at H; obtain ⟨⟨t518, t519⟩, A62, H⟩ := bi_ H; dsimp only at H; obtain ⟨⟨t522, t523⟩, A63, H⟩ := bi_ H; dsimp only at H; obtain ⟨t526, A64, H⟩ := bi_ H; obtain ⟨⟨t529, t530⟩, A65, H⟩ := bi_ H; dsimp only at H; obtain ⟨⟨t533, t534⟩, A66, H⟩ := bi_ H; dsimp only at H; have HC67 := am H; clear H
     go_upto_region 26 with (first | ((with_reducible refine gate_callee (f := 33) rfl ?_); refine goL_ (some 122) Try.func33 #[.slice A1 l1.length c1] ?_; (with_reducible refine (spec_DrawSyndromesOf.calls kj11 _ _ l1 t514 t515 _ ?side1 ?side2 A61.out).mono ?_); (case side1 => exact zC (Kd.C_below HR1.out HB.out)); (case side2 => exact HC1.out); rintro e w68 ⟨v516, rfl, ho0, hb⟩; refine ⟨_, rfl, ?_⟩; have HO517 := am (Kd.R_lower ho0 (zs_ HB.out)); replace HB := am (below_step (zB HB.out) hb); (try clear hb); (try clear ho0); obtain ⟨Ao69, co69, eo69⟩ := Kd.R_slice HO517.out; subst eo69) | ((with_reducible refine gate_callee (f := 19) rfl ?_); refine goL_ (some 128) Try.func19 #[.slice Ao69 t514.length co69, .int .i64 t515] ?_; (with_reducible refine (impl_SyndromesOf.calls kj11 _ _ t514 t515 t518 t519 _ ?side1 ?side2 A62.out).mono ?_); (case side1 => exact zC ((Kd.R_reads' HO517.out).2.2)); (case side2 => exact (Kd.R_reads' HO517.out).2.1); rintro e w70 ⟨v520, rfl, ho0, hb⟩; refine ⟨_, rfl, ?_⟩; have HO521 := am (Kd.R_lower (Kd.R_new' ho0 (Kd.R_lt (zR HO517.out))) (zs_ HB.out)); replace HO517 := am (Kd.R_elder' (zR HO517.out) (Kd.R_base ho0) hb); replace HB := am (below_step (zB HB.out) hb); (try clear hb); (try clear ho0)) | ((with_reducible refine gate_callee (f := 17) rfl ?_); refine goL_ (some 134) Try.func17 #[.slice Ao69 t514.length co69, .int .i64 t515] ?_; (with_reducible refine (spec_SyndromesOf.calls kj11 _ _ t514 t515 t522 t523 _ ?side1 ?side2 A63.out).mono ?_); (case side1 => exact zC ((Kd.R_reads' HO517.out).2.2)); (case side2 => exact (Kd.R_reads' HO517.out).2.1); rintro e w71 ⟨v524, rfl, ho0, hb⟩; refine ⟨_, rfl, ?_⟩; have HO525 := am (Kd.R_lower (Kd.R_new' (Kd.R_new' ho0 (Kd.R_lt (zR HO517.out))) (Kd.R_lt (zR HO521.out))) (zs_ HB.out)); replace HO517 := am (Kd.R_elder' (zR HO517.out) (Kd.R_base ho0) hb); replace HO521 := am (Kd.R_elder' (zR HO521.out) (Kd.R_base ho0) hb); replace HB := am (below_step (zB HB.out) hb); (try clear hb); (try clear ho0)) | ((with_reducible refine gate_callee (f := 34) rfl ?_); refine goL_ (some 138) Try.func34 #[.slice A1 l1.length c1] ?_; (with_reducible refine (spec_DrawLocatorOf.calls kj11 _ _ l1 t526 _ ?side1 ?side2 A64.out).mono ?_); (case side1 => exact zC (Kd.C_below HR1.out HB.out)); (case side2 => exact HC1.out); rintro e w72 ⟨v527, rfl, ho0, hb⟩; refine ⟨_, rfl, ?_⟩; have HO528 := am (Kd.R_lower (Kd.R_new' (Kd.R_new' (Kd.R_new' ho0 (Kd.R_lt (zR HO517.out))) (Kd.R_lt (zR HO521.out))) (Kd.R_lt (zR HO525.out))) (zs_ HB.out)); replace HO517 := am (Kd.R_elder' (zR HO517.out) (Kd.R_base ho0) hb); replace HO521 := am (Kd.R_elder' (zR HO521.out) (Kd.R_base ho0) hb); replace HO525 := am (Kd.R_elder' (zR HO525.out) (Kd.R_base ho0) hb); replace HB := am (below_step (zB HB.out) hb); (try clear hb); (try clear ho0); obtain ⟨Ao73, co73, eo73⟩ := Kd.R_slice HO528.out; subst eo73) | ((with_reducible refine gate_callee (f := 27) rfl ?_); refine goL_ (some 141) Try.func27 #[.slice Ao73 t526.length co73] ?_; (with_reducible refine (impl_LocatorOf.calls kj11 _ _ t526 t529 t530 _ ?side1 ?side2 A65.out).mono ?_); (case side1 => exact zC ((Kd.R_reads' HO528.out).2.2)); (case side2 => exact (Kd.R_reads' HO528.out).2.1); rintro e w74 ⟨v531, rfl, ho0, hb⟩; refine ⟨_, rfl, ?_⟩; have HO532 := am (Kd.R_lower (Kd.R_new' (Kd.R_new' (Kd.R_new' (Kd.R_new' ho0 (Kd.R_lt (zR HO517.out))) (Kd.R_lt (zR HO521.out))) (Kd.R_lt (zR HO525.out))) (Kd.R_lt (zR HO528.out))) (zs_ HB.out)); replace HO517 := am (Kd.R_elder' (zR HO517.out) (Kd.R_base ho0) hb); replace HO521 := am (Kd.R_elder' (zR HO521.out) (Kd.R_base ho0) hb); replace HO525 := am (Kd.R_elder' (zR HO525.out) (Kd.R_base ho0) hb); replace HO528 := am (Kd.R_elder' (zR HO528.out) (Kd.R_base ho0) hb); replace HB := am (below_step (zB HB.out) hb); (try clear hb); (try clear ho0)) | ((with_reducible refine gate_callee (f := 26) rfl ?_); refine goL_ (some 146) Try.func26 #[.slice Ao73 t526.length co73] ?_; (with_reducible refine (spec_LocatorOf.calls kj11 _ _ t526 t533 t534 _ ?side1 ?side2 A66.out).mono ?_); (case side1 => exact zC ((Kd.R_reads' HO528.out).2.2)); (case side2 => exact (Kd.R_reads' HO528.out).2.1); rintro e w75 ⟨v535, rfl, ho0, hb⟩; refine ⟨_, rfl, ?_⟩; have HO536 := am (Kd.R_lower (Kd.R_new' (Kd.R_new' (Kd.R_new' (Kd.R_new' (Kd.R_new' ho0 (Kd.R_lt (zR HO517.out))) (Kd.R_lt (zR HO521.out))) (Kd.R_lt (zR HO525.out))) (Kd.R_lt (zR HO528.out))) (Kd.R_lt (zR HO532.out))) (zs_ HB.out)); replace HO517 := am (Kd.R_elder' (zR HO517.out) (Kd.R_base ho0) hb); replace HO521 := am (Kd.R_elder' (zR HO521.out) (Kd.R_base ho0) hb); replace HO525 := am (Kd.R_elder' (zR HO525.out) (Kd.R_base ho0) hb); replace HO528 := am (Kd.R_elder' (zR HO528.out) (Kd.R_base ho0) hb); replace HO532 := am (Kd.R_elder' (zR HO532.out) (Kd.R_base ho0) hb); replace HB := am (below_step (zB HB.out) hb); (try clear hb); (try clear ho0)))
     (try simp only [Act.put, List.setIfInBounds_toArray, List.set_cons_zero, List.set_cons_succ])
     go_cut [168] (fun v168 wc => ∃ (kq : Nat) (x168_66 : Bool), v168 = .bool x168_66 ∧ Aside0 (laws_FnSpaced.j2 kq t514 t515 t518 t519 x168_66 = some r) ∧ Aside0 (kq ≤ kj11) ∧ Aside0 (Kd.R (Kd.int .u8) 5 wc w.heap.size (fun k_ => some k_ ≠ (v520 : Value).ownBlock) (.slice Ao69 t514.length co69) t514) ∧ Aside0 (Kd.R (Kd.int .u8) 5 wc w.heap.size (fun k_ => some k_ ≠ ((.slice Ao69 t514.length co69) : Value).ownBlock) v520 t518) ∧ Aside0 (Below w.heap.size w wc))
     case first =>
      have H := HC67.out; clear HC67
      by_cases c76 : (t519 != t523) = true
      ·rw [if_pos c76] at H; have c76b0 : (t519 != t523) = true := c76
       (try (have c76b1 : decide (t519 = t523) = false := by simpa using c76))
       (try (have c76b2 : (t519 == t523) = false := by simpa using c76))
       (try (have c76b3 : ¬ (t519 = t523) := by simpa using c76))
       clear c76
       (first | rw [c76b0] | (simp only [i64_w, i32_w]; rw [c76b0]) | skip)
       have H' := am H; clear H
       go_wp2
       go_meet
       case rel => exact ⟨_, (true), rfl, H', ⟨by have := HJ11.out; first | omega | exact Nat.le_refl _⟩, ⟨zR (Kd.R_mono HO517.out (fun _ hk => hk.1.1.1.1.2))⟩, ⟨zR (Kd.R_mono HO521.out (fun _ hk => hk.1.1.1.1.2))⟩, ⟨zB HB.out⟩⟩
      ·rw [if_neg c76] at H
       have c76b0 : (t519 != t523) = false := by simpa using c76
       (try (have c76b1 : decide (t519 = t523) = true := by simpa using c76))
       (try (have c76b2 : (t519 == t523) = true := by simpa using c76))
       clear c76
       (first | rw [c76b0] | (simp only [i64_w, i32_w]; rw [c76b0]) | skip)
       obtain ⟨t537, A77, H⟩ := bi_ H
       by_cases c78 : t537 = true
       ·subst c78
        have H1 : (if (t530 != t534) = true then (laws_FnSpaced.j2 kj11 t514 t515 t518 t519 true) else ((laws_sameBytes.f t529 t533).bind fun t538 => (laws_FnSpaced.j2 kj11 t514 t515 t518 t519 (!t538)))) = some r := by rw [if_pos rfl] at H; exact H
        clear H; have H := H1; clear H1
        by_cases c79 : (t530 != t534) = true
        ·rw [if_pos c79] at H; have c79b0 : (t530 != t534) = true := c79
         (try (have c79b1 : decide (t530 = t534) = false := by simpa using c79))
         (try (have c79b2 : (t530 == t534) = false := by simpa using c79))
         (try (have c79b3 : ¬ (t530 = t534) := by simpa using c79))
         clear c79; have H' := am H; clear H; obtain ⟨Ao80, co80, eo80⟩ := Kd.R_slice HO521.out
         subst eo80
         obtain ⟨Ao81, co81, eo81⟩ := Kd.R_slice HO525.out
         subst eo81
         go_wp2_with (first | (go_at_call 32; (with_reducible refine (laws_sameBytes.calls _ _ t518 _ _ t522 true _ ?side1 ?side2 ?side3 ?side4 A77.out).mono ?_); (case side1 => exact zC ((Kd.R_reads' HO521.out).2.2)); (case side2 => exact (Kd.R_reads' HO521.out).2.1); (case side3 => exact zC ((Kd.R_reads' HO525.out).2.2)); (case side4 => exact (Kd.R_reads' HO525.out).2.1); rintro e w' ⟨rfl, ⟨nd, rfl⟩⟩))
         go_meet
         case rel => exact ⟨_, (true), rfl, H', ⟨by have := HJ11.out; first | omega | exact Nat.le_refl _⟩, ⟨zR (Kd.R_mono HO517.out (fun _ hk => hk.1.1.1.1.2))⟩, ⟨zR (Kd.R_mono HO521.out (fun _ hk => hk.1.1.1.1.2))⟩, ⟨zB HB.out⟩⟩
        ·rw [if_neg c79] at H
         have c79b0 : (t530 != t534) = false := by simpa using c79
         (try (have c79b1 : decide (t530 = t534) = true := by simpa using c79))
         (try (have c79b2 : (t530 == t534) = true := by simpa using c79))
         clear c79; obtain ⟨t538, A82, H⟩ := bi_ H; have H' := am H; clear H; obtain ⟨Ao83, co83, eo83⟩ := Kd.R_slice HO521.out
         subst eo83
         obtain ⟨Ao84, co84, eo84⟩ := Kd.R_slice HO525.out
         subst eo84
         go_wp2_with (first | (go_at_call 32; (with_reducible refine (laws_sameBytes.calls _ _ t518 _ _ t522 true _ ?side1 ?side2 ?side3 ?side4 A77.out).mono ?_); (case side1 => exact zC ((Kd.R_reads' HO521.out).2.2)); (case side2 => exact (Kd.R_reads' HO521.out).2.1); (case side3 => exact zC ((Kd.R_reads' HO525.out).2.2)); (case side4 => exact (Kd.R_reads' HO525.out).2.1); rintro e w' ⟨rfl, ⟨nd, rfl⟩⟩; obtain ⟨Ao85, co85, eo85⟩ := Kd.R_slice HO532.out; subst eo85; obtain ⟨Ao86, co86, eo86⟩ := Kd.R_slice HO536.out; subst eo86) | (go_at_call 32; (with_reducible refine (laws_sameBytes.calls _ _ t529 _ _ t533 t538 _ ?side1 ?side2 ?side3 ?side4 A82.out).mono ?_); (case side1 => exact zC ((Kd.R_reads' HO532.out).2.2)); (case side2 => exact (Kd.R_reads' HO532.out).2.1); (case side3 => exact zC ((Kd.R_reads' HO536.out).2.2)); (case side4 => exact (Kd.R_reads' HO536.out).2.1); rintro e w' ⟨rfl, ⟨nd, rfl⟩⟩))
         go_meet
         case rel => exact ⟨_, (!t538), rfl, H', ⟨by have := HJ11.out; first | omega | exact Nat.le_refl _⟩, ⟨zR (Kd.R_mono HO517.out (fun _ hk => hk.1.1.1.1.2))⟩, ⟨zR (Kd.R_mono HO521.out (fun _ hk => hk.1.1.1.1.2))⟩, ⟨zB HB.out⟩⟩
       ·replace c78 := Bool.eq_false_iff.mpr c78
        subst c78
        have H1 : (laws_FnSpaced.j2 kj11 t514 t515 t518 t519 true) = some r := by rw [if_neg (show ¬ (false = true) by decide)] at H; exact H
        clear H; have H := H1; clear H1; have H' := am H; clear H; obtain ⟨Ao87, co87, eo87⟩ := Kd.R_slice HO521.out
        subst eo87
        obtain ⟨Ao88, co88, eo88⟩ := Kd.R_slice HO525.out
        subst eo88
        go_wp2_with (first | (go_at_call 32; (with_reducible refine (laws_sameBytes.calls _ _ t518 _ _ t522 false _ ?side1 ?side2 ?side3 ?side4 A77.out).mono ?_); (case side1 => exact zC ((Kd.R_reads' HO521.out).2.2)); (case side2 => exact (Kd.R_reads' HO521.out).2.1); (case side3 => exact zC ((Kd.R_reads' HO525.out).2.2)); (case side4 => exact (Kd.R_reads' HO525.out).2.1); rintro e w' ⟨rfl, ⟨nd, rfl⟩⟩))
        go_meet
        case rel => exact ⟨_, (true), rfl, H', ⟨by have := HJ11.out; first | omega | exact Nat.le_refl _⟩, ⟨zR (Kd.R_mono HO517.out (fun _ hk => hk.1.1.1.1.2))⟩, ⟨zR (Kd.R_mono HO521.out (fun _ hk => hk.1.1.1.1.2))⟩, ⟨zB HB.out⟩⟩
     case rest =>
      clear HC67; obtain ⟨kq, x168_66, rfl, HA, HJ66, HO_17, HO_19, HB⟩ := hcut
      cases kq with
      | zero => exact absurd HA.out (by simp [laws_FnSpaced.j2])
      | succ kj66 =>
       have H := HA.out; clear HA
       simp only [laws_FnSpaced.j2] at H
       by_cases c89 : x168_66 = true
       ·subst c89
        have H1 : (some false) = some r := by rw [if_pos rfl] at H; exact H
        clear H; have H := H1; clear H1; obtain rfl := Option.some.inj H
        go_wp2
        go_ret
        exact ⟨rfl, zB HB.out⟩
       ·replace c89 := Bool.eq_false_iff.mpr c89
        subst c89
        have H1 : (if t519 = true then (laws_FnSpaced.l1 kj66 t514 t515 t518 true t518 (t518.length : Int) 0) else (some ((t518.length : Int) == 0))) = some r := by rw [if_neg (show ¬ (false = true) by decide)] at H; exact H
        clear H; have H := H1; clear H1
        by_cases c90 : t519 = true
        ·subst c90
         have H1 : (laws_FnSpaced.l1 kj66 t514 t515 t518 true t518 (t518.length : Int) 0) = some r := by rw [if_pos rfl] at H; exact H
         clear H; have H := H1; clear H1; have H' := am H; clear H; obtain ⟨Ao91, co91, eo91⟩ := Kd.R_slice HO_19.out
         subst eo91
         go_wp2
         go_loopg [28, 176] kj66 (fun kq v28 v176 w' => ∃ (x28_3 : Bool) (x176_3 : Int), v28 = .bool x28_3 ∧ v176 = .int .i64 x176_3 ∧ Aside0 (laws_FnSpaced.l1 kq t514 t515 t518 x28_3 t518 (t518.length : Int) x176_3 = some r) ∧ Aside0 (kq ≤ kj66) ∧ Aside0 (Kd.R (Kd.int .u8) 5 w' w.heap.size (fun k_ => some k_ ≠ ((.slice Ao91 t518.length co91) : Value).ownBlock ∧ some k_ ≠ ((.slice Ao91 t518.length co91) : Value).ownBlock) (.slice Ao69 t514.length co69) t514) ∧ Aside0 (Kd.R (Kd.int .u8) 5 w' w.heap.size (fun k_ => some k_ ≠ ((.slice Ao69 t514.length co69) : Value).ownBlock) (.slice Ao91 t518.length co91) t518) ∧ Aside0 (Kd.R (Kd.int .u8) 5 w' w.heap.size (fun k_ => some k_ ≠ ((.slice Ao69 t514.length co69) : Value).ownBlock) (.slice Ao91 t518.length co91) t518) ∧ Aside0 (Below w.heap.size w w'))
         case atStart => exact ⟨(true), (0), rfl, rfl, H', ⟨Nat.le_refl _⟩, ⟨zR (Kd.R_mono HO_17.out (fun _ hk => ⟨hk, hk⟩))⟩, ⟨zR HO_19.out⟩, ⟨zR HO_19.out⟩, ⟨zB HB.out⟩⟩
         case round =>
          clear H'; obtain ⟨x28_3, x176_3, rfl, rfl, HA, HK3, HO_17, HO_19, HO_174, HB⟩ := hrel
          cases gk with
          | zero => exact absurd HA.out (by simp [laws_FnSpaced.l1])
          | succ k3 =>
           have H := HA.out; clear HA
           simp only [laws_FnSpaced.l1] at H
           by_cases c92 : x176_3 < (t518.length : Int)
           ·rw [if_pos c92] at H; have c92b0 := decide_eq_true c92; clear c92
            obtain ⟨c93, H⟩ := it_ H; have c93b0 := decide_eq_true c93; clear c93
            obtain ⟨c94, H⟩ := it_ H; have c94b0 := decide_eq_true c94; clear c94
            by_cases c95 : x28_3 = true
            ·subst c95
             have H1 : (laws_FnSpaced.l1 k3 t514 t515 t518 ((rd t518 x176_3) == 0) t518 (t518.length : Int) (wrap64 (x176_3 + 1))) = some r := by rw [if_pos rfl] at H; exact H
             clear H; have H := H1; clear H1; have H' := am H; clear H; have p539 : 0 ≤ (x176_3 : Int) := od_; have q539 : x176_3 < (t518.length : Int) := od_; obtain ⟨ad539, e539, hx539_0⟩ := Kd.at_int (Kd.R_reads' HO_174.out).2.2 x176_3 p539 q539; cases e539; replace p539 := eq_true p539; replace q539 := eq_true q539
             go_wp2
             go_roundg k3
             case measure => have := HJ11.out; have := HJ66.out; have := HK3.out; omega
             case rel => exact ⟨(((rd t518 x176_3) == 0)), (wrap64 (x176_3 + 1)), rfl, rfl, H', ⟨by have := HJ11.out; have := HJ66.out; have := HK3.out; omega⟩, ⟨zR HO_17.out⟩, ⟨zR HO_19.out⟩, ⟨zR HO_174.out⟩, ⟨zB HB.out⟩⟩
            ·replace c95 := Bool.eq_false_iff.mpr c95
             subst c95
             have H1 : (laws_FnSpaced.l1 k3 t514 t515 t518 false t518 (t518.length : Int) (wrap64 (x176_3 + 1))) = some r := by rw [if_neg (show ¬ (false = true) by decide)] at H; exact H
             clear H; have H := H1; clear H1; have H' := am H; clear H; have p539 : 0 ≤ (x176_3 : Int) := od_; have q539 : x176_3 < (t518.length : Int) := od_; obtain ⟨ad539, e539, hx539_0⟩ := Kd.at_int (Kd.R_reads' HO_174.out).2.2 x176_3 p539 q539; cases e539; replace p539 := eq_true p539; replace q539 := eq_true q539
             go_wp2
             go_roundg k3
             case measure => have := HJ11.out; have := HJ66.out; have := HK3.out; omega
             case rel => exact ⟨(false), (wrap64 (x176_3 + 1)), rfl, rfl, H', ⟨by have := HJ11.out; have := HJ66.out; have := HK3.out; omega⟩, ⟨zR HO_17.out⟩, ⟨zR HO_19.out⟩, ⟨zR HO_174.out⟩, ⟨zB HB.out⟩⟩
           ·rw [if_neg c92] at H; have c92b0 := decide_eq_false c92; clear c92; obtain ⟨⟨t540, t541⟩, A96, H⟩ := bi_ H; dsimp only at H
            by_cases c97 : t541 = true
            ·subst c97
             have H1 : (if (t540 == x28_3) = true then (some ((t518.length : Int) == (wrap64 (2 * t515)))) else (some false)) = some r := by rw [if_pos rfl] at H; exact H
             clear H; have H := H1; clear H1
             by_cases c98 : (t540 == x28_3) = true
             ·rw [if_pos c98] at H; have c98b0 : (t540 == x28_3) = true := c98
              (try (have c98b1 : decide (t540 = x28_3) = true := by simpa using c98))
              (try (have c98b2 : (t540 == x28_3) = true := by simpa using c98))
              clear c98; obtain rfl := Option.some.inj H
              go_wp2_with (first | ((with_reducible refine gate_callee (f := 21) rfl ?_); refine goL_ (some 189) Try.func21 #[.slice Ao69 t514.length co69, .int .i64 t515] ?_; (with_reducible refine (impl_IsWord.calls k3 _ _ t514 t515 t540 true _ ?side1 ?side2 A96.out).mono ?_); (case side1 => exact zC ((Kd.R_reads' HO_17.out).2.2)); (case side2 => exact (Kd.R_reads' HO_17.out).2.1); rintro e w99 ⟨rfl, hb⟩; refine ⟨_, rfl, ?_⟩; replace HO_17 := am (Kd.R_below (zR HO_17.out) hb); replace HO_19 := am (Kd.R_below (zR HO_19.out) hb); replace HO_174 := am (Kd.R_below (zR HO_174.out) hb); replace HB := am (below_step (zB HB.out) hb); (try clear hb); (try clear hb2); (try clear hk); (try clear hi)))
              go_ret
              exact ⟨rfl, zB HB.out⟩
             ·rw [if_neg c98] at H
              have c98b0 : (t540 == x28_3) = false := by simpa using c98
              (try (have c98b1 : decide (t540 = x28_3) = false := by simpa using c98))
              (try (have c98b2 : (t540 == x28_3) = false := by simpa using c98))
              (try (have c98b3 : ¬ (t540 = x28_3) := by simpa using c98))
              clear c98; obtain rfl := Option.some.inj H
              go_wp2_with (first | ((with_reducible refine gate_callee (f := 21) rfl ?_); refine goL_ (some 189) Try.func21 #[.slice Ao69 t514.length co69, .int .i64 t515] ?_; (with_reducible refine (impl_IsWord.calls k3 _ _ t514 t515 t540 true _ ?side1 ?side2 A96.out).mono ?_); (case side1 => exact zC ((Kd.R_reads' HO_17.out).2.2)); (case side2 => exact (Kd.R_reads' HO_17.out).2.1); rintro e w100 ⟨rfl, hb⟩; refine ⟨_, rfl, ?_⟩; replace HO_17 := am (Kd.R_below (zR HO_17.out) hb); replace HO_19 := am (Kd.R_below (zR HO_19.out) hb); replace HO_174 := am (Kd.R_below (zR HO_174.out) hb); replace HB := am (below_step (zB HB.out) hb); (try clear hb); (try clear hb2); (try clear hk); (try clear hi)))
              go_ret
              exact ⟨rfl, zB HB.out⟩
            ·replace c97 := Bool.eq_false_iff.mpr c97
             subst c97
             have H1 : (some false) = some r := by rw [if_neg (show ¬ (false = true) by decide)] at H; exact H
             clear H; have H := H1; clear H1; obtain rfl := Option.some.inj H
             go_wp2_with (first | ((with_reducible refine gate_callee (f := 21) rfl ?_); refine goL_ (some 189) Try.func21 #[.slice Ao69 t514.length co69, .int .i64 t515] ?_; (with_reducible refine (impl_IsWord.calls k3 _ _ t514 t515 t540 false _ ?side1 ?side2 A96.out).mono ?_); (case side1 => exact zC ((Kd.R_reads' HO_17.out).2.2)); (case side2 => exact (Kd.R_reads' HO_17.out).2.1); rintro e w101 ⟨rfl, hb⟩; refine ⟨_, rfl, ?_⟩; replace HO_17 := am (Kd.R_below (zR HO_17.out) hb); replace HO_19 := am (Kd.R_below (zR HO_19.out) hb); replace HO_174 := am (Kd.R_below (zR HO_174.out) hb); replace HB := am (below_step (zB HB.out) hb); (try clear hb); (try clear hb2); (try clear hk); (try clear hi)))
             go_ret
             exact ⟨rfl, zB HB.out⟩
        ·replace c90 := Bool.eq_false_iff.mpr c90
         subst c90
         have H1 : (some ((t518.length : Int) == 0)) = some r := by rw [if_neg (show ¬ (false = true) by decide)] at H; exact H
         clear H; have H := H1; clear H1; obtain rfl := Option.some.inj H; obtain ⟨Ao102, co102, eo102⟩ := Kd.R_slice HO_19.out
         subst eo102
         go_wp2
         go_ret
         exact ⟨rfl, zB HB.out⟩

/-- THE ONE PURE STATEMENT of laws_FnSpaced: yours. -/
def laws_FnSpaced.Pure : Prop := ∀ (l0 : List Int) (l1 : List Int), l0.length ≤ maxLen → l0.length * 1 ≤ 140737488351232 → (∀ x ∈ l0, (Lit.int .u8 x).wf = true) → l1.length ≤ maxLen → l1.length * 1 ≤ 140737488351232 → (∀ x ∈ l1, (Lit.int .u8 x).wf = true) → ∃ k, laws_FnSpaced.f k l0 l1 = some true
theorem laws_FnSpaced.walk (P : laws_FnSpaced.Pure) (a0 : Option Addr) (len0 cap0 : Nat) (z0 : List Int) (a1 : Option Addr) (len1 cap1 : Nat) (z1 : List Int) (w : World) (w0 : (a0 = none ∧ len0 = 0 ∧ cap0 = 0 ∧ z0 = []) ∨ ∃ x, a0 = some x ∧ len0 ≤ cap0 ∧ cap0 ≤ maxLen ∧ z0.length = cap0 ∧ (∀ i, i < z0.length → w.cell? (x.add i) = some (.int .u8 (z0.getD i 0))) ∧ ∀ n ∈ z0, (Lit.int .u8 n).wf = true) (y0 : len0 * 1 ≤ 140737488351232) (w1 : (a1 = none ∧ len1 = 0 ∧ cap1 = 0 ∧ z1 = []) ∨ ∃ x, a1 = some x ∧ len1 ≤ cap1 ∧ cap1 ≤ maxLen ∧ z1.length = cap1 ∧ (∀ i, i < z1.length → w.cell? (x.add i) = some (.int .u8 (z1.getD i 0))) ∧ ∀ n ∈ z1, (Lit.int .u8 n).wf = true) (y1 : len1 * 1 ≤ 140737488351232) :
  Calls Try.prog 10 #[.slice a0 len0 cap0, .slice a1 len1 cap1] w fun e w' => e = .returned (.bool true) ∧ Below w.heap.size w w' := by
 obtain ⟨l0, rfl, hr0, hm0, hw0, hc0⟩ := ReadsInt.ofRowC w0; obtain ⟨l1, rfl, hr1, hm1, hw1, hc1⟩ := ReadsInt.ofRowC w1; obtain ⟨k, h⟩ := P l0 l1 hm0 y0 hw0 hm1 y1 hw1
 refine (laws_FnSpaced.calls k _ _ l0 _ _ l1 true w (Kd.C_of_reads (d := (0 : Int)) (h1 := fun _ => rfl) hr0) hc0 (Kd.C_of_reads (d := (0 : Int)) (h1 := fun _ => rfl) hr1) hc1 h).mono ?_
 rintro e w' ⟨rfl, hd⟩
 exact ⟨rfl, hd⟩

end Go.Proofs.Ytbloniemhkfnlaa.PFnSpaced
