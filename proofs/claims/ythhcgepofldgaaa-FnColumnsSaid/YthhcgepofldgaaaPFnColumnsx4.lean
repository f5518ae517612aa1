/- A law's functions as plain Lean functions, each with the walk that shows that the code computes it: written by this session's program wip/tools/ppmake.py. -/
import Derived.Test.YthhcgepofldgaaaPFnColumnsx0
import Derived.Test.YthhcgepofldgaaaPFnColumnsx1
import Derived.Test.YthhcgepofldgaaaPFnColumnsx2
import Derived.Test.YthhcgepofldgaaaPFnColumnsx3
namespace Go.Proofs.Ythhcgepofldgaaa.PFnColumns
open Go.RowKit Go.Proofs.YthhcgepofldgaaaW.PrintWords Go.Proofs.YthhcgepofldgaaaW.PrintLast Go.Proofs.YthhcgepofldgaaaW.PrintMore
attribute [local go_sem] max2_int min2_int max_two min_two max_three min_three max_four min_four   -- for this text's walks alone
set_option linter.unusedVariables false
set_option linter.unusedSimpArgs false

/-! ### laws_FnColumns: function 9 -/
mutual
def laws_FnColumns.j0 : Nat → List Int → List Int → ByteArray → List Int → Bool → ByteArray → Bool → Option (Bool)
  | 0, _, _, _, _, _, _, _ => none
  | k + 1, x0, x1, x5, x6, x7, x10, x97 => if x97 = true then (some false) else (if x7 = true then (if (x6.length : Int) = (x5.size : Int) then (laws_FnColumns.j1 k x0 x1 x5 x6 x10 ((x10.size : Int) != (x5.size : Int))) else (laws_FnColumns.j1 k x0 x1 x5 x6 x10 true)) else (laws_FnColumns.j3 k x0 x1))
def laws_FnColumns.j3 : Nat → List Int → List Int → Option (Bool)
  | 0, _, _ => none
  | k + 1, x0, x1 => (spec_DrawCountPattern.f k x1).bind fun bt205 => ((impl_CountPattern.f k bt205.1 bt205.2).bind fun bt207 => ((spec_CountPattern.f k bt205.1 bt205.2).bind fun bt209 => (if (bt207.2 != bt209.2) = true then (laws_FnColumns.j4 k x0 bt205.1 bt205.2 bt207.1 bt207.2 true) else (laws_FnColumns.j4 k x0 bt205.1 bt205.2 bt207.1 bt207.2 (bt207.1 != bt209.1)))))
def laws_FnColumns.j4 : Nat → List Int → ByteArray → ByteArray → Int → Bool → Bool → Option (Bool)
  | 0, _, _, _, _, _, _ => none
  | k + 1, x0, x21, x22, x23, x24, x205 => if x205 = true then (some false) else (if x24 = true then ((laws_numberOf.f k x0).bind fun t211 => (if (x21.size : Int) = 0 then (none) else ((impl_RotateText.f x21 (Int.tmod t211 (x21.size : Int))).bind fun bt212 => ((impl_CountPattern.f k bt212.1 x22).bind fun bt214 => (if bt212.2 = true then (if bt214.2 = true then (some (bt214.1 == x23)) else (some false)) else (some false)))))) else (some (x23 == 0)))
def laws_FnColumns.j1 : Nat → List Int → List Int → ByteArray → List Int → ByteArray → Bool → Option (Bool)
  | 0, _, _, _, _, _, _ => none
  | k + 1, x0, x1, x5, x6, x10, x110 => if x110 = true then (some false) else (if 0 ≤ (x5.size : Int) then (if ((x5.size : Int) : Int).toNat ≤ 281474976710656 then (laws_FnColumns.l0 k x0 x1 x5 x6 x10 (List.replicate ((x5.size : Int) : Int).toNat false) x6 (x6.length : Int) 0) else (none)) else (none))
def laws_FnColumns.l0 : Nat → List Int → List Int → ByteArray → List Int → ByteArray → List Bool → List Int → Int → Int → Option (Bool)
  | 0, _, _, _, _, _, _, _, _, _ => none
  | k + 1, x0, x1, x5, x6, x10, x18, x114, x115, x116 => if x116 < x115 then (if 0 ≤ x116 then (if x116 < (x114.length : Int) then (if (rd x114 x116) < 0 then (some false) else (if (rd x114 x116) ≥ (x5.size : Int) then (some false) else (if 0 ≤ (rd x114 x116) then (if (rd x114 x116) < (x18.length : Int) then (if rdOf false x18 (rd x114 x116) = true then (some false) else (if (rd x114 x116) < (x5.size : Int) then (if x116 < (x10.size : Int) then (if (bt x5 (rd x114 x116)) = (bt x10 x116) then (if x116 > 0 then (if 0 ≤ (wrap64 (x116 - 1)) then (if (wrap64 (x116 - 1)) < (x10.size : Int) then (if (bt x10 (wrap64 (x116 - 1))) > (bt x10 x116) then (some false) else (if (bt x10 (wrap64 (x116 - 1))) = (bt x10 x116) then (if (wrap64 (x116 - 1)) < (x6.length : Int) then (if (rd x6 (wrap64 (x116 - 1))) ≥ (rd x114 x116) then (some false) else (laws_FnColumns.l0 k x0 x1 x5 x6 x10 (x18.set ((rd x114 x116) : Int).toNat true) x114 x115 (wrap64 (x116 + 1)))) else (none)) else (laws_FnColumns.l0 k x0 x1 x5 x6 x10 (x18.set ((rd x114 x116) : Int).toNat true) x114 x115 (wrap64 (x116 + 1))))) else (none)) else (none)) else (laws_FnColumns.l0 k x0 x1 x5 x6 x10 (x18.set ((rd x114 x116) : Int).toNat true) x114 x115 (wrap64 (x116 + 1)))) else (some false)) else (none)) else (none))) else (none)) else (none)))) else (none)) else (none)) else (laws_FnColumns.j3 k x0 x1)
end
def laws_FnColumns.f (k : Nat) (l0 : List Int) (l1 : List Int) : Option (Bool) := if (wrap64 ((l0.length : Int) + (l1.length : Int))) > 1048576 then (some true) else ((spec_DrawNextOf.f k l0).bind fun t178 => ((impl_NextOf.f t178).bind fun bt179 => ((spec_NextOf.f k t178).bind fun bt183 => ((impl_FirstColumn.f t178).bind fun bt187 => ((spec_FirstColumn.f k t178).bind fun bt189 => ((impl_RunsIn.f k t178).bind fun bt191 => ((spec_RunsIn.f k t178).bind fun bt193 => (if (bt179.2 != bt183.2) = true then (laws_FnColumns.j0 k l0 l1 t178 bt179.1 bt179.2 bt187.1 true) else ((laws_sameInts.f k bt179.1 bt183.1).bind fun t195 => (if t195 = true then (if (bt187.2 != bt189.2) = true then (laws_FnColumns.j0 k l0 l1 t178 bt179.1 bt179.2 bt187.1 true) else (if bt187.1.toList = bt189.1.toList then (if (bt191.2 != bt193.2) = true then (laws_FnColumns.j0 k l0 l1 t178 bt179.1 bt179.2 bt187.1 true) else (laws_FnColumns.j0 k l0 l1 t178 bt179.1 bt179.2 bt187.1 (bt191.1 != bt193.1))) else (laws_FnColumns.j0 k l0 l1 t178 bt179.1 bt179.2 bt187.1 true))) else (laws_FnColumns.j0 k l0 l1 t178 bt179.1 bt179.2 bt187.1 true)))))))))))
theorem laws_FnColumns.mono_l : ∀ k, (∀ y0 y1 y2 y3 y4 y5 y6, LeO (laws_FnColumns.j0 k y0 y1 y2 y3 y4 y5 y6) (laws_FnColumns.j0 (k + 1) y0 y1 y2 y3 y4 y5 y6)) ∧ (∀ y0 y1, LeO (laws_FnColumns.j3 k y0 y1) (laws_FnColumns.j3 (k + 1) y0 y1)) ∧ (∀ y0 y1 y2 y3 y4 y5, LeO (laws_FnColumns.j4 k y0 y1 y2 y3 y4 y5) (laws_FnColumns.j4 (k + 1) y0 y1 y2 y3 y4 y5)) ∧ (∀ y0 y1 y2 y3 y4 y5, LeO (laws_FnColumns.j1 k y0 y1 y2 y3 y4 y5) (laws_FnColumns.j1 (k + 1) y0 y1 y2 y3 y4 y5)) ∧ (∀ y0 y1 y2 y3 y4 y5 y6 y7 y8, LeO (laws_FnColumns.l0 k y0 y1 y2 y3 y4 y5 y6 y7 y8) (laws_FnColumns.l0 (k + 1) y0 y1 y2 y3 y4 y5 y6 y7 y8))
  | 0 => ⟨fun _ _ _ _ _ _ _ r h => by simp [laws_FnColumns.j0] at h, fun _ _ r h => by simp [laws_FnColumns.j3] at h, fun _ _ _ _ _ _ r h => by simp [laws_FnColumns.j4] at h, fun _ _ _ _ _ _ r h => by simp [laws_FnColumns.j1] at h, fun _ _ _ _ _ _ _ _ _ r h => by simp [laws_FnColumns.l0] at h⟩
  | k + 1 => by
    obtain ⟨ih0, ih1, ih2, ih3, ih4⟩ := laws_FnColumns.mono_l k
    refine ⟨?_, ?_, ?_, ?_, ?_⟩
    · intro y0 y1 y2 y3 y4 y5 y6
      unfold laws_FnColumns.j0
      repeat' first
      | (with_reducible exact ih0 _ _ _ _ _ _ _)
      | (with_reducible exact ih1 _ _)
      | (with_reducible exact ih2 _ _ _ _ _ _)
      | (with_reducible exact ih3 _ _ _ _ _ _)
      | (with_reducible exact ih4 _ _ _ _ _ _ _ _ _)
      | (with_reducible exact impl_CountPattern.mono _ _ _)
      | (with_reducible exact impl_RunsIn.mono _ _)
      | (with_reducible exact laws_numberOf.mono _ _)
      | (with_reducible exact laws_sameInts.mono _ _ _)
      | (with_reducible exact spec_CountPattern.mono _ _ _)
      | (with_reducible exact spec_DrawCountPattern.mono _ _)
      | (with_reducible exact spec_DrawNextOf.mono _ _)
      | (with_reducible exact spec_FirstColumn.mono _ _)
      | (with_reducible exact spec_NextOf.mono _ _)
      | (with_reducible exact spec_RunsIn.mono _ _)
      | (with_reducible exact LeO.refl _)
      | (with_reducible exact LeO.none _)
      | (with_reducible refine LeO.ite ?_ ?_)
      | (with_reducible refine LeO.bind ?_ (fun _ => ?_))
      | exact ih0 _ _ _ _ _ _ _
      | exact ih1 _ _
      | exact ih2 _ _ _ _ _ _
      | exact ih3 _ _ _ _ _ _
      | exact ih4 _ _ _ _ _ _ _ _ _
      | exact impl_CountPattern.mono _ _ _
      | exact impl_RunsIn.mono _ _
      | exact laws_numberOf.mono _ _
      | exact laws_sameInts.mono _ _ _
      | exact spec_CountPattern.mono _ _ _
      | exact spec_DrawCountPattern.mono _ _
      | exact spec_DrawNextOf.mono _ _
      | exact spec_FirstColumn.mono _ _
      | exact spec_NextOf.mono _ _
      | exact spec_RunsIn.mono _ _
      | exact LeO.none _
      | refine LeO.ite ?_ ?_
      | refine LeO.bind ?_ (fun _ => ?_)
    · intro y0 y1
      unfold laws_FnColumns.j3
      repeat' first
      | (with_reducible exact ih0 _ _ _ _ _ _ _)
      | (with_reducible exact ih1 _ _)
      | (with_reducible exact ih2 _ _ _ _ _ _)
      | (with_reducible exact ih3 _ _ _ _ _ _)
      | (with_reducible exact ih4 _ _ _ _ _ _ _ _ _)
      | (with_reducible exact impl_CountPattern.mono _ _ _)
      | (with_reducible exact impl_RunsIn.mono _ _)
      | (with_reducible exact laws_numberOf.mono _ _)
      | (with_reducible exact laws_sameInts.mono _ _ _)
      | (with_reducible exact spec_CountPattern.mono _ _ _)
      | (with_reducible exact spec_DrawCountPattern.mono _ _)
      | (with_reducible exact spec_DrawNextOf.mono _ _)
      | (with_reducible exact spec_FirstColumn.mono _ _)
      | (with_reducible exact spec_NextOf.mono _ _)
      | (with_reducible exact spec_RunsIn.mono _ _)
      | (with_reducible exact LeO.refl _)
      | (with_reducible exact LeO.none _)
      | (with_reducible refine LeO.ite ?_ ?_)
      | (with_reducible refine LeO.bind ?_ (fun _ => ?_))
      | exact ih0 _ _ _ _ _ _ _
      | exact ih1 _ _
      | exact ih2 _ _ _ _ _ _
      | exact ih3 _ _ _ _ _ _
      | exact ih4 _ _ _ _ _ _ _ _ _
      | exact impl_CountPattern.mono _ _ _
      | exact impl_RunsIn.mono _ _
      | exact laws_numberOf.mono _ _
      | exact laws_sameInts.mono _ _ _
      | exact spec_CountPattern.mono _ _ _
      | exact spec_DrawCountPattern.mono _ _
      | exact spec_DrawNextOf.mono _ _
      | exact spec_FirstColumn.mono _ _
      | exact spec_NextOf.mono _ _
      | exact spec_RunsIn.mono _ _
      | exact LeO.none _
      | refine LeO.ite ?_ ?_
      | refine LeO.bind ?_ (fun _ => ?_)
    · intro y0 y1 y2 y3 y4 y5
      unfold laws_FnColumns.j4
      repeat' first
      | (with_reducible exact ih0 _ _ _ _ _ _ _)
      | (with_reducible exact ih1 _ _)
      | (with_reducible exact ih2 _ _ _ _ _ _)
      | (with_reducible exact ih3 _ _ _ _ _ _)
      | (with_reducible exact ih4 _ _ _ _ _ _ _ _ _)
      | (with_reducible exact impl_CountPattern.mono _ _ _)
      | (with_reducible exact impl_RunsIn.mono _ _)
      | (with_reducible exact laws_numberOf.mono _ _)
      | (with_reducible exact laws_sameInts.mono _ _ _)
      | (with_reducible exact spec_CountPattern.mono _ _ _)
      | (with_reducible exact spec_DrawCountPattern.mono _ _)
      | (with_reducible exact spec_DrawNextOf.mono _ _)
      | (with_reducible exact spec_FirstColumn.mono _ _)
      | (with_reducible exact spec_NextOf.mono _ _)
      | (with_reducible exact spec_RunsIn.mono _ _)
      | (with_reducible exact LeO.refl _)
      | (with_reducible exact LeO.none _)
      | (with_reducible refine LeO.ite ?_ ?_)
      | (with_reducible refine LeO.bind ?_ (fun _ => ?_))
      | exact ih0 _ _ _ _ _ _ _
      | exact ih1 _ _
      | exact ih2 _ _ _ _ _ _
      | exact ih3 _ _ _ _ _ _
      | exact ih4 _ _ _ _ _ _ _ _ _
      | exact impl_CountPattern.mono _ _ _
      | exact impl_RunsIn.mono _ _
      | exact laws_numberOf.mono _ _
      | exact laws_sameInts.mono _ _ _
      | exact spec_CountPattern.mono _ _ _
      | exact spec_DrawCountPattern.mono _ _
      | exact spec_DrawNextOf.mono _ _
      | exact spec_FirstColumn.mono _ _
      | exact spec_NextOf.mono _ _
      | exact spec_RunsIn.mono _ _
      | exact LeO.none _
      | refine LeO.ite ?_ ?_
      | refine LeO.bind ?_ (fun _ => ?_)
    · intro y0 y1 y2 y3 y4 y5
      unfold laws_FnColumns.j1
      repeat' first
      | (with_reducible exact ih0 _ _ _ _ _ _ _)
      | (with_reducible exact ih1 _ _)
      | (with_reducible exact ih2 _ _ _ _ _ _)
      | (with_reducible exact ih3 _ _ _ _ _ _)
      | (with_reducible exact ih4 _ _ _ _ _ _ _ _ _)
      | (with_reducible exact impl_CountPattern.mono _ _ _)
      | (with_reducible exact impl_RunsIn.mono _ _)
      | (with_reducible exact laws_numberOf.mono _ _)
      | (with_reducible exact laws_sameInts.mono _ _ _)
      | (with_reducible exact spec_CountPattern.mono _ _ _)
      | (with_reducible exact spec_DrawCountPattern.mono _ _)
      | (with_reducible exact spec_DrawNextOf.mono _ _)
      | (with_reducible exact spec_FirstColumn.mono _ _)
      | (with_reducible exact spec_NextOf.mono _ _)
      | (with_reducible exact spec_RunsIn.mono _ _)
      | (with_reducible exact LeO.refl _)
      | (with_reducible exact LeO.none _)
      | (with_reducible refine LeO.ite ?_ ?_)
      | (with_reducible refine LeO.bind ?_ (fun _ => ?_))
      | exact ih0 _ _ _ _ _ _ _
      | exact ih1 _ _
      | exact ih2 _ _ _ _ _ _
      | exact ih3 _ _ _ _ _ _
      | exact ih4 _ _ _ _ _ _ _ _ _
      | exact impl_CountPattern.mono _ _ _
      | exact impl_RunsIn.mono _ _
      | exact laws_numberOf.mono _ _
      | exact laws_sameInts.mono _ _ _
      | exact spec_CountPattern.mono _ _ _
      | exact spec_DrawCountPattern.mono _ _
      | exact spec_DrawNextOf.mono _ _
      | exact spec_FirstColumn.mono _ _
      | exact spec_NextOf.mono _ _
      | exact spec_RunsIn.mono _ _
      | exact LeO.none _
      | refine LeO.ite ?_ ?_
      | refine LeO.bind ?_ (fun _ => ?_)
    · intro y0 y1 y2 y3 y4 y5 y6 y7 y8
      unfold laws_FnColumns.l0
      repeat' first
      | (with_reducible exact ih0 _ _ _ _ _ _ _)
      | (with_reducible exact ih1 _ _)
      | (with_reducible exact ih2 _ _ _ _ _ _)
      | (with_reducible exact ih3 _ _ _ _ _ _)
      | (with_reducible exact ih4 _ _ _ _ _ _ _ _ _)
      | (with_reducible exact impl_CountPattern.mono _ _ _)
      | (with_reducible exact impl_RunsIn.mono _ _)
      | (with_reducible exact laws_numberOf.mono _ _)
      | (with_reducible exact laws_sameInts.mono _ _ _)
      | (with_reducible exact spec_CountPattern.mono _ _ _)
      | (with_reducible exact spec_DrawCountPattern.mono _ _)
      | (with_reducible exact spec_DrawNextOf.mono _ _)
      | (with_reducible exact spec_FirstColumn.mono _ _)
      | (with_reducible exact spec_NextOf.mono _ _)
      | (with_reducible exact spec_RunsIn.mono _ _)
      | (with_reducible exact LeO.refl _)
      | (with_reducible exact LeO.none _)
      | (with_reducible refine LeO.ite ?_ ?_)
      | (with_reducible refine LeO.bind ?_ (fun _ => ?_))
      | exact ih0 _ _ _ _ _ _ _
      | exact ih1 _ _
      | exact ih2 _ _ _ _ _ _
      | exact ih3 _ _ _ _ _ _
      | exact ih4 _ _ _ _ _ _ _ _ _
      | exact impl_CountPattern.mono _ _ _
      | exact impl_RunsIn.mono _ _
      | exact laws_numberOf.mono _ _
      | exact laws_sameInts.mono _ _ _
      | exact spec_CountPattern.mono _ _ _
      | exact spec_DrawCountPattern.mono _ _
      | exact spec_DrawNextOf.mono _ _
      | exact spec_FirstColumn.mono _ _
      | exact spec_NextOf.mono _ _
      | exact spec_RunsIn.mono _ _
      | exact LeO.none _
      | refine LeO.ite ?_ ?_
      | refine LeO.bind ?_ (fun _ => ?_)
theorem laws_FnColumns.mono : ∀ a0 a1 k, LeO (laws_FnColumns.f k a0 a1) (laws_FnColumns.f (k + 1) a0 a1) := by
  intro a0 a1 k
  obtain ⟨ih0, ih1, ih2, ih3, ih4⟩ := laws_FnColumns.mono_l k
  unfold laws_FnColumns.f
  repeat' first
      | (with_reducible exact ih0 _ _ _ _ _ _ _)
      | (with_reducible exact ih1 _ _)
      | (with_reducible exact ih2 _ _ _ _ _ _)
      | (with_reducible exact ih3 _ _ _ _ _ _)
      | (with_reducible exact ih4 _ _ _ _ _ _ _ _ _)
      | (with_reducible exact impl_CountPattern.mono _ _ _)
      | (with_reducible exact impl_RunsIn.mono _ _)
      | (with_reducible exact laws_numberOf.mono _ _)
      | (with_reducible exact laws_sameInts.mono _ _ _)
      | (with_reducible exact spec_CountPattern.mono _ _ _)
      | (with_reducible exact spec_DrawCountPattern.mono _ _)
      | (with_reducible exact spec_DrawNextOf.mono _ _)
      | (with_reducible exact spec_FirstColumn.mono _ _)
      | (with_reducible exact spec_NextOf.mono _ _)
      | (with_reducible exact spec_RunsIn.mono _ _)
      | (with_reducible exact LeO.refl _)
      | (with_reducible exact LeO.none _)
      | (with_reducible refine LeO.ite ?_ ?_)
      | (with_reducible refine LeO.bind ?_ (fun _ => ?_))
      | exact ih0 _ _ _ _ _ _ _
      | exact ih1 _ _
      | exact ih2 _ _ _ _ _ _
      | exact ih3 _ _ _ _ _ _
      | exact ih4 _ _ _ _ _ _ _ _ _
      | exact impl_CountPattern.mono _ _ _
      | exact impl_RunsIn.mono _ _
      | exact laws_numberOf.mono _ _
      | exact laws_sameInts.mono _ _ _
      | exact spec_CountPattern.mono _ _ _
      | exact spec_DrawCountPattern.mono _ _
      | exact spec_DrawNextOf.mono _ _
      | exact spec_FirstColumn.mono _ _
      | exact spec_NextOf.mono _ _
      | exact spec_RunsIn.mono _ _
      | exact LeO.none _
      | refine LeO.ite ?_ ?_
      | refine LeO.bind ?_ (fun _ => ?_)
set_option maxHeartbeats 8000000 in
set_option maxRecDepth 100000 in
theorem laws_FnColumns.calls (k : Nat) (A0 : Option Addr) (c0 : Nat) (l0 : List Int) (A1 : Option Addr) (c1 : Nat) (l1 : List Int) (r : Bool) (w : World) (hr0 : Kd.C (Kd.int .u8) w A0 l0.length l0) (hc0 : l0.length ≤ c0) (hr1 : Kd.C (Kd.int .u8) w A1 l1.length l1) (hc1 : l1.length ≤ c1) (h : laws_FnColumns.f k l0 l1 = some r) :
    Calls Try.prog 9 #[.slice A0 l0.length c0, .slice A1 l1.length c1] w fun e w' => e = .returned (.bool r) ∧ Below w.heap.size w w' := by
  have HR0 := Aside0.mk hr0
  have HC0 := Aside0.mk hc0
  clear hr0 hc0
  have HR1 := Aside0.mk hr1
  have HC1 := Aside0.mk hc1
  clear hr1 hc1
  have HB := Aside0.mk (Below.refl w.heap.size w)
  have H : (if (wrap64 ((l0.length : Int) + (l1.length : Int))) > 1048576 then (some true) else ((spec_DrawNextOf.f k l0).bind fun t178 => ((impl_NextOf.f t178).bind fun bt179 => ((spec_NextOf.f k t178).bind fun bt183 => ((impl_FirstColumn.f t178).bind fun bt187 => ((spec_FirstColumn.f k t178).bind fun bt189 => ((impl_RunsIn.f k t178).bind fun bt191 => ((spec_RunsIn.f k t178).bind fun bt193 => (if (bt179.2 != bt183.2) = true then (laws_FnColumns.j0 k l0 l1 t178 bt179.1 bt179.2 bt187.1 true) else ((laws_sameInts.f k bt179.1 bt183.1).bind fun t195 => (if t195 = true then (if (bt187.2 != bt189.2) = true then (laws_FnColumns.j0 k l0 l1 t178 bt179.1 bt179.2 bt187.1 true) else (if bt187.1.toList = bt189.1.toList then (if (bt191.2 != bt193.2) = true then (laws_FnColumns.j0 k l0 l1 t178 bt179.1 bt179.2 bt187.1 true) else (laws_FnColumns.j0 k l0 l1 t178 bt179.1 bt179.2 bt187.1 (bt191.1 != bt193.1))) else (laws_FnColumns.j0 k l0 l1 t178 bt179.1 bt179.2 bt187.1 true))) else (laws_FnColumns.j0 k l0 l1 t178 bt179.1 bt179.2 bt187.1 true)))))))))))) = some r := h
  clear h
  by_cases c3 : (wrap64 ((l0.length : Int) + (l1.length : Int))) > 1048576
  · rw [if_pos c3] at H
    have c3b0 : decide (1048576 < (wrap64 ((l0.length : Int) + (l1.length : Int)))) = true := decide_eq_true c3
    clear c3
    obtain rfl := Option.some.inj H
    go_enter Try.func9, Try.ntmps9
    go_wp2
    repeat (go_quiet (fail); try go_wp2)
    go_ret
    exact ⟨by first | rfl | (simp [errW_none, errW_some] <;> rfl) | (simp [*, errW_none, errW_some] <;> rfl), by repeat (first | (with_reducible first | exact HB.out | apply below_alloc | apply pw_below_drewN | apply below_drew1) | exact HB.out)⟩
  · rw [if_neg c3] at H
    have c3b0 : decide (1048576 < (wrap64 ((l0.length : Int) + (l1.length : Int)))) = false := decide_eq_false c3
    clear c3
    replace H := Option.bind_eq_some_iff.mp H
    obtain ⟨t178, A40, H⟩ := H
    replace H : ((impl_NextOf.f t178).bind fun bt179 => ((spec_NextOf.f k t178).bind fun bt183 => ((impl_FirstColumn.f t178).bind fun bt187 => ((spec_FirstColumn.f k t178).bind fun bt189 => ((impl_RunsIn.f k t178).bind fun bt191 => ((spec_RunsIn.f k t178).bind fun bt193 => (if (bt179.2 != bt183.2) = true then (laws_FnColumns.j0 k l0 l1 t178 bt179.1 bt179.2 bt187.1 true) else ((laws_sameInts.f k bt179.1 bt183.1).bind fun t195 => (if t195 = true then (if (bt187.2 != bt189.2) = true then (laws_FnColumns.j0 k l0 l1 t178 bt179.1 bt179.2 bt187.1 true) else (if bt187.1.toList = bt189.1.toList then (if (bt191.2 != bt193.2) = true then (laws_FnColumns.j0 k l0 l1 t178 bt179.1 bt179.2 bt187.1 true) else (laws_FnColumns.j0 k l0 l1 t178 bt179.1 bt179.2 bt187.1 (bt191.1 != bt193.1))) else (laws_FnColumns.j0 k l0 l1 t178 bt179.1 bt179.2 bt187.1 true))) else (laws_FnColumns.j0 k l0 l1 t178 bt179.1 bt179.2 bt187.1 true)))))))))) = some r := H
    have A4 := Aside0.mk A40
    clear A40
    replace H := Option.bind_eq_some_iff.mp H
    obtain ⟨⟨t179, t180⟩, A50, H⟩ := H
    replace H : ((spec_NextOf.f k t178).bind fun bt183 => ((impl_FirstColumn.f t178).bind fun bt187 => ((spec_FirstColumn.f k t178).bind fun bt189 => ((impl_RunsIn.f k t178).bind fun bt191 => ((spec_RunsIn.f k t178).bind fun bt193 => (if (t180 != bt183.2) = true then (laws_FnColumns.j0 k l0 l1 t178 t179 t180 bt187.1 true) else ((laws_sameInts.f k t179 bt183.1).bind fun t195 => (if t195 = true then (if (bt187.2 != bt189.2) = true then (laws_FnColumns.j0 k l0 l1 t178 t179 t180 bt187.1 true) else (if bt187.1.toList = bt189.1.toList then (if (bt191.2 != bt193.2) = true then (laws_FnColumns.j0 k l0 l1 t178 t179 t180 bt187.1 true) else (laws_FnColumns.j0 k l0 l1 t178 t179 t180 bt187.1 (bt191.1 != bt193.1))) else (laws_FnColumns.j0 k l0 l1 t178 t179 t180 bt187.1 true))) else (laws_FnColumns.j0 k l0 l1 t178 t179 t180 bt187.1 true))))))))) = some r := H
    have A5 := Aside0.mk A50
    clear A50
    replace H := Option.bind_eq_some_iff.mp H
    obtain ⟨⟨t183, t184⟩, A60, H⟩ := H
    replace H : ((impl_FirstColumn.f t178).bind fun bt187 => ((spec_FirstColumn.f k t178).bind fun bt189 => ((impl_RunsIn.f k t178).bind fun bt191 => ((spec_RunsIn.f k t178).bind fun bt193 => (if (t180 != t184) = true then (laws_FnColumns.j0 k l0 l1 t178 t179 t180 bt187.1 true) else ((laws_sameInts.f k t179 t183).bind fun t195 => (if t195 = true then (if (bt187.2 != bt189.2) = true then (laws_FnColumns.j0 k l0 l1 t178 t179 t180 bt187.1 true) else (if bt187.1.toList = bt189.1.toList then (if (bt191.2 != bt193.2) = true then (laws_FnColumns.j0 k l0 l1 t178 t179 t180 bt187.1 true) else (laws_FnColumns.j0 k l0 l1 t178 t179 t180 bt187.1 (bt191.1 != bt193.1))) else (laws_FnColumns.j0 k l0 l1 t178 t179 t180 bt187.1 true))) else (laws_FnColumns.j0 k l0 l1 t178 t179 t180 bt187.1 true)))))))) = some r := H
    have A6 := Aside0.mk A60
    clear A60
    replace H := Option.bind_eq_some_iff.mp H
    obtain ⟨⟨t187, t188⟩, A70, H⟩ := H
    replace H : ((spec_FirstColumn.f k t178).bind fun bt189 => ((impl_RunsIn.f k t178).bind fun bt191 => ((spec_RunsIn.f k t178).bind fun bt193 => (if (t180 != t184) = true then (laws_FnColumns.j0 k l0 l1 t178 t179 t180 t187 true) else ((laws_sameInts.f k t179 t183).bind fun t195 => (if t195 = true then (if (t188 != bt189.2) = true then (laws_FnColumns.j0 k l0 l1 t178 t179 t180 t187 true) else (if t187.toList = bt189.1.toList then (if (bt191.2 != bt193.2) = true then (laws_FnColumns.j0 k l0 l1 t178 t179 t180 t187 true) else (laws_FnColumns.j0 k l0 l1 t178 t179 t180 t187 (bt191.1 != bt193.1))) else (laws_FnColumns.j0 k l0 l1 t178 t179 t180 t187 true))) else (laws_FnColumns.j0 k l0 l1 t178 t179 t180 t187 true))))))) = some r := H
    have A7 := Aside0.mk A70
    clear A70
    replace H := Option.bind_eq_some_iff.mp H
    obtain ⟨⟨t189, t190⟩, A80, H⟩ := H
    replace H : ((impl_RunsIn.f k t178).bind fun bt191 => ((spec_RunsIn.f k t178).bind fun bt193 => (if (t180 != t184) = true then (laws_FnColumns.j0 k l0 l1 t178 t179 t180 t187 true) else ((laws_sameInts.f k t179 t183).bind fun t195 => (if t195 = true then (if (t188 != t190) = true then (laws_FnColumns.j0 k l0 l1 t178 t179 t180 t187 true) else (if t187.toList = t189.toList then (if (bt191.2 != bt193.2) = true then (laws_FnColumns.j0 k l0 l1 t178 t179 t180 t187 true) else (laws_FnColumns.j0 k l0 l1 t178 t179 t180 t187 (bt191.1 != bt193.1))) else (laws_FnColumns.j0 k l0 l1 t178 t179 t180 t187 true))) else (laws_FnColumns.j0 k l0 l1 t178 t179 t180 t187 true)))))) = some r := H
    have A8 := Aside0.mk A80
    clear A80
    replace H := Option.bind_eq_some_iff.mp H
    obtain ⟨⟨t191, t192⟩, A90, H⟩ := H
    replace H : ((spec_RunsIn.f k t178).bind fun bt193 => (if (t180 != t184) = true then (laws_FnColumns.j0 k l0 l1 t178 t179 t180 t187 true) else ((laws_sameInts.f k t179 t183).bind fun t195 => (if t195 = true then (if (t188 != t190) = true then (laws_FnColumns.j0 k l0 l1 t178 t179 t180 t187 true) else (if t187.toList = t189.toList then (if (t192 != bt193.2) = true then (laws_FnColumns.j0 k l0 l1 t178 t179 t180 t187 true) else (laws_FnColumns.j0 k l0 l1 t178 t179 t180 t187 (t191 != bt193.1))) else (laws_FnColumns.j0 k l0 l1 t178 t179 t180 t187 true))) else (laws_FnColumns.j0 k l0 l1 t178 t179 t180 t187 true))))) = some r := H
    have A9 := Aside0.mk A90
    clear A90
    replace H := Option.bind_eq_some_iff.mp H
    obtain ⟨⟨t193, t194⟩, A100, H⟩ := H
    replace H : (if (t180 != t184) = true then (laws_FnColumns.j0 k l0 l1 t178 t179 t180 t187 true) else ((laws_sameInts.f k t179 t183).bind fun t195 => (if t195 = true then (if (t188 != t190) = true then (laws_FnColumns.j0 k l0 l1 t178 t179 t180 t187 true) else (if t187.toList = t189.toList then (if (t192 != t194) = true then (laws_FnColumns.j0 k l0 l1 t178 t179 t180 t187 true) else (laws_FnColumns.j0 k l0 l1 t178 t179 t180 t187 (t191 != t193))) else (laws_FnColumns.j0 k l0 l1 t178 t179 t180 t187 true))) else (laws_FnColumns.j0 k l0 l1 t178 t179 t180 t187 true)))) = some r := H
    have A10 := Aside0.mk A100
    clear A100
    have HC11 := Aside0.mk H
    clear H
    go_enter Try.func9, Try.ntmps9
    go_upto_region 10 with (first | (go_at_call 28; (with_reducible refine (spec_DrawNextOf.calls k _ _ l0 t178 _ ?side1 ?side2 A4.out).mono ?_); (case side1 => repeat (first | exact HR0.out | (with_reducible refine Kd.C_alloc ?_ _) | (with_reducible refine Kd.C_drewN ?_ _) | (with_reducible refine Kd.C_drew ?_))); (case side2 => exact HC0.out); rintro e w12 ⟨rfl, hb⟩; have n0_ := Aside0.mk (below_step (by repeat (first | (with_reducible first | exact HB.out | apply below_alloc | apply pw_below_drewN | apply below_drew1) | exact HB.out)) hb); clear HB; have HB := n0_; clear n0_; (try clear hb); (try clear hb2); (try clear hk); (try clear hi)) | (go_at_call 12; (with_reducible refine (impl_NextOf.calls t178 t179 t180 _ A5.out).mono ?_); rintro e w13 ⟨v181, rfl, ho0, hb⟩; have n0_ := Aside0.mk (Kd.R_lower ho0 (below_size (by repeat (first | (with_reducible first | exact HB.out | apply below_alloc | apply pw_below_drewN | apply below_drew1) | exact HB.out)))); have n1_ := Aside0.mk (below_step (by repeat (first | (with_reducible first | exact HB.out | apply below_alloc | apply pw_below_drewN | apply below_drew1) | exact HB.out)) hb); clear HB; have HO182 := n0_; have HB := n1_; clear n0_ n1_; (try clear hb); (try clear hb2); (try clear hk); (try clear hi); (try clear ho0)) | (go_at_call 11; (with_reducible refine (spec_NextOf.calls k t178 t183 t184 _ A6.out).mono ?_); rintro e w14 ⟨v185, rfl, ho0, hb⟩; have n0_ := Aside0.mk (Kd.R_elder' (by (with_reducible repeat (first | apply Kd.R_alloc | apply Kd.R_drewN | apply Kd.R_drew)); exact HO182.out) (Kd.R_base ho0) hb); have n1_ := Aside0.mk (Kd.R_lower (Kd.R_new' ho0 (Kd.R_lt (by (with_reducible repeat (first | apply Kd.R_alloc | apply Kd.R_drewN | apply Kd.R_drew)); exact HO182.out))) (below_size (by repeat (first | (with_reducible first | exact HB.out | apply below_alloc | apply pw_below_drewN | apply below_drew1) | exact HB.out)))); have n2_ := Aside0.mk (below_step (by repeat (first | (with_reducible first | exact HB.out | apply below_alloc | apply pw_below_drewN | apply below_drew1) | exact HB.out)) hb); clear HO182; clear HB; have HO182 := n0_; have HO186 := n1_; have HB := n2_; clear n0_ n1_ n2_; (try clear hb); (try clear hb2); (try clear hk); (try clear hi); (try clear ho0)) | (go_at_call 27; (with_reducible refine (impl_FirstColumn.calls t178 t187 t188 _ A7.out).mono ?_); rintro e w15 ⟨rfl, hb⟩; have n0_ := Aside0.mk (Kd.R_below (by (with_reducible repeat (first | apply Kd.R_alloc | apply Kd.R_drewN | apply Kd.R_drew)); exact HO182.out) hb); have n1_ := Aside0.mk (Kd.R_below (by (with_reducible repeat (first | apply Kd.R_alloc | apply Kd.R_drewN | apply Kd.R_drew)); exact HO186.out) hb); have n2_ := Aside0.mk (below_step (by repeat (first | (with_reducible first | exact HB.out | apply below_alloc | apply pw_below_drewN | apply below_drew1) | exact HB.out)) hb); clear HO182; clear HO186; clear HB; have HO182 := n0_; have HO186 := n1_; have HB := n2_; clear n0_ n1_ n2_; (try clear hb); (try clear hb2); (try clear hk); (try clear hi)) | (go_at_call 26; (with_reducible refine (spec_FirstColumn.calls k t178 t189 t190 _ A8.out).mono ?_); rintro e w16 ⟨rfl, hb⟩; have n0_ := Aside0.mk (Kd.R_below (by (with_reducible repeat (first | apply Kd.R_alloc | apply Kd.R_drewN | apply Kd.R_drew)); exact HO182.out) hb); have n1_ := Aside0.mk (Kd.R_below (by (with_reducible repeat (first | apply Kd.R_alloc | apply Kd.R_drewN | apply Kd.R_drew)); exact HO186.out) hb); have n2_ := Aside0.mk (below_step (by repeat (first | (with_reducible first | exact HB.out | apply below_alloc | apply pw_below_drewN | apply below_drew1) | exact HB.out)) hb); clear HO182; clear HO186; clear HB; have HO182 := n0_; have HO186 := n1_; have HB := n2_; clear n0_ n1_ n2_; (try clear hb); (try clear hb2); (try clear hk); (try clear hi)) | (go_at_call 29; (with_reducible refine (impl_RunsIn.calls k t178 t191 t192 _ A9.out).mono ?_); rintro e w' ⟨rfl, ⟨nd, rfl⟩⟩; (try first | exact ⟨rfl, _, World.drewN_drewN _ _ _⟩ | exact ⟨rfl, _, Eq.trans (World.drewN_drewN _ _ _) (congrArg (World.drewN _) (Nat.add_assoc _ _ _))⟩)) | (go_at_call 30; (with_reducible refine (spec_RunsIn.calls k t178 t193 t194 _ A10.out).mono ?_); rintro e w' ⟨rfl, ⟨nd, rfl⟩⟩; (try first | exact ⟨rfl, _, World.drewN_drewN _ _ _⟩ | exact ⟨rfl, _, Eq.trans (World.drewN_drewN _ _ _) (congrArg (World.drewN _) (Nat.add_assoc _ _ _))⟩)))
    repeat (go_quiet (first | (go_at_call 28; (with_reducible refine (spec_DrawNextOf.calls k _ _ l0 t178 _ ?side1 ?side2 A4.out).mono ?_); (case side1 => repeat (first | exact HR0.out | (with_reducible refine Kd.C_alloc ?_ _) | (with_reducible refine Kd.C_drewN ?_ _) | (with_reducible refine Kd.C_drew ?_))); (case side2 => exact HC0.out); rintro e w12 ⟨rfl, hb⟩; have n0_ := Aside0.mk (below_step (by repeat (first | (with_reducible first | exact HB.out | apply below_alloc | apply pw_below_drewN | apply below_drew1) | exact HB.out)) hb); clear HB; have HB := n0_; clear n0_; (try clear hb); (try clear hb2); (try clear hk); (try clear hi)) | (go_at_call 12; (with_reducible refine (impl_NextOf.calls t178 t179 t180 _ A5.out).mono ?_); rintro e w13 ⟨v181, rfl, ho0, hb⟩; have n0_ := Aside0.mk (Kd.R_lower ho0 (below_size (by repeat (first | (with_reducible first | exact HB.out | apply below_alloc | apply pw_below_drewN | apply below_drew1) | exact HB.out)))); have n1_ := Aside0.mk (below_step (by repeat (first | (with_reducible first | exact HB.out | apply below_alloc | apply pw_below_drewN | apply below_drew1) | exact HB.out)) hb); clear HB; have HO182 := n0_; have HB := n1_; clear n0_ n1_; (try clear hb); (try clear hb2); (try clear hk); (try clear hi); (try clear ho0)) | (go_at_call 11; (with_reducible refine (spec_NextOf.calls k t178 t183 t184 _ A6.out).mono ?_); rintro e w14 ⟨v185, rfl, ho0, hb⟩; have n0_ := Aside0.mk (Kd.R_elder' (by (with_reducible repeat (first | apply Kd.R_alloc | apply Kd.R_drewN | apply Kd.R_drew)); exact HO182.out) (Kd.R_base ho0) hb); have n1_ := Aside0.mk (Kd.R_lower (Kd.R_new' ho0 (Kd.R_lt (by (with_reducible repeat (first | apply Kd.R_alloc | apply Kd.R_drewN | apply Kd.R_drew)); exact HO182.out))) (below_size (by repeat (first | (with_reducible first | exact HB.out | apply below_alloc | apply pw_below_drewN | apply below_drew1) | exact HB.out)))); have n2_ := Aside0.mk (below_step (by repeat (first | (with_reducible first | exact HB.out | apply below_alloc | apply pw_below_drewN | apply below_drew1) | exact HB.out)) hb); clear HO182; clear HB; have HO182 := n0_; have HO186 := n1_; have HB := n2_; clear n0_ n1_ n2_; (try clear hb); (try clear hb2); (try clear hk); (try clear hi); (try clear ho0)) | (go_at_call 27; (with_reducible refine (impl_FirstColumn.calls t178 t187 t188 _ A7.out).mono ?_); rintro e w15 ⟨rfl, hb⟩; have n0_ := Aside0.mk (Kd.R_below (by (with_reducible repeat (first | apply Kd.R_alloc | apply Kd.R_drewN | apply Kd.R_drew)); exact HO182.out) hb); have n1_ := Aside0.mk (Kd.R_below (by (with_reducible repeat (first | apply Kd.R_alloc | apply Kd.R_drewN | apply Kd.R_drew)); exact HO186.out) hb); have n2_ := Aside0.mk (below_step (by repeat (first | (with_reducible first | exact HB.out | apply below_alloc | apply pw_below_drewN | apply below_drew1) | exact HB.out)) hb); clear HO182; clear HO186; clear HB; have HO182 := n0_; have HO186 := n1_; have HB := n2_; clear n0_ n1_ n2_; (try clear hb); (try clear hb2); (try clear hk); (try clear hi)) | (go_at_call 26; (with_reducible refine (spec_FirstColumn.calls k t178 t189 t190 _ A8.out).mono ?_); rintro e w16 ⟨rfl, hb⟩; have n0_ := Aside0.mk (Kd.R_below (by (with_reducible repeat (first | apply Kd.R_alloc | apply Kd.R_drewN | apply Kd.R_drew)); exact HO182.out) hb); have n1_ := Aside0.mk (Kd.R_below (by (with_reducible repeat (first | apply Kd.R_alloc | apply Kd.R_drewN | apply Kd.R_drew)); exact HO186.out) hb); have n2_ := Aside0.mk (below_step (by repeat (first | (with_reducible first | exact HB.out | apply below_alloc | apply pw_below_drewN | apply below_drew1) | exact HB.out)) hb); clear HO182; clear HO186; clear HB; have HO182 := n0_; have HO186 := n1_; have HB := n2_; clear n0_ n1_ n2_; (try clear hb); (try clear hb2); (try clear hk); (try clear hi)) | (go_at_call 29; (with_reducible refine (impl_RunsIn.calls k t178 t191 t192 _ A9.out).mono ?_); rintro e w' ⟨rfl, ⟨nd, rfl⟩⟩; (try first | exact ⟨rfl, _, World.drewN_drewN _ _ _⟩ | exact ⟨rfl, _, Eq.trans (World.drewN_drewN _ _ _) (congrArg (World.drewN _) (Nat.add_assoc _ _ _))⟩)) | (go_at_call 30; (with_reducible refine (spec_RunsIn.calls k t178 t193 t194 _ A10.out).mono ?_); rintro e w' ⟨rfl, ⟨nd, rfl⟩⟩; (try first | exact ⟨rfl, _, World.drewN_drewN _ _ _⟩ | exact ⟨rfl, _, Eq.trans (World.drewN_drewN _ _ _) (congrArg (World.drewN _) (Nat.add_assoc _ _ _))⟩))); go_upto_region 10 with (first | (go_at_call 28; (with_reducible refine (spec_DrawNextOf.calls k _ _ l0 t178 _ ?side1 ?side2 A4.out).mono ?_); (case side1 => repeat (first | exact HR0.out | (with_reducible refine Kd.C_alloc ?_ _) | (with_reducible refine Kd.C_drewN ?_ _) | (with_reducible refine Kd.C_drew ?_))); (case side2 => exact HC0.out); rintro e w12 ⟨rfl, hb⟩; have n0_ := Aside0.mk (below_step (by repeat (first | (with_reducible first | exact HB.out | apply below_alloc | apply pw_below_drewN | apply below_drew1) | exact HB.out)) hb); clear HB; have HB := n0_; clear n0_; (try clear hb); (try clear hb2); (try clear hk); (try clear hi)) | (go_at_call 12; (with_reducible refine (impl_NextOf.calls t178 t179 t180 _ A5.out).mono ?_); rintro e w13 ⟨v181, rfl, ho0, hb⟩; have n0_ := Aside0.mk (Kd.R_lower ho0 (below_size (by repeat (first | (with_reducible first | exact HB.out | apply below_alloc | apply pw_below_drewN | apply below_drew1) | exact HB.out)))); have n1_ := Aside0.mk (below_step (by repeat (first | (with_reducible first | exact HB.out | apply below_alloc | apply pw_below_drewN | apply below_drew1) | exact HB.out)) hb); clear HB; have HO182 := n0_; have HB := n1_; clear n0_ n1_; (try clear hb); (try clear hb2); (try clear hk); (try clear hi); (try clear ho0)) | (go_at_call 11; (with_reducible refine (spec_NextOf.calls k t178 t183 t184 _ A6.out).mono ?_); rintro e w14 ⟨v185, rfl, ho0, hb⟩; have n0_ := Aside0.mk (Kd.R_elder' (by (with_reducible repeat (first | apply Kd.R_alloc | apply Kd.R_drewN | apply Kd.R_drew)); exact HO182.out) (Kd.R_base ho0) hb); have n1_ := Aside0.mk (Kd.R_lower (Kd.R_new' ho0 (Kd.R_lt (by (with_reducible repeat (first | apply Kd.R_alloc | apply Kd.R_drewN | apply Kd.R_drew)); exact HO182.out))) (below_size (by repeat (first | (with_reducible first | exact HB.out | apply below_alloc | apply pw_below_drewN | apply below_drew1) | exact HB.out)))); have n2_ := Aside0.mk (below_step (by repeat (first | (with_reducible first | exact HB.out | apply below_alloc | apply pw_below_drewN | apply below_drew1) | exact HB.out)) hb); clear HO182; clear HB; have HO182 := n0_; have HO186 := n1_; have HB := n2_; clear n0_ n1_ n2_; (try clear hb); (try clear hb2); (try clear hk); (try clear hi); (try clear ho0)) | (go_at_call 27; (with_reducible refine (impl_FirstColumn.calls t178 t187 t188 _ A7.out).mono ?_); rintro e w15 ⟨rfl, hb⟩; have n0_ := Aside0.mk (Kd.R_below (by (with_reducible repeat (first | apply Kd.R_alloc | apply Kd.R_drewN | apply Kd.R_drew)); exact HO182.out) hb); have n1_ := Aside0.mk (Kd.R_below (by (with_reducible repeat (first | apply Kd.R_alloc | apply Kd.R_drewN | apply Kd.R_drew)); exact HO186.out) hb); have n2_ := Aside0.mk (below_step (by repeat (first | (with_reducible first | exact HB.out | apply below_alloc | apply pw_below_drewN | apply below_drew1) | exact HB.out)) hb); clear HO182; clear HO186; clear HB; have HO182 := n0_; have HO186 := n1_; have HB := n2_; clear n0_ n1_ n2_; (try clear hb); (try clear hb2); (try clear hk); (try clear hi)) | (go_at_call 26; (with_reducible refine (spec_FirstColumn.calls k t178 t189 t190 _ A8.out).mono ?_); rintro e w16 ⟨rfl, hb⟩; have n0_ := Aside0.mk (Kd.R_below (by (with_reducible repeat (first | apply Kd.R_alloc | apply Kd.R_drewN | apply Kd.R_drew)); exact HO182.out) hb); have n1_ := Aside0.mk (Kd.R_below (by (with_reducible repeat (first | apply Kd.R_alloc | apply Kd.R_drewN | apply Kd.R_drew)); exact HO186.out) hb); have n2_ := Aside0.mk (below_step (by repeat (first | (with_reducible first | exact HB.out | apply below_alloc | apply pw_below_drewN | apply below_drew1) | exact HB.out)) hb); clear HO182; clear HO186; clear HB; have HO182 := n0_; have HO186 := n1_; have HB := n2_; clear n0_ n1_ n2_; (try clear hb); (try clear hb2); (try clear hk); (try clear hi)) | (go_at_call 29; (with_reducible refine (impl_RunsIn.calls k t178 t191 t192 _ A9.out).mono ?_); rintro e w' ⟨rfl, ⟨nd, rfl⟩⟩; (try first | exact ⟨rfl, _, World.drewN_drewN _ _ _⟩ | exact ⟨rfl, _, Eq.trans (World.drewN_drewN _ _ _) (congrArg (World.drewN _) (Nat.add_assoc _ _ _))⟩)) | (go_at_call 30; (with_reducible refine (spec_RunsIn.calls k t178 t193 t194 _ A10.out).mono ?_); rintro e w' ⟨rfl, ⟨nd, rfl⟩⟩; (try first | exact ⟨rfl, _, World.drewN_drewN _ _ _⟩ | exact ⟨rfl, _, Eq.trans (World.drewN_drewN _ _ _) (congrArg (World.drewN _) (Nat.add_assoc _ _ _))⟩))))
    (try simp only [Act.put, List.setIfInBounds_toArray, List.set_cons_zero, List.set_cons_succ])
    go_cut [97] (fun v97 wc => ∃ (kq : Nat) (x97_10 : Bool), v97 = .bool x97_10 ∧ Aside0 (laws_FnColumns.j0 kq l0 l1 t178 t179 t180 t187 x97_10 = some r) ∧ Aside0 (kq ≤ k) ∧ Aside0 (Kd.R (Kd.int .i64) 3 wc w.heap.size (fun _ => True) v181 t179) ∧ Aside0 (Below w.heap.size w wc))
    case first =>
      as_aux_lemma =>
        have H := HC11.out
        clear HC11
        by_cases c17 : (t180 != t184) = true
        · rw [if_pos c17] at H
          have c17b0 : (t180 != t184) = true := c17
          (try (have c17b1 : decide (t180 = t184) = false := by simpa using c17))
          (try (have c17b2 : (t180 == t184) = false := by simpa using c17))
          (try (have c17b3 : ¬ (t180 = t184) := by simpa using c17))
          clear c17
          (first | rw [c17b0] | (simp only [i64_w, i32_w]; rw [c17b0]) | skip)
          have H' := Aside0.mk H
          clear H
          go_wp2
          repeat (go_quiet (fail); try go_wp2)
          go_meet
          case rel => exact ⟨_, (true), (by first | rfl | (simp; done) | (simp [*]; done)), H', ⟨by first | omega | exact Nat.le_refl _⟩, ⟨by (with_reducible repeat (first | apply Kd.R_alloc | apply Kd.R_drewN | apply Kd.R_drew)); exact Kd.R_mono HO182.out (fun _ hk => trivial)⟩, ⟨by repeat (first | (with_reducible first | exact HB.out | apply below_alloc | apply pw_below_drewN | apply below_drew1) | exact HB.out)⟩⟩
        · rw [if_neg c17] at H
          have c17b0 : (t180 != t184) = false := by simpa using c17
          (try (have c17b1 : decide (t180 = t184) = true := by simpa using c17))
          (try (have c17b2 : (t180 == t184) = true := by simpa using c17))
          clear c17
          (first | rw [c17b0] | (simp only [i64_w, i32_w]; rw [c17b0]) | skip)
          replace H := Option.bind_eq_some_iff.mp H
          obtain ⟨t195, A180, H⟩ := H
          replace H : (if t195 = true then (if (t188 != t190) = true then (laws_FnColumns.j0 k l0 l1 t178 t179 t180 t187 true) else (if t187.toList = t189.toList then (if (t192 != t194) = true then (laws_FnColumns.j0 k l0 l1 t178 t179 t180 t187 true) else (laws_FnColumns.j0 k l0 l1 t178 t179 t180 t187 (t191 != t193))) else (laws_FnColumns.j0 k l0 l1 t178 t179 t180 t187 true))) else (laws_FnColumns.j0 k l0 l1 t178 t179 t180 t187 true)) = some r := H
          have A18 := Aside0.mk A180
          clear A180
          by_cases c19 : t195 = true
          · subst c19
            have H1 : (if (t188 != t190) = true then (laws_FnColumns.j0 k l0 l1 t178 t179 t180 t187 true) else (if t187.toList = t189.toList then (if (t192 != t194) = true then (laws_FnColumns.j0 k l0 l1 t178 t179 t180 t187 true) else (laws_FnColumns.j0 k l0 l1 t178 t179 t180 t187 (t191 != t193))) else (laws_FnColumns.j0 k l0 l1 t178 t179 t180 t187 true))) = some r := by rw [if_pos rfl] at H; exact H
            clear H
            have H := H1
            clear H1
            by_cases c20 : (t188 != t190) = true
            · rw [if_pos c20] at H
              have c20b0 : (t188 != t190) = true := c20
              (try (have c20b1 : decide (t188 = t190) = false := by simpa using c20))
              (try (have c20b2 : (t188 == t190) = false := by simpa using c20))
              (try (have c20b3 : ¬ (t188 = t190) := by simpa using c20))
              clear c20
              have H' := Aside0.mk H
              clear H
              obtain ⟨Ao21, co21, eo21⟩ := Kd.R_slice HO182.out
              subst eo21
              obtain ⟨Ao22, co22, eo22⟩ := Kd.R_slice HO186.out
              subst eo22
              go_wp2_with (first | (go_at_call 31; (with_reducible refine (laws_sameInts.calls k _ _ t179 _ _ t183 true _ ?side1 ?side2 ?side3 ?side4 A18.out).mono ?_); (case side1 => repeat (first | exact (Kd.R_reads' HO182.out).2.2 | (with_reducible refine Kd.C_alloc ?_ _) | (with_reducible refine Kd.C_drewN ?_ _) | (with_reducible refine Kd.C_drew ?_))); (case side2 => exact (Kd.R_reads' HO182.out).2.1); (case side3 => repeat (first | exact (Kd.R_reads' HO186.out).2.2 | (with_reducible refine Kd.C_alloc ?_ _) | (with_reducible refine Kd.C_drewN ?_ _) | (with_reducible refine Kd.C_drew ?_))); (case side4 => exact (Kd.R_reads' HO186.out).2.1); rintro e w' ⟨rfl, ⟨nd, rfl⟩⟩; (try first | exact ⟨rfl, _, World.drewN_drewN _ _ _⟩ | exact ⟨rfl, _, Eq.trans (World.drewN_drewN _ _ _) (congrArg (World.drewN _) (Nat.add_assoc _ _ _))⟩)))
              repeat (go_quiet (first | (go_at_call 31; (with_reducible refine (laws_sameInts.calls k _ _ t179 _ _ t183 true _ ?side1 ?side2 ?side3 ?side4 A18.out).mono ?_); (case side1 => repeat (first | exact (Kd.R_reads' HO182.out).2.2 | (with_reducible refine Kd.C_alloc ?_ _) | (with_reducible refine Kd.C_drewN ?_ _) | (with_reducible refine Kd.C_drew ?_))); (case side2 => exact (Kd.R_reads' HO182.out).2.1); (case side3 => repeat (first | exact (Kd.R_reads' HO186.out).2.2 | (with_reducible refine Kd.C_alloc ?_ _) | (with_reducible refine Kd.C_drewN ?_ _) | (with_reducible refine Kd.C_drew ?_))); (case side4 => exact (Kd.R_reads' HO186.out).2.1); rintro e w' ⟨rfl, ⟨nd, rfl⟩⟩; (try first | exact ⟨rfl, _, World.drewN_drewN _ _ _⟩ | exact ⟨rfl, _, Eq.trans (World.drewN_drewN _ _ _) (congrArg (World.drewN _) (Nat.add_assoc _ _ _))⟩))); try go_wp2_with (first | (go_at_call 31; (with_reducible refine (laws_sameInts.calls k _ _ t179 _ _ t183 true _ ?side1 ?side2 ?side3 ?side4 A18.out).mono ?_); (case side1 => repeat (first | exact (Kd.R_reads' HO182.out).2.2 | (with_reducible refine Kd.C_alloc ?_ _) | (with_reducible refine Kd.C_drewN ?_ _) | (with_reducible refine Kd.C_drew ?_))); (case side2 => exact (Kd.R_reads' HO182.out).2.1); (case side3 => repeat (first | exact (Kd.R_reads' HO186.out).2.2 | (with_reducible refine Kd.C_alloc ?_ _) | (with_reducible refine Kd.C_drewN ?_ _) | (with_reducible refine Kd.C_drew ?_))); (case side4 => exact (Kd.R_reads' HO186.out).2.1); rintro e w' ⟨rfl, ⟨nd, rfl⟩⟩; (try first | exact ⟨rfl, _, World.drewN_drewN _ _ _⟩ | exact ⟨rfl, _, Eq.trans (World.drewN_drewN _ _ _) (congrArg (World.drewN _) (Nat.add_assoc _ _ _))⟩))))
              go_meet
              case rel => exact ⟨_, (true), (by first | rfl | (simp; done) | (simp [*]; done)), H', ⟨by first | omega | exact Nat.le_refl _⟩, ⟨by (with_reducible repeat (first | apply Kd.R_alloc | apply Kd.R_drewN | apply Kd.R_drew)); exact Kd.R_mono HO182.out (fun _ hk => trivial)⟩, ⟨by repeat (first | (with_reducible first | exact HB.out | apply below_alloc | apply pw_below_drewN | apply below_drew1) | exact HB.out)⟩⟩
            · rw [if_neg c20] at H
              have c20b0 : (t188 != t190) = false := by simpa using c20
              (try (have c20b1 : decide (t188 = t190) = true := by simpa using c20))
              (try (have c20b2 : (t188 == t190) = true := by simpa using c20))
              clear c20
              by_cases c23 : t187.toList = t189.toList
              · rw [if_pos c23] at H
                have c23b0 : (t187.toList == t189.toList) = true := beq_iff_eq.mpr c23
                have c23b1 : (t187.toList != t189.toList) = false := bne_eq_false_iff_eq.mpr c23
                clear c23
                by_cases c24 : (t192 != t194) = true
                · rw [if_pos c24] at H
                  have c24b0 : (t192 != t194) = true := c24
                  (try (have c24b1 : decide (t192 = t194) = false := by simpa using c24))
                  (try (have c24b2 : (t192 == t194) = false := by simpa using c24))
                  (try (have c24b3 : ¬ (t192 = t194) := by simpa using c24))
                  clear c24
                  have H' := Aside0.mk H
                  clear H
                  obtain ⟨Ao25, co25, eo25⟩ := Kd.R_slice HO182.out
                  subst eo25
                  obtain ⟨Ao26, co26, eo26⟩ := Kd.R_slice HO186.out
                  subst eo26
                  go_wp2_with (first | (go_at_call 31; (with_reducible refine (laws_sameInts.calls k _ _ t179 _ _ t183 true _ ?side1 ?side2 ?side3 ?side4 A18.out).mono ?_); (case side1 => repeat (first | exact (Kd.R_reads' HO182.out).2.2 | (with_reducible refine Kd.C_alloc ?_ _) | (with_reducible refine Kd.C_drewN ?_ _) | (with_reducible refine Kd.C_drew ?_))); (case side2 => exact (Kd.R_reads' HO182.out).2.1); (case side3 => repeat (first | exact (Kd.R_reads' HO186.out).2.2 | (with_reducible refine Kd.C_alloc ?_ _) | (with_reducible refine Kd.C_drewN ?_ _) | (with_reducible refine Kd.C_drew ?_))); (case side4 => exact (Kd.R_reads' HO186.out).2.1); rintro e w' ⟨rfl, ⟨nd, rfl⟩⟩; (try first | exact ⟨rfl, _, World.drewN_drewN _ _ _⟩ | exact ⟨rfl, _, Eq.trans (World.drewN_drewN _ _ _) (congrArg (World.drewN _) (Nat.add_assoc _ _ _))⟩)))
                  repeat (go_quiet (first | (go_at_call 31; (with_reducible refine (laws_sameInts.calls k _ _ t179 _ _ t183 true _ ?side1 ?side2 ?side3 ?side4 A18.out).mono ?_); (case side1 => repeat (first | exact (Kd.R_reads' HO182.out).2.2 | (with_reducible refine Kd.C_alloc ?_ _) | (with_reducible refine Kd.C_drewN ?_ _) | (with_reducible refine Kd.C_drew ?_))); (case side2 => exact (Kd.R_reads' HO182.out).2.1); (case side3 => repeat (first | exact (Kd.R_reads' HO186.out).2.2 | (with_reducible refine Kd.C_alloc ?_ _) | (with_reducible refine Kd.C_drewN ?_ _) | (with_reducible refine Kd.C_drew ?_))); (case side4 => exact (Kd.R_reads' HO186.out).2.1); rintro e w' ⟨rfl, ⟨nd, rfl⟩⟩; (try first | exact ⟨rfl, _, World.drewN_drewN _ _ _⟩ | exact ⟨rfl, _, Eq.trans (World.drewN_drewN _ _ _) (congrArg (World.drewN _) (Nat.add_assoc _ _ _))⟩))); try go_wp2_with (first | (go_at_call 31; (with_reducible refine (laws_sameInts.calls k _ _ t179 _ _ t183 true _ ?side1 ?side2 ?side3 ?side4 A18.out).mono ?_); (case side1 => repeat (first | exact (Kd.R_reads' HO182.out).2.2 | (with_reducible refine Kd.C_alloc ?_ _) | (with_reducible refine Kd.C_drewN ?_ _) | (with_reducible refine Kd.C_drew ?_))); (case side2 => exact (Kd.R_reads' HO182.out).2.1); (case side3 => repeat (first | exact (Kd.R_reads' HO186.out).2.2 | (with_reducible refine Kd.C_alloc ?_ _) | (with_reducible refine Kd.C_drewN ?_ _) | (with_reducible refine Kd.C_drew ?_))); (case side4 => exact (Kd.R_reads' HO186.out).2.1); rintro e w' ⟨rfl, ⟨nd, rfl⟩⟩; (try first | exact ⟨rfl, _, World.drewN_drewN _ _ _⟩ | exact ⟨rfl, _, Eq.trans (World.drewN_drewN _ _ _) (congrArg (World.drewN _) (Nat.add_assoc _ _ _))⟩))))
                  go_meet
                  case rel => exact ⟨_, (true), (by first | rfl | (simp; done) | (simp [*]; done)), H', ⟨by first | omega | exact Nat.le_refl _⟩, ⟨by (with_reducible repeat (first | apply Kd.R_alloc | apply Kd.R_drewN | apply Kd.R_drew)); exact Kd.R_mono HO182.out (fun _ hk => trivial)⟩, ⟨by repeat (first | (with_reducible first | exact HB.out | apply below_alloc | apply pw_below_drewN | apply below_drew1) | exact HB.out)⟩⟩
                · rw [if_neg c24] at H
                  have c24b0 : (t192 != t194) = false := by simpa using c24
                  (try (have c24b1 : decide (t192 = t194) = true := by simpa using c24))
                  (try (have c24b2 : (t192 == t194) = true := by simpa using c24))
                  clear c24
                  have H' := Aside0.mk H
                  clear H
                  obtain ⟨Ao27, co27, eo27⟩ := Kd.R_slice HO182.out
                  subst eo27
                  obtain ⟨Ao28, co28, eo28⟩ := Kd.R_slice HO186.out
                  subst eo28
                  go_wp2_with (first | (go_at_call 31; (with_reducible refine (laws_sameInts.calls k _ _ t179 _ _ t183 true _ ?side1 ?side2 ?side3 ?side4 A18.out).mono ?_); (case side1 => repeat (first | exact (Kd.R_reads' HO182.out).2.2 | (with_reducible refine Kd.C_alloc ?_ _) | (with_reducible refine Kd.C_drewN ?_ _) | (with_reducible refine Kd.C_drew ?_))); (case side2 => exact (Kd.R_reads' HO182.out).2.1); (case side3 => repeat (first | exact (Kd.R_reads' HO186.out).2.2 | (with_reducible refine Kd.C_alloc ?_ _) | (with_reducible refine Kd.C_drewN ?_ _) | (with_reducible refine Kd.C_drew ?_))); (case side4 => exact (Kd.R_reads' HO186.out).2.1); rintro e w' ⟨rfl, ⟨nd, rfl⟩⟩; (try first | exact ⟨rfl, _, World.drewN_drewN _ _ _⟩ | exact ⟨rfl, _, Eq.trans (World.drewN_drewN _ _ _) (congrArg (World.drewN _) (Nat.add_assoc _ _ _))⟩)))
                  repeat (go_quiet (first | (go_at_call 31; (with_reducible refine (laws_sameInts.calls k _ _ t179 _ _ t183 true _ ?side1 ?side2 ?side3 ?side4 A18.out).mono ?_); (case side1 => repeat (first | exact (Kd.R_reads' HO182.out).2.2 | (with_reducible refine Kd.C_alloc ?_ _) | (with_reducible refine Kd.C_drewN ?_ _) | (with_reducible refine Kd.C_drew ?_))); (case side2 => exact (Kd.R_reads' HO182.out).2.1); (case side3 => repeat (first | exact (Kd.R_reads' HO186.out).2.2 | (with_reducible refine Kd.C_alloc ?_ _) | (with_reducible refine Kd.C_drewN ?_ _) | (with_reducible refine Kd.C_drew ?_))); (case side4 => exact (Kd.R_reads' HO186.out).2.1); rintro e w' ⟨rfl, ⟨nd, rfl⟩⟩; (try first | exact ⟨rfl, _, World.drewN_drewN _ _ _⟩ | exact ⟨rfl, _, Eq.trans (World.drewN_drewN _ _ _) (congrArg (World.drewN _) (Nat.add_assoc _ _ _))⟩))); try go_wp2_with (first | (go_at_call 31; (with_reducible refine (laws_sameInts.calls k _ _ t179 _ _ t183 true _ ?side1 ?side2 ?side3 ?side4 A18.out).mono ?_); (case side1 => repeat (first | exact (Kd.R_reads' HO182.out).2.2 | (with_reducible refine Kd.C_alloc ?_ _) | (with_reducible refine Kd.C_drewN ?_ _) | (with_reducible refine Kd.C_drew ?_))); (case side2 => exact (Kd.R_reads' HO182.out).2.1); (case side3 => repeat (first | exact (Kd.R_reads' HO186.out).2.2 | (with_reducible refine Kd.C_alloc ?_ _) | (with_reducible refine Kd.C_drewN ?_ _) | (with_reducible refine Kd.C_drew ?_))); (case side4 => exact (Kd.R_reads' HO186.out).2.1); rintro e w' ⟨rfl, ⟨nd, rfl⟩⟩; (try first | exact ⟨rfl, _, World.drewN_drewN _ _ _⟩ | exact ⟨rfl, _, Eq.trans (World.drewN_drewN _ _ _) (congrArg (World.drewN _) (Nat.add_assoc _ _ _))⟩))))
                  go_meet
                  case rel => exact ⟨_, ((t191 != t193)), (by first | rfl | (simp; done) | (simp [*]; done)), H', ⟨by first | omega | exact Nat.le_refl _⟩, ⟨by (with_reducible repeat (first | apply Kd.R_alloc | apply Kd.R_drewN | apply Kd.R_drew)); exact Kd.R_mono HO182.out (fun _ hk => trivial)⟩, ⟨by repeat (first | (with_reducible first | exact HB.out | apply below_alloc | apply pw_below_drewN | apply below_drew1) | exact HB.out)⟩⟩
              · rw [if_neg c23] at H
                have c23b0 : (t187.toList == t189.toList) = false := beq_eq_false_iff_ne.mpr c23
                have c23b1 : (t187.toList != t189.toList) = true := bne_iff_ne.mpr c23
                have H' := Aside0.mk H
                clear H
                obtain ⟨Ao29, co29, eo29⟩ := Kd.R_slice HO182.out
                subst eo29
                obtain ⟨Ao30, co30, eo30⟩ := Kd.R_slice HO186.out
                subst eo30
                go_wp2_with (first | (go_at_call 31; (with_reducible refine (laws_sameInts.calls k _ _ t179 _ _ t183 true _ ?side1 ?side2 ?side3 ?side4 A18.out).mono ?_); (case side1 => repeat (first | exact (Kd.R_reads' HO182.out).2.2 | (with_reducible refine Kd.C_alloc ?_ _) | (with_reducible refine Kd.C_drewN ?_ _) | (with_reducible refine Kd.C_drew ?_))); (case side2 => exact (Kd.R_reads' HO182.out).2.1); (case side3 => repeat (first | exact (Kd.R_reads' HO186.out).2.2 | (with_reducible refine Kd.C_alloc ?_ _) | (with_reducible refine Kd.C_drewN ?_ _) | (with_reducible refine Kd.C_drew ?_))); (case side4 => exact (Kd.R_reads' HO186.out).2.1); rintro e w' ⟨rfl, ⟨nd, rfl⟩⟩; (try first | exact ⟨rfl, _, World.drewN_drewN _ _ _⟩ | exact ⟨rfl, _, Eq.trans (World.drewN_drewN _ _ _) (congrArg (World.drewN _) (Nat.add_assoc _ _ _))⟩)))
                repeat (go_quiet (first | (go_at_call 31; (with_reducible refine (laws_sameInts.calls k _ _ t179 _ _ t183 true _ ?side1 ?side2 ?side3 ?side4 A18.out).mono ?_); (case side1 => repeat (first | exact (Kd.R_reads' HO182.out).2.2 | (with_reducible refine Kd.C_alloc ?_ _) | (with_reducible refine Kd.C_drewN ?_ _) | (with_reducible refine Kd.C_drew ?_))); (case side2 => exact (Kd.R_reads' HO182.out).2.1); (case side3 => repeat (first | exact (Kd.R_reads' HO186.out).2.2 | (with_reducible refine Kd.C_alloc ?_ _) | (with_reducible refine Kd.C_drewN ?_ _) | (with_reducible refine Kd.C_drew ?_))); (case side4 => exact (Kd.R_reads' HO186.out).2.1); rintro e w' ⟨rfl, ⟨nd, rfl⟩⟩; (try first | exact ⟨rfl, _, World.drewN_drewN _ _ _⟩ | exact ⟨rfl, _, Eq.trans (World.drewN_drewN _ _ _) (congrArg (World.drewN _) (Nat.add_assoc _ _ _))⟩))); try go_wp2_with (first | (go_at_call 31; (with_reducible refine (laws_sameInts.calls k _ _ t179 _ _ t183 true _ ?side1 ?side2 ?side3 ?side4 A18.out).mono ?_); (case side1 => repeat (first | exact (Kd.R_reads' HO182.out).2.2 | (with_reducible refine Kd.C_alloc ?_ _) | (with_reducible refine Kd.C_drewN ?_ _) | (with_reducible refine Kd.C_drew ?_))); (case side2 => exact (Kd.R_reads' HO182.out).2.1); (case side3 => repeat (first | exact (Kd.R_reads' HO186.out).2.2 | (with_reducible refine Kd.C_alloc ?_ _) | (with_reducible refine Kd.C_drewN ?_ _) | (with_reducible refine Kd.C_drew ?_))); (case side4 => exact (Kd.R_reads' HO186.out).2.1); rintro e w' ⟨rfl, ⟨nd, rfl⟩⟩; (try first | exact ⟨rfl, _, World.drewN_drewN _ _ _⟩ | exact ⟨rfl, _, Eq.trans (World.drewN_drewN _ _ _) (congrArg (World.drewN _) (Nat.add_assoc _ _ _))⟩))))
                go_meet
                case rel => exact ⟨_, (true), (by first | rfl | (simp; done) | (simp [*]; done)), H', ⟨by first | omega | exact Nat.le_refl _⟩, ⟨by (with_reducible repeat (first | apply Kd.R_alloc | apply Kd.R_drewN | apply Kd.R_drew)); exact Kd.R_mono HO182.out (fun _ hk => trivial)⟩, ⟨by repeat (first | (with_reducible first | exact HB.out | apply below_alloc | apply pw_below_drewN | apply below_drew1) | exact HB.out)⟩⟩
          · replace c19 := Bool.eq_false_iff.mpr c19
            subst c19
            have H1 : (laws_FnColumns.j0 k l0 l1 t178 t179 t180 t187 true) = some r := by rw [if_neg (show ¬ (false = true) by decide)] at H; exact H
            clear H
            have H := H1
            clear H1
            have H' := Aside0.mk H
            clear H
            obtain ⟨Ao31, co31, eo31⟩ := Kd.R_slice HO182.out
            subst eo31
            obtain ⟨Ao32, co32, eo32⟩ := Kd.R_slice HO186.out
            subst eo32
            go_wp2_with (first | (go_at_call 31; (with_reducible refine (laws_sameInts.calls k _ _ t179 _ _ t183 false _ ?side1 ?side2 ?side3 ?side4 A18.out).mono ?_); (case side1 => repeat (first | exact (Kd.R_reads' HO182.out).2.2 | (with_reducible refine Kd.C_alloc ?_ _) | (with_reducible refine Kd.C_drewN ?_ _) | (with_reducible refine Kd.C_drew ?_))); (case side2 => exact (Kd.R_reads' HO182.out).2.1); (case side3 => repeat (first | exact (Kd.R_reads' HO186.out).2.2 | (with_reducible refine Kd.C_alloc ?_ _) | (with_reducible refine Kd.C_drewN ?_ _) | (with_reducible refine Kd.C_drew ?_))); (case side4 => exact (Kd.R_reads' HO186.out).2.1); rintro e w' ⟨rfl, ⟨nd, rfl⟩⟩; (try first | exact ⟨rfl, _, World.drewN_drewN _ _ _⟩ | exact ⟨rfl, _, Eq.trans (World.drewN_drewN _ _ _) (congrArg (World.drewN _) (Nat.add_assoc _ _ _))⟩)))
            repeat (go_quiet (first | (go_at_call 31; (with_reducible refine (laws_sameInts.calls k _ _ t179 _ _ t183 false _ ?side1 ?side2 ?side3 ?side4 A18.out).mono ?_); (case side1 => repeat (first | exact (Kd.R_reads' HO182.out).2.2 | (with_reducible refine Kd.C_alloc ?_ _) | (with_reducible refine Kd.C_drewN ?_ _) | (with_reducible refine Kd.C_drew ?_))); (case side2 => exact (Kd.R_reads' HO182.out).2.1); (case side3 => repeat (first | exact (Kd.R_reads' HO186.out).2.2 | (with_reducible refine Kd.C_alloc ?_ _) | (with_reducible refine Kd.C_drewN ?_ _) | (with_reducible refine Kd.C_drew ?_))); (case side4 => exact (Kd.R_reads' HO186.out).2.1); rintro e w' ⟨rfl, ⟨nd, rfl⟩⟩; (try first | exact ⟨rfl, _, World.drewN_drewN _ _ _⟩ | exact ⟨rfl, _, Eq.trans (World.drewN_drewN _ _ _) (congrArg (World.drewN _) (Nat.add_assoc _ _ _))⟩))); try go_wp2_with (first | (go_at_call 31; (with_reducible refine (laws_sameInts.calls k _ _ t179 _ _ t183 false _ ?side1 ?side2 ?side3 ?side4 A18.out).mono ?_); (case side1 => repeat (first | exact (Kd.R_reads' HO182.out).2.2 | (with_reducible refine Kd.C_alloc ?_ _) | (with_reducible refine Kd.C_drewN ?_ _) | (with_reducible refine Kd.C_drew ?_))); (case side2 => exact (Kd.R_reads' HO182.out).2.1); (case side3 => repeat (first | exact (Kd.R_reads' HO186.out).2.2 | (with_reducible refine Kd.C_alloc ?_ _) | (with_reducible refine Kd.C_drewN ?_ _) | (with_reducible refine Kd.C_drew ?_))); (case side4 => exact (Kd.R_reads' HO186.out).2.1); rintro e w' ⟨rfl, ⟨nd, rfl⟩⟩; (try first | exact ⟨rfl, _, World.drewN_drewN _ _ _⟩ | exact ⟨rfl, _, Eq.trans (World.drewN_drewN _ _ _) (congrArg (World.drewN _) (Nat.add_assoc _ _ _))⟩))))
            go_meet
            case rel => exact ⟨_, (true), (by first | rfl | (simp; done) | (simp [*]; done)), H', ⟨by first | omega | exact Nat.le_refl _⟩, ⟨by (with_reducible repeat (first | apply Kd.R_alloc | apply Kd.R_drewN | apply Kd.R_drew)); exact Kd.R_mono HO182.out (fun _ hk => trivial)⟩, ⟨by repeat (first | (with_reducible first | exact HB.out | apply below_alloc | apply pw_below_drewN | apply below_drew1) | exact HB.out)⟩⟩
    case rest =>
      as_aux_lemma =>
        clear HC11
        try clear c1
        try clear c2
        try clear p2
        try clear c3
        try clear c3b0
        try clear p6
        try clear c9
        try clear c17
        try clear c17b0
        try clear c17b1
        try clear c17b2
        try clear c19
        try clear c20
        try clear c20b0
        try clear c20b1
        try clear c20b2
        try clear c23
        try clear c23b0
        try clear c23b1
        try clear c24
        try clear c24b0
        try clear c24b1
        try clear c24b2
        obtain ⟨kq, x97_10, rfl, HA, HJ10, HO_6, HB⟩ := hcut
        cases kq with
        | zero => exact absurd HA.out (by simp [laws_FnColumns.j0])
        | succ kj10 =>
          have H := HA.out
          clear HA
          simp only [laws_FnColumns.j0] at H
          by_cases c33 : x97_10 = true
          · subst c33
            have H1 : (some false) = some r := by rw [if_pos rfl] at H; exact H
            clear H
            have H := H1
            clear H1
            obtain rfl := Option.some.inj H
            go_wp2
            repeat (go_quiet (fail); try go_wp2)
            go_ret
            exact ⟨by first | rfl | (simp [errW_none, errW_some] <;> rfl) | (simp [*, errW_none, errW_some] <;> rfl), by repeat (first | (with_reducible first | exact HB.out | apply below_alloc | apply pw_below_drewN | apply below_drew1) | exact HB.out)⟩
          · replace c33 := Bool.eq_false_iff.mpr c33
            subst c33
            have H1 : (if t180 = true then (if (t179.length : Int) = (t178.size : Int) then (laws_FnColumns.j1 kj10 l0 l1 t178 t179 t187 ((t187.size : Int) != (t178.size : Int))) else (laws_FnColumns.j1 kj10 l0 l1 t178 t179 t187 true)) else (laws_FnColumns.j3 kj10 l0 l1)) = some r := by rw [if_neg (show ¬ (false = true) by decide)] at H; exact H
            clear H
            have H := H1
            clear H1
            have HC34 := Aside0.mk H
            clear H
            go_upto_if 98 with (fail)
            repeat (go_quiet (fail); go_upto_if 98 with (fail))
            go_cut [] (fun wc => ∃ (kq : Nat), Aside0 (laws_FnColumns.j3 kq l0 l1 = some r) ∧ Aside0 (kq ≤ kj10) ∧ Aside0 (Below w.heap.size w wc))
            case first =>
              as_aux_lemma =>
                have H := HC34.out
                clear HC34
                by_cases c35 : t180 = true
                · subst c35
                  have H1 : (if (t179.length : Int) = (t178.size : Int) then (laws_FnColumns.j1 kj10 l0 l1 t178 t179 t187 ((t187.size : Int) != (t178.size : Int))) else (laws_FnColumns.j1 kj10 l0 l1 t178 t179 t187 true)) = some r := by rw [if_pos rfl] at H; exact H
                  clear H
                  have H := H1
                  clear H1
                  have HC36 := Aside0.mk H
                  clear H
                  go_upto_region 13 with (fail)
                  repeat (go_quiet (fail); go_upto_region 13 with (fail))
                  go_cut [110] (fun v110 wc => ∃ (kq : Nat) (x110_35 : Bool), v110 = .bool x110_35 ∧ Aside0 (laws_FnColumns.j1 kq l0 l1 t178 t179 t187 x110_35 = some r) ∧ Aside0 (kq ≤ kj10) ∧ Aside0 (Kd.R (Kd.int .i64) 3 wc w.heap.size (fun _ => True) v181 t179) ∧ Aside0 (Below w.heap.size w wc))
                  case first =>
                    as_aux_lemma =>
                      have H := HC36.out
                      clear HC36
                      by_cases c37 : (t179.length : Int) = (t178.size : Int)
                      · rw [if_pos c37] at H
                        have c37b0 : ((t179.length : Int) == (t178.size : Int)) = true := beq_iff_eq.mpr c37
                        have c37b1 : ((t179.length : Int) != (t178.size : Int)) = false := bne_eq_false_iff_eq.mpr c37
                        have c37b2 : (t179.length == t178.size) = true := by first | simpa using c37 | (simp at c37 ⊢; omega)
                        clear c37
                        (first | rw [c37b0] | (simp only [i64_w, i32_w]; rw [c37b0]) | skip)
                        have H' := Aside0.mk H
                        clear H
                        obtain ⟨Ao38, co38, eo38⟩ := Kd.R_slice HO_6.out
                        subst eo38
                        go_wp2
                        repeat (go_quiet (fail); try go_wp2)
                        go_meet
                        case rel => exact ⟨_, (((t187.size : Int) != (t178.size : Int))), (by first | rfl | (simp; done) | (simp [*]; done)), H', ⟨by have := HJ10.out; first | omega | exact Nat.le_refl _⟩, ⟨by (with_reducible repeat (first | apply Kd.R_alloc | apply Kd.R_drewN | apply Kd.R_drew)); exact HO_6.out⟩, ⟨by repeat (first | (with_reducible first | exact HB.out | apply below_alloc | apply pw_below_drewN | apply below_drew1) | exact HB.out)⟩⟩
                      · rw [if_neg c37] at H
                        have c37b0 : ((t179.length : Int) == (t178.size : Int)) = false := beq_eq_false_iff_ne.mpr c37
                        have c37b1 : ((t179.length : Int) != (t178.size : Int)) = true := bne_iff_ne.mpr c37
                        have c37b2 : (t179.length == t178.size) = false := by first | simpa using c37 | (simp at c37 ⊢; omega)
                        (first | rw [c37b0] | (simp only [i64_w, i32_w]; rw [c37b0]) | skip)
                        have H' := Aside0.mk H
                        clear H
                        obtain ⟨Ao39, co39, eo39⟩ := Kd.R_slice HO_6.out
                        subst eo39
                        go_wp2
                        repeat (go_quiet (fail); try go_wp2)
                        go_meet
                        case rel => exact ⟨_, (true), (by first | rfl | (simp; done) | (simp [*]; done)), H', ⟨by have := HJ10.out; first | omega | exact Nat.le_refl _⟩, ⟨by (with_reducible repeat (first | apply Kd.R_alloc | apply Kd.R_drewN | apply Kd.R_drew)); exact HO_6.out⟩, ⟨by repeat (first | (with_reducible first | exact HB.out | apply below_alloc | apply pw_below_drewN | apply below_drew1) | exact HB.out)⟩⟩
                  case rest =>
                    as_aux_lemma =>
                      clear HC36
                      try clear c1
                      try clear c2
                      try clear p2
                      try clear c3
                      try clear c3b0
                      try clear p6
                      try clear c9
                      try clear c17
                      try clear c17b0
                      try clear c17b1
                      try clear c17b2
                      try clear c19
                      try clear c20
                      try clear c20b0
                      try clear c20b1
                      try clear c20b2
                      try clear c23
                      try clear c23b0
                      try clear c23b1
                      try clear c24
                      try clear c24b0
                      try clear c24b1
                      try clear c24b2
                      try clear c33
                      try clear c35
                      try clear c37
                      try clear c37b0
                      try clear c37b1
                      try clear c37b2
                      try clear p2
                      try clear p6
                      obtain ⟨kq, x110_35, rfl, HA, HJ35, HO_6, HB⟩ := hcut
                      cases kq with
                      | zero => exact absurd HA.out (by simp [laws_FnColumns.j1])
                      | succ kj35 =>
                        have H := HA.out
                        clear HA
                        simp only [laws_FnColumns.j1] at H
                        by_cases c40 : x110_35 = true
                        · subst c40
                          have H1 : (some false) = some r := by rw [if_pos rfl] at H; exact H
                          clear H
                          have H := H1
                          clear H1
                          obtain rfl := Option.some.inj H
                          go_wp2
                          repeat (go_quiet (fail); try go_wp2)
                          go_ret
                          exact ⟨by first | rfl | (simp [errW_none, errW_some] <;> rfl) | (simp [*, errW_none, errW_some] <;> rfl), by repeat (first | (with_reducible first | exact HB.out | apply below_alloc | apply pw_below_drewN | apply below_drew1) | exact HB.out)⟩
                        · replace c40 := Bool.eq_false_iff.mpr c40
                          subst c40
                          have H1 : (if 0 ≤ (t178.size : Int) then (if ((t178.size : Int) : Int).toNat ≤ 281474976710656 then (laws_FnColumns.l0 kj35 l0 l1 t178 t179 t187 (List.replicate ((t178.size : Int) : Int).toNat false) t179 (t179.length : Int) 0) else (none)) else (none)) = some r := by rw [if_neg (show ¬ (false = true) by decide)] at H; exact H
                          clear H
                          have H := H1
                          clear H1
                          by_cases c41 : 0 ≤ (t178.size : Int)
                          · rw [if_pos c41] at H
                            have c41b0 := eq_true c41
                            have c41b1 : decide (0 ≤ (t178.size : Int)) = true := decide_eq_true c41
                            clear c41
                            by_cases c42 : ((t178.size : Int) : Int).toNat ≤ 281474976710656
                            · rw [if_pos c42] at H
                              have c42b0 := eq_true c42
                              have c42b1 : decide (((t178.size : Int) : Int).toNat ≤ 281474976710656) = true := decide_eq_true c42
                              try simp only [Int.toNat_natCast] at c42b1
                              clear c42
                              obtain ⟨y196, hy196⟩ : ∃ y_ : List Bool, y_ = (List.replicate ((t178.size : Int) : Int).toNat false) := ⟨_, rfl⟩
                              replace H : (laws_FnColumns.l0 kj35 l0 l1 t178 t179 t187 y196 t179 (t179.length : Int) 0) = some r := by first | (rw [hy196]; with_reducible exact H) | (have H2_ := (Option.bind_some _ _).symm.trans H; rw [hy196]; with_reducible exact H2_) | (have H2_ := (Option.bind_some _ _).symm.trans H; with_reducible exact H2_) | with_reducible exact H | (rw [hy196]; exact H) | exact H
                              have Ny196 := Aside0.mk hy196
                              clear hy196
                              have H' := Aside0.mk H
                              clear H
                              go_wp2_with (first | ((with_reducible refine gate_dst (N := 113) rfl ?_); (try (refine gate_guard (by rfl) ?_; dsimp only)); refine Kd.R_make Kd.bool _ 4 rfl (N := 113) rfl 42 _ _ rfl (t178.size : Int) rfl rfl Try.underlying42 (.bool false) 1 info4 rfl (by decide) (by omega) false (ok := fun _ => True) (okp := fun _ => True) rfl (fun _ hk => hk) trivial (of_decide_eq_true (by first | (with_reducible assumption) | assumption)) (Nat.le_trans (Nat.mul_le_mul_right _ (of_decide_eq_true (by first | (with_reducible assumption) | assumption) : (t178.size : Int).toNat ≤ 281474976710656)) (by omega)) (Below.refl _ _) (Nat.le_refl _) ?_; intro v197 w43 ho44 hb hg_ hnew_; clear hg_ hnew_; (first | rw [← Ny196.out] at ho44 | (simp only [Int.reduceToNat] at ho44; rw [← Ny196.out] at ho44)); have n0_ := Aside0.mk (Kd.R_below (by (with_reducible repeat (first | apply Kd.R_alloc | apply Kd.R_drewN | apply Kd.R_drew)); exact HO_6.out) hb); have n1_ := Aside0.mk (Kd.R_lower ho44 (below_size (by repeat (first | (with_reducible first | exact HB.out | apply below_alloc | apply pw_below_drewN | apply below_drew1) | exact HB.out)))); have n2_ := Aside0.mk (below_step (by repeat (first | (with_reducible first | exact HB.out | apply below_alloc | apply pw_below_drewN | apply below_drew1) | exact HB.out)) hb); clear HO_6; clear HB; have HO_6 := n0_; have HO198 := n1_; have HB := n2_; clear n0_ n1_ n2_; clear hb ho44; obtain ⟨Ao45, co45, eo45⟩ := Kd.R_slice HO_6.out; subst eo45))
                              repeat (go_quiet (first | ((with_reducible refine gate_dst (N := 113) rfl ?_); (try (refine gate_guard (by rfl) ?_; dsimp only)); refine Kd.R_make Kd.bool _ 4 rfl (N := 113) rfl 42 _ _ rfl (t178.size : Int) rfl rfl Try.underlying42 (.bool false) 1 info4 rfl (by decide) (by omega) false (ok := fun _ => True) (okp := fun _ => True) rfl (fun _ hk => hk) trivial (of_decide_eq_true (by first | (with_reducible assumption) | assumption)) (Nat.le_trans (Nat.mul_le_mul_right _ (of_decide_eq_true (by first | (with_reducible assumption) | assumption) : (t178.size : Int).toNat ≤ 281474976710656)) (by omega)) (Below.refl _ _) (Nat.le_refl _) ?_; intro v197 w43 ho44 hb hg_ hnew_; clear hg_ hnew_; (first | rw [← Ny196.out] at ho44 | (simp only [Int.reduceToNat] at ho44; rw [← Ny196.out] at ho44)); have n0_ := Aside0.mk (Kd.R_below (by (with_reducible repeat (first | apply Kd.R_alloc | apply Kd.R_drewN | apply Kd.R_drew)); exact HO_6.out) hb); have n1_ := Aside0.mk (Kd.R_lower ho44 (below_size (by repeat (first | (with_reducible first | exact HB.out | apply below_alloc | apply pw_below_drewN | apply below_drew1) | exact HB.out)))); have n2_ := Aside0.mk (below_step (by repeat (first | (with_reducible first | exact HB.out | apply below_alloc | apply pw_below_drewN | apply below_drew1) | exact HB.out)) hb); clear HO_6; clear HB; have HO_6 := n0_; have HO198 := n1_; have HB := n2_; clear n0_ n1_ n2_; clear hb ho44; obtain ⟨Ao45, co45, eo45⟩ := Kd.R_slice HO_6.out; subst eo45)); try go_wp2_with (first | ((with_reducible refine gate_dst (N := 113) rfl ?_); (try (refine gate_guard (by rfl) ?_; dsimp only)); refine Kd.R_make Kd.bool _ 4 rfl (N := 113) rfl 42 _ _ rfl (t178.size : Int) rfl rfl Try.underlying42 (.bool false) 1 info4 rfl (by decide) (by omega) false (ok := fun _ => True) (okp := fun _ => True) rfl (fun _ hk => hk) trivial (of_decide_eq_true (by first | (with_reducible assumption) | assumption)) (Nat.le_trans (Nat.mul_le_mul_right _ (of_decide_eq_true (by first | (with_reducible assumption) | assumption) : (t178.size : Int).toNat ≤ 281474976710656)) (by omega)) (Below.refl _ _) (Nat.le_refl _) ?_; intro v197 w43 ho44 hb hg_ hnew_; clear hg_ hnew_; (first | rw [← Ny196.out] at ho44 | (simp only [Int.reduceToNat] at ho44; rw [← Ny196.out] at ho44)); have n0_ := Aside0.mk (Kd.R_below (by (with_reducible repeat (first | apply Kd.R_alloc | apply Kd.R_drewN | apply Kd.R_drew)); exact HO_6.out) hb); have n1_ := Aside0.mk (Kd.R_lower ho44 (below_size (by repeat (first | (with_reducible first | exact HB.out | apply below_alloc | apply pw_below_drewN | apply below_drew1) | exact HB.out)))); have n2_ := Aside0.mk (below_step (by repeat (first | (with_reducible first | exact HB.out | apply below_alloc | apply pw_below_drewN | apply below_drew1) | exact HB.out)) hb); clear HO_6; clear HB; have HO_6 := n0_; have HO198 := n1_; have HB := n2_; clear n0_ n1_ n2_; clear hb ho44; obtain ⟨Ao45, co45, eo45⟩ := Kd.R_slice HO_6.out; subst eo45)))
                              go_loopg [116] kj35 (fun kq v116 w' => ∃ (x18_3 : List Bool) (x116_3 : Int), v116 = .int .i64 x116_3 ∧ Aside0 (laws_FnColumns.l0 kq l0 l1 t178 t179 t187 x18_3 t179 (t179.length : Int) x116_3 = some r) ∧ Aside0 (kq ≤ kj35) ∧ Aside0 (Kd.R (Kd.int .i64) 3 w' w.heap.size (fun _ => True) (.slice Ao45 t179.length co45) t179) ∧ Aside0 (Kd.R Kd.bool 4 w' w.heap.size (fun _ => True) v197 x18_3) ∧ Aside0 (Kd.R (Kd.int .i64) 3 w' w.heap.size (fun _ => True) (.slice Ao45 t179.length co45) t179) ∧ Aside0 (Below w.heap.size w w'))
                              case atStart => exact ⟨(y196), (0), (by first | rfl | (simp; done) | (simp [*]; done)), H', ⟨Nat.le_refl _⟩, ⟨by (with_reducible repeat (first | apply Kd.R_alloc | apply Kd.R_drewN | apply Kd.R_drew)); exact HO_6.out⟩, ⟨by (with_reducible repeat (first | apply Kd.R_alloc | apply Kd.R_drewN | apply Kd.R_drew)); exact HO198.out⟩, ⟨by (with_reducible repeat (first | apply Kd.R_alloc | apply Kd.R_drewN | apply Kd.R_drew)); exact HO_6.out⟩, ⟨by repeat (first | (with_reducible first | exact HB.out | apply below_alloc | apply pw_below_drewN | apply below_drew1) | exact HB.out)⟩⟩
                              case round =>
                                clear H'
                                try clear c1
                                try clear c2
                                try clear p2
                                try clear c3
                                try clear c3b0
                                try clear c4
                                try clear p6
                                try clear c9
                                try clear c17
                                try clear c17b0
                                try clear c17b1
                                try clear c17b2
                                try clear c19
                                try clear c20
                                try clear c20b0
                                try clear c20b1
                                try clear c20b2
                                try clear c23
                                try clear c23b0
                                try clear c23b1
                                try clear c24
                                try clear c24b0
                                try clear c24b1
                                try clear c24b2
                                try clear c33
                                try clear c35
                                try clear c37
                                try clear c37b0
                                try clear c37b1
                                try clear c37b2
                                try clear c40
                                try clear c41
                                try clear c41b0
                                try clear c41b1
                                try clear c42
                                try clear c42b0
                                try clear c42b1
                                try clear p2
                                try clear p6
                                obtain ⟨x18_3, x116_3, rfl, HA, HK3, HO_6, HO_18, HO_114, HB⟩ := hrel
                                cases gk with
                                | zero => exact absurd HA.out (by simp [laws_FnColumns.l0])
                                | succ k3 =>
                                  have H := HA.out
                                  clear HA
                                  simp only [laws_FnColumns.l0] at H
                                  by_cases c46 : x116_3 < (t179.length : Int)
                                  · rw [if_pos c46] at H
                                    have c46b0 : decide (x116_3 < (t179.length : Int)) = true := decide_eq_true c46
                                    clear c46
                                    by_cases c47 : 0 ≤ x116_3
                                    · rw [if_pos c47] at H
                                      have c47b0 : decide (0 ≤ x116_3) = true := decide_eq_true c47
                                      clear c47
                                      by_cases c48 : x116_3 < (t179.length : Int)
                                      · rw [if_pos c48] at H
                                        have c48b0 : decide (x116_3 < (t179.length : Int)) = true := decide_eq_true c48
                                        clear c48
                                        by_cases c49 : (rd t179 x116_3) < 0
                                        · rw [if_pos c49] at H
                                          have c49b0 : decide ((rd t179 x116_3) < 0) = true := decide_eq_true c49
                                          clear c49
                                          obtain rfl := Option.some.inj H
                                          have p199 : 0 ≤ (x116_3 : Int) := of_decide_eq_true (by first | (with_reducible assumption) | assumption)
                                          have q199 : x116_3 < (t179.length : Int) := of_decide_eq_true (by first | (with_reducible assumption) | assumption)
                                          obtain ⟨ad199, e199, hx199_0⟩ := Kd.at_int (Kd.R_reads' HO_114.out).2.2 x116_3 p199 q199
                                          cases e199
                                          replace p199 := eq_true p199
                                          replace q199 := eq_true q199
                                          go_wp2
                                          repeat (go_quiet (fail); try go_wp2)
                                          go_ret
                                          exact ⟨by first | rfl | (simp [errW_none, errW_some] <;> rfl) | (simp [*, errW_none, errW_some] <;> rfl), by repeat (first | (with_reducible first | exact HB.out | apply below_alloc | apply pw_below_drewN | apply below_drew1) | exact HB.out)⟩
                                        · rw [if_neg c49] at H
                                          have c49b0 : decide ((rd t179 x116_3) < 0) = false := decide_eq_false c49
                                          clear c49
                                          by_cases c50 : (rd t179 x116_3) ≥ (t178.size : Int)
                                          · rw [if_pos c50] at H
                                            have c50b0 : decide ((t178.size : Int) ≤ (rd t179 x116_3)) = true := decide_eq_true c50
                                            clear c50
                                            obtain rfl := Option.some.inj H
                                            have p199 : 0 ≤ (x116_3 : Int) := of_decide_eq_true (by first | (with_reducible assumption) | assumption)
                                            have q199 : x116_3 < (t179.length : Int) := of_decide_eq_true (by first | (with_reducible assumption) | assumption)
                                            obtain ⟨ad199, e199, hx199_0⟩ := Kd.at_int (Kd.R_reads' HO_114.out).2.2 x116_3 p199 q199
                                            cases e199
                                            replace p199 := eq_true p199
                                            replace q199 := eq_true q199
                                            go_wp2
                                            repeat (go_quiet (fail); try go_wp2)
                                            go_ret
                                            exact ⟨by first | rfl | (simp [errW_none, errW_some] <;> rfl) | (simp [*, errW_none, errW_some] <;> rfl), by repeat (first | (with_reducible first | exact HB.out | apply below_alloc | apply pw_below_drewN | apply below_drew1) | exact HB.out)⟩
                                          · rw [if_neg c50] at H
                                            have c50b0 : decide ((t178.size : Int) ≤ (rd t179 x116_3)) = false := decide_eq_false c50
                                            clear c50
                                            by_cases c51 : 0 ≤ (rd t179 x116_3)
                                            · rw [if_pos c51] at H
                                              have c51b0 : decide (0 ≤ (rd t179 x116_3)) = true := decide_eq_true c51
                                              clear c51
                                              by_cases c52 : (rd t179 x116_3) < (x18_3.length : Int)
                                              · rw [if_pos c52] at H
                                                have c52b0 : decide ((rd t179 x116_3) < (x18_3.length : Int)) = true := decide_eq_true c52
                                                clear c52
                                                obtain ⟨bq53, hbq53⟩ : ∃ b_ : Bool, b_ = (rdOf false x18_3 (rd t179 x116_3)) := ⟨_, rfl⟩
                                                replace H : (if bq53 = true then (some false) else (if (rd t179 x116_3) < (t178.size : Int) then (if x116_3 < (t187.size : Int) then (if (bt t178 (rd t179 x116_3)) = (bt t187 x116_3) then (if x116_3 > 0 then (if 0 ≤ (wrap64 (x116_3 - 1)) then (if (wrap64 (x116_3 - 1)) < (t187.size : Int) then (if (bt t187 (wrap64 (x116_3 - 1))) > (bt t187 x116_3) then (some false) else (if (bt t187 (wrap64 (x116_3 - 1))) = (bt t187 x116_3) then (if (wrap64 (x116_3 - 1)) < (t179.length : Int) then (if (rd t179 (wrap64 (x116_3 - 1))) ≥ (rd t179 x116_3) then (some false) else (laws_FnColumns.l0 k3 l0 l1 t178 t179 t187 (x18_3.set ((rd t179 x116_3) : Int).toNat true) t179 (t179.length : Int) (wrap64 (x116_3 + 1)))) else (none)) else (laws_FnColumns.l0 k3 l0 l1 t178 t179 t187 (x18_3.set ((rd t179 x116_3) : Int).toNat true) t179 (t179.length : Int) (wrap64 (x116_3 + 1))))) else (none)) else (none)) else (laws_FnColumns.l0 k3 l0 l1 t178 t179 t187 (x18_3.set ((rd t179 x116_3) : Int).toNat true) t179 (t179.length : Int) (wrap64 (x116_3 + 1)))) else (some false)) else (none)) else (none))) = some r := by rw [← hbq53] at H; exact H
                                                have Nbq53 := Aside0.mk hbq53
                                                clear hbq53
                                                by_cases c54 : bq53 = true
                                                · subst c54
                                                  have H1 : (some false) = some r := by rw [if_pos rfl] at H; exact H
                                                  clear H
                                                  have H := H1
                                                  clear H1
                                                  obtain rfl := Option.some.inj H
                                                  have p199 : 0 ≤ (x116_3 : Int) := of_decide_eq_true (by first | (with_reducible assumption) | assumption)
                                                  have q199 : x116_3 < (t179.length : Int) := of_decide_eq_true (by first | (with_reducible assumption) | assumption)
                                                  obtain ⟨ad199, e199, hx199_0⟩ := Kd.at_int (Kd.R_reads' HO_114.out).2.2 x116_3 p199 q199
                                                  cases e199
                                                  replace p199 := eq_true p199
                                                  replace q199 := eq_true q199
                                                  obtain ⟨Ao55, co55, eo55⟩ := Kd.R_slice HO_18.out
                                                  subst eo55
                                                  have p200 : 0 ≤ ((rd t179 x116_3) : Int) := of_decide_eq_true (by first | (with_reducible assumption) | assumption)
                                                  have q200 : (rd t179 x116_3) < (x18_3.length : Int) := of_decide_eq_true (by first | (with_reducible assumption) | assumption)
                                                  obtain ⟨ad200, e200, hx200_0⟩ := Kd.at_bool (Kd.R_reads' HO_18.out).2.2 (rd t179 x116_3) p200 q200
                                                  (try rw [← Nbq53.out] at hx200_0)
                                                  cases e200
                                                  replace p200 := eq_true p200
                                                  replace q200 := eq_true q200
                                                  go_wp2
                                                  repeat (go_quiet (fail); try go_wp2)
                                                  go_ret
                                                  exact ⟨by first | rfl | (simp [errW_none, errW_some] <;> rfl) | (simp [*, errW_none, errW_some] <;> rfl), by repeat (first | (with_reducible first | exact HB.out | apply below_alloc | apply pw_below_drewN | apply below_drew1) | exact HB.out)⟩
                                                · replace c54 := Bool.eq_false_iff.mpr c54
                                                  subst c54
                                                  have H1 : (if (rd t179 x116_3) < (t178.size : Int) then (if x116_3 < (t187.size : Int) then (if (bt t178 (rd t179 x116_3)) = (bt t187 x116_3) then (if x116_3 > 0 then (if 0 ≤ (wrap64 (x116_3 - 1)) then (if (wrap64 (x116_3 - 1)) < (t187.size : Int) then (if (bt t187 (wrap64 (x116_3 - 1))) > (bt t187 x116_3) then (some false) else (if (bt t187 (wrap64 (x116_3 - 1))) = (bt t187 x116_3) then (if (wrap64 (x116_3 - 1)) < (t179.length : Int) then (if (rd t179 (wrap64 (x116_3 - 1))) ≥ (rd t179 x116_3) then (some false) else (laws_FnColumns.l0 k3 l0 l1 t178 t179 t187 (x18_3.set ((rd t179 x116_3) : Int).toNat true) t179 (t179.length : Int) (wrap64 (x116_3 + 1)))) else (none)) else (laws_FnColumns.l0 k3 l0 l1 t178 t179 t187 (x18_3.set ((rd t179 x116_3) : Int).toNat true) t179 (t179.length : Int) (wrap64 (x116_3 + 1))))) else (none)) else (none)) else (laws_FnColumns.l0 k3 l0 l1 t178 t179 t187 (x18_3.set ((rd t179 x116_3) : Int).toNat true) t179 (t179.length : Int) (wrap64 (x116_3 + 1)))) else (some false)) else (none)) else (none)) = some r := by rw [if_neg (show ¬ (false = true) by decide)] at H; exact H
                                                  clear H
                                                  have H := H1
                                                  clear H1
                                                  by_cases c56 : (rd t179 x116_3) < (t178.size : Int)
                                                  · rw [if_pos c56] at H
                                                    have c56b0 : decide ((rd t179 x116_3) < (t178.size : Int)) = true := decide_eq_true c56
                                                    clear c56
                                                    by_cases c58 : x116_3 < (t187.size : Int)
                                                    · rw [if_pos c58] at H
                                                      have c58b0 : decide (x116_3 < (t187.size : Int)) = true := decide_eq_true c58
                                                      clear c58
                                                      by_cases c60 : (bt t178 (rd t179 x116_3)) = (bt t187 x116_3)
                                                      · rw [if_pos c60] at H
                                                        have c60b0 : ((bt t178 (rd t179 x116_3)) == (bt t187 x116_3)) = true := beq_iff_eq.mpr c60
                                                        have c60b1 : ((bt t178 (rd t179 x116_3)) != (bt t187 x116_3)) = false := bne_eq_false_iff_eq.mpr c60
                                                        clear c60
                                                        by_cases c61 : x116_3 > 0
                                                        · rw [if_pos c61] at H
                                                          have c61b0 : decide (0 < x116_3) = true := decide_eq_true c61
                                                          clear c61
                                                          obtain ⟨ji62, hji62⟩ : ∃ j_ : Int, (wrap64 (x116_3 - 1)) = j_ := ⟨_, rfl⟩
                                                          replace H : (if 0 ≤ (ji62) then (if (ji62) < (t187.size : Int) then (if (bt t187 (ji62)) > (bt t187 x116_3) then (some false) else (if (bt t187 (ji62)) = (bt t187 x116_3) then (if (ji62) < (t179.length : Int) then (if (rd t179 (ji62)) ≥ (rd t179 x116_3) then (some false) else (laws_FnColumns.l0 k3 l0 l1 t178 t179 t187 (x18_3.set ((rd t179 x116_3) : Int).toNat true) t179 (t179.length : Int) (wrap64 (x116_3 + 1)))) else (none)) else (laws_FnColumns.l0 k3 l0 l1 t178 t179 t187 (x18_3.set ((rd t179 x116_3) : Int).toNat true) t179 (t179.length : Int) (wrap64 (x116_3 + 1))))) else (none)) else (none)) = some r := by first | (rw [hji62] at H; exact H) | (simp only [hji62] at H ⊢; exact H)
                                                          have hji62w : (IntKind.i64.wrap (x116_3 - 1)) = ji62 := (i64_w _).trans hji62
                                                          by_cases c63 : 0 ≤ (ji62)
                                                          · rw [if_pos c63] at H
                                                            have c63b0 : decide (0 ≤ (ji62)) = true := decide_eq_true c63
                                                            clear c63
                                                            by_cases c64 : (ji62) < (t187.size : Int)
                                                            · rw [if_pos c64] at H
                                                              have c64b0 : decide ((ji62) < (t187.size : Int)) = true := decide_eq_true c64
                                                              clear c64
                                                              by_cases c67 : (bt t187 (ji62)) > (bt t187 x116_3)
                                                              · rw [if_pos c67] at H
                                                                have c67b0 : decide ((bt t187 x116_3) < (bt t187 (ji62))) = true := decide_eq_true c67
                                                                clear c67
                                                                obtain rfl := Option.some.inj H
                                                                have p199 : 0 ≤ (x116_3 : Int) := of_decide_eq_true (by first | (with_reducible assumption) | assumption)
                                                                have q199 : x116_3 < (t179.length : Int) := of_decide_eq_true (by first | (with_reducible assumption) | assumption)
                                                                obtain ⟨ad199, e199, hx199_0⟩ := Kd.at_int (Kd.R_reads' HO_114.out).2.2 x116_3 p199 q199
                                                                cases e199
                                                                replace p199 := eq_true p199
                                                                replace q199 := eq_true q199
                                                                obtain ⟨Ao68, co68, eo68⟩ := Kd.R_slice HO_18.out
                                                                subst eo68
                                                                have p200 : 0 ≤ ((rd t179 x116_3) : Int) := of_decide_eq_true (by first | (with_reducible assumption) | assumption)
                                                                have q200 : (rd t179 x116_3) < (x18_3.length : Int) := of_decide_eq_true (by first | (with_reducible assumption) | assumption)
                                                                obtain ⟨ad200, e200, hx200_0⟩ := Kd.at_bool (Kd.R_reads' HO_18.out).2.2 (rd t179 x116_3) p200 q200
                                                                (try rw [← Nbq53.out] at hx200_0)
                                                                cases e200
                                                                replace p200 := eq_true p200
                                                                replace q200 := eq_true q200
                                                                have p57 : 0 ≤ ((rd t179 x116_3) : Int) := of_decide_eq_true (by first | (with_reducible assumption) | assumption)
                                                                have q57 : (rd t179 x116_3) < (t178.size : Int) := of_decide_eq_true (by first | (with_reducible assumption) | assumption)
                                                                have hx57 := bt_at t178 (rd t179 x116_3)
                                                                replace p57 := eq_true p57
                                                                replace q57 := eq_true q57
                                                                have p59 : 0 ≤ (x116_3 : Int) := of_decide_eq_true (by first | (with_reducible assumption) | assumption)
                                                                have q59 : x116_3 < (t187.size : Int) := of_decide_eq_true (by first | (with_reducible assumption) | assumption)
                                                                have hx59 := bt_at t187 x116_3
                                                                replace p59 := eq_true p59
                                                                replace q59 := eq_true q59
                                                                have p65 : 0 ≤ ((ji62) : Int) := of_decide_eq_true (by first | (with_reducible assumption) | assumption)
                                                                have q65 : (ji62) < (t187.size : Int) := of_decide_eq_true (by first | (with_reducible assumption) | assumption)
                                                                have hx65 := bt_at t187 (ji62)
                                                                replace p65 := eq_true p65
                                                                replace q65 := eq_true q65
                                                                have p66 : 0 ≤ (x116_3 : Int) := of_decide_eq_true (by first | (with_reducible assumption) | assumption)
                                                                have q66 : x116_3 < (t187.size : Int) := of_decide_eq_true (by first | (with_reducible assumption) | assumption)
                                                                have hx66 := bt_at t187 x116_3
                                                                replace p66 := eq_true p66
                                                                replace q66 := eq_true q66
                                                                go_wp2
                                                                repeat (go_quiet (fail); try go_wp2)
                                                                go_ret
                                                                exact ⟨by first | rfl | (simp [errW_none, errW_some] <;> rfl) | (simp only [← hji62]; first | rfl | (simp [errW_none, errW_some] <;> rfl)) | (simp [*, errW_none, errW_some] <;> rfl), by repeat (first | (with_reducible first | exact HB.out | apply below_alloc | apply pw_below_drewN | apply below_drew1) | exact HB.out)⟩
                                                              · rw [if_neg c67] at H
                                                                have c67b0 : decide ((bt t187 x116_3) < (bt t187 (ji62))) = false := decide_eq_false c67
                                                                clear c67
                                                                by_cases c71 : (bt t187 (ji62)) = (bt t187 x116_3)
                                                                · rw [if_pos c71] at H
                                                                  have c71b0 : ((bt t187 (ji62)) == (bt t187 x116_3)) = true := beq_iff_eq.mpr c71
                                                                  have c71b1 : ((bt t187 (ji62)) != (bt t187 x116_3)) = false := bne_eq_false_iff_eq.mpr c71
                                                                  clear c71
                                                                  by_cases c72 : (ji62) < (t179.length : Int)
                                                                  · rw [if_pos c72] at H
                                                                    have c72b0 : decide ((ji62) < (t179.length : Int)) = true := decide_eq_true c72
                                                                    clear c72
                                                                    by_cases c73 : (rd t179 (ji62)) ≥ (rd t179 x116_3)
                                                                    · rw [if_pos c73] at H
                                                                      have c73b0 : decide ((rd t179 x116_3) ≤ (rd t179 (ji62))) = true := decide_eq_true c73
                                                                      clear c73
                                                                      obtain rfl := Option.some.inj H
                                                                      have p199 : 0 ≤ (x116_3 : Int) := of_decide_eq_true (by first | (with_reducible assumption) | assumption)
                                                                      have q199 : x116_3 < (t179.length : Int) := of_decide_eq_true (by first | (with_reducible assumption) | assumption)
                                                                      obtain ⟨ad199, e199, hx199_0⟩ := Kd.at_int (Kd.R_reads' HO_114.out).2.2 x116_3 p199 q199
                                                                      cases e199
                                                                      replace p199 := eq_true p199
                                                                      replace q199 := eq_true q199
                                                                      obtain ⟨Ao74, co74, eo74⟩ := Kd.R_slice HO_18.out
                                                                      subst eo74
                                                                      have p200 : 0 ≤ ((rd t179 x116_3) : Int) := of_decide_eq_true (by first | (with_reducible assumption) | assumption)
                                                                      have q200 : (rd t179 x116_3) < (x18_3.length : Int) := of_decide_eq_true (by first | (with_reducible assumption) | assumption)
                                                                      obtain ⟨ad200, e200, hx200_0⟩ := Kd.at_bool (Kd.R_reads' HO_18.out).2.2 (rd t179 x116_3) p200 q200
                                                                      (try rw [← Nbq53.out] at hx200_0)
                                                                      cases e200
                                                                      replace p200 := eq_true p200
                                                                      replace q200 := eq_true q200
                                                                      have p57 : 0 ≤ ((rd t179 x116_3) : Int) := of_decide_eq_true (by first | (with_reducible assumption) | assumption)
                                                                      have q57 : (rd t179 x116_3) < (t178.size : Int) := of_decide_eq_true (by first | (with_reducible assumption) | assumption)
                                                                      have hx57 := bt_at t178 (rd t179 x116_3)
                                                                      replace p57 := eq_true p57
                                                                      replace q57 := eq_true q57
                                                                      have p59 : 0 ≤ (x116_3 : Int) := of_decide_eq_true (by first | (with_reducible assumption) | assumption)
                                                                      have q59 : x116_3 < (t187.size : Int) := of_decide_eq_true (by first | (with_reducible assumption) | assumption)
                                                                      have hx59 := bt_at t187 x116_3
                                                                      replace p59 := eq_true p59
                                                                      replace q59 := eq_true q59
                                                                      have p65 : 0 ≤ ((ji62) : Int) := of_decide_eq_true (by first | (with_reducible assumption) | assumption)
                                                                      have q65 : (ji62) < (t187.size : Int) := of_decide_eq_true (by first | (with_reducible assumption) | assumption)
                                                                      have hx65 := bt_at t187 (ji62)
                                                                      replace p65 := eq_true p65
                                                                      replace q65 := eq_true q65
                                                                      have p66 : 0 ≤ (x116_3 : Int) := of_decide_eq_true (by first | (with_reducible assumption) | assumption)
                                                                      have q66 : x116_3 < (t187.size : Int) := of_decide_eq_true (by first | (with_reducible assumption) | assumption)
                                                                      have hx66 := bt_at t187 x116_3
                                                                      replace p66 := eq_true p66
                                                                      replace q66 := eq_true q66
                                                                      have p69 : 0 ≤ ((ji62) : Int) := of_decide_eq_true (by first | (with_reducible assumption) | assumption)
                                                                      have q69 : (ji62) < (t187.size : Int) := of_decide_eq_true (by first | (with_reducible assumption) | assumption)
                                                                      have hx69 := bt_at t187 (ji62)
                                                                      replace p69 := eq_true p69
                                                                      replace q69 := eq_true q69
                                                                      have p70 : 0 ≤ (x116_3 : Int) := of_decide_eq_true (by first | (with_reducible assumption) | assumption)
                                                                      have q70 : x116_3 < (t187.size : Int) := of_decide_eq_true (by first | (with_reducible assumption) | assumption)
                                                                      have hx70 := bt_at t187 x116_3
                                                                      replace p70 := eq_true p70
                                                                      replace q70 := eq_true q70
                                                                      have p201 : 0 ≤ ((ji62) : Int) := of_decide_eq_true (by first | (with_reducible assumption) | assumption)
                                                                      have q201 : (ji62) < (t179.length : Int) := of_decide_eq_true (by first | (with_reducible assumption) | assumption)
                                                                      obtain ⟨ad201, e201, hx201_0⟩ := Kd.at_int (Kd.R_reads' HO_6.out).2.2 (ji62) p201 q201
                                                                      obtain rfl : ad199 = ad201 := (by injection e201)
                                                                      replace p201 := eq_true p201
                                                                      replace q201 := eq_true q201
                                                                      go_wp2
                                                                      repeat (go_quiet (fail); try go_wp2)
                                                                      go_ret
                                                                      exact ⟨by first | rfl | (simp [errW_none, errW_some] <;> rfl) | (simp only [← hji62]; first | rfl | (simp [errW_none, errW_some] <;> rfl)) | (simp [*, errW_none, errW_some] <;> rfl), by repeat (first | (with_reducible first | exact HB.out | apply below_alloc | apply pw_below_drewN | apply below_drew1) | exact HB.out)⟩
                                                                    · rw [if_neg c73] at H
                                                                      have c73b0 : decide ((rd t179 x116_3) ≤ (rd t179 (ji62))) = false := decide_eq_false c73
                                                                      clear c73
                                                                      obtain ⟨y202, hy202⟩ : ∃ y_ : List Bool, y_ = (x18_3.set ((rd t179 x116_3) : Int).toNat true) := ⟨_, rfl⟩
                                                                      replace H : (laws_FnColumns.l0 k3 l0 l1 t178 t179 t187 y202 t179 (t179.length : Int) (wrap64 (x116_3 + 1))) = some r := by first | (rw [hy202]; with_reducible exact H) | (have H2_ := (Option.bind_some _ _).symm.trans H; rw [hy202]; with_reducible exact H2_) | (have H2_ := (Option.bind_some _ _).symm.trans H; with_reducible exact H2_) | with_reducible exact H | (rw [hy202]; exact H) | exact H
                                                                      have Ny202 := Aside0.mk hy202
                                                                      clear hy202
                                                                      have H' := Aside0.mk H
                                                                      clear H
                                                                      have p199 : 0 ≤ (x116_3 : Int) := of_decide_eq_true (by first | (with_reducible assumption) | assumption)
                                                                      have q199 : x116_3 < (t179.length : Int) := of_decide_eq_true (by first | (with_reducible assumption) | assumption)
                                                                      obtain ⟨ad199, e199, hx199_0⟩ := Kd.at_int (Kd.R_reads' HO_114.out).2.2 x116_3 p199 q199
                                                                      cases e199
                                                                      replace p199 := eq_true p199
                                                                      replace q199 := eq_true q199
                                                                      obtain ⟨Ao76, co76, eo76⟩ := Kd.R_slice HO_18.out
                                                                      subst eo76
                                                                      have p200 : 0 ≤ ((rd t179 x116_3) : Int) := of_decide_eq_true (by first | (with_reducible assumption) | assumption)
                                                                      have q200 : (rd t179 x116_3) < (x18_3.length : Int) := of_decide_eq_true (by first | (with_reducible assumption) | assumption)
                                                                      obtain ⟨ad200, e200, hx200_0⟩ := Kd.at_bool (Kd.R_reads' HO_18.out).2.2 (rd t179 x116_3) p200 q200
                                                                      (try rw [← Nbq53.out] at hx200_0)
                                                                      cases e200
                                                                      replace p200 := eq_true p200
                                                                      replace q200 := eq_true q200
                                                                      have p57 : 0 ≤ ((rd t179 x116_3) : Int) := of_decide_eq_true (by first | (with_reducible assumption) | assumption)
                                                                      have q57 : (rd t179 x116_3) < (t178.size : Int) := of_decide_eq_true (by first | (with_reducible assumption) | assumption)
                                                                      have hx57 := bt_at t178 (rd t179 x116_3)
                                                                      replace p57 := eq_true p57
                                                                      replace q57 := eq_true q57
                                                                      have p59 : 0 ≤ (x116_3 : Int) := of_decide_eq_true (by first | (with_reducible assumption) | assumption)
                                                                      have q59 : x116_3 < (t187.size : Int) := of_decide_eq_true (by first | (with_reducible assumption) | assumption)
                                                                      have hx59 := bt_at t187 x116_3
                                                                      replace p59 := eq_true p59
                                                                      replace q59 := eq_true q59
                                                                      have p65 : 0 ≤ ((ji62) : Int) := of_decide_eq_true (by first | (with_reducible assumption) | assumption)
                                                                      have q65 : (ji62) < (t187.size : Int) := of_decide_eq_true (by first | (with_reducible assumption) | assumption)
                                                                      have hx65 := bt_at t187 (ji62)
                                                                      replace p65 := eq_true p65
                                                                      replace q65 := eq_true q65
                                                                      have p66 : 0 ≤ (x116_3 : Int) := of_decide_eq_true (by first | (with_reducible assumption) | assumption)
                                                                      have q66 : x116_3 < (t187.size : Int) := of_decide_eq_true (by first | (with_reducible assumption) | assumption)
                                                                      have hx66 := bt_at t187 x116_3
                                                                      replace p66 := eq_true p66
                                                                      replace q66 := eq_true q66
                                                                      have p69 : 0 ≤ ((ji62) : Int) := of_decide_eq_true (by first | (with_reducible assumption) | assumption)
                                                                      have q69 : (ji62) < (t187.size : Int) := of_decide_eq_true (by first | (with_reducible assumption) | assumption)
                                                                      have hx69 := bt_at t187 (ji62)
                                                                      replace p69 := eq_true p69
                                                                      replace q69 := eq_true q69
                                                                      have p70 : 0 ≤ (x116_3 : Int) := of_decide_eq_true (by first | (with_reducible assumption) | assumption)
                                                                      have q70 : x116_3 < (t187.size : Int) := of_decide_eq_true (by first | (with_reducible assumption) | assumption)
                                                                      have hx70 := bt_at t187 x116_3
                                                                      replace p70 := eq_true p70
                                                                      replace q70 := eq_true q70
                                                                      have p201 : 0 ≤ ((ji62) : Int) := of_decide_eq_true (by first | (with_reducible assumption) | assumption)
                                                                      have q201 : (ji62) < (t179.length : Int) := of_decide_eq_true (by first | (with_reducible assumption) | assumption)
                                                                      obtain ⟨ad201, e201, hx201_0⟩ := Kd.at_int (Kd.R_reads' HO_6.out).2.2 (ji62) p201 q201
                                                                      obtain rfl : ad199 = ad201 := (by injection e201)
                                                                      replace p201 := eq_true p201
                                                                      replace q201 := eq_true q201
                                                                      have p75 : 0 ≤ ((rd t179 x116_3) : Int) := of_decide_eq_true (by first | (with_reducible assumption) | assumption)
                                                                      have q75 : ((rd t179 x116_3) : Int) < ((x18_3.length : Int) : Int) := of_decide_eq_true (by first | (with_reducible assumption) | assumption)
                                                                      obtain ⟨go75, co75, eo75, gb75, gl75, cl75, HG75⟩ := Kd.R_form HO_18.out (by omega)
                                                                      (first | cases eo75 | (injection eo75 with ea_ en_ ec_; (first | subst ea_ | (injection ea_ with ea_; subst ea_)); subst ec_; clear en_))
                                                                      have GB75 := Aside0.mk gb75
                                                                      have GG75 := Aside0.mk HG75
                                                                      clear gb75 gl75 HG75
                                                                      (first | simp only [add_plain] at hx200_0 | skip)
                                                                      obtain ⟨hx75_0, hf75_0⟩ := Kd.R_celln false HO_18.out ((rd t179 x116_3) : Int) p75 q75
                                                                      replace p75 := eq_true p75
                                                                      replace q75 := eq_true q75
                                                                      have HP77 := Kd.R_putg HO_18.out ((rd t179 x116_3) : Int) true
                                                                      go_wp2_with (first | ((with_reducible refine gate_store (t := 4) (p := 179) rfl ?_); (try (rw [drewN_self wr]; generalize hq_ : World.drewN wr _ = wr; have n0_ := Aside0.mk (Kd.R_at hq_ HO_6.out); have n1_ := Aside0.mk (Kd.R_at hq_ HO_18.out); have n2_ := Aside0.mk (Kd.R_at hq_ HO_114.out); have n3_ := Aside0.mk (below_at hq_ HB.out); clear hq_ HO_6 HO_18 HO_114 HB; have HO_6 := n0_; have HO_18 := n1_; have HO_114 := n2_; have HB := n3_; clear n0_ n1_ n2_ n3_; (try (have HP77 := Kd.R_putg HO_18.out ((rd t179 x116_3) : Int) true)))); refine store_event (t := 4) (p := 179) (v := ?vo_w78) (w1 := (wr.setCell ⟨go75, ((rd t179 x116_3) : Int).toNat, none⟩ (.bool true))) ?hg ?ho ?hn ?hr ?_; (case ho => rfl); (case hg => rfl); (case hn => rfl); (case hr => first | (go_simp; done) | (go_simp; rfl)); intro w78 hw; have hg : wr.grownBy w78 (some go75) := (by rw [hw]; exact HP77.2); have hp_ : Kd.R Kd.bool 4 w78 w.heap.size (fun _ => True) (.slice (some ⟨go75, 0, none⟩) x18_3.length co76) y202 := (by rw [hw, Ny202.out]; exact HP77.1); clear HP77; have n0_ := Aside0.mk (Kd.R_over' (v := (.slice (some ⟨go75, 0, none⟩) x18_3.length co76)) (by (with_reducible repeat (first | apply Kd.R_alloc | apply Kd.R_drewN | apply Kd.R_drew)); exact HO_6.out) (Kd.R_typed HO_18.out) (by decide) hg); have n1_ := Aside0.mk (hp_); have n2_ := Aside0.mk (Kd.R_over' (v := (.slice (some ⟨go75, 0, none⟩) x18_3.length co76)) (by (with_reducible repeat (first | apply Kd.R_alloc | apply Kd.R_drewN | apply Kd.R_drew)); exact HO_114.out) (Kd.R_typed HO_18.out) (by decide) hg); have n3_ := Aside0.mk ((by rw [hw]; exact below_set (HB.out) GB75.out : Below w.heap.size w w78)); clear HO_6; clear HO_18; clear HO_114; clear HB; have HO_6 := n0_; have HO_18 := n1_; have HO_114 := n2_; have HB := n3_; clear n0_ n1_ n2_ n3_; clear hg hw hp_))
                                                                      repeat (go_quiet (first | ((with_reducible refine gate_store (t := 4) (p := 179) rfl ?_); (try (rw [drewN_self wr]; generalize hq_ : World.drewN wr _ = wr; have n0_ := Aside0.mk (Kd.R_at hq_ HO_6.out); have n1_ := Aside0.mk (Kd.R_at hq_ HO_18.out); have n2_ := Aside0.mk (Kd.R_at hq_ HO_114.out); have n3_ := Aside0.mk (below_at hq_ HB.out); clear hq_ HO_6 HO_18 HO_114 HB; have HO_6 := n0_; have HO_18 := n1_; have HO_114 := n2_; have HB := n3_; clear n0_ n1_ n2_ n3_; (try (have HP77 := Kd.R_putg HO_18.out ((rd t179 x116_3) : Int) true)))); refine store_event (t := 4) (p := 179) (v := ?vo_w78) (w1 := (wr.setCell ⟨go75, ((rd t179 x116_3) : Int).toNat, none⟩ (.bool true))) ?hg ?ho ?hn ?hr ?_; (case ho => rfl); (case hg => rfl); (case hn => rfl); (case hr => first | (go_simp; done) | (go_simp; rfl)); intro w78 hw; have hg : wr.grownBy w78 (some go75) := (by rw [hw]; exact HP77.2); have hp_ : Kd.R Kd.bool 4 w78 w.heap.size (fun _ => True) (.slice (some ⟨go75, 0, none⟩) x18_3.length co76) y202 := (by rw [hw, Ny202.out]; exact HP77.1); clear HP77; have n0_ := Aside0.mk (Kd.R_over' (v := (.slice (some ⟨go75, 0, none⟩) x18_3.length co76)) (by (with_reducible repeat (first | apply Kd.R_alloc | apply Kd.R_drewN | apply Kd.R_drew)); exact HO_6.out) (Kd.R_typed HO_18.out) (by decide) hg); have n1_ := Aside0.mk (hp_); have n2_ := Aside0.mk (Kd.R_over' (v := (.slice (some ⟨go75, 0, none⟩) x18_3.length co76)) (by (with_reducible repeat (first | apply Kd.R_alloc | apply Kd.R_drewN | apply Kd.R_drew)); exact HO_114.out) (Kd.R_typed HO_18.out) (by decide) hg); have n3_ := Aside0.mk ((by rw [hw]; exact below_set (HB.out) GB75.out : Below w.heap.size w w78)); clear HO_6; clear HO_18; clear HO_114; clear HB; have HO_6 := n0_; have HO_18 := n1_; have HO_114 := n2_; have HB := n3_; clear n0_ n1_ n2_ n3_; clear hg hw hp_)); try go_wp2_with (first | ((with_reducible refine gate_store (t := 4) (p := 179) rfl ?_); (try (rw [drewN_self wr]; generalize hq_ : World.drewN wr _ = wr; have n0_ := Aside0.mk (Kd.R_at hq_ HO_6.out); have n1_ := Aside0.mk (Kd.R_at hq_ HO_18.out); have n2_ := Aside0.mk (Kd.R_at hq_ HO_114.out); have n3_ := Aside0.mk (below_at hq_ HB.out); clear hq_ HO_6 HO_18 HO_114 HB; have HO_6 := n0_; have HO_18 := n1_; have HO_114 := n2_; have HB := n3_; clear n0_ n1_ n2_ n3_; (try (have HP77 := Kd.R_putg HO_18.out ((rd t179 x116_3) : Int) true)))); refine store_event (t := 4) (p := 179) (v := ?vo_w78) (w1 := (wr.setCell ⟨go75, ((rd t179 x116_3) : Int).toNat, none⟩ (.bool true))) ?hg ?ho ?hn ?hr ?_; (case ho => rfl); (case hg => rfl); (case hn => rfl); (case hr => first | (go_simp; done) | (go_simp; rfl)); intro w78 hw; have hg : wr.grownBy w78 (some go75) := (by rw [hw]; exact HP77.2); have hp_ : Kd.R Kd.bool 4 w78 w.heap.size (fun _ => True) (.slice (some ⟨go75, 0, none⟩) x18_3.length co76) y202 := (by rw [hw, Ny202.out]; exact HP77.1); clear HP77; have n0_ := Aside0.mk (Kd.R_over' (v := (.slice (some ⟨go75, 0, none⟩) x18_3.length co76)) (by (with_reducible repeat (first | apply Kd.R_alloc | apply Kd.R_drewN | apply Kd.R_drew)); exact HO_6.out) (Kd.R_typed HO_18.out) (by decide) hg); have n1_ := Aside0.mk (hp_); have n2_ := Aside0.mk (Kd.R_over' (v := (.slice (some ⟨go75, 0, none⟩) x18_3.length co76)) (by (with_reducible repeat (first | apply Kd.R_alloc | apply Kd.R_drewN | apply Kd.R_drew)); exact HO_114.out) (Kd.R_typed HO_18.out) (by decide) hg); have n3_ := Aside0.mk ((by rw [hw]; exact below_set (HB.out) GB75.out : Below w.heap.size w w78)); clear HO_6; clear HO_18; clear HO_114; clear HB; have HO_6 := n0_; have HO_18 := n1_; have HO_114 := n2_; have HB := n3_; clear n0_ n1_ n2_ n3_; clear hg hw hp_)))
                                                                      go_roundg k3
                                                                      case measure => have := HJ10.out; have := HJ35.out; have := HK3.out; omega
                                                                      case rel => exact ⟨(y202), (wrap64 (x116_3 + 1)), (by first | rfl | (simp; done) | (simp [*]; done)), (by first | exact H' | (have H2_ := H'; simp only [hji62] at H2_ ⊢; exact H2_)), ⟨by have := HJ10.out; have := HJ35.out; have := HK3.out; omega⟩, ⟨Kd.R_over' (v := (.slice (some ⟨go75, 0, none⟩) x18_3.length co76)) (Kd.R_drewN HO_6.out nq) (Kd.R_typed (Kd.R_drewN HO_18.out nq)) (by decide) (Kd.R_putg (Kd.R_drewN HO_18.out nq) ((rd t179 x116_3) : Int) true).2⟩, ⟨by rw [Ny202.out]; exact (Kd.R_putg (Kd.R_drewN HO_18.out nq) ((rd t179 x116_3) : Int) true).1⟩, ⟨Kd.R_over' (v := (.slice (some ⟨go75, 0, none⟩) x18_3.length co76)) (Kd.R_drewN HO_114.out nq) (Kd.R_typed (Kd.R_drewN HO_18.out nq)) (by decide) (Kd.R_putg (Kd.R_drewN HO_18.out nq) ((rd t179 x116_3) : Int) true).2⟩, ⟨below_set (pw_below_drewN HB.out nq) GB75.out⟩⟩
                                                                  · rw [if_neg c72] at H
                                                                    exact absurd H (by simp)
                                                                · rw [if_neg c71] at H
                                                                  have c71b0 : ((bt t187 (ji62)) == (bt t187 x116_3)) = false := beq_eq_false_iff_ne.mpr c71
                                                                  have c71b1 : ((bt t187 (ji62)) != (bt t187 x116_3)) = true := bne_iff_ne.mpr c71
                                                                  obtain ⟨y203, hy203⟩ : ∃ y_ : List Bool, y_ = (x18_3.set ((rd t179 x116_3) : Int).toNat true) := ⟨_, rfl⟩
                                                                  replace H : (laws_FnColumns.l0 k3 l0 l1 t178 t179 t187 y203 t179 (t179.length : Int) (wrap64 (x116_3 + 1))) = some r := by first | (rw [hy203]; with_reducible exact H) | (have H2_ := (Option.bind_some _ _).symm.trans H; rw [hy203]; with_reducible exact H2_) | (have H2_ := (Option.bind_some _ _).symm.trans H; with_reducible exact H2_) | with_reducible exact H | (rw [hy203]; exact H) | exact H
                                                                  have Ny203 := Aside0.mk hy203
                                                                  clear hy203
                                                                  have H' := Aside0.mk H
                                                                  clear H
                                                                  have p199 : 0 ≤ (x116_3 : Int) := of_decide_eq_true (by first | (with_reducible assumption) | assumption)
                                                                  have q199 : x116_3 < (t179.length : Int) := of_decide_eq_true (by first | (with_reducible assumption) | assumption)
                                                                  obtain ⟨ad199, e199, hx199_0⟩ := Kd.at_int (Kd.R_reads' HO_114.out).2.2 x116_3 p199 q199
                                                                  cases e199
                                                                  replace p199 := eq_true p199
                                                                  replace q199 := eq_true q199
                                                                  obtain ⟨Ao80, co80, eo80⟩ := Kd.R_slice HO_18.out
                                                                  subst eo80
                                                                  have p200 : 0 ≤ ((rd t179 x116_3) : Int) := of_decide_eq_true (by first | (with_reducible assumption) | assumption)
                                                                  have q200 : (rd t179 x116_3) < (x18_3.length : Int) := of_decide_eq_true (by first | (with_reducible assumption) | assumption)
                                                                  obtain ⟨ad200, e200, hx200_0⟩ := Kd.at_bool (Kd.R_reads' HO_18.out).2.2 (rd t179 x116_3) p200 q200
                                                                  (try rw [← Nbq53.out] at hx200_0)
                                                                  cases e200
                                                                  replace p200 := eq_true p200
                                                                  replace q200 := eq_true q200
                                                                  have p57 : 0 ≤ ((rd t179 x116_3) : Int) := of_decide_eq_true (by first | (with_reducible assumption) | assumption)
                                                                  have q57 : (rd t179 x116_3) < (t178.size : Int) := of_decide_eq_true (by first | (with_reducible assumption) | assumption)
                                                                  have hx57 := bt_at t178 (rd t179 x116_3)
                                                                  replace p57 := eq_true p57
                                                                  replace q57 := eq_true q57
                                                                  have p59 : 0 ≤ (x116_3 : Int) := of_decide_eq_true (by first | (with_reducible assumption) | assumption)
                                                                  have q59 : x116_3 < (t187.size : Int) := of_decide_eq_true (by first | (with_reducible assumption) | assumption)
                                                                  have hx59 := bt_at t187 x116_3
                                                                  replace p59 := eq_true p59
                                                                  replace q59 := eq_true q59
                                                                  have p65 : 0 ≤ ((ji62) : Int) := of_decide_eq_true (by first | (with_reducible assumption) | assumption)
                                                                  have q65 : (ji62) < (t187.size : Int) := of_decide_eq_true (by first | (with_reducible assumption) | assumption)
                                                                  have hx65 := bt_at t187 (ji62)
                                                                  replace p65 := eq_true p65
                                                                  replace q65 := eq_true q65
                                                                  have p66 : 0 ≤ (x116_3 : Int) := of_decide_eq_true (by first | (with_reducible assumption) | assumption)
                                                                  have q66 : x116_3 < (t187.size : Int) := of_decide_eq_true (by first | (with_reducible assumption) | assumption)
                                                                  have hx66 := bt_at t187 x116_3
                                                                  replace p66 := eq_true p66
                                                                  replace q66 := eq_true q66
                                                                  have p69 : 0 ≤ ((ji62) : Int) := of_decide_eq_true (by first | (with_reducible assumption) | assumption)
                                                                  have q69 : (ji62) < (t187.size : Int) := of_decide_eq_true (by first | (with_reducible assumption) | assumption)
                                                                  have hx69 := bt_at t187 (ji62)
                                                                  replace p69 := eq_true p69
                                                                  replace q69 := eq_true q69
                                                                  have p70 : 0 ≤ (x116_3 : Int) := of_decide_eq_true (by first | (with_reducible assumption) | assumption)
                                                                  have q70 : x116_3 < (t187.size : Int) := of_decide_eq_true (by first | (with_reducible assumption) | assumption)
                                                                  have hx70 := bt_at t187 x116_3
                                                                  replace p70 := eq_true p70
                                                                  replace q70 := eq_true q70
                                                                  have p79 : 0 ≤ ((rd t179 x116_3) : Int) := of_decide_eq_true (by first | (with_reducible assumption) | assumption)
                                                                  have q79 : ((rd t179 x116_3) : Int) < ((x18_3.length : Int) : Int) := of_decide_eq_true (by first | (with_reducible assumption) | assumption)
                                                                  obtain ⟨go79, co79, eo79, gb79, gl79, cl79, HG79⟩ := Kd.R_form HO_18.out (by omega)
                                                                  (first | cases eo79 | (injection eo79 with ea_ en_ ec_; (first | subst ea_ | (injection ea_ with ea_; subst ea_)); subst ec_; clear en_))
                                                                  have GB79 := Aside0.mk gb79
                                                                  have GG79 := Aside0.mk HG79
                                                                  clear gb79 gl79 HG79
                                                                  (first | simp only [add_plain] at hx200_0 | skip)
                                                                  obtain ⟨hx79_0, hf79_0⟩ := Kd.R_celln false HO_18.out ((rd t179 x116_3) : Int) p79 q79
                                                                  replace p79 := eq_true p79
                                                                  replace q79 := eq_true q79
                                                                  have HP81 := Kd.R_putg HO_18.out ((rd t179 x116_3) : Int) true
                                                                  go_wp2_with (first | ((with_reducible refine gate_store (t := 4) (p := 179) rfl ?_); (try (rw [drewN_self wr]; generalize hq_ : World.drewN wr _ = wr; have n0_ := Aside0.mk (Kd.R_at hq_ HO_6.out); have n1_ := Aside0.mk (Kd.R_at hq_ HO_18.out); have n2_ := Aside0.mk (Kd.R_at hq_ HO_114.out); have n3_ := Aside0.mk (below_at hq_ HB.out); clear hq_ HO_6 HO_18 HO_114 HB; have HO_6 := n0_; have HO_18 := n1_; have HO_114 := n2_; have HB := n3_; clear n0_ n1_ n2_ n3_; (try (have HP81 := Kd.R_putg HO_18.out ((rd t179 x116_3) : Int) true)))); refine store_event (t := 4) (p := 179) (v := ?vo_w82) (w1 := (wr.setCell ⟨go79, ((rd t179 x116_3) : Int).toNat, none⟩ (.bool true))) ?hg ?ho ?hn ?hr ?_; (case ho => rfl); (case hg => rfl); (case hn => rfl); (case hr => first | (go_simp; done) | (go_simp; rfl)); intro w82 hw; have hg : wr.grownBy w82 (some go79) := (by rw [hw]; exact HP81.2); have hp_ : Kd.R Kd.bool 4 w82 w.heap.size (fun _ => True) (.slice (some ⟨go79, 0, none⟩) x18_3.length co80) y203 := (by rw [hw, Ny203.out]; exact HP81.1); clear HP81; have n0_ := Aside0.mk (Kd.R_over' (v := (.slice (some ⟨go79, 0, none⟩) x18_3.length co80)) (by (with_reducible repeat (first | apply Kd.R_alloc | apply Kd.R_drewN | apply Kd.R_drew)); exact HO_6.out) (Kd.R_typed HO_18.out) (by decide) hg); have n1_ := Aside0.mk (hp_); have n2_ := Aside0.mk (Kd.R_over' (v := (.slice (some ⟨go79, 0, none⟩) x18_3.length co80)) (by (with_reducible repeat (first | apply Kd.R_alloc | apply Kd.R_drewN | apply Kd.R_drew)); exact HO_114.out) (Kd.R_typed HO_18.out) (by decide) hg); have n3_ := Aside0.mk ((by rw [hw]; exact below_set (HB.out) GB79.out : Below w.heap.size w w82)); clear HO_6; clear HO_18; clear HO_114; clear HB; have HO_6 := n0_; have HO_18 := n1_; have HO_114 := n2_; have HB := n3_; clear n0_ n1_ n2_ n3_; clear hg hw hp_))
                                                                  repeat (go_quiet (first | ((with_reducible refine gate_store (t := 4) (p := 179) rfl ?_); (try (rw [drewN_self wr]; generalize hq_ : World.drewN wr _ = wr; have n0_ := Aside0.mk (Kd.R_at hq_ HO_6.out); have n1_ := Aside0.mk (Kd.R_at hq_ HO_18.out); have n2_ := Aside0.mk (Kd.R_at hq_ HO_114.out); have n3_ := Aside0.mk (below_at hq_ HB.out); clear hq_ HO_6 HO_18 HO_114 HB; have HO_6 := n0_; have HO_18 := n1_; have HO_114 := n2_; have HB := n3_; clear n0_ n1_ n2_ n3_; (try (have HP81 := Kd.R_putg HO_18.out ((rd t179 x116_3) : Int) true)))); refine store_event (t := 4) (p := 179) (v := ?vo_w82) (w1 := (wr.setCell ⟨go79, ((rd t179 x116_3) : Int).toNat, none⟩ (.bool true))) ?hg ?ho ?hn ?hr ?_; (case ho => rfl); (case hg => rfl); (case hn => rfl); (case hr => first | (go_simp; done) | (go_simp; rfl)); intro w82 hw; have hg : wr.grownBy w82 (some go79) := (by rw [hw]; exact HP81.2); have hp_ : Kd.R Kd.bool 4 w82 w.heap.size (fun _ => True) (.slice (some ⟨go79, 0, none⟩) x18_3.length co80) y203 := (by rw [hw, Ny203.out]; exact HP81.1); clear HP81; have n0_ := Aside0.mk (Kd.R_over' (v := (.slice (some ⟨go79, 0, none⟩) x18_3.length co80)) (by (with_reducible repeat (first | apply Kd.R_alloc | apply Kd.R_drewN | apply Kd.R_drew)); exact HO_6.out) (Kd.R_typed HO_18.out) (by decide) hg); have n1_ := Aside0.mk (hp_); have n2_ := Aside0.mk (Kd.R_over' (v := (.slice (some ⟨go79, 0, none⟩) x18_3.length co80)) (by (with_reducible repeat (first | apply Kd.R_alloc | apply Kd.R_drewN | apply Kd.R_drew)); exact HO_114.out) (Kd.R_typed HO_18.out) (by decide) hg); have n3_ := Aside0.mk ((by rw [hw]; exact below_set (HB.out) GB79.out : Below w.heap.size w w82)); clear HO_6; clear HO_18; clear HO_114; clear HB; have HO_6 := n0_; have HO_18 := n1_; have HO_114 := n2_; have HB := n3_; clear n0_ n1_ n2_ n3_; clear hg hw hp_)); try go_wp2_with (first | ((with_reducible refine gate_store (t := 4) (p := 179) rfl ?_); (try (rw [drewN_self wr]; generalize hq_ : World.drewN wr _ = wr; have n0_ := Aside0.mk (Kd.R_at hq_ HO_6.out); have n1_ := Aside0.mk (Kd.R_at hq_ HO_18.out); have n2_ := Aside0.mk (Kd.R_at hq_ HO_114.out); have n3_ := Aside0.mk (below_at hq_ HB.out); clear hq_ HO_6 HO_18 HO_114 HB; have HO_6 := n0_; have HO_18 := n1_; have HO_114 := n2_; have HB := n3_; clear n0_ n1_ n2_ n3_; (try (have HP81 := Kd.R_putg HO_18.out ((rd t179 x116_3) : Int) true)))); refine store_event (t := 4) (p := 179) (v := ?vo_w82) (w1 := (wr.setCell ⟨go79, ((rd t179 x116_3) : Int).toNat, none⟩ (.bool true))) ?hg ?ho ?hn ?hr ?_; (case ho => rfl); (case hg => rfl); (case hn => rfl); (case hr => first | (go_simp; done) | (go_simp; rfl)); intro w82 hw; have hg : wr.grownBy w82 (some go79) := (by rw [hw]; exact HP81.2); have hp_ : Kd.R Kd.bool 4 w82 w.heap.size (fun _ => True) (.slice (some ⟨go79, 0, none⟩) x18_3.length co80) y203 := (by rw [hw, Ny203.out]; exact HP81.1); clear HP81; have n0_ := Aside0.mk (Kd.R_over' (v := (.slice (some ⟨go79, 0, none⟩) x18_3.length co80)) (by (with_reducible repeat (first | apply Kd.R_alloc | apply Kd.R_drewN | apply Kd.R_drew)); exact HO_6.out) (Kd.R_typed HO_18.out) (by decide) hg); have n1_ := Aside0.mk (hp_); have n2_ := Aside0.mk (Kd.R_over' (v := (.slice (some ⟨go79, 0, none⟩) x18_3.length co80)) (by (with_reducible repeat (first | apply Kd.R_alloc | apply Kd.R_drewN | apply Kd.R_drew)); exact HO_114.out) (Kd.R_typed HO_18.out) (by decide) hg); have n3_ := Aside0.mk ((by rw [hw]; exact below_set (HB.out) GB79.out : Below w.heap.size w w82)); clear HO_6; clear HO_18; clear HO_114; clear HB; have HO_6 := n0_; have HO_18 := n1_; have HO_114 := n2_; have HB := n3_; clear n0_ n1_ n2_ n3_; clear hg hw hp_)))
                                                                  go_roundg k3
                                                                  case measure => have := HJ10.out; have := HJ35.out; have := HK3.out; omega
                                                                  case rel => exact ⟨(y203), (wrap64 (x116_3 + 1)), (by first | rfl | (simp; done) | (simp [*]; done)), (by first | exact H' | (have H2_ := H'; simp only [hji62] at H2_ ⊢; exact H2_)), ⟨by have := HJ10.out; have := HJ35.out; have := HK3.out; omega⟩, ⟨Kd.R_over' (v := (.slice (some ⟨go79, 0, none⟩) x18_3.length co80)) (Kd.R_drewN HO_6.out nq) (Kd.R_typed (Kd.R_drewN HO_18.out nq)) (by decide) (Kd.R_putg (Kd.R_drewN HO_18.out nq) ((rd t179 x116_3) : Int) true).2⟩, ⟨by rw [Ny203.out]; exact (Kd.R_putg (Kd.R_drewN HO_18.out nq) ((rd t179 x116_3) : Int) true).1⟩, ⟨Kd.R_over' (v := (.slice (some ⟨go79, 0, none⟩) x18_3.length co80)) (Kd.R_drewN HO_114.out nq) (Kd.R_typed (Kd.R_drewN HO_18.out nq)) (by decide) (Kd.R_putg (Kd.R_drewN HO_18.out nq) ((rd t179 x116_3) : Int) true).2⟩, ⟨below_set (pw_below_drewN HB.out nq) GB79.out⟩⟩
                                                            · rw [if_neg c64] at H
                                                              exact absurd H (by simp)
                                                          · rw [if_neg c63] at H
                                                            exact absurd H (by simp)
                                                        · rw [if_neg c61] at H
                                                          have c61b0 : decide (0 < x116_3) = false := decide_eq_false c61
                                                          clear c61
                                                          obtain ⟨y204, hy204⟩ : ∃ y_ : List Bool, y_ = (x18_3.set ((rd t179 x116_3) : Int).toNat true) := ⟨_, rfl⟩
                                                          replace H : (laws_FnColumns.l0 k3 l0 l1 t178 t179 t187 y204 t179 (t179.length : Int) (wrap64 (x116_3 + 1))) = some r := by first | (rw [hy204]; with_reducible exact H) | (have H2_ := (Option.bind_some _ _).symm.trans H; rw [hy204]; with_reducible exact H2_) | (have H2_ := (Option.bind_some _ _).symm.trans H; with_reducible exact H2_) | with_reducible exact H | (rw [hy204]; exact H) | exact H
                                                          have Ny204 := Aside0.mk hy204
                                                          clear hy204
                                                          have H' := Aside0.mk H
                                                          clear H
                                                          have p199 : 0 ≤ (x116_3 : Int) := of_decide_eq_true (by first | (with_reducible assumption) | assumption)
                                                          have q199 : x116_3 < (t179.length : Int) := of_decide_eq_true (by first | (with_reducible assumption) | assumption)
                                                          obtain ⟨ad199, e199, hx199_0⟩ := Kd.at_int (Kd.R_reads' HO_114.out).2.2 x116_3 p199 q199
                                                          cases e199
                                                          replace p199 := eq_true p199
                                                          replace q199 := eq_true q199
                                                          obtain ⟨Ao84, co84, eo84⟩ := Kd.R_slice HO_18.out
                                                          subst eo84
                                                          have p200 : 0 ≤ ((rd t179 x116_3) : Int) := of_decide_eq_true (by first | (with_reducible assumption) | assumption)
                                                          have q200 : (rd t179 x116_3) < (x18_3.length : Int) := of_decide_eq_true (by first | (with_reducible assumption) | assumption)
                                                          obtain ⟨ad200, e200, hx200_0⟩ := Kd.at_bool (Kd.R_reads' HO_18.out).2.2 (rd t179 x116_3) p200 q200
                                                          (try rw [← Nbq53.out] at hx200_0)
                                                          cases e200
                                                          replace p200 := eq_true p200
                                                          replace q200 := eq_true q200
                                                          have p57 : 0 ≤ ((rd t179 x116_3) : Int) := of_decide_eq_true (by first | (with_reducible assumption) | assumption)
                                                          have q57 : (rd t179 x116_3) < (t178.size : Int) := of_decide_eq_true (by first | (with_reducible assumption) | assumption)
                                                          have hx57 := bt_at t178 (rd t179 x116_3)
                                                          replace p57 := eq_true p57
                                                          replace q57 := eq_true q57
                                                          have p59 : 0 ≤ (x116_3 : Int) := of_decide_eq_true (by first | (with_reducible assumption) | assumption)
                                                          have q59 : x116_3 < (t187.size : Int) := of_decide_eq_true (by first | (with_reducible assumption) | assumption)
                                                          have hx59 := bt_at t187 x116_3
                                                          replace p59 := eq_true p59
                                                          replace q59 := eq_true q59
                                                          have p83 : 0 ≤ ((rd t179 x116_3) : Int) := of_decide_eq_true (by first | (with_reducible assumption) | assumption)
                                                          have q83 : ((rd t179 x116_3) : Int) < ((x18_3.length : Int) : Int) := of_decide_eq_true (by first | (with_reducible assumption) | assumption)
                                                          obtain ⟨go83, co83, eo83, gb83, gl83, cl83, HG83⟩ := Kd.R_form HO_18.out (by omega)
                                                          (first | cases eo83 | (injection eo83 with ea_ en_ ec_; (first | subst ea_ | (injection ea_ with ea_; subst ea_)); subst ec_; clear en_))
                                                          have GB83 := Aside0.mk gb83
                                                          have GG83 := Aside0.mk HG83
                                                          clear gb83 gl83 HG83
                                                          (first | simp only [add_plain] at hx200_0 | skip)
                                                          obtain ⟨hx83_0, hf83_0⟩ := Kd.R_celln false HO_18.out ((rd t179 x116_3) : Int) p83 q83
                                                          replace p83 := eq_true p83
                                                          replace q83 := eq_true q83
                                                          have HP85 := Kd.R_putg HO_18.out ((rd t179 x116_3) : Int) true
                                                          go_wp2_with (first | ((with_reducible refine gate_store (t := 4) (p := 179) rfl ?_); (try (rw [drewN_self wr]; generalize hq_ : World.drewN wr _ = wr; have n0_ := Aside0.mk (Kd.R_at hq_ HO_6.out); have n1_ := Aside0.mk (Kd.R_at hq_ HO_18.out); have n2_ := Aside0.mk (Kd.R_at hq_ HO_114.out); have n3_ := Aside0.mk (below_at hq_ HB.out); clear hq_ HO_6 HO_18 HO_114 HB; have HO_6 := n0_; have HO_18 := n1_; have HO_114 := n2_; have HB := n3_; clear n0_ n1_ n2_ n3_; (try (have HP85 := Kd.R_putg HO_18.out ((rd t179 x116_3) : Int) true)))); refine store_event (t := 4) (p := 179) (v := ?vo_w86) (w1 := (wr.setCell ⟨go83, ((rd t179 x116_3) : Int).toNat, none⟩ (.bool true))) ?hg ?ho ?hn ?hr ?_; (case ho => rfl); (case hg => rfl); (case hn => rfl); (case hr => first | (go_simp; done) | (go_simp; rfl)); intro w86 hw; have hg : wr.grownBy w86 (some go83) := (by rw [hw]; exact HP85.2); have hp_ : Kd.R Kd.bool 4 w86 w.heap.size (fun _ => True) (.slice (some ⟨go83, 0, none⟩) x18_3.length co84) y204 := (by rw [hw, Ny204.out]; exact HP85.1); clear HP85; have n0_ := Aside0.mk (Kd.R_over' (v := (.slice (some ⟨go83, 0, none⟩) x18_3.length co84)) (by (with_reducible repeat (first | apply Kd.R_alloc | apply Kd.R_drewN | apply Kd.R_drew)); exact HO_6.out) (Kd.R_typed HO_18.out) (by decide) hg); have n1_ := Aside0.mk (hp_); have n2_ := Aside0.mk (Kd.R_over' (v := (.slice (some ⟨go83, 0, none⟩) x18_3.length co84)) (by (with_reducible repeat (first | apply Kd.R_alloc | apply Kd.R_drewN | apply Kd.R_drew)); exact HO_114.out) (Kd.R_typed HO_18.out) (by decide) hg); have n3_ := Aside0.mk ((by rw [hw]; exact below_set (HB.out) GB83.out : Below w.heap.size w w86)); clear HO_6; clear HO_18; clear HO_114; clear HB; have HO_6 := n0_; have HO_18 := n1_; have HO_114 := n2_; have HB := n3_; clear n0_ n1_ n2_ n3_; clear hg hw hp_))
                                                          repeat (go_quiet (first | ((with_reducible refine gate_store (t := 4) (p := 179) rfl ?_); (try (rw [drewN_self wr]; generalize hq_ : World.drewN wr _ = wr; have n0_ := Aside0.mk (Kd.R_at hq_ HO_6.out); have n1_ := Aside0.mk (Kd.R_at hq_ HO_18.out); have n2_ := Aside0.mk (Kd.R_at hq_ HO_114.out); have n3_ := Aside0.mk (below_at hq_ HB.out); clear hq_ HO_6 HO_18 HO_114 HB; have HO_6 := n0_; have HO_18 := n1_; have HO_114 := n2_; have HB := n3_; clear n0_ n1_ n2_ n3_; (try (have HP85 := Kd.R_putg HO_18.out ((rd t179 x116_3) : Int) true)))); refine store_event (t := 4) (p := 179) (v := ?vo_w86) (w1 := (wr.setCell ⟨go83, ((rd t179 x116_3) : Int).toNat, none⟩ (.bool true))) ?hg ?ho ?hn ?hr ?_; (case ho => rfl); (case hg => rfl); (case hn => rfl); (case hr => first | (go_simp; done) | (go_simp; rfl)); intro w86 hw; have hg : wr.grownBy w86 (some go83) := (by rw [hw]; exact HP85.2); have hp_ : Kd.R Kd.bool 4 w86 w.heap.size (fun _ => True) (.slice (some ⟨go83, 0, none⟩) x18_3.length co84) y204 := (by rw [hw, Ny204.out]; exact HP85.1); clear HP85; have n0_ := Aside0.mk (Kd.R_over' (v := (.slice (some ⟨go83, 0, none⟩) x18_3.length co84)) (by (with_reducible repeat (first | apply Kd.R_alloc | apply Kd.R_drewN | apply Kd.R_drew)); exact HO_6.out) (Kd.R_typed HO_18.out) (by decide) hg); have n1_ := Aside0.mk (hp_); have n2_ := Aside0.mk (Kd.R_over' (v := (.slice (some ⟨go83, 0, none⟩) x18_3.length co84)) (by (with_reducible repeat (first | apply Kd.R_alloc | apply Kd.R_drewN | apply Kd.R_drew)); exact HO_114.out) (Kd.R_typed HO_18.out) (by decide) hg); have n3_ := Aside0.mk ((by rw [hw]; exact below_set (HB.out) GB83.out : Below w.heap.size w w86)); clear HO_6; clear HO_18; clear HO_114; clear HB; have HO_6 := n0_; have HO_18 := n1_; have HO_114 := n2_; have HB := n3_; clear n0_ n1_ n2_ n3_; clear hg hw hp_)); try go_wp2_with (first | ((with_reducible refine gate_store (t := 4) (p := 179) rfl ?_); (try (rw [drewN_self wr]; generalize hq_ : World.drewN wr _ = wr; have n0_ := Aside0.mk (Kd.R_at hq_ HO_6.out); have n1_ := Aside0.mk (Kd.R_at hq_ HO_18.out); have n2_ := Aside0.mk (Kd.R_at hq_ HO_114.out); have n3_ := Aside0.mk (below_at hq_ HB.out); clear hq_ HO_6 HO_18 HO_114 HB; have HO_6 := n0_; have HO_18 := n1_; have HO_114 := n2_; have HB := n3_; clear n0_ n1_ n2_ n3_; (try (have HP85 := Kd.R_putg HO_18.out ((rd t179 x116_3) : Int) true)))); refine store_event (t := 4) (p := 179) (v := ?vo_w86) (w1 := (wr.setCell ⟨go83, ((rd t179 x116_3) : Int).toNat, none⟩ (.bool true))) ?hg ?ho ?hn ?hr ?_; (case ho => rfl); (case hg => rfl); (case hn => rfl); (case hr => first | (go_simp; done) | (go_simp; rfl)); intro w86 hw; have hg : wr.grownBy w86 (some go83) := (by rw [hw]; exact HP85.2); have hp_ : Kd.R Kd.bool 4 w86 w.heap.size (fun _ => True) (.slice (some ⟨go83, 0, none⟩) x18_3.length co84) y204 := (by rw [hw, Ny204.out]; exact HP85.1); clear HP85; have n0_ := Aside0.mk (Kd.R_over' (v := (.slice (some ⟨go83, 0, none⟩) x18_3.length co84)) (by (with_reducible repeat (first | apply Kd.R_alloc | apply Kd.R_drewN | apply Kd.R_drew)); exact HO_6.out) (Kd.R_typed HO_18.out) (by decide) hg); have n1_ := Aside0.mk (hp_); have n2_ := Aside0.mk (Kd.R_over' (v := (.slice (some ⟨go83, 0, none⟩) x18_3.length co84)) (by (with_reducible repeat (first | apply Kd.R_alloc | apply Kd.R_drewN | apply Kd.R_drew)); exact HO_114.out) (Kd.R_typed HO_18.out) (by decide) hg); have n3_ := Aside0.mk ((by rw [hw]; exact below_set (HB.out) GB83.out : Below w.heap.size w w86)); clear HO_6; clear HO_18; clear HO_114; clear HB; have HO_6 := n0_; have HO_18 := n1_; have HO_114 := n2_; have HB := n3_; clear n0_ n1_ n2_ n3_; clear hg hw hp_)))
                                                          go_roundg k3
                                                          case measure => have := HJ10.out; have := HJ35.out; have := HK3.out; omega
                                                          case rel => exact ⟨(y204), (wrap64 (x116_3 + 1)), (by first | rfl | (simp; done) | (simp [*]; done)), H', ⟨by have := HJ10.out; have := HJ35.out; have := HK3.out; omega⟩, ⟨Kd.R_over' (v := (.slice (some ⟨go83, 0, none⟩) x18_3.length co84)) (Kd.R_drewN HO_6.out nq) (Kd.R_typed (Kd.R_drewN HO_18.out nq)) (by decide) (Kd.R_putg (Kd.R_drewN HO_18.out nq) ((rd t179 x116_3) : Int) true).2⟩, ⟨by rw [Ny204.out]; exact (Kd.R_putg (Kd.R_drewN HO_18.out nq) ((rd t179 x116_3) : Int) true).1⟩, ⟨Kd.R_over' (v := (.slice (some ⟨go83, 0, none⟩) x18_3.length co84)) (Kd.R_drewN HO_114.out nq) (Kd.R_typed (Kd.R_drewN HO_18.out nq)) (by decide) (Kd.R_putg (Kd.R_drewN HO_18.out nq) ((rd t179 x116_3) : Int) true).2⟩, ⟨below_set (pw_below_drewN HB.out nq) GB83.out⟩⟩
                                                      · rw [if_neg c60] at H
                                                        have c60b0 : ((bt t178 (rd t179 x116_3)) == (bt t187 x116_3)) = false := beq_eq_false_iff_ne.mpr c60
                                                        have c60b1 : ((bt t178 (rd t179 x116_3)) != (bt t187 x116_3)) = true := bne_iff_ne.mpr c60
                                                        obtain rfl := Option.some.inj H
                                                        have p199 : 0 ≤ (x116_3 : Int) := of_decide_eq_true (by first | (with_reducible assumption) | assumption)
                                                        have q199 : x116_3 < (t179.length : Int) := of_decide_eq_true (by first | (with_reducible assumption) | assumption)
                                                        obtain ⟨ad199, e199, hx199_0⟩ := Kd.at_int (Kd.R_reads' HO_114.out).2.2 x116_3 p199 q199
                                                        cases e199
                                                        replace p199 := eq_true p199
                                                        replace q199 := eq_true q199
                                                        obtain ⟨Ao87, co87, eo87⟩ := Kd.R_slice HO_18.out
                                                        subst eo87
                                                        have p200 : 0 ≤ ((rd t179 x116_3) : Int) := of_decide_eq_true (by first | (with_reducible assumption) | assumption)
                                                        have q200 : (rd t179 x116_3) < (x18_3.length : Int) := of_decide_eq_true (by first | (with_reducible assumption) | assumption)
                                                        obtain ⟨ad200, e200, hx200_0⟩ := Kd.at_bool (Kd.R_reads' HO_18.out).2.2 (rd t179 x116_3) p200 q200
                                                        (try rw [← Nbq53.out] at hx200_0)
                                                        cases e200
                                                        replace p200 := eq_true p200
                                                        replace q200 := eq_true q200
                                                        have p57 : 0 ≤ ((rd t179 x116_3) : Int) := of_decide_eq_true (by first | (with_reducible assumption) | assumption)
                                                        have q57 : (rd t179 x116_3) < (t178.size : Int) := of_decide_eq_true (by first | (with_reducible assumption) | assumption)
                                                        have hx57 := bt_at t178 (rd t179 x116_3)
                                                        replace p57 := eq_true p57
                                                        replace q57 := eq_true q57
                                                        have p59 : 0 ≤ (x116_3 : Int) := of_decide_eq_true (by first | (with_reducible assumption) | assumption)
                                                        have q59 : x116_3 < (t187.size : Int) := of_decide_eq_true (by first | (with_reducible assumption) | assumption)
                                                        have hx59 := bt_at t187 x116_3
                                                        replace p59 := eq_true p59
                                                        replace q59 := eq_true q59
                                                        go_wp2
                                                        repeat (go_quiet (fail); try go_wp2)
                                                        go_ret
                                                        exact ⟨by first | rfl | (simp [errW_none, errW_some] <;> rfl) | (simp [*, errW_none, errW_some] <;> rfl), by repeat (first | (with_reducible first | exact HB.out | apply below_alloc | apply pw_below_drewN | apply below_drew1) | exact HB.out)⟩
                                                    · rw [if_neg c58] at H
                                                      exact absurd H (by simp)
                                                  · rw [if_neg c56] at H
                                                    exact absurd H (by simp)
                                              · rw [if_neg c52] at H
                                                exact absurd H (by simp)
                                            · rw [if_neg c51] at H
                                              exact absurd H (by simp)
                                      · rw [if_neg c48] at H
                                        exact absurd H (by simp)
                                    · rw [if_neg c47] at H
                                      exact absurd H (by simp)
                                  · rw [if_neg c46] at H
                                    have c46b0 : decide (x116_3 < (t179.length : Int)) = false := decide_eq_false c46
                                    clear c46
                                    have H' := Aside0.mk H
                                    clear H
                                    go_wp2
                                    repeat (go_quiet (fail); try go_wp2)
                                    go_meet
                                    case rel => exact ⟨_, H', ⟨by have := HJ10.out; have := HJ35.out; have := HK3.out; first | omega | exact Nat.le_refl _⟩, ⟨by repeat (first | (with_reducible first | exact HB.out | apply below_alloc | apply pw_below_drewN | apply below_drew1) | exact HB.out)⟩⟩
                            · rw [if_neg c42] at H
                              exact absurd H (by simp)
                          · rw [if_neg c41] at H
                            exact absurd H (by simp)
                · replace c35 := Bool.eq_false_iff.mpr c35
                  subst c35
                  have H1 : (laws_FnColumns.j3 kj10 l0 l1) = some r := by rw [if_neg (show ¬ (false = true) by decide)] at H; exact H
                  clear H
                  have H := H1
                  clear H1
                  have H' := Aside0.mk H
                  clear H
                  go_wp2
                  repeat (go_quiet (fail); try go_wp2)
                  go_meet
                  case rel => exact ⟨_, H', ⟨by have := HJ10.out; first | omega | exact Nat.le_refl _⟩, ⟨by repeat (first | (with_reducible first | exact HB.out | apply below_alloc | apply pw_below_drewN | apply below_drew1) | exact HB.out)⟩⟩
            case rest =>
              as_aux_lemma =>
                clear HC34
                try clear c1
                try clear p1
                try clear q1
                try clear hx1
                try clear c2
                try clear p2
                try clear q2
                try clear hx2
                try clear c3
                try clear c3b0
                try clear c4
                try clear c5
                try clear p5
                try clear q5
                try clear hx5
                try clear c6
                try clear p6
                try clear q6
                try clear hx6
                try clear c7
                try clear p7
                try clear q7
                try clear hx7
                try clear hf7
                try clear p8
                try clear q8
                try clear hx8
                try clear hf8
                try clear c9
                try clear c17
                try clear c17b0
                try clear c17b1
                try clear c17b2
                try clear c19
                try clear p19
                try clear q19
                try clear hx19
                try clear c20
                try clear c20b0
                try clear c20b1
                try clear c20b2
                try clear p20
                try clear q20
                try clear hx20
                try clear c23
                try clear c23b0
                try clear c23b1
                try clear c24
                try clear c24b0
                try clear c24b1
                try clear c24b2
                try clear c33
                try clear c35
                try clear c37
                try clear c37b0
                try clear c37b1
                try clear c37b2
                try clear c40
                try clear c41
                try clear c41b0
                try clear c41b1
                try clear c42
                try clear c42b0
                try clear c42b1
                try clear c46
                try clear c46b0
                try clear c47
                try clear c47b0
                try clear c48
                try clear c48b0
                try clear c49
                try clear c49b0
                try clear c50
                try clear c50b0
                try clear c51
                try clear c51b0
                try clear c52
                try clear c52b0
                try clear q53
                try clear c54
                try clear c56
                try clear c56b0
                try clear p57
                try clear q57
                try clear hx57
                try clear c58
                try clear c58b0
                try clear p59
                try clear q59
                try clear hx59
                try clear c60
                try clear c60b0
                try clear c60b1
                try clear c61
                try clear c61b0
                try clear c63
                try clear c63b0
                try clear c64
                try clear c64b0
                try clear p64
                try clear p65
                try clear q65
                try clear hx65
                try clear p66
                try clear q66
                try clear hx66
                try clear c67
                try clear c67b0
                try clear p69
                try clear q69
                try clear hx69
                try clear p70
                try clear q70
                try clear hx70
                try clear c71
                try clear c71b0
                try clear c71b1
                try clear c72
                try clear c72b0
                try clear c73
                try clear c73b0
                try clear p75
                try clear q75
                try clear hx75
                try clear hf75
                try clear p79
                try clear q79
                try clear hx79
                try clear hf79
                try clear p83
                try clear q83
                try clear hx83
                try clear hf83
                try clear hx199_0
                try clear hx200_0
                try clear hx201_0
                try clear hx75_0
                try clear hx79_0
                try clear hx83_0
                try clear p199
                try clear p2
                try clear p200
                try clear p201
                try clear p57
                try clear p59
                try clear p6
                try clear p65
                try clear p66
                try clear p69
                try clear p70
                try clear p75
                try clear p79
                try clear p83
                try clear q199
                try clear q200
                try clear q201
                try clear q57
                try clear q59
                try clear q65
                try clear q66
                try clear q69
                try clear q70
                try clear q75
                try clear q79
                try clear q83
                obtain ⟨kq, HA, HJ33, HB⟩ := hcut
                cases kq with
                | zero => exact absurd HA.out (by simp [laws_FnColumns.j3])
                | succ kj33 =>
                  have H := HA.out
                  clear HA
                  simp only [laws_FnColumns.j3] at H
                  replace H := Option.bind_eq_some_iff.mp H
                  obtain ⟨⟨t205, t206⟩, A880, H⟩ := H
                  replace H : ((impl_CountPattern.f kj33 t205 t206).bind fun bt207 => ((spec_CountPattern.f kj33 t205 t206).bind fun bt209 => (if (bt207.2 != bt209.2) = true then (laws_FnColumns.j4 kj33 l0 t205 t206 bt207.1 bt207.2 true) else (laws_FnColumns.j4 kj33 l0 t205 t206 bt207.1 bt207.2 (bt207.1 != bt209.1))))) = some r := H
                  have A88 := Aside0.mk A880
                  clear A880
                  replace H := Option.bind_eq_some_iff.mp H
                  obtain ⟨⟨t207, t208⟩, A890, H⟩ := H
                  replace H : ((spec_CountPattern.f kj33 t205 t206).bind fun bt209 => (if (t208 != bt209.2) = true then (laws_FnColumns.j4 kj33 l0 t205 t206 t207 t208 true) else (laws_FnColumns.j4 kj33 l0 t205 t206 t207 t208 (t207 != bt209.1)))) = some r := H
                  have A89 := Aside0.mk A890
                  clear A890
                  replace H := Option.bind_eq_some_iff.mp H
                  obtain ⟨⟨t209, t210⟩, A900, H⟩ := H
                  replace H : (if (t208 != t210) = true then (laws_FnColumns.j4 kj33 l0 t205 t206 t207 t208 true) else (laws_FnColumns.j4 kj33 l0 t205 t206 t207 t208 (t207 != t209))) = some r := H
                  have A90 := Aside0.mk A900
                  clear A900
                  have HC91 := Aside0.mk H
                  clear H
                  go_upto_region 26 with (first | (go_at_call 32; (with_reducible refine (spec_DrawCountPattern.calls kj33 _ _ l1 t205 t206 _ ?side1 ?side2 A88.out).mono ?_); (case side1 => repeat (first | exact (Kd.C_below HR1.out HB.out) | (with_reducible refine Kd.C_alloc ?_ _) | (with_reducible refine Kd.C_drewN ?_ _) | (with_reducible refine Kd.C_drew ?_))); (case side2 => exact HC1.out); rintro e w92 ⟨rfl, hb⟩; have n0_ := Aside0.mk (below_step (by repeat (first | (with_reducible first | exact HB.out | apply below_alloc | apply pw_below_drewN | apply below_drew1) | exact HB.out)) hb); clear HB; have HB := n0_; clear n0_; (try clear hb); (try clear hb2); (try clear hk); (try clear hi)) | (go_at_call 33; (with_reducible refine (impl_CountPattern.calls kj33 t205 t206 t207 t208 _ A89.out).mono ?_); rintro e w' ⟨rfl, ⟨nd, rfl⟩⟩; (try first | exact ⟨rfl, _, World.drewN_drewN _ _ _⟩ | exact ⟨rfl, _, Eq.trans (World.drewN_drewN _ _ _) (congrArg (World.drewN _) (Nat.add_assoc _ _ _))⟩)) | (go_at_call 34; (with_reducible refine (spec_CountPattern.calls kj33 t205 t206 t209 t210 _ A90.out).mono ?_); rintro e w93 ⟨rfl, hb⟩; have n0_ := Aside0.mk (below_step (by repeat (first | (with_reducible first | exact HB.out | apply below_alloc | apply pw_below_drewN | apply below_drew1) | exact HB.out)) hb); clear HB; have HB := n0_; clear n0_; (try clear hb); (try clear hb2); (try clear hk); (try clear hi)))
                  repeat (go_quiet (first | (go_at_call 32; (with_reducible refine (spec_DrawCountPattern.calls kj33 _ _ l1 t205 t206 _ ?side1 ?side2 A88.out).mono ?_); (case side1 => repeat (first | exact (Kd.C_below HR1.out HB.out) | (with_reducible refine Kd.C_alloc ?_ _) | (with_reducible refine Kd.C_drewN ?_ _) | (with_reducible refine Kd.C_drew ?_))); (case side2 => exact HC1.out); rintro e w92 ⟨rfl, hb⟩; have n0_ := Aside0.mk (below_step (by repeat (first | (with_reducible first | exact HB.out | apply below_alloc | apply pw_below_drewN | apply below_drew1) | exact HB.out)) hb); clear HB; have HB := n0_; clear n0_; (try clear hb); (try clear hb2); (try clear hk); (try clear hi)) | (go_at_call 33; (with_reducible refine (impl_CountPattern.calls kj33 t205 t206 t207 t208 _ A89.out).mono ?_); rintro e w' ⟨rfl, ⟨nd, rfl⟩⟩; (try first | exact ⟨rfl, _, World.drewN_drewN _ _ _⟩ | exact ⟨rfl, _, Eq.trans (World.drewN_drewN _ _ _) (congrArg (World.drewN _) (Nat.add_assoc _ _ _))⟩)) | (go_at_call 34; (with_reducible refine (spec_CountPattern.calls kj33 t205 t206 t209 t210 _ A90.out).mono ?_); rintro e w93 ⟨rfl, hb⟩; have n0_ := Aside0.mk (below_step (by repeat (first | (with_reducible first | exact HB.out | apply below_alloc | apply pw_below_drewN | apply below_drew1) | exact HB.out)) hb); clear HB; have HB := n0_; clear n0_; (try clear hb); (try clear hb2); (try clear hk); (try clear hi))); go_upto_region 26 with (first | (go_at_call 32; (with_reducible refine (spec_DrawCountPattern.calls kj33 _ _ l1 t205 t206 _ ?side1 ?side2 A88.out).mono ?_); (case side1 => repeat (first | exact (Kd.C_below HR1.out HB.out) | (with_reducible refine Kd.C_alloc ?_ _) | (with_reducible refine Kd.C_drewN ?_ _) | (with_reducible refine Kd.C_drew ?_))); (case side2 => exact HC1.out); rintro e w92 ⟨rfl, hb⟩; have n0_ := Aside0.mk (below_step (by repeat (first | (with_reducible first | exact HB.out | apply below_alloc | apply pw_below_drewN | apply below_drew1) | exact HB.out)) hb); clear HB; have HB := n0_; clear n0_; (try clear hb); (try clear hb2); (try clear hk); (try clear hi)) | (go_at_call 33; (with_reducible refine (impl_CountPattern.calls kj33 t205 t206 t207 t208 _ A89.out).mono ?_); rintro e w' ⟨rfl, ⟨nd, rfl⟩⟩; (try first | exact ⟨rfl, _, World.drewN_drewN _ _ _⟩ | exact ⟨rfl, _, Eq.trans (World.drewN_drewN _ _ _) (congrArg (World.drewN _) (Nat.add_assoc _ _ _))⟩)) | (go_at_call 34; (with_reducible refine (spec_CountPattern.calls kj33 t205 t206 t209 t210 _ A90.out).mono ?_); rintro e w93 ⟨rfl, hb⟩; have n0_ := Aside0.mk (below_step (by repeat (first | (with_reducible first | exact HB.out | apply below_alloc | apply pw_below_drewN | apply below_drew1) | exact HB.out)) hb); clear HB; have HB := n0_; clear n0_; (try clear hb); (try clear hb2); (try clear hk); (try clear hi))))
                  (try simp only [Act.put, List.setIfInBounds_toArray, List.set_cons_zero, List.set_cons_succ])
                  go_cut [205] (fun v205 wc => ∃ (kq : Nat) (x205_90 : Bool), v205 = .bool x205_90 ∧ Aside0 (laws_FnColumns.j4 kq l0 t205 t206 t207 t208 x205_90 = some r) ∧ Aside0 (kq ≤ kj33) ∧ Aside0 (Below w.heap.size w wc))
                  case first =>
                    as_aux_lemma =>
                      have H := HC91.out
                      clear HC91
                      by_cases c94 : (t208 != t210) = true
                      · rw [if_pos c94] at H
                        have c94b0 : (t208 != t210) = true := c94
                        (try (have c94b1 : decide (t208 = t210) = false := by simpa using c94))
                        (try (have c94b2 : (t208 == t210) = false := by simpa using c94))
                        (try (have c94b3 : ¬ (t208 = t210) := by simpa using c94))
                        clear c94
                        (first | rw [c94b0] | (simp only [i64_w, i32_w]; rw [c94b0]) | skip)
                        have H' := Aside0.mk H
                        clear H
                        go_wp2
                        repeat (go_quiet (fail); try go_wp2)
                        go_meet
                        case rel => exact ⟨_, (true), (by first | rfl | (simp; done) | (simp [*]; done)), H', ⟨by have := HJ10.out; have := HJ33.out; first | omega | exact Nat.le_refl _⟩, ⟨by repeat (first | (with_reducible first | exact HB.out | apply below_alloc | apply pw_below_drewN | apply below_drew1) | exact HB.out)⟩⟩
                      · rw [if_neg c94] at H
                        have c94b0 : (t208 != t210) = false := by simpa using c94
                        (try (have c94b1 : decide (t208 = t210) = true := by simpa using c94))
                        (try (have c94b2 : (t208 == t210) = true := by simpa using c94))
                        clear c94
                        (first | rw [c94b0] | (simp only [i64_w, i32_w]; rw [c94b0]) | skip)
                        have H' := Aside0.mk H
                        clear H
                        go_wp2
                        repeat (go_quiet (fail); try go_wp2)
                        go_meet
                        case rel => exact ⟨_, ((t207 != t209)), (by first | rfl | (simp; done) | (simp [*]; done)), H', ⟨by have := HJ10.out; have := HJ33.out; first | omega | exact Nat.le_refl _⟩, ⟨by repeat (first | (with_reducible first | exact HB.out | apply below_alloc | apply pw_below_drewN | apply below_drew1) | exact HB.out)⟩⟩
                  case rest =>
                    as_aux_lemma =>
                      clear HC91
                      try clear c1
                      try clear p1
                      try clear q1
                      try clear hx1
                      try clear c2
                      try clear p2
                      try clear q2
                      try clear hx2
                      try clear c3
                      try clear c3b0
                      try clear c4
                      try clear c5
                      try clear p5
                      try clear q5
                      try clear hx5
                      try clear c6
                      try clear p6
                      try clear q6
                      try clear hx6
                      try clear c7
                      try clear p7
                      try clear q7
                      try clear hx7
                      try clear hf7
                      try clear p8
                      try clear q8
                      try clear hx8
                      try clear hf8
                      try clear c9
                      try clear c17
                      try clear c17b0
                      try clear c17b1
                      try clear c17b2
                      try clear c19
                      try clear p19
                      try clear q19
                      try clear hx19
                      try clear c20
                      try clear c20b0
                      try clear c20b1
                      try clear c20b2
                      try clear p20
                      try clear q20
                      try clear hx20
                      try clear c23
                      try clear c23b0
                      try clear c23b1
                      try clear c24
                      try clear c24b0
                      try clear c24b1
                      try clear c24b2
                      try clear c33
                      try clear c35
                      try clear c37
                      try clear c37b0
                      try clear c37b1
                      try clear c37b2
                      try clear c40
                      try clear c41
                      try clear c41b0
                      try clear c41b1
                      try clear c42
                      try clear c42b0
                      try clear c42b1
                      try clear c46
                      try clear c46b0
                      try clear c47
                      try clear c47b0
                      try clear c48
                      try clear c48b0
                      try clear c49
                      try clear c49b0
                      try clear c50
                      try clear c50b0
                      try clear c51
                      try clear c51b0
                      try clear c52
                      try clear c52b0
                      try clear q53
                      try clear c54
                      try clear c56
                      try clear c56b0
                      try clear p57
                      try clear q57
                      try clear hx57
                      try clear c58
                      try clear c58b0
                      try clear p59
                      try clear q59
                      try clear hx59
                      try clear c60
                      try clear c60b0
                      try clear c60b1
                      try clear c61
                      try clear c61b0
                      try clear c63
                      try clear c63b0
                      try clear c64
                      try clear c64b0
                      try clear p64
                      try clear p65
                      try clear q65
                      try clear hx65
                      try clear p66
                      try clear q66
                      try clear hx66
                      try clear c67
                      try clear c67b0
                      try clear p69
                      try clear q69
                      try clear hx69
                      try clear p70
                      try clear q70
                      try clear hx70
                      try clear c71
                      try clear c71b0
                      try clear c71b1
                      try clear c72
                      try clear c72b0
                      try clear c73
                      try clear c73b0
                      try clear p75
                      try clear q75
                      try clear hx75
                      try clear hf75
                      try clear p79
                      try clear q79
                      try clear hx79
                      try clear hf79
                      try clear p83
                      try clear q83
                      try clear hx83
                      try clear hf83
                      try clear c94
                      try clear c94b0
                      try clear c94b1
                      try clear c94b2
                      try clear hx199_0
                      try clear hx200_0
                      try clear hx201_0
                      try clear hx75_0
                      try clear hx79_0
                      try clear hx83_0
                      try clear p1
                      try clear p19
                      try clear p199
                      try clear p2
                      try clear p20
                      try clear p200
                      try clear p201
                      try clear p5
                      try clear p57
                      try clear p59
                      try clear p6
                      try clear p64
                      try clear p65
                      try clear p66
                      try clear p69
                      try clear p7
                      try clear p70
                      try clear p75
                      try clear p79
                      try clear p8
                      try clear p83
                      try clear q1
                      try clear q19
                      try clear q199
                      try clear q2
                      try clear q20
                      try clear q200
                      try clear q201
                      try clear q5
                      try clear q53
                      try clear q57
                      try clear q59
                      try clear q6
                      try clear q65
                      try clear q66
                      try clear q69
                      try clear q7
                      try clear q70
                      try clear q75
                      try clear q79
                      try clear q8
                      try clear q83
                      obtain ⟨kq, x205_90, rfl, HA, HJ90, HB⟩ := hcut
                      cases kq with
                      | zero => exact absurd HA.out (by simp [laws_FnColumns.j4])
                      | succ kj90 =>
                        have H := HA.out
                        clear HA
                        simp only [laws_FnColumns.j4] at H
                        by_cases c95 : x205_90 = true
                        · subst c95
                          have H1 : (some false) = some r := by rw [if_pos rfl] at H; exact H
                          clear H
                          have H := H1
                          clear H1
                          obtain rfl := Option.some.inj H
                          go_wp2
                          repeat (go_quiet (fail); try go_wp2)
                          go_ret
                          exact ⟨by first | rfl | (simp [errW_none, errW_some] <;> rfl) | (simp [*, errW_none, errW_some] <;> rfl), by repeat (first | (with_reducible first | exact HB.out | apply below_alloc | apply pw_below_drewN | apply below_drew1) | exact HB.out)⟩
                        · replace c95 := Bool.eq_false_iff.mpr c95
                          subst c95
                          have H1 : (if t208 = true then ((laws_numberOf.f kj90 l0).bind fun t211 => (if (t205.size : Int) = 0 then (none) else ((impl_RotateText.f t205 (Int.tmod t211 (t205.size : Int))).bind fun bt212 => ((impl_CountPattern.f kj90 bt212.1 t206).bind fun bt214 => (if bt212.2 = true then (if bt214.2 = true then (some (bt214.1 == t207)) else (some false)) else (some false)))))) else (some (t207 == 0))) = some r := by rw [if_neg (show ¬ (false = true) by decide)] at H; exact H
                          clear H
                          have H := H1
                          clear H1
                          by_cases c96 : t208 = true
                          · subst c96
                            have H1 : ((laws_numberOf.f kj90 l0).bind fun t211 => (if (t205.size : Int) = 0 then (none) else ((impl_RotateText.f t205 (Int.tmod t211 (t205.size : Int))).bind fun bt212 => ((impl_CountPattern.f kj90 bt212.1 t206).bind fun bt214 => (if bt212.2 = true then (if bt214.2 = true then (some (bt214.1 == t207)) else (some false)) else (some false)))))) = some r := by rw [if_pos rfl] at H; exact H
                            clear H
                            have H := H1
                            clear H1
                            replace H := Option.bind_eq_some_iff.mp H
                            obtain ⟨t211, A970, H⟩ := H
                            replace H : (if (t205.size : Int) = 0 then (none) else ((impl_RotateText.f t205 (Int.tmod t211 (t205.size : Int))).bind fun bt212 => ((impl_CountPattern.f kj90 bt212.1 t206).bind fun bt214 => (if bt212.2 = true then (if bt214.2 = true then (some (bt214.1 == t207)) else (some false)) else (some false))))) = some r := H
                            have A97 := Aside0.mk A970
                            clear A970
                            by_cases c98 : (t205.size : Int) = 0
                            · rw [if_pos c98] at H
                              exact absurd H (by simp)
                            · rw [if_neg c98] at H
                              have c98b0 : ((t205.size : Int) == 0) = false := beq_eq_false_iff_ne.mpr c98
                              have c98b1 : ((t205.size : Int) != 0) = true := bne_iff_ne.mpr c98
                              replace H := Option.bind_eq_some_iff.mp H
                              obtain ⟨⟨t212, t213⟩, A990, H⟩ := H
                              replace H : ((impl_CountPattern.f kj90 t212 t206).bind fun bt214 => (if t213 = true then (if bt214.2 = true then (some (bt214.1 == t207)) else (some false)) else (some false))) = some r := H
                              have A99 := Aside0.mk A990
                              clear A990
                              replace H := Option.bind_eq_some_iff.mp H
                              obtain ⟨⟨t214, t215⟩, A1000, H⟩ := H
                              replace H : (if t213 = true then (if t215 = true then (some (t214 == t207)) else (some false)) else (some false)) = some r := H
                              have A100 := Aside0.mk A1000
                              clear A1000
                              by_cases c101 : t213 = true
                              · subst c101
                                have H1 : (if t215 = true then (some (t214 == t207)) else (some false)) = some r := by rw [if_pos rfl] at H; exact H
                                clear H
                                have H := H1
                                clear H1
                                by_cases c102 : t215 = true
                                · subst c102
                                  have H1 : (some (t214 == t207)) = some r := by rw [if_pos rfl] at H; exact H
                                  clear H
                                  have H := H1
                                  clear H1
                                  obtain rfl := Option.some.inj H
                                  go_wp2_with (first | (go_at_call 24; (with_reducible refine (laws_numberOf.calls kj90 _ _ l0 t211 _ ?side1 ?side2 A97.out).mono ?_); (case side1 => repeat (first | exact (Kd.C_below HR0.out HB.out) | (with_reducible refine Kd.C_alloc ?_ _) | (with_reducible refine Kd.C_drewN ?_ _) | (with_reducible refine Kd.C_drew ?_))); (case side2 => exact HC0.out); rintro e w' ⟨rfl, ⟨nd, rfl⟩⟩; (try first | exact ⟨rfl, _, World.drewN_drewN _ _ _⟩ | exact ⟨rfl, _, Eq.trans (World.drewN_drewN _ _ _) (congrArg (World.drewN _) (Nat.add_assoc _ _ _))⟩)) | (go_at_call 23; (with_reducible refine (impl_RotateText.calls t205 (Int.tmod t211 (t205.size : Int)) t212 true _ A99.out).mono ?_); rintro e w103 ⟨rfl, hb⟩; have n0_ := Aside0.mk (below_step (by repeat (first | (with_reducible first | exact HB.out | apply below_alloc | apply pw_below_drewN | apply below_drew1) | exact HB.out)) hb); clear HB; have HB := n0_; clear n0_; (try clear hb); (try clear hb2); (try clear hk); (try clear hi)) | (go_at_call 33; (with_reducible refine (impl_CountPattern.calls kj90 t212 t206 t214 true _ A100.out).mono ?_); rintro e w' ⟨rfl, ⟨nd, rfl⟩⟩; (try first | exact ⟨rfl, _, World.drewN_drewN _ _ _⟩ | exact ⟨rfl, _, Eq.trans (World.drewN_drewN _ _ _) (congrArg (World.drewN _) (Nat.add_assoc _ _ _))⟩)))
                                  repeat (go_quiet (first | (go_at_call 24; (with_reducible refine (laws_numberOf.calls kj90 _ _ l0 t211 _ ?side1 ?side2 A97.out).mono ?_); (case side1 => repeat (first | exact (Kd.C_below HR0.out HB.out) | (with_reducible refine Kd.C_alloc ?_ _) | (with_reducible refine Kd.C_drewN ?_ _) | (with_reducible refine Kd.C_drew ?_))); (case side2 => exact HC0.out); rintro e w' ⟨rfl, ⟨nd, rfl⟩⟩; (try first | exact ⟨rfl, _, World.drewN_drewN _ _ _⟩ | exact ⟨rfl, _, Eq.trans (World.drewN_drewN _ _ _) (congrArg (World.drewN _) (Nat.add_assoc _ _ _))⟩)) | (go_at_call 23; (with_reducible refine (impl_RotateText.calls t205 (Int.tmod t211 (t205.size : Int)) t212 true _ A99.out).mono ?_); rintro e w103 ⟨rfl, hb⟩; have n0_ := Aside0.mk (below_step (by repeat (first | (with_reducible first | exact HB.out | apply below_alloc | apply pw_below_drewN | apply below_drew1) | exact HB.out)) hb); clear HB; have HB := n0_; clear n0_; (try clear hb); (try clear hb2); (try clear hk); (try clear hi)) | (go_at_call 33; (with_reducible refine (impl_CountPattern.calls kj90 t212 t206 t214 true _ A100.out).mono ?_); rintro e w' ⟨rfl, ⟨nd, rfl⟩⟩; (try first | exact ⟨rfl, _, World.drewN_drewN _ _ _⟩ | exact ⟨rfl, _, Eq.trans (World.drewN_drewN _ _ _) (congrArg (World.drewN _) (Nat.add_assoc _ _ _))⟩))); try go_wp2_with (first | (go_at_call 24; (with_reducible refine (laws_numberOf.calls kj90 _ _ l0 t211 _ ?side1 ?side2 A97.out).mono ?_); (case side1 => repeat (first | exact (Kd.C_below HR0.out HB.out) | (with_reducible refine Kd.C_alloc ?_ _) | (with_reducible refine Kd.C_drewN ?_ _) | (with_reducible refine Kd.C_drew ?_))); (case side2 => exact HC0.out); rintro e w' ⟨rfl, ⟨nd, rfl⟩⟩; (try first | exact ⟨rfl, _, World.drewN_drewN _ _ _⟩ | exact ⟨rfl, _, Eq.trans (World.drewN_drewN _ _ _) (congrArg (World.drewN _) (Nat.add_assoc _ _ _))⟩)) | (go_at_call 23; (with_reducible refine (impl_RotateText.calls t205 (Int.tmod t211 (t205.size : Int)) t212 true _ A99.out).mono ?_); rintro e w103 ⟨rfl, hb⟩; have n0_ := Aside0.mk (below_step (by repeat (first | (with_reducible first | exact HB.out | apply below_alloc | apply pw_below_drewN | apply below_drew1) | exact HB.out)) hb); clear HB; have HB := n0_; clear n0_; (try clear hb); (try clear hb2); (try clear hk); (try clear hi)) | (go_at_call 33; (with_reducible refine (impl_CountPattern.calls kj90 t212 t206 t214 true _ A100.out).mono ?_); rintro e w' ⟨rfl, ⟨nd, rfl⟩⟩; (try first | exact ⟨rfl, _, World.drewN_drewN _ _ _⟩ | exact ⟨rfl, _, Eq.trans (World.drewN_drewN _ _ _) (congrArg (World.drewN _) (Nat.add_assoc _ _ _))⟩))))
                                  go_ret
                                  exact ⟨by first | rfl | (simp [errW_none, errW_some] <;> rfl) | (simp [*, errW_none, errW_some] <;> rfl), by repeat (first | (with_reducible first | exact HB.out | apply below_alloc | apply pw_below_drewN | apply below_drew1) | exact HB.out)⟩
                                · replace c102 := Bool.eq_false_iff.mpr c102
                                  subst c102
                                  have H1 : (some false) = some r := by rw [if_neg (show ¬ (false = true) by decide)] at H; exact H
                                  clear H
                                  have H := H1
                                  clear H1
                                  obtain rfl := Option.some.inj H
                                  go_wp2_with (first | (go_at_call 24; (with_reducible refine (laws_numberOf.calls kj90 _ _ l0 t211 _ ?side1 ?side2 A97.out).mono ?_); (case side1 => repeat (first | exact (Kd.C_below HR0.out HB.out) | (with_reducible refine Kd.C_alloc ?_ _) | (with_reducible refine Kd.C_drewN ?_ _) | (with_reducible refine Kd.C_drew ?_))); (case side2 => exact HC0.out); rintro e w' ⟨rfl, ⟨nd, rfl⟩⟩; (try first | exact ⟨rfl, _, World.drewN_drewN _ _ _⟩ | exact ⟨rfl, _, Eq.trans (World.drewN_drewN _ _ _) (congrArg (World.drewN _) (Nat.add_assoc _ _ _))⟩)) | (go_at_call 23; (with_reducible refine (impl_RotateText.calls t205 (Int.tmod t211 (t205.size : Int)) t212 true _ A99.out).mono ?_); rintro e w104 ⟨rfl, hb⟩; have n0_ := Aside0.mk (below_step (by repeat (first | (with_reducible first | exact HB.out | apply below_alloc | apply pw_below_drewN | apply below_drew1) | exact HB.out)) hb); clear HB; have HB := n0_; clear n0_; (try clear hb); (try clear hb2); (try clear hk); (try clear hi)) | (go_at_call 33; (with_reducible refine (impl_CountPattern.calls kj90 t212 t206 t214 false _ A100.out).mono ?_); rintro e w' ⟨rfl, ⟨nd, rfl⟩⟩; (try first | exact ⟨rfl, _, World.drewN_drewN _ _ _⟩ | exact ⟨rfl, _, Eq.trans (World.drewN_drewN _ _ _) (congrArg (World.drewN _) (Nat.add_assoc _ _ _))⟩)))
                                  repeat (go_quiet (first | (go_at_call 24; (with_reducible refine (laws_numberOf.calls kj90 _ _ l0 t211 _ ?side1 ?side2 A97.out).mono ?_); (case side1 => repeat (first | exact (Kd.C_below HR0.out HB.out) | (with_reducible refine Kd.C_alloc ?_ _) | (with_reducible refine Kd.C_drewN ?_ _) | (with_reducible refine Kd.C_drew ?_))); (case side2 => exact HC0.out); rintro e w' ⟨rfl, ⟨nd, rfl⟩⟩; (try first | exact ⟨rfl, _, World.drewN_drewN _ _ _⟩ | exact ⟨rfl, _, Eq.trans (World.drewN_drewN _ _ _) (congrArg (World.drewN _) (Nat.add_assoc _ _ _))⟩)) | (go_at_call 23; (with_reducible refine (impl_RotateText.calls t205 (Int.tmod t211 (t205.size : Int)) t212 true _ A99.out).mono ?_); rintro e w104 ⟨rfl, hb⟩; have n0_ := Aside0.mk (below_step (by repeat (first | (with_reducible first | exact HB.out | apply below_alloc | apply pw_below_drewN | apply below_drew1) | exact HB.out)) hb); clear HB; have HB := n0_; clear n0_; (try clear hb); (try clear hb2); (try clear hk); (try clear hi)) | (go_at_call 33; (with_reducible refine (impl_CountPattern.calls kj90 t212 t206 t214 false _ A100.out).mono ?_); rintro e w' ⟨rfl, ⟨nd, rfl⟩⟩; (try first | exact ⟨rfl, _, World.drewN_drewN _ _ _⟩ | exact ⟨rfl, _, Eq.trans (World.drewN_drewN _ _ _) (congrArg (World.drewN _) (Nat.add_assoc _ _ _))⟩))); try go_wp2_with (first | (go_at_call 24; (with_reducible refine (laws_numberOf.calls kj90 _ _ l0 t211 _ ?side1 ?side2 A97.out).mono ?_); (case side1 => repeat (first | exact (Kd.C_below HR0.out HB.out) | (with_reducible refine Kd.C_alloc ?_ _) | (with_reducible refine Kd.C_drewN ?_ _) | (with_reducible refine Kd.C_drew ?_))); (case side2 => exact HC0.out); rintro e w' ⟨rfl, ⟨nd, rfl⟩⟩; (try first | exact ⟨rfl, _, World.drewN_drewN _ _ _⟩ | exact ⟨rfl, _, Eq.trans (World.drewN_drewN _ _ _) (congrArg (World.drewN _) (Nat.add_assoc _ _ _))⟩)) | (go_at_call 23; (with_reducible refine (impl_RotateText.calls t205 (Int.tmod t211 (t205.size : Int)) t212 true _ A99.out).mono ?_); rintro e w104 ⟨rfl, hb⟩; have n0_ := Aside0.mk (below_step (by repeat (first | (with_reducible first | exact HB.out | apply below_alloc | apply pw_below_drewN | apply below_drew1) | exact HB.out)) hb); clear HB; have HB := n0_; clear n0_; (try clear hb); (try clear hb2); (try clear hk); (try clear hi)) | (go_at_call 33; (with_reducible refine (impl_CountPattern.calls kj90 t212 t206 t214 false _ A100.out).mono ?_); rintro e w' ⟨rfl, ⟨nd, rfl⟩⟩; (try first | exact ⟨rfl, _, World.drewN_drewN _ _ _⟩ | exact ⟨rfl, _, Eq.trans (World.drewN_drewN _ _ _) (congrArg (World.drewN _) (Nat.add_assoc _ _ _))⟩))))
                                  go_ret
                                  exact ⟨by first | rfl | (simp [errW_none, errW_some] <;> rfl) | (simp [*, errW_none, errW_some] <;> rfl), by repeat (first | (with_reducible first | exact HB.out | apply below_alloc | apply pw_below_drewN | apply below_drew1) | exact HB.out)⟩
                              · replace c101 := Bool.eq_false_iff.mpr c101
                                subst c101
                                have H1 : (some false) = some r := by rw [if_neg (show ¬ (false = true) by decide)] at H; exact H
                                clear H
                                have H := H1
                                clear H1
                                obtain rfl := Option.some.inj H
                                go_wp2_with (first | (go_at_call 24; (with_reducible refine (laws_numberOf.calls kj90 _ _ l0 t211 _ ?side1 ?side2 A97.out).mono ?_); (case side1 => repeat (first | exact (Kd.C_below HR0.out HB.out) | (with_reducible refine Kd.C_alloc ?_ _) | (with_reducible refine Kd.C_drewN ?_ _) | (with_reducible refine Kd.C_drew ?_))); (case side2 => exact HC0.out); rintro e w' ⟨rfl, ⟨nd, rfl⟩⟩; (try first | exact ⟨rfl, _, World.drewN_drewN _ _ _⟩ | exact ⟨rfl, _, Eq.trans (World.drewN_drewN _ _ _) (congrArg (World.drewN _) (Nat.add_assoc _ _ _))⟩)) | (go_at_call 23; (with_reducible refine (impl_RotateText.calls t205 (Int.tmod t211 (t205.size : Int)) t212 false _ A99.out).mono ?_); rintro e w105 ⟨rfl, hb⟩; have n0_ := Aside0.mk (below_step (by repeat (first | (with_reducible first | exact HB.out | apply below_alloc | apply pw_below_drewN | apply below_drew1) | exact HB.out)) hb); clear HB; have HB := n0_; clear n0_; (try clear hb); (try clear hb2); (try clear hk); (try clear hi)) | (go_at_call 33; (with_reducible refine (impl_CountPattern.calls kj90 t212 t206 t214 t215 _ A100.out).mono ?_); rintro e w' ⟨rfl, ⟨nd, rfl⟩⟩; (try first | exact ⟨rfl, _, World.drewN_drewN _ _ _⟩ | exact ⟨rfl, _, Eq.trans (World.drewN_drewN _ _ _) (congrArg (World.drewN _) (Nat.add_assoc _ _ _))⟩)))
                                repeat (go_quiet (first | (go_at_call 24; (with_reducible refine (laws_numberOf.calls kj90 _ _ l0 t211 _ ?side1 ?side2 A97.out).mono ?_); (case side1 => repeat (first | exact (Kd.C_below HR0.out HB.out) | (with_reducible refine Kd.C_alloc ?_ _) | (with_reducible refine Kd.C_drewN ?_ _) | (with_reducible refine Kd.C_drew ?_))); (case side2 => exact HC0.out); rintro e w' ⟨rfl, ⟨nd, rfl⟩⟩; (try first | exact ⟨rfl, _, World.drewN_drewN _ _ _⟩ | exact ⟨rfl, _, Eq.trans (World.drewN_drewN _ _ _) (congrArg (World.drewN _) (Nat.add_assoc _ _ _))⟩)) | (go_at_call 23; (with_reducible refine (impl_RotateText.calls t205 (Int.tmod t211 (t205.size : Int)) t212 false _ A99.out).mono ?_); rintro e w105 ⟨rfl, hb⟩; have n0_ := Aside0.mk (below_step (by repeat (first | (with_reducible first | exact HB.out | apply below_alloc | apply pw_below_drewN | apply below_drew1) | exact HB.out)) hb); clear HB; have HB := n0_; clear n0_; (try clear hb); (try clear hb2); (try clear hk); (try clear hi)) | (go_at_call 33; (with_reducible refine (impl_CountPattern.calls kj90 t212 t206 t214 t215 _ A100.out).mono ?_); rintro e w' ⟨rfl, ⟨nd, rfl⟩⟩; (try first | exact ⟨rfl, _, World.drewN_drewN _ _ _⟩ | exact ⟨rfl, _, Eq.trans (World.drewN_drewN _ _ _) (congrArg (World.drewN _) (Nat.add_assoc _ _ _))⟩))); try go_wp2_with (first | (go_at_call 24; (with_reducible refine (laws_numberOf.calls kj90 _ _ l0 t211 _ ?side1 ?side2 A97.out).mono ?_); (case side1 => repeat (first | exact (Kd.C_below HR0.out HB.out) | (with_reducible refine Kd.C_alloc ?_ _) | (with_reducible refine Kd.C_drewN ?_ _) | (with_reducible refine Kd.C_drew ?_))); (case side2 => exact HC0.out); rintro e w' ⟨rfl, ⟨nd, rfl⟩⟩; (try first | exact ⟨rfl, _, World.drewN_drewN _ _ _⟩ | exact ⟨rfl, _, Eq.trans (World.drewN_drewN _ _ _) (congrArg (World.drewN _) (Nat.add_assoc _ _ _))⟩)) | (go_at_call 23; (with_reducible refine (impl_RotateText.calls t205 (Int.tmod t211 (t205.size : Int)) t212 false _ A99.out).mono ?_); rintro e w105 ⟨rfl, hb⟩; have n0_ := Aside0.mk (below_step (by repeat (first | (with_reducible first | exact HB.out | apply below_alloc | apply pw_below_drewN | apply below_drew1) | exact HB.out)) hb); clear HB; have HB := n0_; clear n0_; (try clear hb); (try clear hb2); (try clear hk); (try clear hi)) | (go_at_call 33; (with_reducible refine (impl_CountPattern.calls kj90 t212 t206 t214 t215 _ A100.out).mono ?_); rintro e w' ⟨rfl, ⟨nd, rfl⟩⟩; (try first | exact ⟨rfl, _, World.drewN_drewN _ _ _⟩ | exact ⟨rfl, _, Eq.trans (World.drewN_drewN _ _ _) (congrArg (World.drewN _) (Nat.add_assoc _ _ _))⟩))))
                                go_ret
                                exact ⟨by first | rfl | (simp [errW_none, errW_some] <;> rfl) | (simp [*, errW_none, errW_some] <;> rfl), by repeat (first | (with_reducible first | exact HB.out | apply below_alloc | apply pw_below_drewN | apply below_drew1) | exact HB.out)⟩
                          · replace c96 := Bool.eq_false_iff.mpr c96
                            subst c96
                            have H1 : (some (t207 == 0)) = some r := by rw [if_neg (show ¬ (false = true) by decide)] at H; exact H
                            clear H
                            have H := H1
                            clear H1
                            obtain rfl := Option.some.inj H
                            go_wp2
                            repeat (go_quiet (fail); try go_wp2)
                            go_ret
                            exact ⟨by first | rfl | (simp [errW_none, errW_some] <;> rfl) | (simp [*, errW_none, errW_some] <;> rfl), by repeat (first | (with_reducible first | exact HB.out | apply below_alloc | apply pw_below_drewN | apply below_drew1) | exact HB.out)⟩

/-- THE ONE PURE STATEMENT of laws_FnColumns: yours. -/
def laws_FnColumns.Pure : Prop := ∀ (l0 : List Int) (l1 : List Int), l0.length ≤ maxLen → l0.length * 1 ≤ 140737488351232 → (∀ x ∈ l0, (Lit.int .u8 x).wf = true) → l1.length ≤ maxLen → l1.length * 1 ≤ 140737488351232 → (∀ x ∈ l1, (Lit.int .u8 x).wf = true) → ∃ k, laws_FnColumns.f k l0 l1 = some true
theorem laws_FnColumns.walk (P : laws_FnColumns.Pure) (a0 : Option Addr) (len0 cap0 : Nat) (z0 : List Int) (a1 : Option Addr) (len1 cap1 : Nat) (z1 : List Int) (w : World) (w0 : (a0 = none ∧ len0 = 0 ∧ cap0 = 0 ∧ z0 = []) ∨ ∃ x, a0 = some x ∧ len0 ≤ cap0 ∧ cap0 ≤ maxLen ∧ z0.length = cap0 ∧ (∀ i, i < z0.length → w.cell? (x.add i) = some (.int .u8 (z0.getD i 0))) ∧ ∀ n ∈ z0, (Lit.int .u8 n).wf = true) (y0 : len0 * 1 ≤ 140737488351232) (w1 : (a1 = none ∧ len1 = 0 ∧ cap1 = 0 ∧ z1 = []) ∨ ∃ x, a1 = some x ∧ len1 ≤ cap1 ∧ cap1 ≤ maxLen ∧ z1.length = cap1 ∧ (∀ i, i < z1.length → w.cell? (x.add i) = some (.int .u8 (z1.getD i 0))) ∧ ∀ n ∈ z1, (Lit.int .u8 n).wf = true) (y1 : len1 * 1 ≤ 140737488351232) :
    Calls Try.prog 9 #[.slice a0 len0 cap0, .slice a1 len1 cap1] w fun e w' => e = .returned (.bool true) ∧ Below w.heap.size w w' := by
  obtain ⟨l0, rfl, hr0, hm0, hw0, hc0⟩ := ReadsInt.ofRowC w0
  obtain ⟨l1, rfl, hr1, hm1, hw1, hc1⟩ := ReadsInt.ofRowC w1
  obtain ⟨k, h⟩ := P l0 l1 hm0 y0 hw0 hm1 y1 hw1
  refine (laws_FnColumns.calls k _ _ l0 _ _ l1 true w (Kd.C_of_reads (d := (0 : Int)) (h1 := fun _ => rfl) hr0) hc0 (Kd.C_of_reads (d := (0 : Int)) (h1 := fun _ => rfl) hr1) hc1 h).mono ?_
  rintro e w' ⟨rfl, hd⟩
  exact ⟨rfl, hd⟩

end Go.Proofs.Ythhcgepofldgaaa.PFnColumns
