/- A law's functions as plain Lean functions, each with the walk that shows that the code computes it: written by this session's program wip/tools/ppmake.py. -/
import Derived.Test.YtimajkahadhhhaaKZ
import Derived.Test.YtimajkahadhhhaaPFnExactSolveDropsx0
import Derived.Test.YtimajkahadhhhaaPFnExactSolveDropsx1
import Derived.Test.YtimajkahadhhhaaPFnExactSolveDropsx2
import Derived.Test.YtimajkahadhhhaaPFnExactSolveDropsx10
import Derived.Test.YtimajkahadhhhaaPFnExactSolveDropsx16
import Derived.Test.YtimajkahadhhhaaPFnExactSolveDropsx17
namespace Go.Proofs.Ytimajkahadhhhaa.PFnExactSolveDrops
open Go.RowKit Go.Proofs.YtimajkahadhhhaaW.PrintWords Go.Proofs.YtimajkahadhhhaaW.PrintLast Go.Proofs.YtimajkahadhhhaaW.PrintMore
attribute [local go_sem] max2_int min2_int max_two min_two max_three min_three max_four min_four   -- for this text's walks alone
set_option linter.unusedVariables false
set_option linter.unusedSimpArgs false

/-! ### laws_FnExactSolveDrops: function 5 -/
mutual
def laws_FnExactSolveDrops.j0 : Nat → List (S60) → Int → List ByteArray → Bool → List (S54) → List ByteArray → Bool → Bool → Option (Bool)
 | 0, _, _, _, _, _, _, _, _ => none
 | k + 1, x0, x1, x6, x7, x8, x9, x10, x44 => if x44 = true then (some false) else ((laws_toDropS.f k x0).bind fun t402 => ((laws_eqDropS.f k x8 t402).bind fun t405 => (if t405 = true then ((laws_markDropS.f k x8 1).bind fun bt406 => (if bt406.1 < 0 then (laws_FnExactSolveDrops.j1 k x0 x1 x6 x7 x9 true) else ((laws_eqStringS.f k x9 x6).bind fun t408 => (if t408 = true then (laws_FnExactSolveDrops.j1 k x0 x1 x6 x7 x9 (x10 != x7)) else (laws_FnExactSolveDrops.j1 k x0 x1 x6 x7 x9 true))))) else (some false))))
def laws_FnExactSolveDrops.j1 : Nat → List (S60) → Int → List ByteArray → Bool → List ByteArray → Bool → Option (Bool)
 | 0, _, _, _, _, _, _ => none
 | k + 1, x0, x1, x6, x7, x9, x65 => if x65 = true then (some false) else ((laws_markStringS.f k x9 1).bind fun bt409 => ((laws_heldStringS.f k bt409.2 1).bind fun t411 => (if t411 < 0 then (some false) else (if t411 = bt409.1 then ((laws_toDropS.f k x0).bind fun t412 => ((impl_SolveDrops.f k t412 x1).bind fun bt415 => ((laws_eqStringS.f k bt415.1 x6).bind fun t419 => (if t419 = true then (laws_FnExactSolveDrops.j2 k bt409.2 bt409.1 (bt415.2 != x7)) else (laws_FnExactSolveDrops.j2 k bt409.2 bt409.1 true))))) else (some false)))))
def laws_FnExactSolveDrops.j2 : Nat → List ByteArray → Int → Bool → Option (Bool)
 | 0, _, _, _ => none
 | k + 1, x9, x12, x92 => if x92 = true then (some false) else ((laws_heldStringS.f k x9 1).bind fun t420 => (if t420 < 0 then (some false) else (if t420 = x12 then (some true) else (some false))))
end
def laws_FnExactSolveDrops.f (k : Nat) (l0 : List (S60)) (a1 : Int) : Option (Bool) := (laws_szDropS.f k l0 1048576).bind fun t386 => (if t386 < 0 then (some true) else ((laws_toDropS.f k l0).bind fun t387 => ((spec_SolveDrops.f k t387 a1).bind fun bt390 => ((laws_toDropS.f k l0).bind fun t394 => ((impl_SolveDrops.f k t394 a1).bind fun bt397 => ((laws_eqStringS.f k bt397.1 bt390.1).bind fun t401 => (if t401 = true then (laws_FnExactSolveDrops.j0 k l0 a1 bt390.1 bt390.2 t394 bt397.1 bt397.2 (bt397.2 != bt390.2)) else (laws_FnExactSolveDrops.j0 k l0 a1 bt390.1 bt390.2 t394 bt397.1 bt397.2 true))))))))
theorem laws_FnExactSolveDrops.mono_l : ∀ k, (∀ y0 y1 y2 y3 y4 y5 y6 y7, LeO (laws_FnExactSolveDrops.j0 k y0 y1 y2 y3 y4 y5 y6 y7) (laws_FnExactSolveDrops.j0 (k + 1) y0 y1 y2 y3 y4 y5 y6 y7)) ∧ (∀ y0 y1 y2 y3 y4 y5, LeO (laws_FnExactSolveDrops.j1 k y0 y1 y2 y3 y4 y5) (laws_FnExactSolveDrops.j1 (k + 1) y0 y1 y2 y3 y4 y5)) ∧ (∀ y0 y1 y2, LeO (laws_FnExactSolveDrops.j2 k y0 y1 y2) (laws_FnExactSolveDrops.j2 (k + 1) y0 y1 y2))
 | 0 => ⟨fun _ _ _ _ _ _ _ _ r h => by simp [laws_FnExactSolveDrops.j0] at h, fun _ _ _ _ _ _ r h => by simp [laws_FnExactSolveDrops.j1] at h, fun _ _ _ r h => by simp [laws_FnExactSolveDrops.j2] at h⟩
 | k + 1 => by
  obtain ⟨ih0, ih1, ih2⟩ := laws_FnExactSolveDrops.mono_l k
  refine ⟨?_, ?_, ?_⟩
  ·intro y0 y1 y2 y3 y4 y5 y6 y7
   unfold laws_FnExactSolveDrops.j0
   repeat' first
   | (with_reducible exact ih0 _ _ _ _ _ _ _ _)
   | (with_reducible exact ih1 _ _ _ _ _ _)
   | (with_reducible exact ih2 _ _ _)
   | (with_reducible exact impl_SolveDrops.mono _ _ _)
   | (with_reducible exact laws_eqDropS.mono _ _ _)
   | (with_reducible exact laws_eqStringS.mono _ _ _)
   | (with_reducible exact laws_heldStringS.mono _ _ _)
   | (with_reducible exact laws_markDropS.mono _ _ _)
   | (with_reducible exact laws_markStringS.mono _ _ _)
   | (with_reducible exact laws_szDropS.mono _ _ _)
   | (with_reducible exact laws_toDropS.mono _ _)
   | (with_reducible exact spec_SolveDrops.mono _ _ _)
   | (with_reducible exact LeO.refl _)
   | (with_reducible exact LeO.none _)
   | (with_reducible refine LeO.ite ?_ ?_)
   | (with_reducible refine LeO.bind ?_ (fun _ => ?_))
   | exact ih0 _ _ _ _ _ _ _ _
   | exact ih1 _ _ _ _ _ _
   | exact ih2 _ _ _
   | exact impl_SolveDrops.mono _ _ _
   | exact laws_eqDropS.mono _ _ _
   | exact laws_eqStringS.mono _ _ _
   | exact laws_heldStringS.mono _ _ _
   | exact laws_markDropS.mono _ _ _
   | exact laws_markStringS.mono _ _ _
   | exact laws_szDropS.mono _ _ _
   | exact laws_toDropS.mono _ _
   | exact spec_SolveDrops.mono _ _ _
   | exact LeO.none _
   | refine LeO.ite ?_ ?_
   | refine LeO.bind ?_ (fun _ => ?_)
  ·intro y0 y1 y2 y3 y4 y5
   unfold laws_FnExactSolveDrops.j1
   repeat' first
   | (with_reducible exact ih0 _ _ _ _ _ _ _ _)
   | (with_reducible exact ih1 _ _ _ _ _ _)
   | (with_reducible exact ih2 _ _ _)
   | (with_reducible exact impl_SolveDrops.mono _ _ _)
   | (with_reducible exact laws_eqDropS.mono _ _ _)
   | (with_reducible exact laws_eqStringS.mono _ _ _)
   | (with_reducible exact laws_heldStringS.mono _ _ _)
   | (with_reducible exact laws_markDropS.mono _ _ _)
   | (with_reducible exact laws_markStringS.mono _ _ _)
   | (with_reducible exact laws_szDropS.mono _ _ _)
   | (with_reducible exact laws_toDropS.mono _ _)
   | (with_reducible exact spec_SolveDrops.mono _ _ _)
   | (with_reducible exact LeO.refl _)
   | (with_reducible exact LeO.none _)
   | (with_reducible refine LeO.ite ?_ ?_)
   | (with_reducible refine LeO.bind ?_ (fun _ => ?_))
   | exact ih0 _ _ _ _ _ _ _ _
   | exact ih1 _ _ _ _ _ _
   | exact ih2 _ _ _
   | exact impl_SolveDrops.mono _ _ _
   | exact laws_eqDropS.mono _ _ _
   | exact laws_eqStringS.mono _ _ _
   | exact laws_heldStringS.mono _ _ _
   | exact laws_markDropS.mono _ _ _
   | exact laws_markStringS.mono _ _ _
   | exact laws_szDropS.mono _ _ _
   | exact laws_toDropS.mono _ _
   | exact spec_SolveDrops.mono _ _ _
   | exact LeO.none _
   | refine LeO.ite ?_ ?_
   | refine LeO.bind ?_ (fun _ => ?_)
  ·intro y0 y1 y2
   unfold laws_FnExactSolveDrops.j2
   repeat' first | apply LeO.refl | apply LeO.none | apply LeO.ite | apply ih0 | apply ih1 | apply ih2 | apply impl_SolveDrops.mono | apply laws_eqDropS.mono | apply laws_eqStringS.mono | apply laws_heldStringS.mono | apply laws_markDropS.mono | apply laws_markStringS.mono | apply laws_szDropS.mono | apply laws_toDropS.mono | apply spec_SolveDrops.mono | (refine LeO.bind ?_ (fun _ => ?_))
theorem laws_FnExactSolveDrops.mono : ∀ a0 a1 k, LeO (laws_FnExactSolveDrops.f k a0 a1) (laws_FnExactSolveDrops.f (k + 1) a0 a1) := by
 intro a0 a1 k; obtain ⟨ih0, ih1, ih2⟩ := laws_FnExactSolveDrops.mono_l k
 unfold laws_FnExactSolveDrops.f
 repeat' first
   | (with_reducible exact ih0 _ _ _ _ _ _ _ _)
   | (with_reducible exact ih1 _ _ _ _ _ _)
   | (with_reducible exact ih2 _ _ _)
   | (with_reducible exact impl_SolveDrops.mono _ _ _)
   | (with_reducible exact laws_eqDropS.mono _ _ _)
   | (with_reducible exact laws_eqStringS.mono _ _ _)
   | (with_reducible exact laws_heldStringS.mono _ _ _)
   | (with_reducible exact laws_markDropS.mono _ _ _)
   | (with_reducible exact laws_markStringS.mono _ _ _)
   | (with_reducible exact laws_szDropS.mono _ _ _)
   | (with_reducible exact laws_toDropS.mono _ _)
   | (with_reducible exact spec_SolveDrops.mono _ _ _)
   | (with_reducible exact LeO.refl _)
   | (with_reducible exact LeO.none _)
   | (with_reducible refine LeO.ite ?_ ?_)
   | (with_reducible refine LeO.bind ?_ (fun _ => ?_))
   | exact ih0 _ _ _ _ _ _ _ _
   | exact ih1 _ _ _ _ _ _
   | exact ih2 _ _ _
   | exact impl_SolveDrops.mono _ _ _
   | exact laws_eqDropS.mono _ _ _
   | exact laws_eqStringS.mono _ _ _
   | exact laws_heldStringS.mono _ _ _
   | exact laws_markDropS.mono _ _ _
   | exact laws_markStringS.mono _ _ _
   | exact laws_szDropS.mono _ _ _
   | exact laws_toDropS.mono _ _
   | exact spec_SolveDrops.mono _ _ _
   | exact LeO.none _
   | refine LeO.ite ?_ ?_
   | refine LeO.bind ?_ (fun _ => ?_)
set_option maxHeartbeats 8000000 in
set_option maxRecDepth 100000 in
theorem laws_FnExactSolveDrops.calls (k : Nat) (A0 : Option Addr) (c0 : Nat) (l0 : List (S60)) (a1 : Int) (r : Bool) (w : World) (hr0 : Kd.C k60 w A0 l0.length l0) (hc0 : l0.length ≤ c0) (h : laws_FnExactSolveDrops.f k l0 a1 = some r) :
  Calls Try.prog 5 #[.slice A0 l0.length c0, .int .i64 a1] w fun e w' => e = .returned (.bool r) ∧ Below w.heap.size w w' := by
 have HR0 := am hr0; have HC0 := am hc0; clear hr0 hc0; have HB := am (Below.refl w.heap.size w); have H : ((laws_szDropS.f k l0 1048576).bind fun t386 => (if t386 < 0 then (some true) else ((laws_toDropS.f k l0).bind fun t387 => ((spec_SolveDrops.f k t387 a1).bind fun bt390 => ((laws_toDropS.f k l0).bind fun t394 => ((impl_SolveDrops.f k t394 a1).bind fun bt397 => ((laws_eqStringS.f k bt397.1 bt390.1).bind fun t401 => (if t401 = true then (laws_FnExactSolveDrops.j0 k l0 a1 bt390.1 bt390.2 t394 bt397.1 bt397.2 (bt397.2 != bt390.2)) else (laws_FnExactSolveDrops.j0 k l0 a1 bt390.1 bt390.2 t394 bt397.1 bt397.2 true))))))))) = some r := h; clear h; obtain ⟨t386, A3, H⟩ := bi_ H
 by_cases c4 : t386 < 0
 ·rw [if_pos c4] at H; have c4b0 := decide_eq_true c4; clear c4; obtain rfl := Option.some.inj H
  go_enter Try.func5, Try.ntmps5
  go_wp2_with (first | ((with_reducible refine gate_callee (f := 10) rfl ?_); refine goL_ (some 18) Try.func10 #[.slice A0 l0.length c0, .int .i64 1048576] ?_; (with_reducible refine (laws_szDropS.calls k _ _ l0 1048576 t386 _ ?side1 ?side2 A3.out).mono ?_); (case side1 => exact zC HR0.out); (case side2 => exact HC0.out); rintro e w5 ⟨rfl, hb⟩; refine ⟨_, rfl, ?_⟩; replace HB := am (below_step (zB HB.out) hb); (try clear hb); (try clear hb2); (try clear hk); (try clear hi)))
  go_ret
  exact ⟨rfl, zB HB.out⟩
 ·rw [if_neg c4] at H; have c4b0 := decide_eq_false c4; clear c4; obtain ⟨t387, A6, H⟩ := bi_ H; obtain ⟨⟨t390, t391⟩, A7, H⟩ := bi_ H; dsimp only at H; obtain ⟨t394, A8, H⟩ := bi_ H; obtain ⟨⟨t397, t398⟩, A9, H⟩ := bi_ H; dsimp only at H; have HC10 := am H; clear H
  go_enter Try.func5, Try.ntmps5
  go_upto_region 8 with (first | ((with_reducible refine gate_callee (f := 10) rfl ?_); refine goL_ (some 18) Try.func10 #[.slice A0 l0.length c0, .int .i64 1048576] ?_; (with_reducible refine (laws_szDropS.calls k _ _ l0 1048576 t386 _ ?side1 ?side2 A3.out).mono ?_); (case side1 => exact zC HR0.out); (case side2 => exact HC0.out); rintro e w11 ⟨rfl, hb⟩; refine ⟨_, rfl, ?_⟩; replace HB := am (below_step (zB HB.out) hb); (try clear hb); (try clear hb2); (try clear hk); (try clear hi)) | ((with_reducible refine gate_callee (f := 12) rfl ?_); refine goL_ (some 23) Try.func12 #[.slice A0 l0.length c0] ?_; (with_reducible refine (laws_toDropS.calls k _ _ l0 t387 _ ?side1 ?side2 A6.out).mono ?_); (case side1 => exact zC (Kd.C_below HR0.out HB.out)); (case side2 => exact HC0.out); rintro e w12 ⟨v388, rfl, ho0, hb⟩; refine ⟨_, rfl, ?_⟩; have HO389 := am (Kd.R_lower ho0 (zs_ HB.out)); replace HB := am (below_step (zB HB.out) hb); (try clear hb); (try clear ho0); obtain ⟨Ao13, co13, eo13⟩ := Kd.R_slice HO389.out; subst eo13) | ((with_reducible refine gate_callee (f := 23) rfl ?_); refine goL_ (some 25) Try.func23 #[.slice Ao13 t387.length co13, .int .i64 a1] ?_; (with_reducible refine (spec_SolveDrops.calls k _ _ t387 a1 t390 t391 _ ?side1 ?side2 A7.out).mono ?_); (case side1 => exact zC ((Kd.R_reads' HO389.out).2.2)); (case side2 => exact (Kd.R_reads' HO389.out).2.1); rintro e w14 ⟨v392, rfl, ho0, hb⟩; refine ⟨_, rfl, ?_⟩; replace HO389 := am (Kd.R_below (zR HO389.out) hb); have HO393 := am (Kd.R_lower ho0 (zs_ HB.out)); replace HB := am (below_step (zB HB.out) hb); (try clear hb); (try clear ho0)) | ((with_reducible refine gate_callee (f := 12) rfl ?_); refine goL_ (some 29) Try.func12 #[.slice A0 l0.length c0] ?_; (with_reducible refine (laws_toDropS.calls k _ _ l0 t394 _ ?side1 ?side2 A8.out).mono ?_); (case side1 => exact zC (Kd.C_below HR0.out HB.out)); (case side2 => exact HC0.out); rintro e w15 ⟨v395, rfl, ho0, hb⟩; refine ⟨_, rfl, ?_⟩; replace HO393 := am (Kd.R_below (zR HO393.out) hb); have HO396 := am (Kd.R_lower (Kd.R_new' ho0 (Kd.R_lt (zR HO389.out))) (zs_ HB.out)); replace HO389 := am (Kd.R_elder' (zR HO389.out) (Kd.R_base ho0) hb); replace HB := am (below_step (zB HB.out) hb); (try clear hb); (try clear ho0); obtain ⟨Ao16, co16, eo16⟩ := Kd.R_slice HO396.out; subst eo16) | ((with_reducible refine gate_callee (f := 24) rfl ?_); refine goL_ (some 33) Try.func24 #[.slice Ao16 t394.length co16, .int .i64 a1] ?_; (with_reducible refine (impl_SolveDrops.calls k _ _ t394 a1 t397 t398 _ ?side1 ?side2 A9.out).mono ?_); (case side1 => exact zC ((Kd.R_reads' HO396.out).2.2)); (case side2 => exact (Kd.R_reads' HO396.out).2.1); rintro e w17 ⟨v399, rfl, ho0, hb⟩; refine ⟨_, rfl, ?_⟩; replace HO389 := am (Kd.R_below (zR HO389.out) hb); replace HO396 := am (Kd.R_below (zR HO396.out) hb); have HO400 := am (Kd.R_lower (Kd.R_new' ho0 (Kd.R_lt (zR HO393.out))) (zs_ HB.out)); replace HO393 := am (Kd.R_elder' (zR HO393.out) (Kd.R_base ho0) hb); replace HB := am (below_step (zB HB.out) hb); (try clear hb); (try clear ho0)))
  (try simp only [Act.put, List.setIfInBounds_toArray, List.set_cons_zero, List.set_cons_succ])
  go_cut [44] (fun v44 wc => ∃ (kq : Nat) (x44_9 : Bool), v44 = .bool x44_9 ∧ Aside0 (laws_FnExactSolveDrops.j0 kq l0 a1 t390 t391 t394 t397 t398 x44_9 = some r) ∧ Aside0 (kq ≤ k) ∧ Aside0 (Kd.R Kd.string 9 wc w.heap.size (fun k_ => some k_ ≠ (v399 : Value).ownBlock) v392 t390) ∧ Aside0 (Kd.R k54 54 wc w.heap.size (fun _ => True) (.slice Ao16 t394.length co16) t394) ∧ Aside0 (Kd.R Kd.string 9 wc w.heap.size (fun k_ => some k_ ≠ (v392 : Value).ownBlock) v399 t397) ∧ Aside0 (Below w.heap.size w wc))
  case first =>
   have H := HC10.out; clear HC10; obtain ⟨t401, A18, H⟩ := bi_ H
   by_cases c19 : t401 = true
   ·subst c19
    have H1 : (laws_FnExactSolveDrops.j0 k l0 a1 t390 t391 t394 t397 t398 (t398 != t391)) = some r := by rw [if_pos rfl] at H; exact H
    clear H; have H := H1; clear H1; have H' := am H; clear H; obtain ⟨Ao20, co20, eo20⟩ := Kd.R_slice HO400.out
    subst eo20
    obtain ⟨Ao21, co21, eo21⟩ := Kd.R_slice HO393.out
    subst eo21
    go_wp2_with (first | ((with_reducible refine gate_callee (f := 25) rfl ?_); refine goL_ (some 38) Try.func25 #[.slice Ao20 t397.length co20, .slice Ao21 t390.length co21] ?_; (with_reducible refine (laws_eqStringS.calls k _ _ t397 _ _ t390 true _ ?side1 ?side2 ?side3 ?side4 A18.out).mono ?_); (case side1 => exact zC ((Kd.R_reads' HO400.out).2.2)); (case side2 => exact (Kd.R_reads' HO400.out).2.1); (case side3 => exact zC ((Kd.R_reads' HO393.out).2.2)); (case side4 => exact (Kd.R_reads' HO393.out).2.1); rintro e w' ⟨rfl, ⟨nd, rfl⟩⟩; refine ⟨_, rfl, ?_⟩))
    go_meet
    case rel => exact ⟨_, ((t398 != t391)), rfl, H', ⟨by first | omega | exact Nat.le_refl _⟩, ⟨zR (Kd.R_mono HO393.out (fun _ hk => hk.2))⟩, ⟨zR (Kd.R_mono HO396.out (fun _ hk => trivial))⟩, ⟨zR (Kd.R_mono HO400.out (fun _ hk => hk.2))⟩, ⟨zB HB.out⟩⟩
   ·replace c19 := Bool.eq_false_iff.mpr c19
    subst c19
    have H1 : (laws_FnExactSolveDrops.j0 k l0 a1 t390 t391 t394 t397 t398 true) = some r := by rw [if_neg (show ¬ (false = true) by decide)] at H; exact H
    clear H; have H := H1; clear H1; have H' := am H; clear H; obtain ⟨Ao22, co22, eo22⟩ := Kd.R_slice HO400.out
    subst eo22
    obtain ⟨Ao23, co23, eo23⟩ := Kd.R_slice HO393.out
    subst eo23
    go_wp2_with (first | ((with_reducible refine gate_callee (f := 25) rfl ?_); refine goL_ (some 38) Try.func25 #[.slice Ao22 t397.length co22, .slice Ao23 t390.length co23] ?_; (with_reducible refine (laws_eqStringS.calls k _ _ t397 _ _ t390 false _ ?side1 ?side2 ?side3 ?side4 A18.out).mono ?_); (case side1 => exact zC ((Kd.R_reads' HO400.out).2.2)); (case side2 => exact (Kd.R_reads' HO400.out).2.1); (case side3 => exact zC ((Kd.R_reads' HO393.out).2.2)); (case side4 => exact (Kd.R_reads' HO393.out).2.1); rintro e w' ⟨rfl, ⟨nd, rfl⟩⟩; refine ⟨_, rfl, ?_⟩))
    go_meet
    case rel => exact ⟨_, (true), rfl, H', ⟨by first | omega | exact Nat.le_refl _⟩, ⟨zR (Kd.R_mono HO393.out (fun _ hk => hk.2))⟩, ⟨zR (Kd.R_mono HO396.out (fun _ hk => trivial))⟩, ⟨zR (Kd.R_mono HO400.out (fun _ hk => hk.2))⟩, ⟨zB HB.out⟩⟩
  case rest =>
   clear HC10; obtain ⟨kq, x44_9, rfl, HA, HJ9, HO_6, HO_8, HO_9, HB⟩ := hcut
   cases kq with
   | zero => exact absurd HA.out (by simp [laws_FnExactSolveDrops.j0])
   | succ kj9 =>
    have H := HA.out; clear HA
    simp only [laws_FnExactSolveDrops.j0] at H
    by_cases c24 : x44_9 = true
    ·subst c24
     have H1 : (some false) = some r := by rw [if_pos rfl] at H; exact H
     clear H; have H := H1; clear H1; obtain rfl := Option.some.inj H
     go_wp2
     go_ret
     exact ⟨rfl, zB HB.out⟩
    ·replace c24 := Bool.eq_false_iff.mpr c24
     subst c24
     have H1 : ((laws_toDropS.f kj9 l0).bind fun t402 => ((laws_eqDropS.f kj9 t394 t402).bind fun t405 => (if t405 = true then ((laws_markDropS.f kj9 t394 1).bind fun bt406 => (if bt406.1 < 0 then (laws_FnExactSolveDrops.j1 kj9 l0 a1 t390 t391 t397 true) else ((laws_eqStringS.f kj9 t397 t390).bind fun t408 => (if t408 = true then (laws_FnExactSolveDrops.j1 kj9 l0 a1 t390 t391 t397 (t398 != t391)) else (laws_FnExactSolveDrops.j1 kj9 l0 a1 t390 t391 t397 true))))) else (some false)))) = some r := by rw [if_neg (show ¬ (false = true) by decide)] at H; exact H
     clear H; have H := H1; clear H1; obtain ⟨t402, A25, H⟩ := bi_ H; obtain ⟨t405, A26, H⟩ := bi_ H
     by_cases c27 : t405 = true
     ·subst c27
      have H1 : ((laws_markDropS.f kj9 t394 1).bind fun bt406 => (if bt406.1 < 0 then (laws_FnExactSolveDrops.j1 kj9 l0 a1 t390 t391 t397 true) else ((laws_eqStringS.f kj9 t397 t390).bind fun t408 => (if t408 = true then (laws_FnExactSolveDrops.j1 kj9 l0 a1 t390 t391 t397 (t398 != t391)) else (laws_FnExactSolveDrops.j1 kj9 l0 a1 t390 t391 t397 true))))) = some r := by rw [if_pos rfl] at H; exact H
      clear H; have H := H1; clear H1; obtain ⟨⟨t406, t407⟩, A28, H⟩ := bi_ H; dsimp only at H; have HC29 := am H; clear H
      go_upto_region 14 with (first | ((with_reducible refine gate_callee (f := 12) rfl ?_); refine goL_ (some 47) Try.func12 #[.slice A0 l0.length c0] ?_; (with_reducible refine (laws_toDropS.calls kj9 _ _ l0 t402 _ ?side1 ?side2 A25.out).mono ?_); (case side1 => exact zC (Kd.C_below HR0.out HB.out)); (case side2 => exact HC0.out); rintro e w30 ⟨v403, rfl, ho0, hb⟩; refine ⟨_, rfl, ?_⟩; replace HO_6 := am (Kd.R_below (zR HO_6.out) hb); replace HO_9 := am (Kd.R_below (zR HO_9.out) hb); have HO404 := am (Kd.R_lower (Kd.R_new' ho0 (Kd.R_lt (zR HO_8.out))) (zs_ HB.out)); replace HO_8 := am (Kd.R_elder' (zR HO_8.out) (Kd.R_base ho0) hb); replace HB := am (below_step (zB HB.out) hb); (try clear hb); (try clear ho0); obtain ⟨Ao31, co31, eo31⟩ := Kd.R_slice HO404.out; subst eo31) | ((with_reducible refine gate_callee (f := 14) rfl ?_); refine goL_ (some 48) Try.func14 #[.slice Ao16 t394.length co16, .slice Ao31 t402.length co31] ?_; (with_reducible refine (laws_eqDropS.calls kj9 _ _ t394 _ _ t402 true _ ?side1 ?side2 ?side3 ?side4 A26.out).mono ?_); (case side1 => exact zC ((Kd.R_reads' HO_8.out).2.2)); (case side2 => exact (Kd.R_reads' HO_8.out).2.1); (case side3 => exact zC ((Kd.R_reads' HO404.out).2.2)); (case side4 => exact (Kd.R_reads' HO404.out).2.1); rintro e w32 ⟨rfl, hb⟩; refine ⟨_, rfl, ?_⟩; replace HO_6 := am (Kd.R_below (zR HO_6.out) hb); replace HO_8 := am (Kd.R_below (zR HO_8.out) hb); replace HO_9 := am (Kd.R_below (zR HO_9.out) hb); replace HO404 := am (Kd.R_below (zR HO404.out) hb); replace HB := am (below_step (zB HB.out) hb); (try clear hb); (try clear hb2); (try clear hk); (try clear hi)) | ((with_reducible refine gate_callee (f := 20) rfl ?_); refine goL_ (some 52) Try.func20 #[.slice Ao16 t394.length co16, .int .i64 1] ?_; (with_reducible refine (laws_markDropS.calls kj9 (fun k_ => some k_ = (.slice Ao16 t394.length co16 : Value).ownBlock) (.slice Ao16 t394.length co16) t394 1 t406 t407 w _ ?side1 ?side2 A28.out).mono ?_); (case side1 => repeat (first | (with_reducible first | exact HB.out | apply below_alloc | apply pw_below_drewN | apply below_drew1) | exact HB.out)); (case side2 => exact Kd.R_tight rfl HO_8.out); rintro e w33 ⟨rfl, hy0, hb, hkp⟩; refine ⟨_, rfl, ?_⟩; replace HO_6 := am (Kd.R_mono (ok' := fun k_ => some k_ ≠ (v399 : Value).ownBlock) (Kd.R_keptB ((Kd.R_apart' HO_6.out (Kd.R_typed HO_8.out) (by decide))) hkp (fun k_ hk_ hs_ => (hk_.2) hs_)) (fun k_ hk_ => hk_.1.1)); replace HO_9 := am (Kd.R_mono (ok' := fun k_ => some k_ ≠ (v392 : Value).ownBlock) (Kd.R_keptB ((Kd.R_apart' HO_9.out (Kd.R_typed HO_8.out) (by decide))) hkp (fun k_ hk_ hs_ => (hk_.2) hs_)) (fun k_ hk_ => hk_.1.1)); replace HO_8 := am (Kd.R_reok rfl hy0 (fun k_ e_ => HO_8.out.1 k_ e_)); replace HO404 := am (Kd.R_mono (ok' := fun k_ => some k_ ≠ (.slice Ao16 t394.length co16 : Value).ownBlock) (Kd.R_keptB (HO404.out) hkp (fun k_ hk_ hs_ => (hk_.2) hs_)) (fun k_ hk_ => hk_.1.2)); replace HB := am (hb); (try clear hb); (try clear hkp); (try clear hy0)))
      (try simp only [Act.put, List.setIfInBounds_toArray, List.set_cons_zero, List.set_cons_succ])
      go_cut [65] (fun v65 wc => ∃ (kq : Nat) (x65_28 : Bool), v65 = .bool x65_28 ∧ Aside0 (laws_FnExactSolveDrops.j1 kq l0 a1 t390 t391 t397 x65_28 = some r) ∧ Aside0 (kq ≤ kj9) ∧ Aside0 (Kd.R Kd.string 9 wc w.heap.size (fun k_ => some k_ ≠ (v399 : Value).ownBlock) v392 t390) ∧ Aside0 (Kd.R Kd.string 9 wc w.heap.size (fun k_ => some k_ ≠ (v392 : Value).ownBlock) v399 t397) ∧ Aside0 (Below w.heap.size w wc))
      case first =>
       have H := HC29.out; clear HC29
       by_cases c34 : t406 < 0
       ·rw [if_pos c34] at H; have c34b0 := decide_eq_true c34; clear c34
        (first | rw [c34b0] | (simp only [i64_w, i32_w]; rw [c34b0]) | skip)
        have H' := am H; clear H
        go_wp2
        go_meet
        case rel => exact ⟨_, (true), rfl, H', ⟨by have := HJ9.out; first | omega | exact Nat.le_refl _⟩, ⟨zR HO_6.out⟩, ⟨zR HO_9.out⟩, ⟨zB HB.out⟩⟩
       ·rw [if_neg c34] at H; have c34b0 := decide_eq_false c34; clear c34
        (first | rw [c34b0] | (simp only [i64_w, i32_w]; rw [c34b0]) | skip)
        obtain ⟨t408, A35, H⟩ := bi_ H
        by_cases c36 : t408 = true
        ·subst c36
         have H1 : (laws_FnExactSolveDrops.j1 kj9 l0 a1 t390 t391 t397 (t398 != t391)) = some r := by rw [if_pos rfl] at H; exact H
         clear H; have H := H1; clear H1; have H' := am H; clear H; obtain ⟨Ao37, co37, eo37⟩ := Kd.R_slice HO_9.out
         subst eo37
         obtain ⟨Ao38, co38, eo38⟩ := Kd.R_slice HO_6.out
         subst eo38
         go_wp2_with (first | (go_at_call 25; (with_reducible refine (laws_eqStringS.calls kj9 _ _ t397 _ _ t390 true _ ?side1 ?side2 ?side3 ?side4 A35.out).mono ?_); (case side1 => exact zC ((Kd.R_reads' HO_9.out).2.2)); (case side2 => exact (Kd.R_reads' HO_9.out).2.1); (case side3 => exact zC ((Kd.R_reads' HO_6.out).2.2)); (case side4 => exact (Kd.R_reads' HO_6.out).2.1); rintro e w' ⟨rfl, ⟨nd, rfl⟩⟩))
         go_meet
         case rel => exact ⟨_, ((t398 != t391)), rfl, H', ⟨by have := HJ9.out; first | omega | exact Nat.le_refl _⟩, ⟨zR HO_6.out⟩, ⟨zR HO_9.out⟩, ⟨zB HB.out⟩⟩
        ·replace c36 := Bool.eq_false_iff.mpr c36
         subst c36
         have H1 : (laws_FnExactSolveDrops.j1 kj9 l0 a1 t390 t391 t397 true) = some r := by rw [if_neg (show ¬ (false = true) by decide)] at H; exact H
         clear H; have H := H1; clear H1; have H' := am H; clear H; obtain ⟨Ao39, co39, eo39⟩ := Kd.R_slice HO_9.out
         subst eo39
         obtain ⟨Ao40, co40, eo40⟩ := Kd.R_slice HO_6.out
         subst eo40
         go_wp2_with (first | (go_at_call 25; (with_reducible refine (laws_eqStringS.calls kj9 _ _ t397 _ _ t390 false _ ?side1 ?side2 ?side3 ?side4 A35.out).mono ?_); (case side1 => exact zC ((Kd.R_reads' HO_9.out).2.2)); (case side2 => exact (Kd.R_reads' HO_9.out).2.1); (case side3 => exact zC ((Kd.R_reads' HO_6.out).2.2)); (case side4 => exact (Kd.R_reads' HO_6.out).2.1); rintro e w' ⟨rfl, ⟨nd, rfl⟩⟩))
         go_meet
         case rel => exact ⟨_, (true), rfl, H', ⟨by have := HJ9.out; first | omega | exact Nat.le_refl _⟩, ⟨zR HO_6.out⟩, ⟨zR HO_9.out⟩, ⟨zB HB.out⟩⟩
      case rest =>
       clear HC29; obtain ⟨kq, x65_28, rfl, HA, HJ28, HO_6, HO_9, HB⟩ := hcut
       cases kq with
       | zero => exact absurd HA.out (by simp [laws_FnExactSolveDrops.j1])
       | succ kj28 =>
        have H := HA.out; clear HA
        simp only [laws_FnExactSolveDrops.j1] at H
        by_cases c41 : x65_28 = true
        ·subst c41
         have H1 : (some false) = some r := by rw [if_pos rfl] at H; exact H
         clear H; have H := H1; clear H1; obtain rfl := Option.some.inj H
         go_wp2
         go_ret
         exact ⟨rfl, zB HB.out⟩
        ·replace c41 := Bool.eq_false_iff.mpr c41
         subst c41
         have H1 : ((laws_markStringS.f kj28 t397 1).bind fun bt409 => ((laws_heldStringS.f kj28 bt409.2 1).bind fun t411 => (if t411 < 0 then (some false) else (if t411 = bt409.1 then ((laws_toDropS.f kj28 l0).bind fun t412 => ((impl_SolveDrops.f kj28 t412 a1).bind fun bt415 => ((laws_eqStringS.f kj28 bt415.1 t390).bind fun t419 => (if t419 = true then (laws_FnExactSolveDrops.j2 kj28 bt409.2 bt409.1 (bt415.2 != t391)) else (laws_FnExactSolveDrops.j2 kj28 bt409.2 bt409.1 true))))) else (some false))))) = some r := by rw [if_neg (show ¬ (false = true) by decide)] at H; exact H
         clear H; have H := H1; clear H1; obtain ⟨⟨t409, t410⟩, A42, H⟩ := bi_ H; dsimp only at H; obtain ⟨t411, A43, H⟩ := bi_ H
         by_cases c44 : t411 < 0
         ·rw [if_pos c44] at H; have c44b0 := decide_eq_true c44; clear c44; obtain rfl := Option.some.inj H; obtain ⟨Ao45, co45, eo45⟩ := Kd.R_slice HO_9.out
          subst eo45
          go_wp2_with (first | ((with_reducible refine gate_callee (f := 26) rfl ?_); refine goL_ (some 68) Try.func26 #[.slice Ao45 t397.length co45, .int .i64 1] ?_; (with_reducible refine (laws_markStringS.calls kj28 (fun k_ => some k_ = (.slice Ao45 t397.length co45 : Value).ownBlock) (.slice Ao45 t397.length co45) t397 1 t409 t410 w _ ?side1 ?side2 A42.out).mono ?_); (case side1 => repeat (first | (with_reducible first | exact HB.out | apply below_alloc | apply pw_below_drewN | apply below_drew1) | exact HB.out)); (case side2 => exact Kd.R_tight rfl HO_9.out); rintro e w46 ⟨rfl, hy0, hb, hkp⟩; refine ⟨_, rfl, ?_⟩; replace HO_6 := am (Kd.R_mono (ok' := fun k_ => some k_ ≠ (.slice Ao45 t397.length co45 : Value).ownBlock) (Kd.R_keptB (HO_6.out) hkp (fun k_ hk_ hs_ => (hk_) hs_)) (fun k_ hk_ => hk_.1)); replace HO_9 := am (Kd.R_reok rfl hy0 (fun k_ e_ => HO_9.out.1 k_ e_)); replace HB := am (hb); (try clear hb); (try clear hkp); (try clear hy0)) | ((with_reducible refine gate_callee (f := 27) rfl ?_); refine goesL_ (some 71) rfl rfl Try.func27 (by kernel_rfl) rfl #[.slice Ao45 t410.length co45, .int .i64 1] rfl (by (try simp only [List.map_toArray, List.map_cons, List.map_nil]); first | done | (rw [show t410.length = t397.length from (Kd.R_reads' HO_9.out).1.symm] <;> rfl) | rfl | (simp only [List.length_drop, List.length_take]; rfl)) ?_; (with_reducible refine (laws_heldStringS.calls kj28 _ _ t410 1 t411 _ ?side1 ?side2 A43.out).mono ?_); (case side1 => exact zC ((Kd.R_reads' HO_9.out).2.2)); (case side2 => rw [show t410.length = t397.length from (Kd.R_reads' HO_9.out).1.symm]; exact (Kd.R_reads' HO_9.out).2.1); rintro e w47 ⟨rfl, hb⟩; refine ⟨_, rfl, ?_⟩; replace HO_6 := am (Kd.R_below (zR HO_6.out) hb); replace HO_9 := am (Kd.R_below (zR HO_9.out) hb); replace HB := am (below_step (zB HB.out) hb); (try clear hb); (try clear hb2); (try clear hk); (try clear hi)))
          go_ret
          exact ⟨rfl, zB HB.out⟩
         ·rw [if_neg c44] at H; have c44b0 := decide_eq_false c44; clear c44
          by_cases c48 : t411 = t409
          ·rw [if_pos c48] at H; have c48b0 : (t411 == t409) = true := beq_iff_eq.mpr c48; have c48b1 : (t411 != t409) = false := bne_eq_false_iff_eq.mpr c48; clear c48; obtain ⟨t412, A49, H⟩ := bi_ H; obtain ⟨⟨t415, t416⟩, A50, H⟩ := bi_ H; dsimp only at H; have HC51 := am H; clear H; obtain ⟨Ao52, co52, eo52⟩ := Kd.R_slice HO_9.out
           subst eo52
           go_upto_region 25 with (first | ((with_reducible refine gate_callee (f := 26) rfl ?_); refine goL_ (some 68) Try.func26 #[.slice Ao52 t397.length co52, .int .i64 1] ?_; (with_reducible refine (laws_markStringS.calls kj28 (fun k_ => some k_ = (.slice Ao52 t397.length co52 : Value).ownBlock) (.slice Ao52 t397.length co52) t397 1 t409 t410 w _ ?side1 ?side2 A42.out).mono ?_); (case side1 => repeat (first | (with_reducible first | exact HB.out | apply below_alloc | apply pw_below_drewN | apply below_drew1) | exact HB.out)); (case side2 => exact Kd.R_tight rfl HO_9.out); rintro e w53 ⟨rfl, hy0, hb, hkp⟩; refine ⟨_, rfl, ?_⟩; replace HO_6 := am (Kd.R_mono (ok' := fun k_ => some k_ ≠ (.slice Ao52 t397.length co52 : Value).ownBlock) (Kd.R_keptB (HO_6.out) hkp (fun k_ hk_ hs_ => (hk_) hs_)) (fun k_ hk_ => hk_.1)); replace HO_9 := am (Kd.R_reok rfl hy0 (fun k_ e_ => HO_9.out.1 k_ e_)); replace HB := am (hb); (try clear hb); (try clear hkp); (try clear hy0)) | ((with_reducible refine gate_callee (f := 27) rfl ?_); refine goesL_ (some 71) rfl rfl Try.func27 (by kernel_rfl) rfl #[.slice Ao52 t410.length co52, .int .i64 1] rfl (by (try simp only [List.map_toArray, List.map_cons, List.map_nil]); first | done | (rw [show t410.length = t397.length from (Kd.R_reads' HO_9.out).1.symm] <;> rfl) | rfl | (simp only [List.length_drop, List.length_take]; rfl)) ?_; (with_reducible refine (laws_heldStringS.calls kj28 _ _ t410 1 t411 _ ?side1 ?side2 A43.out).mono ?_); (case side1 => exact zC ((Kd.R_reads' HO_9.out).2.2)); (case side2 => rw [show t410.length = t397.length from (Kd.R_reads' HO_9.out).1.symm]; exact (Kd.R_reads' HO_9.out).2.1); rintro e w54 ⟨rfl, hb⟩; refine ⟨_, rfl, ?_⟩; replace HO_6 := am (Kd.R_below (zR HO_6.out) hb); replace HO_9 := am (Kd.R_below (zR HO_9.out) hb); replace HB := am (below_step (zB HB.out) hb); (try clear hb); (try clear hb2); (try clear hk); (try clear hi)) | ((with_reducible refine gate_callee (f := 12) rfl ?_); refine goL_ (some 79) Try.func12 #[.slice A0 l0.length c0] ?_; (with_reducible refine (laws_toDropS.calls kj28 _ _ l0 t412 _ ?side1 ?side2 A49.out).mono ?_); (case side1 => exact zC (Kd.C_below HR0.out HB.out)); (case side2 => exact HC0.out); rintro e w55 ⟨v413, rfl, ho0, hb⟩; refine ⟨_, rfl, ?_⟩; replace HO_6 := am (Kd.R_below (zR HO_6.out) hb); replace HO_9 := am (Kd.R_below (zR HO_9.out) hb); have HO414 := am (Kd.R_lower ho0 (zs_ HB.out)); replace HB := am (below_step (zB HB.out) hb); (try clear hb); (try clear ho0); obtain ⟨Ao56, co56, eo56⟩ := Kd.R_slice HO414.out; subst eo56) | ((with_reducible refine gate_callee (f := 24) rfl ?_); refine goL_ (some 81) Try.func24 #[.slice Ao56 t412.length co56, .int .i64 a1] ?_; (with_reducible refine (impl_SolveDrops.calls kj28 _ _ t412 a1 t415 t416 _ ?side1 ?side2 A50.out).mono ?_); (case side1 => exact zC ((Kd.R_reads' HO414.out).2.2)); (case side2 => exact (Kd.R_reads' HO414.out).2.1); rintro e w57 ⟨v417, rfl, ho0, hb⟩; refine ⟨_, rfl, ?_⟩; replace HO414 := am (Kd.R_below (zR HO414.out) hb); have HO418 := am (Kd.R_lower (Kd.R_new' (Kd.R_new' ho0 (Kd.R_lt (zR HO_6.out))) (Kd.R_lt (zR HO_9.out))) (zs_ HB.out)); replace HO_6 := am (Kd.R_elder' (zR HO_6.out) (Kd.R_base ho0) hb); replace HO_9 := am (Kd.R_elder' (zR HO_9.out) (Kd.R_base ho0) hb); replace HB := am (below_step (zB HB.out) hb); (try clear hb); (try clear ho0)))
           (try simp only [Act.put, List.setIfInBounds_toArray, List.set_cons_zero, List.set_cons_succ])
           go_cut [92] (fun v92 wc => ∃ (kq : Nat) (x92_50 : Bool), v92 = .bool x92_50 ∧ Aside0 (laws_FnExactSolveDrops.j2 kq t410 t409 x92_50 = some r) ∧ Aside0 (kq ≤ kj28) ∧ Aside0 (Kd.R Kd.string 9 wc w.heap.size (fun _ => True) (.slice Ao52 t397.length co52) t410) ∧ Aside0 (Below w.heap.size w wc))
           case first =>
            have H := HC51.out; clear HC51; obtain ⟨t419, A58, H⟩ := bi_ H
            by_cases c59 : t419 = true
            ·subst c59
             have H1 : (laws_FnExactSolveDrops.j2 kj28 t410 t409 (t416 != t391)) = some r := by rw [if_pos rfl] at H; exact H
             clear H; have H := H1; clear H1; have H' := am H; clear H; obtain ⟨Ao60, co60, eo60⟩ := Kd.R_slice HO418.out
             subst eo60
             obtain ⟨Ao61, co61, eo61⟩ := Kd.R_slice HO_6.out
             subst eo61
             go_wp2_with (first | ((with_reducible refine gate_callee (f := 25) rfl ?_); refine goL_ (some 86) Try.func25 #[.slice Ao60 t415.length co60, .slice Ao61 t390.length co61] ?_; (with_reducible refine (laws_eqStringS.calls kj28 _ _ t415 _ _ t390 true _ ?side1 ?side2 ?side3 ?side4 A58.out).mono ?_); (case side1 => exact zC ((Kd.R_reads' HO418.out).2.2)); (case side2 => exact (Kd.R_reads' HO418.out).2.1); (case side3 => exact zC ((Kd.R_reads' HO_6.out).2.2)); (case side4 => exact (Kd.R_reads' HO_6.out).2.1); rintro e w' ⟨rfl, ⟨nd, rfl⟩⟩; refine ⟨_, rfl, ?_⟩))
             go_meet
             case rel => exact ⟨_, ((t416 != t391)), rfl, H', ⟨by have := HJ9.out; have := HJ28.out; first | omega | exact Nat.le_refl _⟩, ⟨zR (Kd.R_mono HO_9.out (fun _ hk => trivial))⟩, ⟨zB HB.out⟩⟩
            ·replace c59 := Bool.eq_false_iff.mpr c59
             subst c59
             have H1 : (laws_FnExactSolveDrops.j2 kj28 t410 t409 true) = some r := by rw [if_neg (show ¬ (false = true) by decide)] at H; exact H
             clear H; have H := H1; clear H1; have H' := am H; clear H; obtain ⟨Ao62, co62, eo62⟩ := Kd.R_slice HO418.out
             subst eo62
             obtain ⟨Ao63, co63, eo63⟩ := Kd.R_slice HO_6.out
             subst eo63
             go_wp2_with (first | ((with_reducible refine gate_callee (f := 25) rfl ?_); refine goL_ (some 86) Try.func25 #[.slice Ao62 t415.length co62, .slice Ao63 t390.length co63] ?_; (with_reducible refine (laws_eqStringS.calls kj28 _ _ t415 _ _ t390 false _ ?side1 ?side2 ?side3 ?side4 A58.out).mono ?_); (case side1 => exact zC ((Kd.R_reads' HO418.out).2.2)); (case side2 => exact (Kd.R_reads' HO418.out).2.1); (case side3 => exact zC ((Kd.R_reads' HO_6.out).2.2)); (case side4 => exact (Kd.R_reads' HO_6.out).2.1); rintro e w' ⟨rfl, ⟨nd, rfl⟩⟩; refine ⟨_, rfl, ?_⟩))
             go_meet
             case rel => exact ⟨_, (true), rfl, H', ⟨by have := HJ9.out; have := HJ28.out; first | omega | exact Nat.le_refl _⟩, ⟨zR (Kd.R_mono HO_9.out (fun _ hk => trivial))⟩, ⟨zB HB.out⟩⟩
           case rest =>
            clear HC51; obtain ⟨kq, x92_50, rfl, HA, HJ50, HO_9, HB⟩ := hcut; have hl9_50 := (Kd.R_reads' HO_9.out).1; rw [hl9_50] at HO_9
            (try simp only [hl9_50])
            cases kq with
            | zero => exact absurd HA.out (by simp [laws_FnExactSolveDrops.j2])
            | succ kj50 =>
             have H := HA.out; clear HA
             simp only [laws_FnExactSolveDrops.j2] at H
             by_cases c64 : x92_50 = true
             ·subst c64
              have H1 : (some false) = some r := by rw [if_pos rfl] at H; exact H
              clear H; have H := H1; clear H1; obtain rfl := Option.some.inj H
              go_wp2
              go_ret
              exact ⟨rfl, zB HB.out⟩
             ·replace c64 := Bool.eq_false_iff.mpr c64
              subst c64
              have H1 : ((laws_heldStringS.f kj50 t410 1).bind fun t420 => (if t420 < 0 then (some false) else (if t420 = t409 then (some true) else (some false)))) = some r := by rw [if_neg (show ¬ (false = true) by decide)] at H; exact H
              clear H; have H := H1; clear H1; obtain ⟨t420, A65, H⟩ := bi_ H
              by_cases c66 : t420 < 0
              ·rw [if_pos c66] at H; have c66b0 := decide_eq_true c66; clear c66; obtain rfl := Option.some.inj H
               go_wp2_with (first | ((with_reducible refine gate_callee (f := 27) rfl ?_); refine goL_ (some 95) Try.func27 #[.slice Ao52 t410.length co52, .int .i64 1] ?_; (with_reducible refine (laws_heldStringS.calls kj50 _ _ t410 1 t420 _ ?side1 ?side2 A65.out).mono ?_); (case side1 => exact zC ((Kd.R_reads' HO_9.out).2.2)); (case side2 => exact (Kd.R_reads' HO_9.out).2.1); rintro e w67 ⟨rfl, hb⟩; refine ⟨_, rfl, ?_⟩; replace HO_9 := am (Kd.R_below (zR HO_9.out) hb); replace HB := am (below_step (zB HB.out) hb); (try clear hb); (try clear hb2); (try clear hk); (try clear hi)))
               go_ret
               exact ⟨rfl, zB HB.out⟩
              ·rw [if_neg c66] at H; have c66b0 := decide_eq_false c66; clear c66
               by_cases c68 : t420 = t409
               ·rw [if_pos c68] at H; have c68b0 : (t420 == t409) = true := beq_iff_eq.mpr c68; have c68b1 : (t420 != t409) = false := bne_eq_false_iff_eq.mpr c68; clear c68; obtain rfl := Option.some.inj H
                go_wp2_with (first | ((with_reducible refine gate_callee (f := 27) rfl ?_); refine goL_ (some 95) Try.func27 #[.slice Ao52 t410.length co52, .int .i64 1] ?_; (with_reducible refine (laws_heldStringS.calls kj50 _ _ t410 1 t420 _ ?side1 ?side2 A65.out).mono ?_); (case side1 => exact zC ((Kd.R_reads' HO_9.out).2.2)); (case side2 => exact (Kd.R_reads' HO_9.out).2.1); rintro e w69 ⟨rfl, hb⟩; refine ⟨_, rfl, ?_⟩; replace HO_9 := am (Kd.R_below (zR HO_9.out) hb); replace HB := am (below_step (zB HB.out) hb); (try clear hb); (try clear hb2); (try clear hk); (try clear hi)))
                go_ret
                exact ⟨rfl, zB HB.out⟩
               ·rw [if_neg c68] at H; have c68b0 : (t420 == t409) = false := beq_eq_false_iff_ne.mpr c68; have c68b1 : (t420 != t409) = true := bne_iff_ne.mpr c68; obtain rfl := Option.some.inj H
                go_wp2_with (first | ((with_reducible refine gate_callee (f := 27) rfl ?_); refine goL_ (some 95) Try.func27 #[.slice Ao52 t410.length co52, .int .i64 1] ?_; (with_reducible refine (laws_heldStringS.calls kj50 _ _ t410 1 t420 _ ?side1 ?side2 A65.out).mono ?_); (case side1 => exact zC ((Kd.R_reads' HO_9.out).2.2)); (case side2 => exact (Kd.R_reads' HO_9.out).2.1); rintro e w70 ⟨rfl, hb⟩; refine ⟨_, rfl, ?_⟩; replace HO_9 := am (Kd.R_below (zR HO_9.out) hb); replace HB := am (below_step (zB HB.out) hb); (try clear hb); (try clear hb2); (try clear hk); (try clear hi)))
                go_ret
                exact ⟨rfl, zB HB.out⟩
          ·rw [if_neg c48] at H; have c48b0 : (t411 == t409) = false := beq_eq_false_iff_ne.mpr c48; have c48b1 : (t411 != t409) = true := bne_iff_ne.mpr c48; obtain rfl := Option.some.inj H; obtain ⟨Ao71, co71, eo71⟩ := Kd.R_slice HO_9.out
           subst eo71
           go_wp2_with (first | ((with_reducible refine gate_callee (f := 26) rfl ?_); refine goL_ (some 68) Try.func26 #[.slice Ao71 t397.length co71, .int .i64 1] ?_; (with_reducible refine (laws_markStringS.calls kj28 (fun k_ => some k_ = (.slice Ao71 t397.length co71 : Value).ownBlock) (.slice Ao71 t397.length co71) t397 1 t409 t410 w _ ?side1 ?side2 A42.out).mono ?_); (case side1 => repeat (first | (with_reducible first | exact HB.out | apply below_alloc | apply pw_below_drewN | apply below_drew1) | exact HB.out)); (case side2 => exact Kd.R_tight rfl HO_9.out); rintro e w72 ⟨rfl, hy0, hb, hkp⟩; refine ⟨_, rfl, ?_⟩; replace HO_6 := am (Kd.R_mono (ok' := fun k_ => some k_ ≠ (.slice Ao71 t397.length co71 : Value).ownBlock) (Kd.R_keptB (HO_6.out) hkp (fun k_ hk_ hs_ => (hk_) hs_)) (fun k_ hk_ => hk_.1)); replace HO_9 := am (Kd.R_reok rfl hy0 (fun k_ e_ => HO_9.out.1 k_ e_)); replace HB := am (hb); (try clear hb); (try clear hkp); (try clear hy0)) | ((with_reducible refine gate_callee (f := 27) rfl ?_); refine goesL_ (some 71) rfl rfl Try.func27 (by kernel_rfl) rfl #[.slice Ao71 t410.length co71, .int .i64 1] rfl (by (try simp only [List.map_toArray, List.map_cons, List.map_nil]); first | done | (rw [show t410.length = t397.length from (Kd.R_reads' HO_9.out).1.symm] <;> rfl) | rfl | (simp only [List.length_drop, List.length_take]; rfl)) ?_; (with_reducible refine (laws_heldStringS.calls kj28 _ _ t410 1 t411 _ ?side1 ?side2 A43.out).mono ?_); (case side1 => exact zC ((Kd.R_reads' HO_9.out).2.2)); (case side2 => rw [show t410.length = t397.length from (Kd.R_reads' HO_9.out).1.symm]; exact (Kd.R_reads' HO_9.out).2.1); rintro e w73 ⟨rfl, hb⟩; refine ⟨_, rfl, ?_⟩; replace HO_6 := am (Kd.R_below (zR HO_6.out) hb); replace HO_9 := am (Kd.R_below (zR HO_9.out) hb); replace HB := am (below_step (zB HB.out) hb); (try clear hb); (try clear hb2); (try clear hk); (try clear hi)))
           go_ret
           exact ⟨rfl, zB HB.out⟩
     ·replace c27 := Bool.eq_false_iff.mpr c27
      subst c27
      have H1 : (some false) = some r := by rw [if_neg (show ¬ (false = true) by decide)] at H; exact H
      clear H; have H := H1; clear H1; obtain rfl := Option.some.inj H
      go_wp2_with (first | ((with_reducible refine gate_callee (f := 12) rfl ?_); refine goL_ (some 47) Try.func12 #[.slice A0 l0.length c0] ?_; (with_reducible refine (laws_toDropS.calls kj9 _ _ l0 t402 _ ?side1 ?side2 A25.out).mono ?_); (case side1 => exact zC (Kd.C_below HR0.out HB.out)); (case side2 => exact HC0.out); rintro e w74 ⟨v403, rfl, ho0, hb⟩; refine ⟨_, rfl, ?_⟩; replace HO_6 := am (Kd.R_below (zR HO_6.out) hb); replace HO_9 := am (Kd.R_below (zR HO_9.out) hb); have HO404 := am (Kd.R_lower (Kd.R_new' ho0 (Kd.R_lt (zR HO_8.out))) (zs_ HB.out)); replace HO_8 := am (Kd.R_elder' (zR HO_8.out) (Kd.R_base ho0) hb); replace HB := am (below_step (zB HB.out) hb); (try clear hb); (try clear ho0); obtain ⟨Ao75, co75, eo75⟩ := Kd.R_slice HO404.out; subst eo75) | ((with_reducible refine gate_callee (f := 14) rfl ?_); refine goL_ (some 48) Try.func14 #[.slice Ao16 t394.length co16, .slice Ao75 t402.length co75] ?_; (with_reducible refine (laws_eqDropS.calls kj9 _ _ t394 _ _ t402 false _ ?side1 ?side2 ?side3 ?side4 A26.out).mono ?_); (case side1 => exact zC ((Kd.R_reads' HO_8.out).2.2)); (case side2 => exact (Kd.R_reads' HO_8.out).2.1); (case side3 => exact zC ((Kd.R_reads' HO404.out).2.2)); (case side4 => exact (Kd.R_reads' HO404.out).2.1); rintro e w76 ⟨rfl, hb⟩; refine ⟨_, rfl, ?_⟩; replace HO_6 := am (Kd.R_below (zR HO_6.out) hb); replace HO_8 := am (Kd.R_below (zR HO_8.out) hb); replace HO_9 := am (Kd.R_below (zR HO_9.out) hb); replace HO404 := am (Kd.R_below (zR HO404.out) hb); replace HB := am (below_step (zB HB.out) hb); (try clear hb); (try clear hb2); (try clear hk); (try clear hi)))
      go_ret
      exact ⟨rfl, zB HB.out⟩

end Go.Proofs.Ytimajkahadhhhaa.PFnExactSolveDrops
