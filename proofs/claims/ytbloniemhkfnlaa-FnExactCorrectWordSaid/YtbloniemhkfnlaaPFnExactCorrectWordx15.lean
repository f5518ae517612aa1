/- A law's functions as plain Lean functions, each with the walk that shows that the code computes it: written by this session's program wip/tools/ppmake.py. -/
import Derived.Test.YtbloniemhkfnlaaKZ
import Derived.Test.YtbloniemhkfnlaaPFnExactCorrectWordx0
import Derived.Test.YtbloniemhkfnlaaPFnExactCorrectWordx1
import Derived.Test.YtbloniemhkfnlaaPFnExactCorrectWordx8
import Derived.Test.YtbloniemhkfnlaaPFnExactCorrectWordx14
namespace Go.Proofs.Ytbloniemhkfnlaa.PFnExactCorrectWord
open Go.RowKit Go.Proofs.YtbloniemhkfnlaaW.PrintWords Go.Proofs.YtbloniemhkfnlaaW.PrintLast Go.Proofs.YtbloniemhkfnlaaW.PrintMore
attribute [local go_sem] max2_int min2_int max_two min_two max_three min_three max_four min_four   -- for this text's walks alone
set_option linter.unusedVariables false
set_option linter.unusedSimpArgs false

/-! ### laws_FnExactCorrectWord: function 9 -/
mutual
def laws_FnExactCorrectWord.j0 : Nat → List Int → Int → List Int → Int → Bool → List Int → List Int → Int → Bool → Bool → Option (Bool)
 | 0, _, _, _, _, _, _, _, _, _, _ => none
 | k + 1, x0, x1, x5, x6, x7, x8, x9, x10, x11, x51 => if x51 = true then (some false) else ((laws_toByteS.f k x0).bind fun t356 => ((laws_eqByteS.f k x8 t356).bind fun t359 => (if t359 = true then ((laws_markByteS.f k x8 1).bind fun bt360 => (if bt360.1 < 0 then (laws_FnExactCorrectWord.j1 k x0 x1 x5 x6 x7 x9 true) else ((laws_eqByteS.f k x9 x5).bind fun t362 => (if t362 = true then (if x10 = x6 then (laws_FnExactCorrectWord.j1 k x0 x1 x5 x6 x7 x9 (x11 != x7)) else (laws_FnExactCorrectWord.j1 k x0 x1 x5 x6 x7 x9 true)) else (laws_FnExactCorrectWord.j1 k x0 x1 x5 x6 x7 x9 true))))) else (some false))))
def laws_FnExactCorrectWord.j1 : Nat → List Int → Int → List Int → Int → Bool → List Int → Bool → Option (Bool)
 | 0, _, _, _, _, _, _, _ => none
 | k + 1, x0, x1, x5, x6, x7, x9, x77 => if x77 = true then (some false) else ((laws_markByteS.f k x9 1).bind fun bt363 => ((laws_heldByteS.f k bt363.2 1).bind fun t365 => (if t365 < 0 then (some false) else (if t365 = bt363.1 then ((laws_toByteS.f k x0).bind fun t366 => ((impl_CorrectWord.f k t366 x1).bind fun bt369 => ((laws_eqByteS.f k bt369.1 x5).bind fun t374 => (if t374 = true then (if bt369.2.1 = x6 then (laws_FnExactCorrectWord.j2 k bt363.2 bt363.1 (bt369.2.2 != x7)) else (laws_FnExactCorrectWord.j2 k bt363.2 bt363.1 true)) else (laws_FnExactCorrectWord.j2 k bt363.2 bt363.1 true))))) else (some false)))))
def laws_FnExactCorrectWord.j2 : Nat → List Int → Int → Bool → Option (Bool)
 | 0, _, _, _ => none
 | k + 1, x9, x13, x110 => if x110 = true then (some false) else ((laws_heldByteS.f k x9 1).bind fun t375 => (if t375 < 0 then (some false) else (if t375 = x13 then (some true) else (some false))))
end
def laws_FnExactCorrectWord.f (k : Nat) (l0 : List Int) (a1 : Int) : Option (Bool) := if (l0.length : Int) > 1048576 then (some true) else ((laws_toByteS.f k l0).bind fun t339 => ((spec_CorrectWord.f k t339 a1).bind fun bt342 => ((laws_toByteS.f k l0).bind fun t347 => ((impl_CorrectWord.f k t347 a1).bind fun bt350 => ((laws_eqByteS.f k bt350.1 bt342.1).bind fun t355 => (if t355 = true then (if bt350.2.1 = bt342.2.1 then (laws_FnExactCorrectWord.j0 k l0 a1 bt342.1 bt342.2.1 bt342.2.2 t347 bt350.1 bt350.2.1 bt350.2.2 (bt350.2.2 != bt342.2.2)) else (laws_FnExactCorrectWord.j0 k l0 a1 bt342.1 bt342.2.1 bt342.2.2 t347 bt350.1 bt350.2.1 bt350.2.2 true)) else (laws_FnExactCorrectWord.j0 k l0 a1 bt342.1 bt342.2.1 bt342.2.2 t347 bt350.1 bt350.2.1 bt350.2.2 true)))))))
theorem laws_FnExactCorrectWord.mono_l : ∀ k, (∀ y0 y1 y2 y3 y4 y5 y6 y7 y8 y9, LeO (laws_FnExactCorrectWord.j0 k y0 y1 y2 y3 y4 y5 y6 y7 y8 y9) (laws_FnExactCorrectWord.j0 (k + 1) y0 y1 y2 y3 y4 y5 y6 y7 y8 y9)) ∧ (∀ y0 y1 y2 y3 y4 y5 y6, LeO (laws_FnExactCorrectWord.j1 k y0 y1 y2 y3 y4 y5 y6) (laws_FnExactCorrectWord.j1 (k + 1) y0 y1 y2 y3 y4 y5 y6)) ∧ (∀ y0 y1 y2, LeO (laws_FnExactCorrectWord.j2 k y0 y1 y2) (laws_FnExactCorrectWord.j2 (k + 1) y0 y1 y2))
 | 0 => ⟨fun _ _ _ _ _ _ _ _ _ _ r h => by simp [laws_FnExactCorrectWord.j0] at h, fun _ _ _ _ _ _ _ r h => by simp [laws_FnExactCorrectWord.j1] at h, fun _ _ _ r h => by simp [laws_FnExactCorrectWord.j2] at h⟩
 | k + 1 => by
  obtain ⟨ih0, ih1, ih2⟩ := laws_FnExactCorrectWord.mono_l k
  refine ⟨?_, ?_, ?_⟩
  ·intro y0 y1 y2 y3 y4 y5 y6 y7 y8 y9
   unfold laws_FnExactCorrectWord.j0
   repeat' first
   | (with_reducible exact ih0 _ _ _ _ _ _ _ _ _ _)
   | (with_reducible exact ih1 _ _ _ _ _ _ _)
   | (with_reducible exact ih2 _ _ _)
   | (with_reducible exact impl_CorrectWord.mono _ _ _)
   | (with_reducible exact laws_eqByteS.mono _ _ _)
   | (with_reducible exact laws_heldByteS.mono _ _ _)
   | (with_reducible exact laws_markByteS.mono _ _ _)
   | (with_reducible exact laws_toByteS.mono _ _)
   | (with_reducible exact spec_CorrectWord.mono _ _ _)
   | (with_reducible exact LeO.refl _)
   | (with_reducible exact LeO.none _)
   | (with_reducible refine LeO.ite ?_ ?_)
   | (with_reducible refine LeO.bind ?_ (fun _ => ?_))
   | exact ih0 _ _ _ _ _ _ _ _ _ _
   | exact ih1 _ _ _ _ _ _ _
   | exact ih2 _ _ _
   | exact impl_CorrectWord.mono _ _ _
   | exact laws_eqByteS.mono _ _ _
   | exact laws_heldByteS.mono _ _ _
   | exact laws_markByteS.mono _ _ _
   | exact laws_toByteS.mono _ _
   | exact spec_CorrectWord.mono _ _ _
   | exact LeO.none _
   | refine LeO.ite ?_ ?_
   | refine LeO.bind ?_ (fun _ => ?_)
  ·intro y0 y1 y2 y3 y4 y5 y6
   unfold laws_FnExactCorrectWord.j1
   repeat' first
   | (with_reducible exact ih0 _ _ _ _ _ _ _ _ _ _)
   | (with_reducible exact ih1 _ _ _ _ _ _ _)
   | (with_reducible exact ih2 _ _ _)
   | (with_reducible exact impl_CorrectWord.mono _ _ _)
   | (with_reducible exact laws_eqByteS.mono _ _ _)
   | (with_reducible exact laws_heldByteS.mono _ _ _)
   | (with_reducible exact laws_markByteS.mono _ _ _)
   | (with_reducible exact laws_toByteS.mono _ _)
   | (with_reducible exact spec_CorrectWord.mono _ _ _)
   | (with_reducible exact LeO.refl _)
   | (with_reducible exact LeO.none _)
   | (with_reducible refine LeO.ite ?_ ?_)
   | (with_reducible refine LeO.bind ?_ (fun _ => ?_))
   | exact ih0 _ _ _ _ _ _ _ _ _ _
   | exact ih1 _ _ _ _ _ _ _
   | exact ih2 _ _ _
   | exact impl_CorrectWord.mono _ _ _
   | exact laws_eqByteS.mono _ _ _
   | exact laws_heldByteS.mono _ _ _
   | exact laws_markByteS.mono _ _ _
   | exact laws_toByteS.mono _ _
   | exact spec_CorrectWord.mono _ _ _
   | exact LeO.none _
   | refine LeO.ite ?_ ?_
   | refine LeO.bind ?_ (fun _ => ?_)
  ·intro y0 y1 y2
   unfold laws_FnExactCorrectWord.j2
   repeat' first | apply LeO.refl | apply LeO.none | apply LeO.ite | apply ih0 | apply ih1 | apply ih2 | apply impl_CorrectWord.mono | apply laws_eqByteS.mono | apply laws_heldByteS.mono | apply laws_markByteS.mono | apply laws_toByteS.mono | apply spec_CorrectWord.mono | (refine LeO.bind ?_ (fun _ => ?_))
theorem laws_FnExactCorrectWord.mono : ∀ a0 a1 k, LeO (laws_FnExactCorrectWord.f k a0 a1) (laws_FnExactCorrectWord.f (k + 1) a0 a1) := by
 intro a0 a1 k; obtain ⟨ih0, ih1, ih2⟩ := laws_FnExactCorrectWord.mono_l k
 unfold laws_FnExactCorrectWord.f
 repeat' first
   | (with_reducible exact ih0 _ _ _ _ _ _ _ _ _ _)
   | (with_reducible exact ih1 _ _ _ _ _ _ _)
   | (with_reducible exact ih2 _ _ _)
   | (with_reducible exact impl_CorrectWord.mono _ _ _)
   | (with_reducible exact laws_eqByteS.mono _ _ _)
   | (with_reducible exact laws_heldByteS.mono _ _ _)
   | (with_reducible exact laws_markByteS.mono _ _ _)
   | (with_reducible exact laws_toByteS.mono _ _)
   | (with_reducible exact spec_CorrectWord.mono _ _ _)
   | (with_reducible exact LeO.refl _)
   | (with_reducible exact LeO.none _)
   | (with_reducible refine LeO.ite ?_ ?_)
   | (with_reducible refine LeO.bind ?_ (fun _ => ?_))
   | exact ih0 _ _ _ _ _ _ _ _ _ _
   | exact ih1 _ _ _ _ _ _ _
   | exact ih2 _ _ _
   | exact impl_CorrectWord.mono _ _ _
   | exact laws_eqByteS.mono _ _ _
   | exact laws_heldByteS.mono _ _ _
   | exact laws_markByteS.mono _ _ _
   | exact laws_toByteS.mono _ _
   | exact spec_CorrectWord.mono _ _ _
   | exact LeO.none _
   | refine LeO.ite ?_ ?_
   | refine LeO.bind ?_ (fun _ => ?_)
set_option maxHeartbeats 8000000 in
set_option maxRecDepth 100000 in
theorem laws_FnExactCorrectWord.calls (k : Nat) (A0 : Option Addr) (c0 : Nat) (l0 : List Int) (a1 : Int) (r : Bool) (w : World) (hr0 : Kd.C (Kd.int .u8) w A0 l0.length l0) (hc0 : l0.length ≤ c0) (h : laws_FnExactCorrectWord.f k l0 a1 = some r) :
  Calls Try.prog 9 #[.slice A0 l0.length c0, .int .i64 a1] w fun e w' => e = .returned (.bool r) ∧ Below w.heap.size w w' := by
 have HR0 := am hr0; have HC0 := am hc0; clear hr0 hc0; have HB := am (Below.refl w.heap.size w); have H : (if (l0.length : Int) > 1048576 then (some true) else ((laws_toByteS.f k l0).bind fun t339 => ((spec_CorrectWord.f k t339 a1).bind fun bt342 => ((laws_toByteS.f k l0).bind fun t347 => ((impl_CorrectWord.f k t347 a1).bind fun bt350 => ((laws_eqByteS.f k bt350.1 bt342.1).bind fun t355 => (if t355 = true then (if bt350.2.1 = bt342.2.1 then (laws_FnExactCorrectWord.j0 k l0 a1 bt342.1 bt342.2.1 bt342.2.2 t347 bt350.1 bt350.2.1 bt350.2.2 (bt350.2.2 != bt342.2.2)) else (laws_FnExactCorrectWord.j0 k l0 a1 bt342.1 bt342.2.1 bt342.2.2 t347 bt350.1 bt350.2.1 bt350.2.2 true)) else (laws_FnExactCorrectWord.j0 k l0 a1 bt342.1 bt342.2.1 bt342.2.2 t347 bt350.1 bt350.2.1 bt350.2.2 true)))))))) = some r := h; clear h
 by_cases c3 : (l0.length : Int) > 1048576
 ·rw [if_pos c3] at H; have c3b0 : decide (1048576 < (l0.length : Int)) = true := decide_eq_true c3; have c3b1 : decide (1048576 < l0.length) = true := decide_eq_true (by omega); clear c3; obtain rfl := Option.some.inj H
  go_enter Try.func9, Try.ntmps9
  go_wp2
  go_ret
  exact ⟨by first | rfl | (simp [errW_none, errW_some] <;> rfl) | (simp [*, errW_none, errW_some] <;> rfl), zB HB.out⟩
 ·rw [if_neg c3] at H; have c3b0 : decide (1048576 < (l0.length : Int)) = false := decide_eq_false c3; have c3b1 : decide (1048576 < l0.length) = false := decide_eq_false (by omega); clear c3; obtain ⟨t339, A4, H⟩ := bi_ H; obtain ⟨⟨t342, t343, t344⟩, A5, H⟩ := bi_ H; dsimp only at H; obtain ⟨t347, A6, H⟩ := bi_ H; obtain ⟨⟨t350, t351, t352⟩, A7, H⟩ := bi_ H; dsimp only at H; have HC8 := am H; clear H
  go_enter Try.func9, Try.ntmps9
  go_upto_region 6 with (first | ((with_reducible refine gate_callee (f := 18) rfl ?_); refine goL_ (some 23) Try.func18 #[.slice A0 l0.length c0] ?_; (with_reducible refine (laws_toByteS.calls k _ _ l0 t339 _ ?side1 ?side2 A4.out).mono ?_); (case side1 => exact zC HR0.out); (case side2 => exact HC0.out); rintro e w9 ⟨v340, rfl, ho0, hb⟩; refine ⟨_, rfl, ?_⟩; have HO341 := am (Kd.R_lower ho0 (zs_ HB.out)); replace HB := am (below_step (zB HB.out) hb); (try clear hb); (try clear ho0); obtain ⟨Ao10, co10, eo10⟩ := Kd.R_slice HO341.out; subst eo10) | ((with_reducible refine gate_callee (f := 28) rfl ?_); refine goL_ (some 25) Try.func28 #[.slice Ao10 t339.length co10, .int .i64 a1] ?_; (with_reducible refine (spec_CorrectWord.calls k _ _ t339 a1 t342 t343 t344 _ ?side1 ?side2 A5.out).mono ?_); (case side1 => exact zC ((Kd.R_reads' HO341.out).2.2)); (case side2 => exact (Kd.R_reads' HO341.out).2.1); rintro e w11 ⟨v345, rfl, ho0, hb⟩; refine ⟨_, rfl, ?_⟩; have HO346 := am (Kd.R_lower (Kd.R_new' ho0 (Kd.R_lt (zR HO341.out))) (zs_ HB.out)); replace HO341 := am (Kd.R_elder' (zR HO341.out) (Kd.R_base ho0) hb); replace HB := am (below_step (zB HB.out) hb); (try clear hb); (try clear ho0)) | ((with_reducible refine gate_callee (f := 18) rfl ?_); refine goL_ (some 30) Try.func18 #[.slice A0 l0.length c0] ?_; (with_reducible refine (laws_toByteS.calls k _ _ l0 t347 _ ?side1 ?side2 A6.out).mono ?_); (case side1 => exact zC (Kd.C_below HR0.out HB.out)); (case side2 => exact HC0.out); rintro e w12 ⟨v348, rfl, ho0, hb⟩; refine ⟨_, rfl, ?_⟩; have HO349 := am (Kd.R_lower (Kd.R_new' (Kd.R_new' ho0 (Kd.R_lt (zR HO341.out))) (Kd.R_lt (zR HO346.out))) (zs_ HB.out)); replace HO341 := am (Kd.R_elder' (zR HO341.out) (Kd.R_base ho0) hb); replace HO346 := am (Kd.R_elder' (zR HO346.out) (Kd.R_base ho0) hb); replace HB := am (below_step (zB HB.out) hb); (try clear hb); (try clear ho0); obtain ⟨Ao13, co13, eo13⟩ := Kd.R_slice HO349.out; subst eo13) | ((with_reducible refine gate_callee (f := 29) rfl ?_); refine goL_ (some 34) Try.func29 #[.slice Ao13 t347.length co13, .int .i64 a1] ?_; (with_reducible refine (impl_CorrectWord.calls k _ _ t347 a1 t350 t351 t352 _ ?side1 ?side2 A7.out).mono ?_); (case side1 => exact zC ((Kd.R_reads' HO349.out).2.2)); (case side2 => exact (Kd.R_reads' HO349.out).2.1); rintro e w14 ⟨v353, rfl, ho0, hb⟩; refine ⟨_, rfl, ?_⟩; have HO354 := am (Kd.R_lower (Kd.R_new' (Kd.R_new' (Kd.R_new' ho0 (Kd.R_lt (zR HO341.out))) (Kd.R_lt (zR HO346.out))) (Kd.R_lt (zR HO349.out))) (zs_ HB.out)); replace HO341 := am (Kd.R_elder' (zR HO341.out) (Kd.R_base ho0) hb); replace HO346 := am (Kd.R_elder' (zR HO346.out) (Kd.R_base ho0) hb); replace HO349 := am (Kd.R_elder' (zR HO349.out) (Kd.R_base ho0) hb); replace HB := am (below_step (zB HB.out) hb); (try clear hb); (try clear ho0)))
  (try simp only [Act.put, List.setIfInBounds_toArray, List.set_cons_zero, List.set_cons_succ])
  go_cut [51] (fun v51 wc => ∃ (kq : Nat) (x51_7 : Bool), v51 = .bool x51_7 ∧ Aside0 (laws_FnExactCorrectWord.j0 kq l0 a1 t342 t343 t344 t347 t350 t351 t352 x51_7 = some r) ∧ Aside0 (kq ≤ k) ∧ Aside0 (Kd.R (Kd.int .u8) 5 wc w.heap.size (fun k_ => some k_ ≠ ((.slice Ao13 t347.length co13) : Value).ownBlock ∧ some k_ ≠ (v353 : Value).ownBlock) v345 t342) ∧ Aside0 (Kd.R (Kd.int .u8) 5 wc w.heap.size (fun k_ => some k_ ≠ (v345 : Value).ownBlock ∧ some k_ ≠ (v353 : Value).ownBlock) (.slice Ao13 t347.length co13) t347) ∧ Aside0 (Kd.R (Kd.int .u8) 5 wc w.heap.size (fun k_ => some k_ ≠ (v345 : Value).ownBlock ∧ some k_ ≠ ((.slice Ao13 t347.length co13) : Value).ownBlock) v353 t350) ∧ Aside0 (Below w.heap.size w wc))
  case first =>
   have H := HC8.out; clear HC8; obtain ⟨t355, A15, H⟩ := bi_ H
   by_cases c16 : t355 = true
   ·subst c16
    have H1 : (if t351 = t343 then (laws_FnExactCorrectWord.j0 k l0 a1 t342 t343 t344 t347 t350 t351 t352 (t352 != t344)) else (laws_FnExactCorrectWord.j0 k l0 a1 t342 t343 t344 t347 t350 t351 t352 true)) = some r := by rw [if_pos rfl] at H; exact H
    clear H; have H := H1; clear H1
    by_cases c17 : t351 = t343
    ·rw [if_pos c17] at H; have c17b0 : (t351 == t343) = true := beq_iff_eq.mpr c17; have c17b1 : (t351 != t343) = false := bne_eq_false_iff_eq.mpr c17; clear c17
     (first | rw [c17b0] | (simp only [i64_w, i32_w]; rw [c17b0]) | skip)
     have H' := am H; clear H; obtain ⟨Ao18, co18, eo18⟩ := Kd.R_slice HO354.out
     subst eo18
     obtain ⟨Ao19, co19, eo19⟩ := Kd.R_slice HO346.out
     subst eo19
     go_wp2_with (first | ((with_reducible refine gate_callee (f := 14) rfl ?_); refine goL_ (some 40) Try.func14 #[.slice Ao18 t350.length co18, .slice Ao19 t342.length co19] ?_; (with_reducible refine (laws_eqByteS.calls k _ _ t350 _ _ t342 true _ ?side1 ?side2 ?side3 ?side4 A15.out).mono ?_); (case side1 => exact zC ((Kd.R_reads' HO354.out).2.2)); (case side2 => exact (Kd.R_reads' HO354.out).2.1); (case side3 => exact zC ((Kd.R_reads' HO346.out).2.2)); (case side4 => exact (Kd.R_reads' HO346.out).2.1); rintro e w' ⟨rfl, ⟨nd, rfl⟩⟩; refine ⟨_, rfl, ?_⟩))
     go_meet
     case rel => exact ⟨_, ((t352 != t344)), (by first | rfl | (simp; done) | (simp [*]; done)), H', ⟨by first | omega | exact Nat.le_refl _⟩, ⟨zR (Kd.R_mono HO346.out (fun _ hk => ⟨hk.1.2, hk.2⟩))⟩, ⟨zR (Kd.R_mono HO349.out (fun _ hk => ⟨hk.1.2, hk.2⟩))⟩, ⟨zR (Kd.R_mono HO354.out (fun _ hk => ⟨hk.1.2, hk.2⟩))⟩, ⟨zB HB.out⟩⟩
    ·rw [if_neg c17] at H; have c17b0 : (t351 == t343) = false := beq_eq_false_iff_ne.mpr c17; have c17b1 : (t351 != t343) = true := bne_iff_ne.mpr c17
     (first | rw [c17b0] | (simp only [i64_w, i32_w]; rw [c17b0]) | skip)
     have H' := am H; clear H; obtain ⟨Ao20, co20, eo20⟩ := Kd.R_slice HO354.out
     subst eo20
     obtain ⟨Ao21, co21, eo21⟩ := Kd.R_slice HO346.out
     subst eo21
     go_wp2_with (first | ((with_reducible refine gate_callee (f := 14) rfl ?_); refine goL_ (some 40) Try.func14 #[.slice Ao20 t350.length co20, .slice Ao21 t342.length co21] ?_; (with_reducible refine (laws_eqByteS.calls k _ _ t350 _ _ t342 true _ ?side1 ?side2 ?side3 ?side4 A15.out).mono ?_); (case side1 => exact zC ((Kd.R_reads' HO354.out).2.2)); (case side2 => exact (Kd.R_reads' HO354.out).2.1); (case side3 => exact zC ((Kd.R_reads' HO346.out).2.2)); (case side4 => exact (Kd.R_reads' HO346.out).2.1); rintro e w' ⟨rfl, ⟨nd, rfl⟩⟩; refine ⟨_, rfl, ?_⟩))
     go_meet
     case rel => exact ⟨_, (true), (by first | rfl | (simp; done) | (simp [*]; done)), H', ⟨by first | omega | exact Nat.le_refl _⟩, ⟨zR (Kd.R_mono HO346.out (fun _ hk => ⟨hk.1.2, hk.2⟩))⟩, ⟨zR (Kd.R_mono HO349.out (fun _ hk => ⟨hk.1.2, hk.2⟩))⟩, ⟨zR (Kd.R_mono HO354.out (fun _ hk => ⟨hk.1.2, hk.2⟩))⟩, ⟨zB HB.out⟩⟩
   ·replace c16 := Bool.eq_false_iff.mpr c16
    subst c16
    have H1 : (laws_FnExactCorrectWord.j0 k l0 a1 t342 t343 t344 t347 t350 t351 t352 true) = some r := by rw [if_neg (show ¬ (false = true) by decide)] at H; exact H
    clear H; have H := H1; clear H1; have H' := am H; clear H; obtain ⟨Ao22, co22, eo22⟩ := Kd.R_slice HO354.out
    subst eo22
    obtain ⟨Ao23, co23, eo23⟩ := Kd.R_slice HO346.out
    subst eo23
    go_wp2_with (first | ((with_reducible refine gate_callee (f := 14) rfl ?_); refine goL_ (some 40) Try.func14 #[.slice Ao22 t350.length co22, .slice Ao23 t342.length co23] ?_; (with_reducible refine (laws_eqByteS.calls k _ _ t350 _ _ t342 false _ ?side1 ?side2 ?side3 ?side4 A15.out).mono ?_); (case side1 => exact zC ((Kd.R_reads' HO354.out).2.2)); (case side2 => exact (Kd.R_reads' HO354.out).2.1); (case side3 => exact zC ((Kd.R_reads' HO346.out).2.2)); (case side4 => exact (Kd.R_reads' HO346.out).2.1); rintro e w' ⟨rfl, ⟨nd, rfl⟩⟩; refine ⟨_, rfl, ?_⟩))
    go_meet
    case rel => exact ⟨_, (true), (by first | rfl | (simp; done) | (simp [*]; done)), H', ⟨by first | omega | exact Nat.le_refl _⟩, ⟨zR (Kd.R_mono HO346.out (fun _ hk => ⟨hk.1.2, hk.2⟩))⟩, ⟨zR (Kd.R_mono HO349.out (fun _ hk => ⟨hk.1.2, hk.2⟩))⟩, ⟨zR (Kd.R_mono HO354.out (fun _ hk => ⟨hk.1.2, hk.2⟩))⟩, ⟨zB HB.out⟩⟩
  case rest =>
   clear HC8; (try clear c1); (try clear c2); (try clear p2); (try clear c3); (try clear c3b0); (try clear c3b1); (try clear c9); (try clear c14); (try clear c16); (try clear c17); (try clear c17b0); (try clear c17b1); (try clear c18); obtain ⟨kq, x51_7, rfl, HA, HJ7, HO_5, HO_8, HO_9, HB⟩ := hcut
   cases kq with
   | zero => exact absurd HA.out (by simp [laws_FnExactCorrectWord.j0])
   | succ kj7 =>
    have H := HA.out; clear HA
    simp only [laws_FnExactCorrectWord.j0] at H
    by_cases c24 : x51_7 = true
    ·subst c24
     have H1 : (some false) = some r := by rw [if_pos rfl] at H; exact H
     clear H; have H := H1; clear H1; obtain rfl := Option.some.inj H
     go_wp2
     go_ret
     exact ⟨by first | rfl | (simp [errW_none, errW_some] <;> rfl) | (simp [*, errW_none, errW_some] <;> rfl), zB HB.out⟩
    ·replace c24 := Bool.eq_false_iff.mpr c24
     subst c24
     have H1 : ((laws_toByteS.f kj7 l0).bind fun t356 => ((laws_eqByteS.f kj7 t347 t356).bind fun t359 => (if t359 = true then ((laws_markByteS.f kj7 t347 1).bind fun bt360 => (if bt360.1 < 0 then (laws_FnExactCorrectWord.j1 kj7 l0 a1 t342 t343 t344 t350 true) else ((laws_eqByteS.f kj7 t350 t342).bind fun t362 => (if t362 = true then (if t351 = t343 then (laws_FnExactCorrectWord.j1 kj7 l0 a1 t342 t343 t344 t350 (t352 != t344)) else (laws_FnExactCorrectWord.j1 kj7 l0 a1 t342 t343 t344 t350 true)) else (laws_FnExactCorrectWord.j1 kj7 l0 a1 t342 t343 t344 t350 true))))) else (some false)))) = some r := by rw [if_neg (show ¬ (false = true) by decide)] at H; exact H
     clear H; have H := H1; clear H1; obtain ⟨t356, A25, H⟩ := bi_ H; obtain ⟨t359, A26, H⟩ := bi_ H
     by_cases c27 : t359 = true
     ·subst c27
      have H1 : ((laws_markByteS.f kj7 t347 1).bind fun bt360 => (if bt360.1 < 0 then (laws_FnExactCorrectWord.j1 kj7 l0 a1 t342 t343 t344 t350 true) else ((laws_eqByteS.f kj7 t350 t342).bind fun t362 => (if t362 = true then (if t351 = t343 then (laws_FnExactCorrectWord.j1 kj7 l0 a1 t342 t343 t344 t350 (t352 != t344)) else (laws_FnExactCorrectWord.j1 kj7 l0 a1 t342 t343 t344 t350 true)) else (laws_FnExactCorrectWord.j1 kj7 l0 a1 t342 t343 t344 t350 true))))) = some r := by rw [if_pos rfl] at H; exact H
      clear H; have H := H1; clear H1; obtain ⟨⟨t360, t361⟩, A28, H⟩ := bi_ H; dsimp only at H; have HC29 := am H; clear H
      go_upto_region 12 with (first | ((with_reducible refine gate_callee (f := 18) rfl ?_); refine goL_ (some 54) Try.func18 #[.slice A0 l0.length c0] ?_; (with_reducible refine (laws_toByteS.calls kj7 _ _ l0 t356 _ ?side1 ?side2 A25.out).mono ?_); (case side1 => exact zC (Kd.C_below HR0.out HB.out)); (case side2 => exact HC0.out); rintro e w30 ⟨v357, rfl, ho0, hb⟩; refine ⟨_, rfl, ?_⟩; have HO358 := am (Kd.R_lower (Kd.R_new' (Kd.R_new' (Kd.R_new' ho0 (Kd.R_lt (zR HO_5.out))) (Kd.R_lt (zR HO_8.out))) (Kd.R_lt (zR HO_9.out))) (zs_ HB.out)); replace HO_5 := am (Kd.R_elder' (zR HO_5.out) (Kd.R_base ho0) hb); replace HO_8 := am (Kd.R_elder' (zR HO_8.out) (Kd.R_base ho0) hb); replace HO_9 := am (Kd.R_elder' (zR HO_9.out) (Kd.R_base ho0) hb); replace HB := am (below_step (zB HB.out) hb); (try clear hb); (try clear ho0); obtain ⟨Ao31, co31, eo31⟩ := Kd.R_slice HO358.out; subst eo31) | ((with_reducible refine gate_callee (f := 14) rfl ?_); refine goL_ (some 55) Try.func14 #[.slice Ao13 t347.length co13, .slice Ao31 t356.length co31] ?_; (with_reducible refine (laws_eqByteS.calls kj7 _ _ t347 _ _ t356 true _ ?side1 ?side2 ?side3 ?side4 A26.out).mono ?_); (case side1 => exact zC ((Kd.R_reads' HO_8.out).2.2)); (case side2 => exact (Kd.R_reads' HO_8.out).2.1); (case side3 => exact zC ((Kd.R_reads' HO358.out).2.2)); (case side4 => exact (Kd.R_reads' HO358.out).2.1); rintro e w' ⟨rfl, ⟨nd, rfl⟩⟩; refine ⟨_, rfl, ?_⟩) | ((with_reducible refine gate_callee (f := 15) rfl ?_); refine goL_ (some 59) Try.func15 #[.slice Ao13 t347.length co13, .int .i64 1] ?_; (with_reducible refine (laws_markByteS.calls kj7 (fun k_ => some k_ = (.slice Ao13 t347.length co13 : Value).ownBlock) (.slice Ao13 t347.length co13) t347 1 t360 t361 w _ ?side1 ?side2 A28.out).mono ?_); (case side1 => repeat (first | (with_reducible first | exact HB.out | apply below_alloc | apply pw_below_drewN | apply below_drew1) | exact HB.out)); (case side2 => exact Kd.R_tight rfl HO_8.out); rintro e w32 ⟨rfl, hy0, hb, hkp⟩; refine ⟨_, rfl, ?_⟩; replace HO_5 := am (Kd.R_mono (ok' := fun k_ => some k_ ≠ (.slice Ao13 t347.length co13 : Value).ownBlock ∧ some k_ ≠ (v353 : Value).ownBlock ∧ some k_ ≠ (.slice Ao31 t356.length co31 : Value).ownBlock) (Kd.R_keptB (HO_5.out) hkp (fun k_ hk_ hs_ => (hk_.1.1) hs_)) (fun k_ hk_ => ⟨hk_.1.1.1, hk_.1.1.2, hk_.1.2⟩)); replace HO_8 := am (Kd.R_reok rfl hy0 (fun k_ e_ => HO_8.out.1 k_ e_)); replace HO_9 := am (Kd.R_mono (ok' := fun k_ => some k_ ≠ (v345 : Value).ownBlock ∧ some k_ ≠ (.slice Ao13 t347.length co13 : Value).ownBlock ∧ some k_ ≠ (.slice Ao31 t356.length co31 : Value).ownBlock) (Kd.R_keptB (HO_9.out) hkp (fun k_ hk_ hs_ => (hk_.1.2) hs_)) (fun k_ hk_ => ⟨hk_.1.1.1, hk_.1.1.2, hk_.1.2⟩)); replace HO358 := am (Kd.R_mono (ok' := fun k_ => some k_ ≠ (v345 : Value).ownBlock ∧ some k_ ≠ (.slice Ao13 t347.length co13 : Value).ownBlock ∧ some k_ ≠ (v353 : Value).ownBlock) (Kd.R_keptB (HO358.out) hkp (fun k_ hk_ hs_ => (hk_.1.2) hs_)) (fun k_ hk_ => ⟨hk_.1.1.1.2, hk_.1.1.2, hk_.1.2⟩)); replace HB := am (hb); (try clear hb); (try clear hkp); (try clear hy0)))
      (try simp only [Act.put, List.setIfInBounds_toArray, List.set_cons_zero, List.set_cons_succ])
      go_cut [77] (fun v77 wc => ∃ (kq : Nat) (x77_28 : Bool), v77 = .bool x77_28 ∧ Aside0 (laws_FnExactCorrectWord.j1 kq l0 a1 t342 t343 t344 t350 x77_28 = some r) ∧ Aside0 (kq ≤ kj7) ∧ Aside0 (Kd.R (Kd.int .u8) 5 wc w.heap.size (fun k_ => some k_ ≠ (v353 : Value).ownBlock) v345 t342) ∧ Aside0 (Kd.R (Kd.int .u8) 5 wc w.heap.size (fun k_ => some k_ ≠ (v345 : Value).ownBlock) v353 t350) ∧ Aside0 (Below w.heap.size w wc))
      case first =>
       have H := HC29.out; clear HC29
       by_cases c33 : t360 < 0
       ·rw [if_pos c33] at H; have c33b0 : decide (t360 < 0) = true := decide_eq_true c33; clear c33
        (first | rw [c33b0] | (simp only [i64_w, i32_w]; rw [c33b0]) | skip)
        have H' := am H; clear H
        go_wp2
        go_meet
        case rel => exact ⟨_, (true), (by first | rfl | (simp; done) | (simp [*]; done)), H', ⟨by have := HJ7.out; first | omega | exact Nat.le_refl _⟩, ⟨zR (Kd.R_mono HO_5.out (fun _ hk => hk.2.1))⟩, ⟨zR (Kd.R_mono HO_9.out (fun _ hk => hk.1))⟩, ⟨zB HB.out⟩⟩
       ·rw [if_neg c33] at H; have c33b0 : decide (t360 < 0) = false := decide_eq_false c33; clear c33
        (first | rw [c33b0] | (simp only [i64_w, i32_w]; rw [c33b0]) | skip)
        obtain ⟨t362, A34, H⟩ := bi_ H
        by_cases c35 : t362 = true
        ·subst c35
         have H1 : (if t351 = t343 then (laws_FnExactCorrectWord.j1 kj7 l0 a1 t342 t343 t344 t350 (t352 != t344)) else (laws_FnExactCorrectWord.j1 kj7 l0 a1 t342 t343 t344 t350 true)) = some r := by rw [if_pos rfl] at H; exact H
         clear H; have H := H1; clear H1
         by_cases c36 : t351 = t343
         ·rw [if_pos c36] at H; have c36b0 : (t351 == t343) = true := beq_iff_eq.mpr c36; have c36b1 : (t351 != t343) = false := bne_eq_false_iff_eq.mpr c36; clear c36; have H' := am H; clear H; obtain ⟨Ao37, co37, eo37⟩ := Kd.R_slice HO_9.out
          subst eo37
          obtain ⟨Ao38, co38, eo38⟩ := Kd.R_slice HO_5.out
          subst eo38
          go_wp2_with (first | (go_at_call 14; (with_reducible refine (laws_eqByteS.calls kj7 _ _ t350 _ _ t342 true _ ?side1 ?side2 ?side3 ?side4 A34.out).mono ?_); (case side1 => exact zC ((Kd.R_reads' HO_9.out).2.2)); (case side2 => exact (Kd.R_reads' HO_9.out).2.1); (case side3 => exact zC ((Kd.R_reads' HO_5.out).2.2)); (case side4 => exact (Kd.R_reads' HO_5.out).2.1); rintro e w' ⟨rfl, ⟨nd, rfl⟩⟩))
          go_meet
          case rel => exact ⟨_, ((t352 != t344)), (by first | rfl | (simp; done) | (simp [*]; done)), H', ⟨by have := HJ7.out; first | omega | exact Nat.le_refl _⟩, ⟨zR (Kd.R_mono HO_5.out (fun _ hk => hk.2.1))⟩, ⟨zR (Kd.R_mono HO_9.out (fun _ hk => hk.1))⟩, ⟨zB HB.out⟩⟩
         ·rw [if_neg c36] at H; have c36b0 : (t351 == t343) = false := beq_eq_false_iff_ne.mpr c36; have c36b1 : (t351 != t343) = true := bne_iff_ne.mpr c36; have H' := am H; clear H; obtain ⟨Ao39, co39, eo39⟩ := Kd.R_slice HO_9.out
          subst eo39
          obtain ⟨Ao40, co40, eo40⟩ := Kd.R_slice HO_5.out
          subst eo40
          go_wp2_with (first | (go_at_call 14; (with_reducible refine (laws_eqByteS.calls kj7 _ _ t350 _ _ t342 true _ ?side1 ?side2 ?side3 ?side4 A34.out).mono ?_); (case side1 => exact zC ((Kd.R_reads' HO_9.out).2.2)); (case side2 => exact (Kd.R_reads' HO_9.out).2.1); (case side3 => exact zC ((Kd.R_reads' HO_5.out).2.2)); (case side4 => exact (Kd.R_reads' HO_5.out).2.1); rintro e w' ⟨rfl, ⟨nd, rfl⟩⟩))
          go_meet
          case rel => exact ⟨_, (true), (by first | rfl | (simp; done) | (simp [*]; done)), H', ⟨by have := HJ7.out; first | omega | exact Nat.le_refl _⟩, ⟨zR (Kd.R_mono HO_5.out (fun _ hk => hk.2.1))⟩, ⟨zR (Kd.R_mono HO_9.out (fun _ hk => hk.1))⟩, ⟨zB HB.out⟩⟩
        ·replace c35 := Bool.eq_false_iff.mpr c35
         subst c35
         have H1 : (laws_FnExactCorrectWord.j1 kj7 l0 a1 t342 t343 t344 t350 true) = some r := by rw [if_neg (show ¬ (false = true) by decide)] at H; exact H
         clear H; have H := H1; clear H1; have H' := am H; clear H; obtain ⟨Ao41, co41, eo41⟩ := Kd.R_slice HO_9.out
         subst eo41
         obtain ⟨Ao42, co42, eo42⟩ := Kd.R_slice HO_5.out
         subst eo42
         go_wp2_with (first | (go_at_call 14; (with_reducible refine (laws_eqByteS.calls kj7 _ _ t350 _ _ t342 false _ ?side1 ?side2 ?side3 ?side4 A34.out).mono ?_); (case side1 => exact zC ((Kd.R_reads' HO_9.out).2.2)); (case side2 => exact (Kd.R_reads' HO_9.out).2.1); (case side3 => exact zC ((Kd.R_reads' HO_5.out).2.2)); (case side4 => exact (Kd.R_reads' HO_5.out).2.1); rintro e w' ⟨rfl, ⟨nd, rfl⟩⟩))
         go_meet
         case rel => exact ⟨_, (true), (by first | rfl | (simp; done) | (simp [*]; done)), H', ⟨by have := HJ7.out; first | omega | exact Nat.le_refl _⟩, ⟨zR (Kd.R_mono HO_5.out (fun _ hk => hk.2.1))⟩, ⟨zR (Kd.R_mono HO_9.out (fun _ hk => hk.1))⟩, ⟨zB HB.out⟩⟩
      case rest =>
       clear HC29; (try clear c1); (try clear c2); (try clear p2); (try clear c3); (try clear c3b0); (try clear c3b1); (try clear c9); (try clear c14); (try clear c15); (try clear c16); (try clear c17); (try clear c17b0); (try clear c17b1); (try clear c18); (try clear c24); (try clear c27); (try clear c28); (try clear c29); (try clear c33); (try clear c33b0); (try clear c35); (try clear c36); (try clear c36b0); (try clear c36b1); (try clear p2); obtain ⟨kq, x77_28, rfl, HA, HJ28, HO_5, HO_9, HB⟩ := hcut
       cases kq with
       | zero => exact absurd HA.out (by simp [laws_FnExactCorrectWord.j1])
       | succ kj28 =>
        have H := HA.out; clear HA
        simp only [laws_FnExactCorrectWord.j1] at H
        by_cases c43 : x77_28 = true
        ·subst c43
         have H1 : (some false) = some r := by rw [if_pos rfl] at H; exact H
         clear H; have H := H1; clear H1; obtain rfl := Option.some.inj H
         go_wp2
         go_ret
         exact ⟨by first | rfl | (simp [errW_none, errW_some] <;> rfl) | (simp [*, errW_none, errW_some] <;> rfl), zB HB.out⟩
        ·replace c43 := Bool.eq_false_iff.mpr c43
         subst c43
         have H1 : ((laws_markByteS.f kj28 t350 1).bind fun bt363 => ((laws_heldByteS.f kj28 bt363.2 1).bind fun t365 => (if t365 < 0 then (some false) else (if t365 = bt363.1 then ((laws_toByteS.f kj28 l0).bind fun t366 => ((impl_CorrectWord.f kj28 t366 a1).bind fun bt369 => ((laws_eqByteS.f kj28 bt369.1 t342).bind fun t374 => (if t374 = true then (if bt369.2.1 = t343 then (laws_FnExactCorrectWord.j2 kj28 bt363.2 bt363.1 (bt369.2.2 != t344)) else (laws_FnExactCorrectWord.j2 kj28 bt363.2 bt363.1 true)) else (laws_FnExactCorrectWord.j2 kj28 bt363.2 bt363.1 true))))) else (some false))))) = some r := by rw [if_neg (show ¬ (false = true) by decide)] at H; exact H
         clear H; have H := H1; clear H1; obtain ⟨⟨t363, t364⟩, A44, H⟩ := bi_ H; dsimp only at H; obtain ⟨t365, A45, H⟩ := bi_ H
         by_cases c46 : t365 < 0
         ·rw [if_pos c46] at H; have c46b0 : decide (t365 < 0) = true := decide_eq_true c46; clear c46; obtain rfl := Option.some.inj H; obtain ⟨Ao47, co47, eo47⟩ := Kd.R_slice HO_9.out
          subst eo47
          go_wp2_with (first | ((with_reducible refine gate_callee (f := 15) rfl ?_); refine goL_ (some 80) Try.func15 #[.slice Ao47 t350.length co47, .int .i64 1] ?_; (with_reducible refine (laws_markByteS.calls kj28 (fun k_ => some k_ = (.slice Ao47 t350.length co47 : Value).ownBlock) (.slice Ao47 t350.length co47) t350 1 t363 t364 w _ ?side1 ?side2 A44.out).mono ?_); (case side1 => repeat (first | (with_reducible first | exact HB.out | apply below_alloc | apply pw_below_drewN | apply below_drew1) | exact HB.out)); (case side2 => exact Kd.R_tight rfl HO_9.out); rintro e w48 ⟨rfl, hy0, hb, hkp⟩; refine ⟨_, rfl, ?_⟩; replace HO_5 := am (Kd.R_mono (ok' := fun k_ => some k_ ≠ (.slice Ao47 t350.length co47 : Value).ownBlock) (Kd.R_keptB (HO_5.out) hkp (fun k_ hk_ hs_ => (hk_) hs_)) (fun k_ hk_ => hk_.1)); replace HO_9 := am (Kd.R_reok rfl hy0 (fun k_ e_ => HO_9.out.1 k_ e_)); replace HB := am (hb); (try clear hb); (try clear hkp); (try clear hy0)) | ((with_reducible refine gate_callee (f := 16) rfl ?_); refine goesL_ (some 83) rfl rfl Try.func16 (by kernel_rfl) rfl #[.slice Ao47 t364.length co47, .int .i64 1] rfl (by (try simp only [List.map_toArray, List.map_cons, List.map_nil]); first | done | (rw [show t364.length = t350.length from (Kd.R_reads' HO_9.out).1.symm] <;> rfl) | rfl | (simp only [List.length_drop, List.length_take]; rfl)) ?_; (with_reducible refine (laws_heldByteS.calls kj28 _ _ t364 1 t365 _ ?side1 ?side2 A45.out).mono ?_); (case side1 => exact zC ((Kd.R_reads' HO_9.out).2.2)); (case side2 => rw [show t364.length = t350.length from (Kd.R_reads' HO_9.out).1.symm]; exact (Kd.R_reads' HO_9.out).2.1); rintro e w' ⟨rfl, ⟨nd, rfl⟩⟩; refine ⟨_, rfl, ?_⟩))
          go_ret
          exact ⟨by first | rfl | (simp [errW_none, errW_some] <;> rfl) | (simp [*, errW_none, errW_some] <;> rfl), zB HB.out⟩
         ·rw [if_neg c46] at H; have c46b0 : decide (t365 < 0) = false := decide_eq_false c46; clear c46
          by_cases c49 : t365 = t363
          ·rw [if_pos c49] at H; have c49b0 : (t365 == t363) = true := beq_iff_eq.mpr c49; have c49b1 : (t365 != t363) = false := bne_eq_false_iff_eq.mpr c49; clear c49; obtain ⟨t366, A50, H⟩ := bi_ H; obtain ⟨⟨t369, t370, t371⟩, A51, H⟩ := bi_ H; dsimp only at H; have HC52 := am H; clear H; obtain ⟨Ao53, co53, eo53⟩ := Kd.R_slice HO_9.out
           subst eo53
           go_upto_region 23 with (first | ((with_reducible refine gate_callee (f := 15) rfl ?_); refine goL_ (some 80) Try.func15 #[.slice Ao53 t350.length co53, .int .i64 1] ?_; (with_reducible refine (laws_markByteS.calls kj28 (fun k_ => some k_ = (.slice Ao53 t350.length co53 : Value).ownBlock) (.slice Ao53 t350.length co53) t350 1 t363 t364 w _ ?side1 ?side2 A44.out).mono ?_); (case side1 => repeat (first | (with_reducible first | exact HB.out | apply below_alloc | apply pw_below_drewN | apply below_drew1) | exact HB.out)); (case side2 => exact Kd.R_tight rfl HO_9.out); rintro e w54 ⟨rfl, hy0, hb, hkp⟩; refine ⟨_, rfl, ?_⟩; replace HO_5 := am (Kd.R_mono (ok' := fun k_ => some k_ ≠ (.slice Ao53 t350.length co53 : Value).ownBlock) (Kd.R_keptB (HO_5.out) hkp (fun k_ hk_ hs_ => (hk_) hs_)) (fun k_ hk_ => hk_.1)); replace HO_9 := am (Kd.R_reok rfl hy0 (fun k_ e_ => HO_9.out.1 k_ e_)); replace HB := am (hb); (try clear hb); (try clear hkp); (try clear hy0)) | ((with_reducible refine gate_callee (f := 16) rfl ?_); refine goesL_ (some 83) rfl rfl Try.func16 (by kernel_rfl) rfl #[.slice Ao53 t364.length co53, .int .i64 1] rfl (by (try simp only [List.map_toArray, List.map_cons, List.map_nil]); first | done | (rw [show t364.length = t350.length from (Kd.R_reads' HO_9.out).1.symm] <;> rfl) | rfl | (simp only [List.length_drop, List.length_take]; rfl)) ?_; (with_reducible refine (laws_heldByteS.calls kj28 _ _ t364 1 t365 _ ?side1 ?side2 A45.out).mono ?_); (case side1 => exact zC ((Kd.R_reads' HO_9.out).2.2)); (case side2 => rw [show t364.length = t350.length from (Kd.R_reads' HO_9.out).1.symm]; exact (Kd.R_reads' HO_9.out).2.1); rintro e w' ⟨rfl, ⟨nd, rfl⟩⟩; refine ⟨_, rfl, ?_⟩) | ((with_reducible refine gate_callee (f := 18) rfl ?_); refine goL_ (some 91) Try.func18 #[.slice A0 l0.length c0] ?_; (with_reducible refine (laws_toByteS.calls kj28 _ _ l0 t366 _ ?side1 ?side2 A50.out).mono ?_); (case side1 => exact zC (Kd.C_below HR0.out HB.out)); (case side2 => exact HC0.out); rintro e w55 ⟨v367, rfl, ho0, hb⟩; refine ⟨_, rfl, ?_⟩; have HO368 := am (Kd.R_lower (Kd.R_new' (Kd.R_new' ho0 (Kd.R_lt (zR HO_5.out))) (Kd.R_lt (zR HO_9.out))) (zs_ HB.out)); replace HO_5 := am (Kd.R_elder' (zR HO_5.out) (Kd.R_base ho0) hb); replace HO_9 := am (Kd.R_elder' (zR HO_9.out) (Kd.R_base ho0) hb); replace HB := am (below_step (zB HB.out) hb); (try clear hb); (try clear ho0); obtain ⟨Ao56, co56, eo56⟩ := Kd.R_slice HO368.out; subst eo56) | ((with_reducible refine gate_callee (f := 29) rfl ?_); refine goL_ (some 93) Try.func29 #[.slice Ao56 t366.length co56, .int .i64 a1] ?_; (with_reducible refine (impl_CorrectWord.calls kj28 _ _ t366 a1 t369 t370 t371 _ ?side1 ?side2 A51.out).mono ?_); (case side1 => exact zC ((Kd.R_reads' HO368.out).2.2)); (case side2 => exact (Kd.R_reads' HO368.out).2.1); rintro e w57 ⟨v372, rfl, ho0, hb⟩; refine ⟨_, rfl, ?_⟩; have HO373 := am (Kd.R_lower (Kd.R_new' (Kd.R_new' (Kd.R_new' ho0 (Kd.R_lt (zR HO_5.out))) (Kd.R_lt (zR HO_9.out))) (Kd.R_lt (zR HO368.out))) (zs_ HB.out)); replace HO_5 := am (Kd.R_elder' (zR HO_5.out) (Kd.R_base ho0) hb); replace HO_9 := am (Kd.R_elder' (zR HO_9.out) (Kd.R_base ho0) hb); replace HO368 := am (Kd.R_elder' (zR HO368.out) (Kd.R_base ho0) hb); replace HB := am (below_step (zB HB.out) hb); (try clear hb); (try clear ho0)))
           (try simp only [Act.put, List.setIfInBounds_toArray, List.set_cons_zero, List.set_cons_succ])
           go_cut [110] (fun v110 wc => ∃ (kq : Nat) (x110_51 : Bool), v110 = .bool x110_51 ∧ Aside0 (laws_FnExactCorrectWord.j2 kq t364 t363 x110_51 = some r) ∧ Aside0 (kq ≤ kj28) ∧ Aside0 (Kd.R (Kd.int .u8) 5 wc w.heap.size (fun _ => True) (.slice Ao53 t350.length co53) t364) ∧ Aside0 (Below w.heap.size w wc))
           case first =>
            have H := HC52.out; clear HC52; obtain ⟨t374, A58, H⟩ := bi_ H
            by_cases c59 : t374 = true
            ·subst c59
             have H1 : (if t370 = t343 then (laws_FnExactCorrectWord.j2 kj28 t364 t363 (t371 != t344)) else (laws_FnExactCorrectWord.j2 kj28 t364 t363 true)) = some r := by rw [if_pos rfl] at H; exact H
             clear H; have H := H1; clear H1
             by_cases c60 : t370 = t343
             ·rw [if_pos c60] at H; have c60b0 : (t370 == t343) = true := beq_iff_eq.mpr c60; have c60b1 : (t370 != t343) = false := bne_eq_false_iff_eq.mpr c60; clear c60
              (first | rw [c60b0] | (simp only [i64_w, i32_w]; rw [c60b0]) | skip)
              have H' := am H; clear H; obtain ⟨Ao61, co61, eo61⟩ := Kd.R_slice HO373.out
              subst eo61
              obtain ⟨Ao62, co62, eo62⟩ := Kd.R_slice HO_5.out
              subst eo62
              go_wp2_with (first | ((with_reducible refine gate_callee (f := 14) rfl ?_); refine goL_ (some 99) Try.func14 #[.slice Ao61 t369.length co61, .slice Ao62 t342.length co62] ?_; (with_reducible refine (laws_eqByteS.calls kj28 _ _ t369 _ _ t342 true _ ?side1 ?side2 ?side3 ?side4 A58.out).mono ?_); (case side1 => exact zC ((Kd.R_reads' HO373.out).2.2)); (case side2 => exact (Kd.R_reads' HO373.out).2.1); (case side3 => exact zC ((Kd.R_reads' HO_5.out).2.2)); (case side4 => exact (Kd.R_reads' HO_5.out).2.1); rintro e w' ⟨rfl, ⟨nd, rfl⟩⟩; refine ⟨_, rfl, ?_⟩))
              go_meet
              case rel => exact ⟨_, ((t371 != t344)), (by first | rfl | (simp; done) | (simp [*]; done)), H', ⟨by have := HJ7.out; have := HJ28.out; first | omega | exact Nat.le_refl _⟩, ⟨zR (Kd.R_mono HO_9.out (fun _ hk => trivial))⟩, ⟨zB HB.out⟩⟩
             ·rw [if_neg c60] at H; have c60b0 : (t370 == t343) = false := beq_eq_false_iff_ne.mpr c60; have c60b1 : (t370 != t343) = true := bne_iff_ne.mpr c60
              (first | rw [c60b0] | (simp only [i64_w, i32_w]; rw [c60b0]) | skip)
              have H' := am H; clear H; obtain ⟨Ao63, co63, eo63⟩ := Kd.R_slice HO373.out
              subst eo63
              obtain ⟨Ao64, co64, eo64⟩ := Kd.R_slice HO_5.out
              subst eo64
              go_wp2_with (first | ((with_reducible refine gate_callee (f := 14) rfl ?_); refine goL_ (some 99) Try.func14 #[.slice Ao63 t369.length co63, .slice Ao64 t342.length co64] ?_; (with_reducible refine (laws_eqByteS.calls kj28 _ _ t369 _ _ t342 true _ ?side1 ?side2 ?side3 ?side4 A58.out).mono ?_); (case side1 => exact zC ((Kd.R_reads' HO373.out).2.2)); (case side2 => exact (Kd.R_reads' HO373.out).2.1); (case side3 => exact zC ((Kd.R_reads' HO_5.out).2.2)); (case side4 => exact (Kd.R_reads' HO_5.out).2.1); rintro e w' ⟨rfl, ⟨nd, rfl⟩⟩; refine ⟨_, rfl, ?_⟩))
              go_meet
              case rel => exact ⟨_, (true), (by first | rfl | (simp; done) | (simp [*]; done)), H', ⟨by have := HJ7.out; have := HJ28.out; first | omega | exact Nat.le_refl _⟩, ⟨zR (Kd.R_mono HO_9.out (fun _ hk => trivial))⟩, ⟨zB HB.out⟩⟩
            ·replace c59 := Bool.eq_false_iff.mpr c59
             subst c59
             have H1 : (laws_FnExactCorrectWord.j2 kj28 t364 t363 true) = some r := by rw [if_neg (show ¬ (false = true) by decide)] at H; exact H
             clear H; have H := H1; clear H1; have H' := am H; clear H; obtain ⟨Ao65, co65, eo65⟩ := Kd.R_slice HO373.out
             subst eo65
             obtain ⟨Ao66, co66, eo66⟩ := Kd.R_slice HO_5.out
             subst eo66
             go_wp2_with (first | ((with_reducible refine gate_callee (f := 14) rfl ?_); refine goL_ (some 99) Try.func14 #[.slice Ao65 t369.length co65, .slice Ao66 t342.length co66] ?_; (with_reducible refine (laws_eqByteS.calls kj28 _ _ t369 _ _ t342 false _ ?side1 ?side2 ?side3 ?side4 A58.out).mono ?_); (case side1 => exact zC ((Kd.R_reads' HO373.out).2.2)); (case side2 => exact (Kd.R_reads' HO373.out).2.1); (case side3 => exact zC ((Kd.R_reads' HO_5.out).2.2)); (case side4 => exact (Kd.R_reads' HO_5.out).2.1); rintro e w' ⟨rfl, ⟨nd, rfl⟩⟩; refine ⟨_, rfl, ?_⟩))
             go_meet
             case rel => exact ⟨_, (true), (by first | rfl | (simp; done) | (simp [*]; done)), H', ⟨by have := HJ7.out; have := HJ28.out; first | omega | exact Nat.le_refl _⟩, ⟨zR (Kd.R_mono HO_9.out (fun _ hk => trivial))⟩, ⟨zB HB.out⟩⟩
           case rest =>
            clear HC52; (try clear c1); (try clear c2); (try clear p2); (try clear c3); (try clear c3b0); (try clear c3b1); (try clear c4); (try clear c5); (try clear c6); (try clear c9); (try clear c14); (try clear c15); (try clear c16); (try clear c17); (try clear c17b0); (try clear c17b1); (try clear c18); (try clear c24); (try clear c27); (try clear c28); (try clear c29); (try clear c33); (try clear c33b0); (try clear c35); (try clear c36); (try clear c36b0); (try clear c36b1); (try clear c43); (try clear c46); (try clear c46b0); (try clear c49); (try clear c49b0); (try clear c49b1); (try clear c59); (try clear c60); (try clear c60b0); (try clear c60b1); (try clear p2); obtain ⟨kq, x110_51, rfl, HA, HJ51, HO_9, HB⟩ := hcut; have hl9_51 := (Kd.R_reads' HO_9.out).1; rw [hl9_51] at HO_9
            (try simp only [hl9_51])
            cases kq with
            | zero => exact absurd HA.out (by simp [laws_FnExactCorrectWord.j2])
            | succ kj51 =>
             have H := HA.out; clear HA
             simp only [laws_FnExactCorrectWord.j2] at H
             by_cases c67 : x110_51 = true
             ·subst c67
              have H1 : (some false) = some r := by rw [if_pos rfl] at H; exact H
              clear H; have H := H1; clear H1; obtain rfl := Option.some.inj H
              go_wp2
              go_ret
              exact ⟨by first | rfl | (simp [errW_none, errW_some] <;> rfl) | (simp [*, errW_none, errW_some] <;> rfl), zB HB.out⟩
             ·replace c67 := Bool.eq_false_iff.mpr c67
              subst c67
              have H1 : ((laws_heldByteS.f kj51 t364 1).bind fun t375 => (if t375 < 0 then (some false) else (if t375 = t363 then (some true) else (some false)))) = some r := by rw [if_neg (show ¬ (false = true) by decide)] at H; exact H
              clear H; have H := H1; clear H1; obtain ⟨t375, A68, H⟩ := bi_ H
              by_cases c69 : t375 < 0
              ·rw [if_pos c69] at H; have c69b0 : decide (t375 < 0) = true := decide_eq_true c69; clear c69; obtain rfl := Option.some.inj H
               go_wp2_with (first | ((with_reducible refine gate_callee (f := 16) rfl ?_); refine goL_ (some 113) Try.func16 #[.slice Ao53 t364.length co53, .int .i64 1] ?_; (with_reducible refine (laws_heldByteS.calls kj51 _ _ t364 1 t375 _ ?side1 ?side2 A68.out).mono ?_); (case side1 => exact zC ((Kd.R_reads' HO_9.out).2.2)); (case side2 => exact (Kd.R_reads' HO_9.out).2.1); rintro e w' ⟨rfl, ⟨nd, rfl⟩⟩; refine ⟨_, rfl, ?_⟩))
               go_ret
               exact ⟨by first | rfl | (simp [errW_none, errW_some] <;> rfl) | (simp [*, errW_none, errW_some] <;> rfl), zB HB.out⟩
              ·rw [if_neg c69] at H; have c69b0 : decide (t375 < 0) = false := decide_eq_false c69; clear c69
               by_cases c70 : t375 = t363
               ·rw [if_pos c70] at H; have c70b0 : (t375 == t363) = true := beq_iff_eq.mpr c70; have c70b1 : (t375 != t363) = false := bne_eq_false_iff_eq.mpr c70; clear c70; obtain rfl := Option.some.inj H
                go_wp2_with (first | ((with_reducible refine gate_callee (f := 16) rfl ?_); refine goL_ (some 113) Try.func16 #[.slice Ao53 t364.length co53, .int .i64 1] ?_; (with_reducible refine (laws_heldByteS.calls kj51 _ _ t364 1 t375 _ ?side1 ?side2 A68.out).mono ?_); (case side1 => exact zC ((Kd.R_reads' HO_9.out).2.2)); (case side2 => exact (Kd.R_reads' HO_9.out).2.1); rintro e w' ⟨rfl, ⟨nd, rfl⟩⟩; refine ⟨_, rfl, ?_⟩))
                go_ret
                exact ⟨by first | rfl | (simp [errW_none, errW_some] <;> rfl) | (simp [*, errW_none, errW_some] <;> rfl), zB HB.out⟩
               ·rw [if_neg c70] at H; have c70b0 : (t375 == t363) = false := beq_eq_false_iff_ne.mpr c70; have c70b1 : (t375 != t363) = true := bne_iff_ne.mpr c70; obtain rfl := Option.some.inj H
                go_wp2_with (first | ((with_reducible refine gate_callee (f := 16) rfl ?_); refine goL_ (some 113) Try.func16 #[.slice Ao53 t364.length co53, .int .i64 1] ?_; (with_reducible refine (laws_heldByteS.calls kj51 _ _ t364 1 t375 _ ?side1 ?side2 A68.out).mono ?_); (case side1 => exact zC ((Kd.R_reads' HO_9.out).2.2)); (case side2 => exact (Kd.R_reads' HO_9.out).2.1); rintro e w' ⟨rfl, ⟨nd, rfl⟩⟩; refine ⟨_, rfl, ?_⟩))
                go_ret
                exact ⟨by first | rfl | (simp [errW_none, errW_some] <;> rfl) | (simp [*, errW_none, errW_some] <;> rfl), zB HB.out⟩
          ·rw [if_neg c49] at H; have c49b0 : (t365 == t363) = false := beq_eq_false_iff_ne.mpr c49; have c49b1 : (t365 != t363) = true := bne_iff_ne.mpr c49; obtain rfl := Option.some.inj H; obtain ⟨Ao71, co71, eo71⟩ := Kd.R_slice HO_9.out
           subst eo71
           go_wp2_with (first | ((with_reducible refine gate_callee (f := 15) rfl ?_); refine goL_ (some 80) Try.func15 #[.slice Ao71 t350.length co71, .int .i64 1] ?_; (with_reducible refine (laws_markByteS.calls kj28 (fun k_ => some k_ = (.slice Ao71 t350.length co71 : Value).ownBlock) (.slice Ao71 t350.length co71) t350 1 t363 t364 w _ ?side1 ?side2 A44.out).mono ?_); (case side1 => repeat (first | (with_reducible first | exact HB.out | apply below_alloc | apply pw_below_drewN | apply below_drew1) | exact HB.out)); (case side2 => exact Kd.R_tight rfl HO_9.out); rintro e w72 ⟨rfl, hy0, hb, hkp⟩; refine ⟨_, rfl, ?_⟩; replace HO_5 := am (Kd.R_mono (ok' := fun k_ => some k_ ≠ (.slice Ao71 t350.length co71 : Value).ownBlock) (Kd.R_keptB (HO_5.out) hkp (fun k_ hk_ hs_ => (hk_) hs_)) (fun k_ hk_ => hk_.1)); replace HO_9 := am (Kd.R_reok rfl hy0 (fun k_ e_ => HO_9.out.1 k_ e_)); replace HB := am (hb); (try clear hb); (try clear hkp); (try clear hy0)) | ((with_reducible refine gate_callee (f := 16) rfl ?_); refine goesL_ (some 83) rfl rfl Try.func16 (by kernel_rfl) rfl #[.slice Ao71 t364.length co71, .int .i64 1] rfl (by (try simp only [List.map_toArray, List.map_cons, List.map_nil]); first | done | (rw [show t364.length = t350.length from (Kd.R_reads' HO_9.out).1.symm] <;> rfl) | rfl | (simp only [List.length_drop, List.length_take]; rfl)) ?_; (with_reducible refine (laws_heldByteS.calls kj28 _ _ t364 1 t365 _ ?side1 ?side2 A45.out).mono ?_); (case side1 => exact zC ((Kd.R_reads' HO_9.out).2.2)); (case side2 => rw [show t364.length = t350.length from (Kd.R_reads' HO_9.out).1.symm]; exact (Kd.R_reads' HO_9.out).2.1); rintro e w' ⟨rfl, ⟨nd, rfl⟩⟩; refine ⟨_, rfl, ?_⟩))
           go_ret
           exact ⟨by first | rfl | (simp [errW_none, errW_some] <;> rfl) | (simp [*, errW_none, errW_some] <;> rfl), zB HB.out⟩
     ·replace c27 := Bool.eq_false_iff.mpr c27
      subst c27
      have H1 : (some false) = some r := by rw [if_neg (show ¬ (false = true) by decide)] at H; exact H
      clear H; have H := H1; clear H1; obtain rfl := Option.some.inj H
      go_wp2_with (first | ((with_reducible refine gate_callee (f := 18) rfl ?_); refine goL_ (some 54) Try.func18 #[.slice A0 l0.length c0] ?_; (with_reducible refine (laws_toByteS.calls kj7 _ _ l0 t356 _ ?side1 ?side2 A25.out).mono ?_); (case side1 => exact zC (Kd.C_below HR0.out HB.out)); (case side2 => exact HC0.out); rintro e w73 ⟨v357, rfl, ho0, hb⟩; refine ⟨_, rfl, ?_⟩; have HO358 := am (Kd.R_lower (Kd.R_new' (Kd.R_new' (Kd.R_new' ho0 (Kd.R_lt (zR HO_5.out))) (Kd.R_lt (zR HO_8.out))) (Kd.R_lt (zR HO_9.out))) (zs_ HB.out)); replace HO_5 := am (Kd.R_elder' (zR HO_5.out) (Kd.R_base ho0) hb); replace HO_8 := am (Kd.R_elder' (zR HO_8.out) (Kd.R_base ho0) hb); replace HO_9 := am (Kd.R_elder' (zR HO_9.out) (Kd.R_base ho0) hb); replace HB := am (below_step (zB HB.out) hb); (try clear hb); (try clear ho0); obtain ⟨Ao74, co74, eo74⟩ := Kd.R_slice HO358.out; subst eo74) | ((with_reducible refine gate_callee (f := 14) rfl ?_); refine goL_ (some 55) Try.func14 #[.slice Ao13 t347.length co13, .slice Ao74 t356.length co74] ?_; (with_reducible refine (laws_eqByteS.calls kj7 _ _ t347 _ _ t356 false _ ?side1 ?side2 ?side3 ?side4 A26.out).mono ?_); (case side1 => exact zC ((Kd.R_reads' HO_8.out).2.2)); (case side2 => exact (Kd.R_reads' HO_8.out).2.1); (case side3 => exact zC ((Kd.R_reads' HO358.out).2.2)); (case side4 => exact (Kd.R_reads' HO358.out).2.1); rintro e w' ⟨rfl, ⟨nd, rfl⟩⟩; refine ⟨_, rfl, ?_⟩))
      go_ret
      exact ⟨by first | rfl | (simp [errW_none, errW_some] <;> rfl) | (simp [*, errW_none, errW_some] <;> rfl), zB HB.out⟩

/-- THE ONE PURE STATEMENT of laws_FnExactCorrectWord: yours. -/
def laws_FnExactCorrectWord.Pure : Prop := ∀ (l0 : List Int) (a1 : Int), l0.length ≤ maxLen → l0.length * 1 ≤ 140737488351232 → (∀ x ∈ l0, (Lit.int .u8 x).wf = true) → (Lit.int .i64 a1).wf = true → ∃ k, laws_FnExactCorrectWord.f k l0 a1 = some true
theorem laws_FnExactCorrectWord.walk (P : laws_FnExactCorrectWord.Pure) (a0 : Option Addr) (len0 cap0 : Nat) (z0 : List Int) (a1 : Int) (w : World) (w0 : (a0 = none ∧ len0 = 0 ∧ cap0 = 0 ∧ z0 = []) ∨ ∃ x, a0 = some x ∧ len0 ≤ cap0 ∧ cap0 ≤ maxLen ∧ z0.length = cap0 ∧ (∀ i, i < z0.length → w.cell? (x.add i) = some (.int .u8 (z0.getD i 0))) ∧ ∀ n ∈ z0, (Lit.int .u8 n).wf = true) (y0 : len0 * 1 ≤ 140737488351232) (w1 : (Lit.int .i64 a1).wf = true) :
  Calls Try.prog 9 #[.slice a0 len0 cap0, .int .i64 a1] w fun e w' => e = .returned (.bool true) ∧ Below w.heap.size w w' := by
 obtain ⟨l0, rfl, hr0, hm0, hw0, hc0⟩ := ReadsInt.ofRowC w0; obtain ⟨k, h⟩ := P l0 a1 hm0 y0 hw0 w1
 refine (laws_FnExactCorrectWord.calls k _ _ l0 a1 true w (Kd.C_of_reads (d := (0 : Int)) (h1 := fun _ => rfl) hr0) hc0 h).mono ?_
 rintro e w' ⟨rfl, hd⟩
 exact ⟨rfl, hd⟩

end Go.Proofs.Ytbloniemhkfnlaa.PFnExactCorrectWord
