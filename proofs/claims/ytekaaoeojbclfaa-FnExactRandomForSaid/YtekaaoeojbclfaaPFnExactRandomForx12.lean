/- A law's functions as plain Lean functions, each with the walk that shows that the code computes it: written by this session's program wip/tools/ppmake.py. -/
import Derived.Test.YtekaaoeojbclfaaKZ
import Derived.Test.YtekaaoeojbclfaaPFnExactRandomForx0
import Derived.Test.YtekaaoeojbclfaaPFnExactRandomForx1
import Derived.Test.YtekaaoeojbclfaaPFnExactRandomForx2
import Derived.Test.YtekaaoeojbclfaaPFnExactRandomForx7
import Derived.Test.YtekaaoeojbclfaaPFnExactRandomForx11
namespace Go.Proofs.Ytekaaoeojbclfaa.PFnExactRandomFor
open Go.RowKit Go.Proofs.YtekaaoeojbclfaaW.PrintWords Go.Proofs.YtekaaoeojbclfaaW.PrintLast Go.Proofs.YtekaaoeojbclfaaW.PrintMore
attribute [local go_sem] max2_int min2_int max_two min_two max_three min_three max_four min_four   -- for this text's walks alone
set_option linter.unusedVariables false
set_option linter.unusedSimpArgs false

/-! ### laws_FnExactRandomFor: function 13 -/
mutual
def laws_FnExactRandomFor.j0 : Nat → List (S87) → Int → List Int → Bool → List (S61) → List Int → Bool → Bool → Option (Bool)
 | 0, _, _, _, _, _, _, _, _ => none
 | k + 1, x0, x1, x6, x7, x8, x9, x10, x44 => if x44 = true then (some false) else ((laws_toShareS.f k x0).bind fun t269 => ((laws_eqShareS.f k x8 t269).bind fun t272 => (if t272 = true then ((laws_markShareS.f k x8 1).bind fun bt273 => (if bt273.1 < 0 then (laws_FnExactRandomFor.j1 k x0 x1 x6 x7 x9 true) else ((laws_eqByteS.f k x9 x6).bind fun t275 => (if t275 = true then (laws_FnExactRandomFor.j1 k x0 x1 x6 x7 x9 (x10 != x7)) else (laws_FnExactRandomFor.j1 k x0 x1 x6 x7 x9 true))))) else (some false))))
def laws_FnExactRandomFor.j1 : Nat → List (S87) → Int → List Int → Bool → List Int → Bool → Option (Bool)
 | 0, _, _, _, _, _, _ => none
 | k + 1, x0, x1, x6, x7, x9, x65 => if x65 = true then (some false) else ((laws_markByteS.f k x9 1).bind fun bt276 => ((laws_heldByteS.f k bt276.2 1).bind fun t278 => (if t278 < 0 then (some false) else (if t278 = bt276.1 then ((laws_toShareS.f k x0).bind fun t279 => ((impl_RandomFor.f k t279 x1).bind fun bt282 => ((laws_eqByteS.f k bt282.1 x6).bind fun t286 => (if t286 = true then (laws_FnExactRandomFor.j2 k bt276.2 bt276.1 (bt282.2 != x7)) else (laws_FnExactRandomFor.j2 k bt276.2 bt276.1 true))))) else (some false)))))
def laws_FnExactRandomFor.j2 : Nat → List Int → Int → Bool → Option (Bool)
 | 0, _, _, _ => none
 | k + 1, x9, x12, x92 => if x92 = true then (some false) else ((laws_heldByteS.f k x9 1).bind fun t287 => (if t287 < 0 then (some false) else (if t287 = x12 then (some true) else (some false))))
end
def laws_FnExactRandomFor.f (k : Nat) (l0 : List (S87)) (a1 : Int) : Option (Bool) := (laws_szShareS.f l0 1048576).bind fun t253 => (if t253 < 0 then (some true) else ((laws_toShareS.f k l0).bind fun t254 => ((spec_RandomFor.f k t254 a1).bind fun bt257 => ((laws_toShareS.f k l0).bind fun t261 => ((impl_RandomFor.f k t261 a1).bind fun bt264 => ((laws_eqByteS.f k bt264.1 bt257.1).bind fun t268 => (if t268 = true then (laws_FnExactRandomFor.j0 k l0 a1 bt257.1 bt257.2 t261 bt264.1 bt264.2 (bt264.2 != bt257.2)) else (laws_FnExactRandomFor.j0 k l0 a1 bt257.1 bt257.2 t261 bt264.1 bt264.2 true))))))))
theorem laws_FnExactRandomFor.mono_l : ∀ k, (∀ y0 y1 y2 y3 y4 y5 y6 y7, LeO (laws_FnExactRandomFor.j0 k y0 y1 y2 y3 y4 y5 y6 y7) (laws_FnExactRandomFor.j0 (k + 1) y0 y1 y2 y3 y4 y5 y6 y7)) ∧ (∀ y0 y1 y2 y3 y4 y5, LeO (laws_FnExactRandomFor.j1 k y0 y1 y2 y3 y4 y5) (laws_FnExactRandomFor.j1 (k + 1) y0 y1 y2 y3 y4 y5)) ∧ (∀ y0 y1 y2, LeO (laws_FnExactRandomFor.j2 k y0 y1 y2) (laws_FnExactRandomFor.j2 (k + 1) y0 y1 y2))
 | 0 => ⟨fun _ _ _ _ _ _ _ _ r h => by simp [laws_FnExactRandomFor.j0] at h, fun _ _ _ _ _ _ r h => by simp [laws_FnExactRandomFor.j1] at h, fun _ _ _ r h => by simp [laws_FnExactRandomFor.j2] at h⟩
 | k + 1 => by
  obtain ⟨ih0, ih1, ih2⟩ := laws_FnExactRandomFor.mono_l k
  refine ⟨?_, ?_, ?_⟩
  ·intro y0 y1 y2 y3 y4 y5 y6 y7
   unfold laws_FnExactRandomFor.j0
   repeat' first
   | (with_reducible exact ih0 _ _ _ _ _ _ _ _)
   | (with_reducible exact ih1 _ _ _ _ _ _)
   | (with_reducible exact ih2 _ _ _)
   | (with_reducible exact impl_RandomFor.mono _ _ _)
   | (with_reducible exact laws_eqByteS.mono _ _ _)
   | (with_reducible exact laws_eqShareS.mono _ _ _)
   | (with_reducible exact laws_heldByteS.mono _ _ _)
   | (with_reducible exact laws_markByteS.mono _ _ _)
   | (with_reducible exact laws_markShareS.mono _ _ _)
   | (with_reducible exact laws_toShareS.mono _ _)
   | (with_reducible exact spec_RandomFor.mono _ _ _)
   | (with_reducible exact LeO.refl _)
   | (with_reducible exact LeO.none _)
   | (with_reducible refine LeO.ite ?_ ?_)
   | (with_reducible refine LeO.bind ?_ (fun _ => ?_))
   | exact ih0 _ _ _ _ _ _ _ _
   | exact ih1 _ _ _ _ _ _
   | exact ih2 _ _ _
   | exact impl_RandomFor.mono _ _ _
   | exact laws_eqByteS.mono _ _ _
   | exact laws_eqShareS.mono _ _ _
   | exact laws_heldByteS.mono _ _ _
   | exact laws_markByteS.mono _ _ _
   | exact laws_markShareS.mono _ _ _
   | exact laws_toShareS.mono _ _
   | exact spec_RandomFor.mono _ _ _
   | exact LeO.none _
   | refine LeO.ite ?_ ?_
   | refine LeO.bind ?_ (fun _ => ?_)
  ·intro y0 y1 y2 y3 y4 y5
   unfold laws_FnExactRandomFor.j1
   repeat' first
   | (with_reducible exact ih0 _ _ _ _ _ _ _ _)
   | (with_reducible exact ih1 _ _ _ _ _ _)
   | (with_reducible exact ih2 _ _ _)
   | (with_reducible exact impl_RandomFor.mono _ _ _)
   | (with_reducible exact laws_eqByteS.mono _ _ _)
   | (with_reducible exact laws_eqShareS.mono _ _ _)
   | (with_reducible exact laws_heldByteS.mono _ _ _)
   | (with_reducible exact laws_markByteS.mono _ _ _)
   | (with_reducible exact laws_markShareS.mono _ _ _)
   | (with_reducible exact laws_toShareS.mono _ _)
   | (with_reducible exact spec_RandomFor.mono _ _ _)
   | (with_reducible exact LeO.refl _)
   | (with_reducible exact LeO.none _)
   | (with_reducible refine LeO.ite ?_ ?_)
   | (with_reducible refine LeO.bind ?_ (fun _ => ?_))
   | exact ih0 _ _ _ _ _ _ _ _
   | exact ih1 _ _ _ _ _ _
   | exact ih2 _ _ _
   | exact impl_RandomFor.mono _ _ _
   | exact laws_eqByteS.mono _ _ _
   | exact laws_eqShareS.mono _ _ _
   | exact laws_heldByteS.mono _ _ _
   | exact laws_markByteS.mono _ _ _
   | exact laws_markShareS.mono _ _ _
   | exact laws_toShareS.mono _ _
   | exact spec_RandomFor.mono _ _ _
   | exact LeO.none _
   | refine LeO.ite ?_ ?_
   | refine LeO.bind ?_ (fun _ => ?_)
  ·intro y0 y1 y2
   unfold laws_FnExactRandomFor.j2
   repeat' first | apply LeO.refl | apply LeO.none | apply LeO.ite | apply ih0 | apply ih1 | apply ih2 | apply impl_RandomFor.mono | apply laws_eqByteS.mono | apply laws_eqShareS.mono | apply laws_heldByteS.mono | apply laws_markByteS.mono | apply laws_markShareS.mono | apply laws_toShareS.mono | apply spec_RandomFor.mono | (refine LeO.bind ?_ (fun _ => ?_))
theorem laws_FnExactRandomFor.mono : ∀ a0 a1 k, LeO (laws_FnExactRandomFor.f k a0 a1) (laws_FnExactRandomFor.f (k + 1) a0 a1) := by
 intro a0 a1 k; obtain ⟨ih0, ih1, ih2⟩ := laws_FnExactRandomFor.mono_l k
 unfold laws_FnExactRandomFor.f
 repeat' first
   | (with_reducible exact ih0 _ _ _ _ _ _ _ _)
   | (with_reducible exact ih1 _ _ _ _ _ _)
   | (with_reducible exact ih2 _ _ _)
   | (with_reducible exact impl_RandomFor.mono _ _ _)
   | (with_reducible exact laws_eqByteS.mono _ _ _)
   | (with_reducible exact laws_eqShareS.mono _ _ _)
   | (with_reducible exact laws_heldByteS.mono _ _ _)
   | (with_reducible exact laws_markByteS.mono _ _ _)
   | (with_reducible exact laws_markShareS.mono _ _ _)
   | (with_reducible exact laws_toShareS.mono _ _)
   | (with_reducible exact spec_RandomFor.mono _ _ _)
   | (with_reducible exact LeO.refl _)
   | (with_reducible exact LeO.none _)
   | (with_reducible refine LeO.ite ?_ ?_)
   | (with_reducible refine LeO.bind ?_ (fun _ => ?_))
   | exact ih0 _ _ _ _ _ _ _ _
   | exact ih1 _ _ _ _ _ _
   | exact ih2 _ _ _
   | exact impl_RandomFor.mono _ _ _
   | exact laws_eqByteS.mono _ _ _
   | exact laws_eqShareS.mono _ _ _
   | exact laws_heldByteS.mono _ _ _
   | exact laws_markByteS.mono _ _ _
   | exact laws_markShareS.mono _ _ _
   | exact laws_toShareS.mono _ _
   | exact spec_RandomFor.mono _ _ _
   | exact LeO.none _
   | refine LeO.ite ?_ ?_
   | refine LeO.bind ?_ (fun _ => ?_)
set_option maxHeartbeats 8000000 in
set_option maxRecDepth 100000 in
theorem laws_FnExactRandomFor.calls (k : Nat) (A0 : Option Addr) (c0 : Nat) (l0 : List (S87)) (a1 : Int) (r : Bool) (w : World) (hr0 : Kd.C k87 w A0 l0.length l0) (hc0 : l0.length ≤ c0) (h : laws_FnExactRandomFor.f k l0 a1 = some r) :
  Calls Try.prog 13 #[.slice A0 l0.length c0, .int .u8 a1] w fun e w' => e = .returned (.bool r) ∧ Below w.heap.size w w' := by
 have HR0 := am hr0; have HC0 := am hc0; clear hr0 hc0; have HB := am (Below.refl w.heap.size w); have H : ((laws_szShareS.f l0 1048576).bind fun t253 => (if t253 < 0 then (some true) else ((laws_toShareS.f k l0).bind fun t254 => ((spec_RandomFor.f k t254 a1).bind fun bt257 => ((laws_toShareS.f k l0).bind fun t261 => ((impl_RandomFor.f k t261 a1).bind fun bt264 => ((laws_eqByteS.f k bt264.1 bt257.1).bind fun t268 => (if t268 = true then (laws_FnExactRandomFor.j0 k l0 a1 bt257.1 bt257.2 t261 bt264.1 bt264.2 (bt264.2 != bt257.2)) else (laws_FnExactRandomFor.j0 k l0 a1 bt257.1 bt257.2 t261 bt264.1 bt264.2 true))))))))) = some r := h; clear h; obtain ⟨t253, A3, H⟩ := bi_ H
 by_cases c4 : t253 < 0
 ·rw [if_pos c4] at H; have c4b0 := decide_eq_true c4; clear c4; obtain rfl := Option.some.inj H
  go_enter Try.func13, Try.ntmps13
  go_wp2_with (first | ((with_reducible refine gate_callee (f := 28) rfl ?_); refine goL_ (some 18) Try.func28 #[.slice A0 l0.length c0, .int .i64 1048576] ?_; (with_reducible refine (laws_szShareS.calls _ _ l0 1048576 t253 _ ?side1 ?side2 A3.out).mono ?_); (case side1 => exact zC HR0.out); (case side2 => exact HC0.out); rintro e w' ⟨rfl, ⟨nd, rfl⟩⟩; refine ⟨_, rfl, ?_⟩))
  go_ret
  exact ⟨rfl, zB HB.out⟩
 ·rw [if_neg c4] at H; have c4b0 := decide_eq_false c4; clear c4; obtain ⟨t254, A5, H⟩ := bi_ H; obtain ⟨⟨t257, t258⟩, A6, H⟩ := bi_ H; dsimp only at H; obtain ⟨t261, A7, H⟩ := bi_ H; obtain ⟨⟨t264, t265⟩, A8, H⟩ := bi_ H; dsimp only at H; have HC9 := am H; clear H
  go_enter Try.func13, Try.ntmps13
  go_upto_region 8 with (first | ((with_reducible refine gate_callee (f := 28) rfl ?_); refine goL_ (some 18) Try.func28 #[.slice A0 l0.length c0, .int .i64 1048576] ?_; (with_reducible refine (laws_szShareS.calls _ _ l0 1048576 t253 _ ?side1 ?side2 A3.out).mono ?_); (case side1 => exact zC HR0.out); (case side2 => exact HC0.out); rintro e w' ⟨rfl, ⟨nd, rfl⟩⟩; refine ⟨_, rfl, ?_⟩) | ((with_reducible refine gate_callee (f := 30) rfl ?_); refine goL_ (some 23) Try.func30 #[.slice A0 l0.length c0] ?_; (with_reducible refine (laws_toShareS.calls k _ _ l0 t254 _ ?side1 ?side2 A5.out).mono ?_); (case side1 => exact zC HR0.out); (case side2 => exact HC0.out); rintro e w10 ⟨v255, rfl, ho0, hb⟩; refine ⟨_, rfl, ?_⟩; have HO256 := am (Kd.R_lower ho0 (zs_ HB.out)); replace HB := am (below_step (zB HB.out) hb); (try clear hb); (try clear ho0); obtain ⟨Ao11, co11, eo11⟩ := Kd.R_slice HO256.out; subst eo11) | ((with_reducible refine gate_callee (f := 58) rfl ?_); refine goL_ (some 25) Try.func58 #[.slice Ao11 t254.length co11, .int .u8 a1] ?_; (with_reducible refine (spec_RandomFor.calls k _ _ t254 a1 t257 t258 _ ?side1 ?side2 A6.out).mono ?_); (case side1 => exact zC ((Kd.R_reads' HO256.out).2.2)); (case side2 => exact (Kd.R_reads' HO256.out).2.1); rintro e w12 ⟨v259, rfl, ho0, hb⟩; refine ⟨_, rfl, ?_⟩; replace HO256 := am (Kd.R_below (zR HO256.out) hb); have HO260 := am (Kd.R_lower ho0 (zs_ HB.out)); replace HB := am (below_step (zB HB.out) hb); (try clear hb); (try clear ho0)) | ((with_reducible refine gate_callee (f := 30) rfl ?_); refine goL_ (some 29) Try.func30 #[.slice A0 l0.length c0] ?_; (with_reducible refine (laws_toShareS.calls k _ _ l0 t261 _ ?side1 ?side2 A7.out).mono ?_); (case side1 => exact zC (Kd.C_below HR0.out HB.out)); (case side2 => exact HC0.out); rintro e w13 ⟨v262, rfl, ho0, hb⟩; refine ⟨_, rfl, ?_⟩; replace HO260 := am (Kd.R_below (zR HO260.out) hb); have HO263 := am (Kd.R_lower (Kd.R_new' ho0 (Kd.R_lt (zR HO256.out))) (zs_ HB.out)); replace HO256 := am (Kd.R_elder' (zR HO256.out) (Kd.R_base ho0) hb); replace HB := am (below_step (zB HB.out) hb); (try clear hb); (try clear ho0); obtain ⟨Ao14, co14, eo14⟩ := Kd.R_slice HO263.out; subst eo14) | ((with_reducible refine gate_callee (f := 59) rfl ?_); refine goL_ (some 33) Try.func59 #[.slice Ao14 t261.length co14, .int .u8 a1] ?_; (with_reducible refine (impl_RandomFor.calls k _ _ t261 a1 t264 t265 _ ?side1 ?side2 A8.out).mono ?_); (case side1 => exact zC ((Kd.R_reads' HO263.out).2.2)); (case side2 => exact (Kd.R_reads' HO263.out).2.1); rintro e w15 ⟨v266, rfl, ho0, hb⟩; refine ⟨_, rfl, ?_⟩; replace HO256 := am (Kd.R_below (zR HO256.out) hb); replace HO263 := am (Kd.R_below (zR HO263.out) hb); have HO267 := am (Kd.R_lower (Kd.R_new' ho0 (Kd.R_lt (zR HO260.out))) (zs_ HB.out)); replace HO260 := am (Kd.R_elder' (zR HO260.out) (Kd.R_base ho0) hb); replace HB := am (below_step (zB HB.out) hb); (try clear hb); (try clear ho0)))
  (try simp only [Act.put, List.setIfInBounds_toArray, List.set_cons_zero, List.set_cons_succ])
  go_cut [44] (fun v44 wc => ∃ (kq : Nat) (x44_8 : Bool), v44 = .bool x44_8 ∧ Aside0 (laws_FnExactRandomFor.j0 kq l0 a1 t257 t258 t261 t264 t265 x44_8 = some r) ∧ Aside0 (kq ≤ k) ∧ Aside0 (Kd.R (Kd.int .u8) 5 wc w.heap.size (fun k_ => some k_ ≠ (v266 : Value).ownBlock) v259 t257) ∧ Aside0 (Kd.R k61 61 wc w.heap.size (fun _ => True) (.slice Ao14 t261.length co14) t261) ∧ Aside0 (Kd.R (Kd.int .u8) 5 wc w.heap.size (fun k_ => some k_ ≠ (v259 : Value).ownBlock) v266 t264) ∧ Aside0 (Below w.heap.size w wc))
  case first =>
   have H := HC9.out; clear HC9; obtain ⟨t268, A16, H⟩ := bi_ H
   by_cases c17 : t268 = true
   ·subst c17
    have H1 : (laws_FnExactRandomFor.j0 k l0 a1 t257 t258 t261 t264 t265 (t265 != t258)) = some r := by rw [if_pos rfl] at H; exact H
    clear H; have H := H1; clear H1; have H' := am H; clear H; obtain ⟨Ao18, co18, eo18⟩ := Kd.R_slice HO267.out
    subst eo18
    obtain ⟨Ao19, co19, eo19⟩ := Kd.R_slice HO260.out
    subst eo19
    go_wp2_with (first | ((with_reducible refine gate_callee (f := 20) rfl ?_); refine goL_ (some 38) Try.func20 #[.slice Ao18 t264.length co18, .slice Ao19 t257.length co19] ?_; (with_reducible refine (laws_eqByteS.calls k _ _ t264 _ _ t257 true _ ?side1 ?side2 ?side3 ?side4 A16.out).mono ?_); (case side1 => exact zC ((Kd.R_reads' HO267.out).2.2)); (case side2 => exact (Kd.R_reads' HO267.out).2.1); (case side3 => exact zC ((Kd.R_reads' HO260.out).2.2)); (case side4 => exact (Kd.R_reads' HO260.out).2.1); rintro e w' ⟨rfl, ⟨nd, rfl⟩⟩; refine ⟨_, rfl, ?_⟩))
    go_meet
    case rel => exact ⟨_, ((t265 != t258)), rfl, H', ⟨by first | omega | exact Nat.le_refl _⟩, ⟨zR (Kd.R_mono HO260.out (fun _ hk => hk.2))⟩, ⟨zR (Kd.R_mono HO263.out (fun _ hk => trivial))⟩, ⟨zR (Kd.R_mono HO267.out (fun _ hk => hk.2))⟩, ⟨zB HB.out⟩⟩
   ·replace c17 := Bool.eq_false_iff.mpr c17
    subst c17
    have H1 : (laws_FnExactRandomFor.j0 k l0 a1 t257 t258 t261 t264 t265 true) = some r := by rw [if_neg (show ¬ (false = true) by decide)] at H; exact H
    clear H; have H := H1; clear H1; have H' := am H; clear H; obtain ⟨Ao20, co20, eo20⟩ := Kd.R_slice HO267.out
    subst eo20
    obtain ⟨Ao21, co21, eo21⟩ := Kd.R_slice HO260.out
    subst eo21
    go_wp2_with (first | ((with_reducible refine gate_callee (f := 20) rfl ?_); refine goL_ (some 38) Try.func20 #[.slice Ao20 t264.length co20, .slice Ao21 t257.length co21] ?_; (with_reducible refine (laws_eqByteS.calls k _ _ t264 _ _ t257 false _ ?side1 ?side2 ?side3 ?side4 A16.out).mono ?_); (case side1 => exact zC ((Kd.R_reads' HO267.out).2.2)); (case side2 => exact (Kd.R_reads' HO267.out).2.1); (case side3 => exact zC ((Kd.R_reads' HO260.out).2.2)); (case side4 => exact (Kd.R_reads' HO260.out).2.1); rintro e w' ⟨rfl, ⟨nd, rfl⟩⟩; refine ⟨_, rfl, ?_⟩))
    go_meet
    case rel => exact ⟨_, (true), rfl, H', ⟨by first | omega | exact Nat.le_refl _⟩, ⟨zR (Kd.R_mono HO260.out (fun _ hk => hk.2))⟩, ⟨zR (Kd.R_mono HO263.out (fun _ hk => trivial))⟩, ⟨zR (Kd.R_mono HO267.out (fun _ hk => hk.2))⟩, ⟨zB HB.out⟩⟩
  case rest =>
   clear HC9; obtain ⟨kq, x44_8, rfl, HA, HJ8, HO_6, HO_8, HO_9, HB⟩ := hcut
   cases kq with
   | zero => exact absurd HA.out (by simp [laws_FnExactRandomFor.j0])
   | succ kj8 =>
    have H := HA.out; clear HA
    simp only [laws_FnExactRandomFor.j0] at H
    by_cases c22 : x44_8 = true
    ·subst c22
     have H1 : (some false) = some r := by rw [if_pos rfl] at H; exact H
     clear H; have H := H1; clear H1; obtain rfl := Option.some.inj H
     go_wp2
     go_ret
     exact ⟨rfl, zB HB.out⟩
    ·replace c22 := Bool.eq_false_iff.mpr c22
     subst c22
     have H1 : ((laws_toShareS.f kj8 l0).bind fun t269 => ((laws_eqShareS.f kj8 t261 t269).bind fun t272 => (if t272 = true then ((laws_markShareS.f kj8 t261 1).bind fun bt273 => (if bt273.1 < 0 then (laws_FnExactRandomFor.j1 kj8 l0 a1 t257 t258 t264 true) else ((laws_eqByteS.f kj8 t264 t257).bind fun t275 => (if t275 = true then (laws_FnExactRandomFor.j1 kj8 l0 a1 t257 t258 t264 (t265 != t258)) else (laws_FnExactRandomFor.j1 kj8 l0 a1 t257 t258 t264 true))))) else (some false)))) = some r := by rw [if_neg (show ¬ (false = true) by decide)] at H; exact H
     clear H; have H := H1; clear H1; obtain ⟨t269, A23, H⟩ := bi_ H; obtain ⟨t272, A24, H⟩ := bi_ H
     by_cases c25 : t272 = true
     ·subst c25
      have H1 : ((laws_markShareS.f kj8 t261 1).bind fun bt273 => (if bt273.1 < 0 then (laws_FnExactRandomFor.j1 kj8 l0 a1 t257 t258 t264 true) else ((laws_eqByteS.f kj8 t264 t257).bind fun t275 => (if t275 = true then (laws_FnExactRandomFor.j1 kj8 l0 a1 t257 t258 t264 (t265 != t258)) else (laws_FnExactRandomFor.j1 kj8 l0 a1 t257 t258 t264 true))))) = some r := by rw [if_pos rfl] at H; exact H
      clear H; have H := H1; clear H1; obtain ⟨⟨t273, t274⟩, A26, H⟩ := bi_ H; dsimp only at H; have HC27 := am H; clear H
      go_upto_region 14 with (first | ((with_reducible refine gate_callee (f := 30) rfl ?_); refine goL_ (some 47) Try.func30 #[.slice A0 l0.length c0] ?_; (with_reducible refine (laws_toShareS.calls kj8 _ _ l0 t269 _ ?side1 ?side2 A23.out).mono ?_); (case side1 => exact zC (Kd.C_below HR0.out HB.out)); (case side2 => exact HC0.out); rintro e w28 ⟨v270, rfl, ho0, hb⟩; refine ⟨_, rfl, ?_⟩; replace HO_6 := am (Kd.R_below (zR HO_6.out) hb); replace HO_9 := am (Kd.R_below (zR HO_9.out) hb); have HO271 := am (Kd.R_lower (Kd.R_new' ho0 (Kd.R_lt (zR HO_8.out))) (zs_ HB.out)); replace HO_8 := am (Kd.R_elder' (zR HO_8.out) (Kd.R_base ho0) hb); replace HB := am (below_step (zB HB.out) hb); (try clear hb); (try clear ho0); obtain ⟨Ao29, co29, eo29⟩ := Kd.R_slice HO271.out; subst eo29) | ((with_reducible refine gate_callee (f := 32) rfl ?_); refine goL_ (some 48) Try.func32 #[.slice Ao14 t261.length co14, .slice Ao29 t269.length co29] ?_; (with_reducible refine (laws_eqShareS.calls kj8 _ _ t261 _ _ t269 true _ ?side1 ?side2 ?side3 ?side4 A24.out).mono ?_); (case side1 => exact zC ((Kd.R_reads' HO_8.out).2.2)); (case side2 => exact (Kd.R_reads' HO_8.out).2.1); (case side3 => exact zC ((Kd.R_reads' HO271.out).2.2)); (case side4 => exact (Kd.R_reads' HO271.out).2.1); rintro e w30 ⟨rfl, hb⟩; refine ⟨_, rfl, ?_⟩; replace HO_6 := am (Kd.R_below (zR HO_6.out) hb); replace HO_8 := am (Kd.R_below (zR HO_8.out) hb); replace HO_9 := am (Kd.R_below (zR HO_9.out) hb); replace HO271 := am (Kd.R_below (zR HO271.out) hb); replace HB := am (below_step (zB HB.out) hb); (try clear hb); (try clear hb2); (try clear hk); (try clear hi)) | ((with_reducible refine gate_callee (f := 35) rfl ?_); refine goL_ (some 52) Try.func35 #[.slice Ao14 t261.length co14, .int .i64 1] ?_; (with_reducible refine (laws_markShareS.calls kj8 (fun k_ => some k_ = (.slice Ao14 t261.length co14 : Value).ownBlock) (.slice Ao14 t261.length co14) t261 1 t273 t274 w _ ?side1 ?side2 A26.out).mono ?_); (case side1 => repeat (first | (with_reducible first | exact HB.out | apply below_alloc | apply pw_below_drewN | apply below_drew1) | exact HB.out)); (case side2 => exact Kd.R_tight rfl HO_8.out); rintro e w31 ⟨rfl, hy0, hb, hkp⟩; refine ⟨_, rfl, ?_⟩; replace HO_6 := am (Kd.R_mono (ok' := fun k_ => some k_ ≠ (v266 : Value).ownBlock) (Kd.R_keptB ((Kd.R_apart' HO_6.out (Kd.R_typed HO_8.out) (by decide))) hkp (fun k_ hk_ hs_ => (hk_.2) hs_)) (fun k_ hk_ => hk_.1.1)); replace HO_9 := am (Kd.R_mono (ok' := fun k_ => some k_ ≠ (v259 : Value).ownBlock) (Kd.R_keptB ((Kd.R_apart' HO_9.out (Kd.R_typed HO_8.out) (by decide))) hkp (fun k_ hk_ hs_ => (hk_.2) hs_)) (fun k_ hk_ => hk_.1.1)); replace HO_8 := am (Kd.R_reok rfl hy0 (fun k_ e_ => HO_8.out.1 k_ e_)); replace HO271 := am (Kd.R_mono (ok' := fun k_ => some k_ ≠ (.slice Ao14 t261.length co14 : Value).ownBlock) (Kd.R_keptB (HO271.out) hkp (fun k_ hk_ hs_ => (hk_.2) hs_)) (fun k_ hk_ => hk_.1.2)); replace HB := am (hb); (try clear hb); (try clear hkp); (try clear hy0)))
      (try simp only [Act.put, List.setIfInBounds_toArray, List.set_cons_zero, List.set_cons_succ])
      go_cut [65] (fun v65 wc => ∃ (kq : Nat) (x65_26 : Bool), v65 = .bool x65_26 ∧ Aside0 (laws_FnExactRandomFor.j1 kq l0 a1 t257 t258 t264 x65_26 = some r) ∧ Aside0 (kq ≤ kj8) ∧ Aside0 (Kd.R (Kd.int .u8) 5 wc w.heap.size (fun k_ => some k_ ≠ (v266 : Value).ownBlock) v259 t257) ∧ Aside0 (Kd.R (Kd.int .u8) 5 wc w.heap.size (fun k_ => some k_ ≠ (v259 : Value).ownBlock) v266 t264) ∧ Aside0 (Below w.heap.size w wc))
      case first =>
       have H := HC27.out; clear HC27
       by_cases c32 : t273 < 0
       ·rw [if_pos c32] at H; have c32b0 := decide_eq_true c32; clear c32
        (first | rw [c32b0] | (simp only [i64_w, i32_w]; rw [c32b0]) | skip)
        have H' := am H; clear H
        go_wp2
        go_meet
        case rel => exact ⟨_, (true), rfl, H', ⟨by have := HJ8.out; first | omega | exact Nat.le_refl _⟩, ⟨zR HO_6.out⟩, ⟨zR HO_9.out⟩, ⟨zB HB.out⟩⟩
       ·rw [if_neg c32] at H; have c32b0 := decide_eq_false c32; clear c32
        (first | rw [c32b0] | (simp only [i64_w, i32_w]; rw [c32b0]) | skip)
        obtain ⟨t275, A33, H⟩ := bi_ H
        by_cases c34 : t275 = true
        ·subst c34
         have H1 : (laws_FnExactRandomFor.j1 kj8 l0 a1 t257 t258 t264 (t265 != t258)) = some r := by rw [if_pos rfl] at H; exact H
         clear H; have H := H1; clear H1; have H' := am H; clear H; obtain ⟨Ao35, co35, eo35⟩ := Kd.R_slice HO_9.out
         subst eo35
         obtain ⟨Ao36, co36, eo36⟩ := Kd.R_slice HO_6.out
         subst eo36
         go_wp2_with (first | (go_at_call 20; (with_reducible refine (laws_eqByteS.calls kj8 _ _ t264 _ _ t257 true _ ?side1 ?side2 ?side3 ?side4 A33.out).mono ?_); (case side1 => exact zC ((Kd.R_reads' HO_9.out).2.2)); (case side2 => exact (Kd.R_reads' HO_9.out).2.1); (case side3 => exact zC ((Kd.R_reads' HO_6.out).2.2)); (case side4 => exact (Kd.R_reads' HO_6.out).2.1); rintro e w' ⟨rfl, ⟨nd, rfl⟩⟩))
         go_meet
         case rel => exact ⟨_, ((t265 != t258)), rfl, H', ⟨by have := HJ8.out; first | omega | exact Nat.le_refl _⟩, ⟨zR HO_6.out⟩, ⟨zR HO_9.out⟩, ⟨zB HB.out⟩⟩
        ·replace c34 := Bool.eq_false_iff.mpr c34
         subst c34
         have H1 : (laws_FnExactRandomFor.j1 kj8 l0 a1 t257 t258 t264 true) = some r := by rw [if_neg (show ¬ (false = true) by decide)] at H; exact H
         clear H; have H := H1; clear H1; have H' := am H; clear H; obtain ⟨Ao37, co37, eo37⟩ := Kd.R_slice HO_9.out
         subst eo37
         obtain ⟨Ao38, co38, eo38⟩ := Kd.R_slice HO_6.out
         subst eo38
         go_wp2_with (first | (go_at_call 20; (with_reducible refine (laws_eqByteS.calls kj8 _ _ t264 _ _ t257 false _ ?side1 ?side2 ?side3 ?side4 A33.out).mono ?_); (case side1 => exact zC ((Kd.R_reads' HO_9.out).2.2)); (case side2 => exact (Kd.R_reads' HO_9.out).2.1); (case side3 => exact zC ((Kd.R_reads' HO_6.out).2.2)); (case side4 => exact (Kd.R_reads' HO_6.out).2.1); rintro e w' ⟨rfl, ⟨nd, rfl⟩⟩))
         go_meet
         case rel => exact ⟨_, (true), rfl, H', ⟨by have := HJ8.out; first | omega | exact Nat.le_refl _⟩, ⟨zR HO_6.out⟩, ⟨zR HO_9.out⟩, ⟨zB HB.out⟩⟩
      case rest =>
       clear HC27; obtain ⟨kq, x65_26, rfl, HA, HJ26, HO_6, HO_9, HB⟩ := hcut
       cases kq with
       | zero => exact absurd HA.out (by simp [laws_FnExactRandomFor.j1])
       | succ kj26 =>
        have H := HA.out; clear HA
        simp only [laws_FnExactRandomFor.j1] at H
        by_cases c39 : x65_26 = true
        ·subst c39
         have H1 : (some false) = some r := by rw [if_pos rfl] at H; exact H
         clear H; have H := H1; clear H1; obtain rfl := Option.some.inj H
         go_wp2
         go_ret
         exact ⟨rfl, zB HB.out⟩
        ·replace c39 := Bool.eq_false_iff.mpr c39
         subst c39
         have H1 : ((laws_markByteS.f kj26 t264 1).bind fun bt276 => ((laws_heldByteS.f kj26 bt276.2 1).bind fun t278 => (if t278 < 0 then (some false) else (if t278 = bt276.1 then ((laws_toShareS.f kj26 l0).bind fun t279 => ((impl_RandomFor.f kj26 t279 a1).bind fun bt282 => ((laws_eqByteS.f kj26 bt282.1 t257).bind fun t286 => (if t286 = true then (laws_FnExactRandomFor.j2 kj26 bt276.2 bt276.1 (bt282.2 != t258)) else (laws_FnExactRandomFor.j2 kj26 bt276.2 bt276.1 true))))) else (some false))))) = some r := by rw [if_neg (show ¬ (false = true) by decide)] at H; exact H
         clear H; have H := H1; clear H1; obtain ⟨⟨t276, t277⟩, A40, H⟩ := bi_ H; dsimp only at H; obtain ⟨t278, A41, H⟩ := bi_ H
         by_cases c42 : t278 < 0
         ·rw [if_pos c42] at H; have c42b0 := decide_eq_true c42; clear c42; obtain rfl := Option.some.inj H; obtain ⟨Ao43, co43, eo43⟩ := Kd.R_slice HO_9.out
          subst eo43
          go_wp2_with (first | ((with_reducible refine gate_callee (f := 36) rfl ?_); refine goL_ (some 68) Try.func36 #[.slice Ao43 t264.length co43, .int .i64 1] ?_; (with_reducible refine (laws_markByteS.calls kj26 (fun k_ => some k_ = (.slice Ao43 t264.length co43 : Value).ownBlock) (.slice Ao43 t264.length co43) t264 1 t276 t277 w _ ?side1 ?side2 A40.out).mono ?_); (case side1 => repeat (first | (with_reducible first | exact HB.out | apply below_alloc | apply pw_below_drewN | apply below_drew1) | exact HB.out)); (case side2 => exact Kd.R_tight rfl HO_9.out); rintro e w44 ⟨rfl, hy0, hb, hkp⟩; refine ⟨_, rfl, ?_⟩; replace HO_6 := am (Kd.R_mono (ok' := fun k_ => some k_ ≠ (.slice Ao43 t264.length co43 : Value).ownBlock) (Kd.R_keptB (HO_6.out) hkp (fun k_ hk_ hs_ => (hk_) hs_)) (fun k_ hk_ => hk_.1)); replace HO_9 := am (Kd.R_reok rfl hy0 (fun k_ e_ => HO_9.out.1 k_ e_)); replace HB := am (hb); (try clear hb); (try clear hkp); (try clear hy0)) | ((with_reducible refine gate_callee (f := 60) rfl ?_); refine goesL_ (some 71) rfl rfl Try.func60 (by kernel_rfl) rfl #[.slice Ao43 t277.length co43, .int .i64 1] rfl (by (try simp only [List.map_toArray, List.map_cons, List.map_nil]); first | done | (rw [show t277.length = t264.length from (Kd.R_reads' HO_9.out).1.symm] <;> rfl) | rfl | (simp only [List.length_drop, List.length_take]; rfl)) ?_; (with_reducible refine (laws_heldByteS.calls kj26 _ _ t277 1 t278 _ ?side1 ?side2 A41.out).mono ?_); (case side1 => exact zC ((Kd.R_reads' HO_9.out).2.2)); (case side2 => rw [show t277.length = t264.length from (Kd.R_reads' HO_9.out).1.symm]; exact (Kd.R_reads' HO_9.out).2.1); rintro e w' ⟨rfl, ⟨nd, rfl⟩⟩; refine ⟨_, rfl, ?_⟩))
          go_ret
          exact ⟨rfl, zB HB.out⟩
         ·rw [if_neg c42] at H; have c42b0 := decide_eq_false c42; clear c42
          by_cases c45 : t278 = t276
          ·rw [if_pos c45] at H; have c45b0 : (t278 == t276) = true := beq_iff_eq.mpr c45; have c45b1 : (t278 != t276) = false := bne_eq_false_iff_eq.mpr c45; clear c45; obtain ⟨t279, A46, H⟩ := bi_ H; obtain ⟨⟨t282, t283⟩, A47, H⟩ := bi_ H; dsimp only at H; have HC48 := am H; clear H; obtain ⟨Ao49, co49, eo49⟩ := Kd.R_slice HO_9.out
           subst eo49
           go_upto_region 25 with (first | ((with_reducible refine gate_callee (f := 36) rfl ?_); refine goL_ (some 68) Try.func36 #[.slice Ao49 t264.length co49, .int .i64 1] ?_; (with_reducible refine (laws_markByteS.calls kj26 (fun k_ => some k_ = (.slice Ao49 t264.length co49 : Value).ownBlock) (.slice Ao49 t264.length co49) t264 1 t276 t277 w _ ?side1 ?side2 A40.out).mono ?_); (case side1 => repeat (first | (with_reducible first | exact HB.out | apply below_alloc | apply pw_below_drewN | apply below_drew1) | exact HB.out)); (case side2 => exact Kd.R_tight rfl HO_9.out); rintro e w50 ⟨rfl, hy0, hb, hkp⟩; refine ⟨_, rfl, ?_⟩; replace HO_6 := am (Kd.R_mono (ok' := fun k_ => some k_ ≠ (.slice Ao49 t264.length co49 : Value).ownBlock) (Kd.R_keptB (HO_6.out) hkp (fun k_ hk_ hs_ => (hk_) hs_)) (fun k_ hk_ => hk_.1)); replace HO_9 := am (Kd.R_reok rfl hy0 (fun k_ e_ => HO_9.out.1 k_ e_)); replace HB := am (hb); (try clear hb); (try clear hkp); (try clear hy0)) | ((with_reducible refine gate_callee (f := 60) rfl ?_); refine goesL_ (some 71) rfl rfl Try.func60 (by kernel_rfl) rfl #[.slice Ao49 t277.length co49, .int .i64 1] rfl (by (try simp only [List.map_toArray, List.map_cons, List.map_nil]); first | done | (rw [show t277.length = t264.length from (Kd.R_reads' HO_9.out).1.symm] <;> rfl) | rfl | (simp only [List.length_drop, List.length_take]; rfl)) ?_; (with_reducible refine (laws_heldByteS.calls kj26 _ _ t277 1 t278 _ ?side1 ?side2 A41.out).mono ?_); (case side1 => exact zC ((Kd.R_reads' HO_9.out).2.2)); (case side2 => rw [show t277.length = t264.length from (Kd.R_reads' HO_9.out).1.symm]; exact (Kd.R_reads' HO_9.out).2.1); rintro e w' ⟨rfl, ⟨nd, rfl⟩⟩; refine ⟨_, rfl, ?_⟩) | ((with_reducible refine gate_callee (f := 30) rfl ?_); refine goL_ (some 79) Try.func30 #[.slice A0 l0.length c0] ?_; (with_reducible refine (laws_toShareS.calls kj26 _ _ l0 t279 _ ?side1 ?side2 A46.out).mono ?_); (case side1 => exact zC (Kd.C_below HR0.out HB.out)); (case side2 => exact HC0.out); rintro e w51 ⟨v280, rfl, ho0, hb⟩; refine ⟨_, rfl, ?_⟩; replace HO_6 := am (Kd.R_below (zR HO_6.out) hb); replace HO_9 := am (Kd.R_below (zR HO_9.out) hb); have HO281 := am (Kd.R_lower ho0 (zs_ HB.out)); replace HB := am (below_step (zB HB.out) hb); (try clear hb); (try clear ho0); obtain ⟨Ao52, co52, eo52⟩ := Kd.R_slice HO281.out; subst eo52) | ((with_reducible refine gate_callee (f := 59) rfl ?_); refine goL_ (some 81) Try.func59 #[.slice Ao52 t279.length co52, .int .u8 a1] ?_; (with_reducible refine (impl_RandomFor.calls kj26 _ _ t279 a1 t282 t283 _ ?side1 ?side2 A47.out).mono ?_); (case side1 => exact zC ((Kd.R_reads' HO281.out).2.2)); (case side2 => exact (Kd.R_reads' HO281.out).2.1); rintro e w53 ⟨v284, rfl, ho0, hb⟩; refine ⟨_, rfl, ?_⟩; replace HO281 := am (Kd.R_below (zR HO281.out) hb); have HO285 := am (Kd.R_lower (Kd.R_new' (Kd.R_new' ho0 (Kd.R_lt (zR HO_6.out))) (Kd.R_lt (zR HO_9.out))) (zs_ HB.out)); replace HO_6 := am (Kd.R_elder' (zR HO_6.out) (Kd.R_base ho0) hb); replace HO_9 := am (Kd.R_elder' (zR HO_9.out) (Kd.R_base ho0) hb); replace HB := am (below_step (zB HB.out) hb); (try clear hb); (try clear ho0)))
           (try simp only [Act.put, List.setIfInBounds_toArray, List.set_cons_zero, List.set_cons_succ])
           go_cut [92] (fun v92 wc => ∃ (kq : Nat) (x92_47 : Bool), v92 = .bool x92_47 ∧ Aside0 (laws_FnExactRandomFor.j2 kq t277 t276 x92_47 = some r) ∧ Aside0 (kq ≤ kj26) ∧ Aside0 (Kd.R (Kd.int .u8) 5 wc w.heap.size (fun _ => True) (.slice Ao49 t264.length co49) t277) ∧ Aside0 (Below w.heap.size w wc))
           case first =>
            have H := HC48.out; clear HC48; obtain ⟨t286, A54, H⟩ := bi_ H
            by_cases c55 : t286 = true
            ·subst c55
             have H1 : (laws_FnExactRandomFor.j2 kj26 t277 t276 (t283 != t258)) = some r := by rw [if_pos rfl] at H; exact H
             clear H; have H := H1; clear H1; have H' := am H; clear H; obtain ⟨Ao56, co56, eo56⟩ := Kd.R_slice HO285.out
             subst eo56
             obtain ⟨Ao57, co57, eo57⟩ := Kd.R_slice HO_6.out
             subst eo57
             go_wp2_with (first | ((with_reducible refine gate_callee (f := 20) rfl ?_); refine goL_ (some 86) Try.func20 #[.slice Ao56 t282.length co56, .slice Ao57 t257.length co57] ?_; (with_reducible refine (laws_eqByteS.calls kj26 _ _ t282 _ _ t257 true _ ?side1 ?side2 ?side3 ?side4 A54.out).mono ?_); (case side1 => exact zC ((Kd.R_reads' HO285.out).2.2)); (case side2 => exact (Kd.R_reads' HO285.out).2.1); (case side3 => exact zC ((Kd.R_reads' HO_6.out).2.2)); (case side4 => exact (Kd.R_reads' HO_6.out).2.1); rintro e w' ⟨rfl, ⟨nd, rfl⟩⟩; refine ⟨_, rfl, ?_⟩))
             go_meet
             case rel => exact ⟨_, ((t283 != t258)), rfl, H', ⟨by have := HJ8.out; have := HJ26.out; first | omega | exact Nat.le_refl _⟩, ⟨zR (Kd.R_mono HO_9.out (fun _ hk => trivial))⟩, ⟨zB HB.out⟩⟩
            ·replace c55 := Bool.eq_false_iff.mpr c55
             subst c55
             have H1 : (laws_FnExactRandomFor.j2 kj26 t277 t276 true) = some r := by rw [if_neg (show ¬ (false = true) by decide)] at H; exact H
             clear H; have H := H1; clear H1; have H' := am H; clear H; obtain ⟨Ao58, co58, eo58⟩ := Kd.R_slice HO285.out
             subst eo58
             obtain ⟨Ao59, co59, eo59⟩ := Kd.R_slice HO_6.out
             subst eo59
             go_wp2_with (first | ((with_reducible refine gate_callee (f := 20) rfl ?_); refine goL_ (some 86) Try.func20 #[.slice Ao58 t282.length co58, .slice Ao59 t257.length co59] ?_; (with_reducible refine (laws_eqByteS.calls kj26 _ _ t282 _ _ t257 false _ ?side1 ?side2 ?side3 ?side4 A54.out).mono ?_); (case side1 => exact zC ((Kd.R_reads' HO285.out).2.2)); (case side2 => exact (Kd.R_reads' HO285.out).2.1); (case side3 => exact zC ((Kd.R_reads' HO_6.out).2.2)); (case side4 => exact (Kd.R_reads' HO_6.out).2.1); rintro e w' ⟨rfl, ⟨nd, rfl⟩⟩; refine ⟨_, rfl, ?_⟩))
             go_meet
             case rel => exact ⟨_, (true), rfl, H', ⟨by have := HJ8.out; have := HJ26.out; first | omega | exact Nat.le_refl _⟩, ⟨zR (Kd.R_mono HO_9.out (fun _ hk => trivial))⟩, ⟨zB HB.out⟩⟩
           case rest =>
            clear HC48; obtain ⟨kq, x92_47, rfl, HA, HJ47, HO_9, HB⟩ := hcut; have hl9_47 := (Kd.R_reads' HO_9.out).1; rw [hl9_47] at HO_9
            (try simp only [hl9_47])
            cases kq with
            | zero => exact absurd HA.out (by simp [laws_FnExactRandomFor.j2])
            | succ kj47 =>
             have H := HA.out; clear HA
             simp only [laws_FnExactRandomFor.j2] at H
             by_cases c60 : x92_47 = true
             ·subst c60
              have H1 : (some false) = some r := by rw [if_pos rfl] at H; exact H
              clear H; have H := H1; clear H1; obtain rfl := Option.some.inj H
              go_wp2
              go_ret
              exact ⟨rfl, zB HB.out⟩
             ·replace c60 := Bool.eq_false_iff.mpr c60
              subst c60
              have H1 : ((laws_heldByteS.f kj47 t277 1).bind fun t287 => (if t287 < 0 then (some false) else (if t287 = t276 then (some true) else (some false)))) = some r := by rw [if_neg (show ¬ (false = true) by decide)] at H; exact H
              clear H; have H := H1; clear H1; obtain ⟨t287, A61, H⟩ := bi_ H
              by_cases c62 : t287 < 0
              ·rw [if_pos c62] at H; have c62b0 := decide_eq_true c62; clear c62; obtain rfl := Option.some.inj H
               go_wp2_with (first | ((with_reducible refine gate_callee (f := 60) rfl ?_); refine goL_ (some 95) Try.func60 #[.slice Ao49 t277.length co49, .int .i64 1] ?_; (with_reducible refine (laws_heldByteS.calls kj47 _ _ t277 1 t287 _ ?side1 ?side2 A61.out).mono ?_); (case side1 => exact zC ((Kd.R_reads' HO_9.out).2.2)); (case side2 => exact (Kd.R_reads' HO_9.out).2.1); rintro e w' ⟨rfl, ⟨nd, rfl⟩⟩; refine ⟨_, rfl, ?_⟩))
               go_ret
               exact ⟨rfl, zB HB.out⟩
              ·rw [if_neg c62] at H; have c62b0 := decide_eq_false c62; clear c62
               by_cases c63 : t287 = t276
               ·rw [if_pos c63] at H; have c63b0 : (t287 == t276) = true := beq_iff_eq.mpr c63; have c63b1 : (t287 != t276) = false := bne_eq_false_iff_eq.mpr c63; clear c63; obtain rfl := Option.some.inj H
                go_wp2_with (first | ((with_reducible refine gate_callee (f := 60) rfl ?_); refine goL_ (some 95) Try.func60 #[.slice Ao49 t277.length co49, .int .i64 1] ?_; (with_reducible refine (laws_heldByteS.calls kj47 _ _ t277 1 t287 _ ?side1 ?side2 A61.out).mono ?_); (case side1 => exact zC ((Kd.R_reads' HO_9.out).2.2)); (case side2 => exact (Kd.R_reads' HO_9.out).2.1); rintro e w' ⟨rfl, ⟨nd, rfl⟩⟩; refine ⟨_, rfl, ?_⟩))
                go_ret
                exact ⟨rfl, zB HB.out⟩
               ·rw [if_neg c63] at H; have c63b0 : (t287 == t276) = false := beq_eq_false_iff_ne.mpr c63; have c63b1 : (t287 != t276) = true := bne_iff_ne.mpr c63; obtain rfl := Option.some.inj H
                go_wp2_with (first | ((with_reducible refine gate_callee (f := 60) rfl ?_); refine goL_ (some 95) Try.func60 #[.slice Ao49 t277.length co49, .int .i64 1] ?_; (with_reducible refine (laws_heldByteS.calls kj47 _ _ t277 1 t287 _ ?side1 ?side2 A61.out).mono ?_); (case side1 => exact zC ((Kd.R_reads' HO_9.out).2.2)); (case side2 => exact (Kd.R_reads' HO_9.out).2.1); rintro e w' ⟨rfl, ⟨nd, rfl⟩⟩; refine ⟨_, rfl, ?_⟩))
                go_ret
                exact ⟨rfl, zB HB.out⟩
          ·rw [if_neg c45] at H; have c45b0 : (t278 == t276) = false := beq_eq_false_iff_ne.mpr c45; have c45b1 : (t278 != t276) = true := bne_iff_ne.mpr c45; obtain rfl := Option.some.inj H; obtain ⟨Ao64, co64, eo64⟩ := Kd.R_slice HO_9.out
           subst eo64
           go_wp2_with (first | ((with_reducible refine gate_callee (f := 36) rfl ?_); refine goL_ (some 68) Try.func36 #[.slice Ao64 t264.length co64, .int .i64 1] ?_; (with_reducible refine (laws_markByteS.calls kj26 (fun k_ => some k_ = (.slice Ao64 t264.length co64 : Value).ownBlock) (.slice Ao64 t264.length co64) t264 1 t276 t277 w _ ?side1 ?side2 A40.out).mono ?_); (case side1 => repeat (first | (with_reducible first | exact HB.out | apply below_alloc | apply pw_below_drewN | apply below_drew1) | exact HB.out)); (case side2 => exact Kd.R_tight rfl HO_9.out); rintro e w65 ⟨rfl, hy0, hb, hkp⟩; refine ⟨_, rfl, ?_⟩; replace HO_6 := am (Kd.R_mono (ok' := fun k_ => some k_ ≠ (.slice Ao64 t264.length co64 : Value).ownBlock) (Kd.R_keptB (HO_6.out) hkp (fun k_ hk_ hs_ => (hk_) hs_)) (fun k_ hk_ => hk_.1)); replace HO_9 := am (Kd.R_reok rfl hy0 (fun k_ e_ => HO_9.out.1 k_ e_)); replace HB := am (hb); (try clear hb); (try clear hkp); (try clear hy0)) | ((with_reducible refine gate_callee (f := 60) rfl ?_); refine goesL_ (some 71) rfl rfl Try.func60 (by kernel_rfl) rfl #[.slice Ao64 t277.length co64, .int .i64 1] rfl (by (try simp only [List.map_toArray, List.map_cons, List.map_nil]); first | done | (rw [show t277.length = t264.length from (Kd.R_reads' HO_9.out).1.symm] <;> rfl) | rfl | (simp only [List.length_drop, List.length_take]; rfl)) ?_; (with_reducible refine (laws_heldByteS.calls kj26 _ _ t277 1 t278 _ ?side1 ?side2 A41.out).mono ?_); (case side1 => exact zC ((Kd.R_reads' HO_9.out).2.2)); (case side2 => rw [show t277.length = t264.length from (Kd.R_reads' HO_9.out).1.symm]; exact (Kd.R_reads' HO_9.out).2.1); rintro e w' ⟨rfl, ⟨nd, rfl⟩⟩; refine ⟨_, rfl, ?_⟩))
           go_ret
           exact ⟨rfl, zB HB.out⟩
     ·replace c25 := Bool.eq_false_iff.mpr c25
      subst c25
      have H1 : (some false) = some r := by rw [if_neg (show ¬ (false = true) by decide)] at H; exact H
      clear H; have H := H1; clear H1; obtain rfl := Option.some.inj H
      go_wp2_with (first | ((with_reducible refine gate_callee (f := 30) rfl ?_); refine goL_ (some 47) Try.func30 #[.slice A0 l0.length c0] ?_; (with_reducible refine (laws_toShareS.calls kj8 _ _ l0 t269 _ ?side1 ?side2 A23.out).mono ?_); (case side1 => exact zC (Kd.C_below HR0.out HB.out)); (case side2 => exact HC0.out); rintro e w66 ⟨v270, rfl, ho0, hb⟩; refine ⟨_, rfl, ?_⟩; replace HO_6 := am (Kd.R_below (zR HO_6.out) hb); replace HO_9 := am (Kd.R_below (zR HO_9.out) hb); have HO271 := am (Kd.R_lower (Kd.R_new' ho0 (Kd.R_lt (zR HO_8.out))) (zs_ HB.out)); replace HO_8 := am (Kd.R_elder' (zR HO_8.out) (Kd.R_base ho0) hb); replace HB := am (below_step (zB HB.out) hb); (try clear hb); (try clear ho0); obtain ⟨Ao67, co67, eo67⟩ := Kd.R_slice HO271.out; subst eo67) | ((with_reducible refine gate_callee (f := 32) rfl ?_); refine goL_ (some 48) Try.func32 #[.slice Ao14 t261.length co14, .slice Ao67 t269.length co67] ?_; (with_reducible refine (laws_eqShareS.calls kj8 _ _ t261 _ _ t269 false _ ?side1 ?side2 ?side3 ?side4 A24.out).mono ?_); (case side1 => exact zC ((Kd.R_reads' HO_8.out).2.2)); (case side2 => exact (Kd.R_reads' HO_8.out).2.1); (case side3 => exact zC ((Kd.R_reads' HO271.out).2.2)); (case side4 => exact (Kd.R_reads' HO271.out).2.1); rintro e w68 ⟨rfl, hb⟩; refine ⟨_, rfl, ?_⟩; replace HO_6 := am (Kd.R_below (zR HO_6.out) hb); replace HO_8 := am (Kd.R_below (zR HO_8.out) hb); replace HO_9 := am (Kd.R_below (zR HO_9.out) hb); replace HO271 := am (Kd.R_below (zR HO271.out) hb); replace HB := am (below_step (zB HB.out) hb); (try clear hb); (try clear hb2); (try clear hk); (try clear hi)))
      go_ret
      exact ⟨rfl, zB HB.out⟩

end Go.Proofs.Ytekaaoeojbclfaa.PFnExactRandomFor
