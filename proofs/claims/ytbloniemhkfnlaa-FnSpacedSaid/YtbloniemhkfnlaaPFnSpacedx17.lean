/- A law's functions as plain Lean functions, each with the walk that shows that the code computes it: written by this session's program wip/tools/ppmake.py. -/
import Derived.Test.YtbloniemhkfnlaaKZ
import Derived.Test.YtbloniemhkfnlaaPFnSpacedx0
import Derived.Test.YtbloniemhkfnlaaPFnSpacedx1
import Derived.Test.YtbloniemhkfnlaaPFnSpacedx15
import Derived.Test.YtbloniemhkfnlaaPFnSpacedx16
namespace Go.Proofs.Ytbloniemhkfnlaa.PFnSpaced
open Go.RowKit Go.Proofs.YtbloniemhkfnlaaW.PrintWords Go.Proofs.YtbloniemhkfnlaaW.PrintLast Go.Proofs.YtbloniemhkfnlaaW.PrintMore
attribute [local go_sem] max2_int min2_int max_two min_two max_three min_three max_four min_four   -- for this text's walks alone
set_option linter.unusedVariables false
set_option linter.unusedSimpArgs false

/-! ### spec_DrawLocatorOf: function 34 -/
def spec_DrawLocatorOf.j0 : Nat → List Int → Bool → List Int → Int → Int → Option (List Int)
 | 0, _, _, _, _, _ => none
 | k + 1, x6, x27, xaa, xbb, x464002 => if x27 = true then ((spec_l1Cur_pick.f xaa xbb x464002 11).bind fun bt477 => ((spec_l1Cur_vector.f k xaa bt477.2.1 bt477.2.2 bt477.1).bind fun bt480 => (some bt480.1))) else (some x6)
def spec_DrawLocatorOf.f (k : Nat) (l0 : List Int) : Option (List Int) := (spec_l1Cur_word.f k l0 0 0).bind fun bt464 => ((spec_SyndromesOf.f k bt464.1 bt464.2.1).bind fun bt470 => (if bt470.2 = true then ((spec_l1Cur_one.f l0 bt464.2.2.1 bt464.2.2.2 6).bind fun bt474 => (spec_DrawLocatorOf.j0 k bt470.1 bt474.1 l0 bt474.2.1 bt474.2.2)) else (spec_DrawLocatorOf.j0 k bt470.1 true l0 bt464.2.2.1 bt464.2.2.2)))
theorem spec_DrawLocatorOf.mono_l : ∀ k, (∀ y0 y1 y2 y3 y4, LeO (spec_DrawLocatorOf.j0 k y0 y1 y2 y3 y4) (spec_DrawLocatorOf.j0 (k + 1) y0 y1 y2 y3 y4))
 | 0 => fun _ _ _ _ _ r h => by simp [spec_DrawLocatorOf.j0] at h
 | k + 1 => by
  have ih0 := spec_DrawLocatorOf.mono_l k
  ·intro y0 y1 y2 y3 y4
   unfold spec_DrawLocatorOf.j0
   repeat' first | apply LeO.refl | apply LeO.none | apply LeO.ite | apply ih0 | apply spec_SyndromesOf.mono | apply spec_l1Cur_vector.mono | apply spec_l1Cur_word.mono | (refine LeO.bind ?_ (fun _ => ?_))
theorem spec_DrawLocatorOf.mono : ∀ a0 k, LeO (spec_DrawLocatorOf.f k a0) (spec_DrawLocatorOf.f (k + 1) a0) := by
 intro a0 k; have ih0 := spec_DrawLocatorOf.mono_l k
 unfold spec_DrawLocatorOf.f
 repeat' first | apply LeO.refl | apply LeO.none | apply LeO.ite | apply ih0 | apply spec_SyndromesOf.mono | apply spec_l1Cur_vector.mono | apply spec_l1Cur_word.mono | (refine LeO.bind ?_ (fun _ => ?_))
set_option maxHeartbeats 8000000 in
set_option maxRecDepth 100000 in
theorem spec_DrawLocatorOf.calls (k : Nat) (A0 : Option Addr) (c0 : Nat) (l0 : List Int) (r : List Int) (w : World) (hr0 : Kd.C (Kd.int .u8) w A0 l0.length l0) (hc0 : l0.length ≤ c0) (h : spec_DrawLocatorOf.f k l0 = some r) :
  Calls Try.prog 34 #[.slice A0 l0.length c0] w fun e w' => ∃ v0_ : Value, e = .returned (v0_) ∧ Kd.R (Kd.int .u8) 5 w' w.heap.size (fun _ => True) v0_ r ∧ Below w.heap.size w w' := by
 have hu63 := Try.underlying63; have HR0 := am hr0; have HC0 := am hc0; clear hr0 hc0; have HB := am (Below.refl w.heap.size w); have H : ((spec_l1Cur_word.f k l0 0 0).bind fun bt464 => ((spec_SyndromesOf.f k bt464.1 bt464.2.1).bind fun bt470 => (if bt470.2 = true then ((spec_l1Cur_one.f l0 bt464.2.2.1 bt464.2.2.2 6).bind fun bt474 => (spec_DrawLocatorOf.j0 k bt470.1 bt474.1 l0 bt474.2.1 bt474.2.2)) else (spec_DrawLocatorOf.j0 k bt470.1 true l0 bt464.2.2.1 bt464.2.2.2)))) = some r := h; clear h; obtain ⟨⟨t464, t467, t468, t469⟩, A2, H⟩ := bi_ H; dsimp only at H; obtain ⟨⟨t470, t471⟩, A3, H⟩ := bi_ H; dsimp only at H; have HC4 := am H; clear H
 go_enter Try.func34, Try.ntmps34
 go_upto_region 4 with (first | ((with_reducible refine gate_dst (N := 10) rfl ?_); refine box_event ?hg (N := 10) ?hd (cs := #[.slice A0 l0.length c0, .int .i64 0, .int .u64 0]) (t := 63) ?hr ?_; (case hd => rfl); (case hg => rfl); (case hr => first | (go_simp; done) | (go_simp; rfl)); intro gb463 hg w5 hbox hb; have HI463 := am ((show IsS63 w w5 gb463 l0 0 0 from ⟨_, _, hbox, (gw_ hg HB.out : w.heap.size ≤ gb463), HR0.out⟩)); replace HB := am (below_step (zB HB.out) hb); clear hb hbox hg) | ((with_reducible refine gate_callee (f := 67) rfl ?_); refine goL_ (some 13) Try.func67 #[.pointer (some ⟨gb463, 0, none⟩)] ?_; (with_reducible refine (spec_l1Cur_word.calls k gb463 l0 0 0 t464 t467 t468 t469 w _ ?side1 ?side2 A2.out).mono ?_); (case side1 => repeat (first | (with_reducible first | exact HI463.out | apply IsS63.alloc | apply IsS63.drewN | apply IsS63.drew | apply IsS63.set_1 | apply IsS63.set_2) | exact HI463.out)); (case side2 => repeat (first | (with_reducible first | exact HB.out | apply below_alloc | apply pw_below_drewN | apply below_drew1 | refine below_set ?_ (IsS63.ge HI463.out)) | exact HB.out)); rintro e w6 ⟨v465, rfl, ho0, hi, hb, hk⟩; refine ⟨_, rfl, ?_⟩; have HO466 := am (Kd.R_lower ho0 (zs_ HB.out)); replace HB := am (hb); replace HI463 := am (hi); (try clear hb); (try clear ho0); obtain ⟨Ao7, co7, eo7⟩ := Kd.R_slice HO466.out; subst eo7) | ((with_reducible refine gate_callee (f := 17) rfl ?_); refine goL_ (some 19) Try.func17 #[.slice Ao7 t464.length co7, .int .i64 t467] ?_; (with_reducible refine (spec_SyndromesOf.calls k _ _ t464 t467 t470 t471 _ ?side1 ?side2 A3.out).mono ?_); (case side1 => exact zC ((Kd.R_reads' HO466.out).2.2)); (case side2 => exact (Kd.R_reads' HO466.out).2.1); rintro e w8 ⟨v472, rfl, ho0, hb⟩; refine ⟨_, rfl, ?_⟩; have HO473 := am (Kd.R_lower (Kd.R_new' ho0 (Kd.R_lt (zR HO466.out))) (zs_ HB.out)); replace HO466 := am (Kd.R_elder' (zR HO466.out) (Kd.R_base ho0) hb); replace HI463 := am (IsS63.below (by repeat (first | (with_reducible first | exact HI463.out | apply IsS63.alloc | apply IsS63.drewN | apply IsS63.drew | apply IsS63.set_1 | apply IsS63.set_2) | exact HI463.out)) hb); replace HB := am (below_step (zB HB.out) hb); (try clear hb); (try clear ho0)))
 (try simp only [Act.put, List.setIfInBounds_toArray, List.set_cons_zero, List.set_cons_succ])
 go_cut [27] (fun v27 wc => ∃ (kq : Nat) (x27_3 : Bool) (xbb_3 : Int) (x464002_3 : Int), v27 = .bool x27_3 ∧ Aside0 (spec_DrawLocatorOf.j0 kq t470 x27_3 l0 xbb_3 x464002_3 = some r) ∧ Aside0 (kq ≤ k) ∧ Aside0 (Kd.R (Kd.int .u8) 5 wc w.heap.size (fun _ => True) v472 t470) ∧ Aside0 (IsS63 w wc gb463 l0 xbb_3 x464002_3) ∧ Aside0 (Below w.heap.size w wc))
 case first =>
  have H := HC4.out; clear HC4
  by_cases c9 : t471 = true
  ·subst c9
   have H1 : ((spec_l1Cur_one.f l0 t468 t469 6).bind fun bt474 => (spec_DrawLocatorOf.j0 k t470 bt474.1 l0 bt474.2.1 bt474.2.2)) = some r := by rw [if_pos rfl] at H; exact H
   clear H; have H := H1; clear H1; obtain ⟨⟨t474, t475, t476⟩, A10, H⟩ := bi_ H; dsimp only at H; have H' := am H; clear H
   go_wp2_with (first | (go_at_call 68; (with_reducible refine (spec_l1Cur_one.calls gb463 l0 t468 t469 6 t474 t475 t476 w _ ?side1 ?side2 A10.out).mono ?_); (case side1 => repeat (first | (with_reducible first | exact HI463.out | apply IsS63.alloc | apply IsS63.drewN | apply IsS63.drew | apply IsS63.set_1 | apply IsS63.set_2) | exact HI463.out)); (case side2 => repeat (first | (with_reducible first | exact HB.out | apply below_alloc | apply pw_below_drewN | apply below_drew1 | refine below_set ?_ (IsS63.ge HI463.out)) | exact HB.out)); rintro e w11 ⟨rfl, hi, hb, hk⟩; replace HO466 := am (Kd.R_mono (Kd.R_keep (IsS63.apart (show IsS63 w _ gb463 l0 t468 t469 from by repeat (first | (with_reducible first | exact HI463.out | apply IsS63.alloc | apply IsS63.drewN | apply IsS63.drew | apply IsS63.set_1 | apply IsS63.set_2) | exact HI463.out)) (zR HO466.out) (by decide)) hk (fun _ h => h.2)) (fun _ h => h.1)); replace HO473 := am (Kd.R_mono (Kd.R_keep (IsS63.apart (show IsS63 w _ gb463 l0 t468 t469 from by repeat (first | (with_reducible first | exact HI463.out | apply IsS63.alloc | apply IsS63.drewN | apply IsS63.drew | apply IsS63.set_1 | apply IsS63.set_2) | exact HI463.out)) (zR HO473.out) (by decide)) hk (fun _ h => h.2)) (fun _ h => h.1)); replace HB := am (hb); replace HI463 := am (hi); (try clear hb); (try clear hb2); (try clear hk); (try clear hi)))
   go_meet
   case rel => exact ⟨_, (t474), (t475), (t476), rfl, H', ⟨by first | omega | exact Nat.le_refl _⟩, ⟨zR (Kd.R_mono HO473.out (fun _ hk => trivial))⟩, ⟨by repeat (first | (with_reducible first | exact HI463.out | apply IsS63.alloc | apply IsS63.drewN | apply IsS63.drew | apply IsS63.set_1 | apply IsS63.set_2) | exact HI463.out)⟩, ⟨zB HB.out⟩⟩
  ·replace c9 := Bool.eq_false_iff.mpr c9
   subst c9
   have H1 : (spec_DrawLocatorOf.j0 k t470 true l0 t468 t469) = some r := by rw [if_neg (show ¬ (false = true) by decide)] at H; exact H
   clear H; have H := H1; clear H1; have H' := am H; clear H
   go_wp2
   go_meet
   case rel => exact ⟨_, (true), (t468), (t469), rfl, H', ⟨by first | omega | exact Nat.le_refl _⟩, ⟨zR (Kd.R_mono HO473.out (fun _ hk => trivial))⟩, ⟨by repeat (first | (with_reducible first | exact HI463.out | apply IsS63.alloc | apply IsS63.drewN | apply IsS63.drew | apply IsS63.set_1 | apply IsS63.set_2) | exact HI463.out)⟩, ⟨zB HB.out⟩⟩
 case rest =>
  clear HC4; obtain ⟨kq, x27_3, xbb_3, x464002_3, rfl, HA, HJ3, HO_6, HI463, HB⟩ := hcut
  cases kq with
  | zero => exact absurd HA.out (by simp [spec_DrawLocatorOf.j0])
  | succ kj3 =>
   have H := HA.out; clear HA
   simp only [spec_DrawLocatorOf.j0] at H
   by_cases c12 : x27_3 = true
   ·subst c12
    have H1 : ((spec_l1Cur_pick.f l0 xbb_3 x464002_3 11).bind fun bt477 => ((spec_l1Cur_vector.f kj3 l0 bt477.2.1 bt477.2.2 bt477.1).bind fun bt480 => (some bt480.1))) = some r := by rw [if_pos rfl] at H; exact H
    clear H; have H := H1; clear H1; obtain ⟨⟨t477, t478, t479⟩, A13, H⟩ := bi_ H; dsimp only at H; obtain ⟨⟨t480, t483, t484⟩, A14, H⟩ := bi_ H; dsimp only at H; obtain rfl := Option.some.inj H
    go_wp2_with (first | ((with_reducible refine gate_callee (f := 66) rfl ?_); refine goL_ (some 30) Try.func66 #[.pointer (some ⟨gb463, 0, none⟩), .int .i64 11] ?_; (with_reducible refine (spec_l1Cur_pick.calls gb463 l0 xbb_3 x464002_3 11 t477 t478 t479 w _ ?side1 ?side2 A13.out).mono ?_); (case side1 => repeat (first | (with_reducible first | exact HI463.out | apply IsS63.alloc | apply IsS63.drewN | apply IsS63.drew | apply IsS63.set_1 | apply IsS63.set_2) | exact HI463.out)); (case side2 => repeat (first | (with_reducible first | exact HB.out | apply below_alloc | apply pw_below_drewN | apply below_drew1 | refine below_set ?_ (IsS63.ge HI463.out)) | exact HB.out)); rintro e w15 ⟨rfl, hi, hb, hk⟩; refine ⟨_, rfl, ?_⟩; replace HO_6 := am (Kd.R_mono (Kd.R_keep (IsS63.apart (show IsS63 w _ gb463 l0 xbb_3 x464002_3 from by repeat (first | (with_reducible first | exact HI463.out | apply IsS63.alloc | apply IsS63.drewN | apply IsS63.drew | apply IsS63.set_1 | apply IsS63.set_2) | exact HI463.out)) (zR HO_6.out) (by decide)) hk (fun _ h => h.2)) (fun _ h => h.1)); replace HB := am (hb); replace HI463 := am (hi); (try clear hb); (try clear hb2); (try clear hk); (try clear hi)) | ((with_reducible refine gate_callee (f := 64) rfl ?_); refine goL_ (some 31) Try.func64 #[.pointer (some ⟨gb463, 0, none⟩), .int .i64 t477] ?_; (with_reducible refine (spec_l1Cur_vector.calls kj3 gb463 l0 t478 t479 t477 t480 t483 t484 w _ ?side1 ?side2 A14.out).mono ?_); (case side1 => repeat (first | (with_reducible first | exact HI463.out | apply IsS63.alloc | apply IsS63.drewN | apply IsS63.drew | apply IsS63.set_1 | apply IsS63.set_2) | exact HI463.out)); (case side2 => repeat (first | (with_reducible first | exact HB.out | apply below_alloc | apply pw_below_drewN | apply below_drew1 | refine below_set ?_ (IsS63.ge HI463.out)) | exact HB.out)); rintro e w16 ⟨v481, rfl, ho0, hi, hb, hk⟩; refine ⟨_, rfl, ?_⟩; have HO482 := am (Kd.R_lower (Kd.R_new' ho0 (Kd.R_lt (zR HO_6.out))) (zs_ HB.out)); replace HO_6 := am (Kd.R_mono (Kd.R_told (Kd.R_oldK (IsS63.apart (show IsS63 w _ gb463 l0 t478 t479 from by repeat (first | (with_reducible first | exact HI463.out | apply IsS63.alloc | apply IsS63.drewN | apply IsS63.drew | apply IsS63.set_1 | apply IsS63.set_2) | exact HI463.out)) (zR HO_6.out) (by decide)) hk) (Kd.R_base ho0)) (fun _ h_ => h_.1)); replace HB := am (hb); replace HI463 := am (hi); (try clear hb); (try clear ho0)))
    go_ret
    exact ⟨_, rfl, zR (Kd.R_mono HO482.out (fun _ hk => trivial)), zB HB.out⟩
   ·replace c12 := Bool.eq_false_iff.mpr c12
    subst c12
    have H1 : (some t470) = some r := by rw [if_neg (show ¬ (false = true) by decide)] at H; exact H
    clear H; have H := H1; clear H1; obtain rfl := Option.some.inj H
    go_wp2
    go_ret
    exact ⟨_, rfl, zR HO_6.out, zB HB.out⟩

end Go.Proofs.Ytbloniemhkfnlaa.PFnSpaced
