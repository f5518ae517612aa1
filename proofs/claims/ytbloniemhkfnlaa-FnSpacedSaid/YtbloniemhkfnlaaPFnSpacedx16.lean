/- A law's functions as plain Lean functions, each with the walk that shows that the code computes it: written by this session's program wip/tools/ppmake.py. -/
import Derived.Test.YtbloniemhkfnlaaKZ
import Derived.Test.YtbloniemhkfnlaaPFnSpacedx0
import Derived.Test.YtbloniemhkfnlaaPFnSpacedx4
import Derived.Test.YtbloniemhkfnlaaPFnSpacedx15
namespace Go.Proofs.Ytbloniemhkfnlaa.PFnSpaced
open Go.RowKit Go.Proofs.YtbloniemhkfnlaaW.PrintWords Go.Proofs.YtbloniemhkfnlaaW.PrintLast Go.Proofs.YtbloniemhkfnlaaW.PrintMore
attribute [local go_sem] max2_int min2_int max_two min_two max_three min_three max_four min_four   -- for this text's walks alone
set_option linter.unusedVariables false
set_option linter.unusedSimpArgs false

/-! ### spec_l1Cur_byte: function 82 -/
def spec_l1Cur_byte.f (s0_0 : List Int) (s0_1 : Int) (s0_2 : Int) : Option (Int × Int × Int) := (spec_l1Cur_one.f s0_0 s0_1 s0_2 5).bind fun bt389 => (if bt389.1 = true then ((spec_l1Cur_among.f s0_0 bt389.2.1 bt389.2.2 (([0, 1, 2, 3, 255, 27] : List Int))).bind fun bt395 => (some ((bt395.1) % 256, bt395.2.1, bt395.2.2))) else ((spec_l1Cur_pick.f s0_0 bt389.2.1 bt389.2.2 256).bind fun bt398 => (some ((bt398.1) % 256, bt398.2.1, bt398.2.2))))
set_option maxHeartbeats 8000000 in
set_option maxRecDepth 100000 in
theorem spec_l1Cur_byte.calls (g : Nat) (s0_0 : List Int) (s0_1 : Int) (s0_2 : Int) (r1 : Int) (r2 : Int) (r3 : Int) (w0 w : World) (hI : IsS63 w0 w g s0_0 s0_1 s0_2) (hB : Below w0.heap.size w0 w) (h : spec_l1Cur_byte.f s0_0 s0_1 s0_2 = some (r1, r2, r3)) :
  Calls Try.prog 82 #[.pointer (some ⟨g, 0, none⟩)] w fun e w' => e = .returned (.int .u8 r1) ∧ IsS63 w0 w' g s0_0 r2 r3 ∧ Below w0.heap.size w0 w' ∧ KeepBut w w' g none := by
 have HI0 := am hI; have HK := am (KeepBut.refl w g none); have HL := am hB.size; clear hI; have HW0 := am hB.size; have HB := am hB; clear hB; have H : ((spec_l1Cur_one.f s0_0 s0_1 s0_2 5).bind fun bt389 => (if bt389.1 = true then ((spec_l1Cur_among.f s0_0 bt389.2.1 bt389.2.2 (([0, 1, 2, 3, 255, 27] : List Int))).bind fun bt395 => (some ((bt395.1) % 256, bt395.2.1, bt395.2.2))) else ((spec_l1Cur_pick.f s0_0 bt389.2.1 bt389.2.2 256).bind fun bt398 => (some ((bt398.1) % 256, bt398.2.1, bt398.2.2))))) = some (r1, r2, r3) := h; clear h; obtain ⟨⟨t389, t390, t391⟩, A2, H⟩ := bi_ H; dsimp only at H
 by_cases c3 : t389 = true
 ·subst c3
  have H1 : ((spec_l1Cur_among.f s0_0 t390 t391 (([0, 1, 2, 3, 255, 27] : List Int))).bind fun bt395 => (some ((bt395.1) % 256, bt395.2.1, bt395.2.2))) = some (r1, r2, r3) := by rw [if_pos rfl] at H; exact H
  clear H; have H := H1; clear H1; (try rw [Option.bind_some] at H); generalize hy392 : (([0, 1, 2, 3, 255, 27] : List Int)) = y392 at H; have Ny392 := am hy392.symm; clear hy392; obtain ⟨⟨t395, t396, t397⟩, A4, H⟩ := bi_ H; dsimp only at H
  simp only [Option.some.injEq, Prod.mk.injEq] at H
  obtain ⟨rfl, rfl, rfl⟩ := H
  go_enter Try.func82, Try.ntmps82
  go_wp2_with (first | ((with_reducible refine gate_callee (f := 68) rfl ?_); refine goL_ (some 4) Try.func68 #[.pointer (some ⟨g, 0, none⟩), .int .i64 5] ?_; (with_reducible refine (spec_l1Cur_one.calls g s0_0 s0_1 s0_2 5 true t390 t391 w0 _ ?side1 ?side2 A2.out).mono ?_); (case side1 => repeat (first | (with_reducible first | exact HI0.out | apply IsS63.alloc | apply IsS63.drewN | apply IsS63.drew | apply IsS63.set_1 | apply IsS63.set_2) | exact HI0.out)); (case side2 => repeat (first | (with_reducible first | exact HB.out | apply below_alloc | apply pw_below_drewN | apply below_drew1 | refine below_set ?_ (IsS63.ge HI0.out)) | exact HB.out)); rintro e w5 ⟨rfl, hi, hb, hk⟩; refine ⟨_, rfl, ?_⟩; replace HK := am (KeepBut.trans (by repeat (first | (with_reducible first | exact HK.out | apply KeepBut.set_ | apply keep_drewN | apply keep_drew | apply keep_alloc) | exact HK.out)) hk (.inl rfl)); replace HB := am (hb); replace HI0 := am (hi); (try clear hb); (try clear hb2); (try clear hk); (try clear hi)) | ((with_reducible refine gate_dst (N := 6) rfl ?_); refine Kd.R_lit (Kd.int .i64) _ 3 ?hg (N := 6) ?hd (xs := ([0, 1, 2, 3, 255, 27] : List Int)) (inner := [.int .i64 0, .int .i64 1, .int .i64 2, .int .i64 3, .int .i64 255, .int .i64 27]) (ok := fun _ => True) (okp := fun _ => True) ?hr ?hp (fun _ hk => hk) trivial (Below.refl _ _) (Nat.le_refl _) (by simp) ?_; (case hd => rfl); (case hg => rfl); (case hr => first | (go_simp; done) | (go_simp; rfl)); (case hp => exact (Reps.one (show Kd.M (Kd.int .i64) _ _ _ 0 [.int .i64 0] from rfl) (Reps.one (show Kd.M (Kd.int .i64) _ _ _ 1 [.int .i64 1] from rfl) (Reps.one (show Kd.M (Kd.int .i64) _ _ _ 2 [.int .i64 2] from rfl) (Reps.one (show Kd.M (Kd.int .i64) _ _ _ 3 [.int .i64 3] from rfl) (Reps.one (show Kd.M (Kd.int .i64) _ _ _ 255 [.int .i64 255] from rfl) (Reps.one (show Kd.M (Kd.int .i64) _ _ _ 27 [.int .i64 27] from rfl) (Reps.none _ _)))))))); intro v393 w6 ho7 hb hg_ hnew_; clear hg_ hnew_; (first | rw [← Ny392.out] at ho7 | (simp only [Int.reduceToNat] at ho7; rw [← Ny392.out] at ho7)); have HO394 := am (Kd.R_lower ho7 (keep_size (w := w) (g := g) (row := none) (by repeat (first | (with_reducible first | exact HK.out | apply KeepBut.set_ | apply keep_drewN | apply keep_drew | apply keep_alloc) | exact HK.out)))); replace HI0 := am (IsS63.below (by repeat (first | (with_reducible first | exact HI0.out | apply IsS63.alloc | apply IsS63.drewN | apply IsS63.drew | apply IsS63.set_1 | apply IsS63.set_2) | exact HI0.out)) hb); replace HK := am (KeepBut.trans (by repeat (first | (with_reducible first | exact HK.out | apply KeepBut.set_ | apply keep_drewN | apply keep_drew | apply keep_alloc) | exact HK.out)) (KeepBut.of_below hb g none) (.inl rfl)); replace HB := am (below_step (zB HB.out) hb); clear hb ho7; obtain ⟨Ao8, co8, eo8⟩ := Kd.R_slice HO394.out; subst eo8) | ((with_reducible refine gate_callee (f := 65) rfl ?_); refine goL_ (some 7) Try.func65 #[.pointer (some ⟨g, 0, none⟩), .slice Ao8 y392.length co8] ?_; (with_reducible refine (spec_l1Cur_among.calls g s0_0 t390 t391 _ _ y392 t395 t396 t397 w0 _ ?side1 ?side2 ?side3 ?side4 ?side5 A4.out).mono ?_); (case side1 => repeat (first | (with_reducible first | exact HI0.out | apply IsS63.alloc | apply IsS63.drewN | apply IsS63.drew | apply IsS63.set_1 | apply IsS63.set_2) | exact HI0.out)); (case side2 => repeat (first | (with_reducible first | exact HB.out | apply below_alloc | apply pw_below_drewN | apply below_drew1 | refine below_set ?_ (IsS63.ge HI0.out)) | exact HB.out)); (case side3 => exact zC ((Kd.R_reads' HO394.out).2.2)); (case side4 => exact (Kd.R_reads' HO394.out).2.1); (case side5 => exact far_slice (IsS63.own_ne HI0.out HO394.out (by decide))); rintro e w9 ⟨rfl, hi, hb, hk⟩; refine ⟨_, rfl, ?_⟩; replace HO394 := am (Kd.R_mono (Kd.R_keep (IsS63.apart (show IsS63 w0 _ g s0_0 t390 t391 from by repeat (first | (with_reducible first | exact HI0.out | apply IsS63.alloc | apply IsS63.drewN | apply IsS63.drew | apply IsS63.set_1 | apply IsS63.set_2) | exact HI0.out)) (zR HO394.out) (by decide)) hk (fun _ h => h.2)) (fun _ h => h.1)); replace HK := am (KeepBut.trans (by repeat (first | (with_reducible first | exact HK.out | apply KeepBut.set_ | apply keep_drewN | apply keep_drew | apply keep_alloc) | exact HK.out)) hk (.inl rfl)); replace HB := am (hb); replace HI0 := am (hi); (try clear hb); (try clear hb2); (try clear hk); (try clear hi)))
  go_ret
  exact ⟨rfl, by repeat (first | (with_reducible first | exact HI0.out | apply IsS63.alloc | apply IsS63.drewN | apply IsS63.drew | apply IsS63.set_1 | apply IsS63.set_2) | exact HI0.out), zB HB.out, by repeat (first | (with_reducible first | exact HK.out | apply KeepBut.set_ | apply keep_drewN | apply keep_drew | apply keep_alloc) | exact HK.out)⟩
 ·replace c3 := Bool.eq_false_iff.mpr c3
  subst c3
  have H1 : ((spec_l1Cur_pick.f s0_0 t390 t391 256).bind fun bt398 => (some ((bt398.1) % 256, bt398.2.1, bt398.2.2))) = some (r1, r2, r3) := by rw [if_neg (show ¬ (false = true) by decide)] at H; exact H
  clear H; have H := H1; clear H1; obtain ⟨⟨t398, t399, t400⟩, A10, H⟩ := bi_ H; dsimp only at H
  simp only [Option.some.injEq, Prod.mk.injEq] at H
  obtain ⟨rfl, rfl, rfl⟩ := H
  go_enter Try.func82, Try.ntmps82
  go_wp2_with (first | ((with_reducible refine gate_callee (f := 68) rfl ?_); refine goL_ (some 4) Try.func68 #[.pointer (some ⟨g, 0, none⟩), .int .i64 5] ?_; (with_reducible refine (spec_l1Cur_one.calls g s0_0 s0_1 s0_2 5 false t390 t391 w0 _ ?side1 ?side2 A2.out).mono ?_); (case side1 => repeat (first | (with_reducible first | exact HI0.out | apply IsS63.alloc | apply IsS63.drewN | apply IsS63.drew | apply IsS63.set_1 | apply IsS63.set_2) | exact HI0.out)); (case side2 => repeat (first | (with_reducible first | exact HB.out | apply below_alloc | apply pw_below_drewN | apply below_drew1 | refine below_set ?_ (IsS63.ge HI0.out)) | exact HB.out)); rintro e w11 ⟨rfl, hi, hb, hk⟩; refine ⟨_, rfl, ?_⟩; replace HK := am (KeepBut.trans (by repeat (first | (with_reducible first | exact HK.out | apply KeepBut.set_ | apply keep_drewN | apply keep_drew | apply keep_alloc) | exact HK.out)) hk (.inl rfl)); replace HB := am (hb); replace HI0 := am (hi); (try clear hb); (try clear hb2); (try clear hk); (try clear hi)) | ((with_reducible refine gate_callee (f := 66) rfl ?_); refine goL_ (some 10) Try.func66 #[.pointer (some ⟨g, 0, none⟩), .int .i64 256] ?_; (with_reducible refine (spec_l1Cur_pick.calls g s0_0 t390 t391 256 t398 t399 t400 w0 _ ?side1 ?side2 A10.out).mono ?_); (case side1 => repeat (first | (with_reducible first | exact HI0.out | apply IsS63.alloc | apply IsS63.drewN | apply IsS63.drew | apply IsS63.set_1 | apply IsS63.set_2) | exact HI0.out)); (case side2 => repeat (first | (with_reducible first | exact HB.out | apply below_alloc | apply pw_below_drewN | apply below_drew1 | refine below_set ?_ (IsS63.ge HI0.out)) | exact HB.out)); rintro e w12 ⟨rfl, hi, hb, hk⟩; refine ⟨_, rfl, ?_⟩; replace HK := am (KeepBut.trans (by repeat (first | (with_reducible first | exact HK.out | apply KeepBut.set_ | apply keep_drewN | apply keep_drew | apply keep_alloc) | exact HK.out)) hk (.inl rfl)); replace HB := am (hb); replace HI0 := am (hi); (try clear hb); (try clear hb2); (try clear hk); (try clear hi)))
  go_ret
  exact ⟨rfl, by repeat (first | (with_reducible first | exact HI0.out | apply IsS63.alloc | apply IsS63.drewN | apply IsS63.drew | apply IsS63.set_1 | apply IsS63.set_2) | exact HI0.out), zB HB.out, by repeat (first | (with_reducible first | exact HK.out | apply KeepBut.set_ | apply keep_drewN | apply keep_drew | apply keep_alloc) | exact HK.out)⟩

/-! ### spec_l1Cur_vector: function 64 -/
def spec_l1Cur_vector.l0 : Nat → Int → List Int → List Int → Int → Int → Option (List Int × Int × Int)
 | 0, _, _, _, _, _ => none
 | k + 1, x1, x5, x1000, x1001, x1002 => if x1 > 0 then ((spec_l1Cur_byte.f x1000 x1001 x1002).bind fun bt401 => (if x5.length < 140737488355328 then (spec_l1Cur_vector.l0 k (wrap64 (x1 - 1)) (x5 ++ [bt401.1]) x1000 bt401.2.1 bt401.2.2) else (none))) else (some (x5, x1001, x1002))
def spec_l1Cur_vector.f (k : Nat) (s0_0 : List Int) (s0_1 : Int) (s0_2 : Int) (a1 : Int) : Option (List Int × Int × Int) := spec_l1Cur_vector.l0 k a1 ([] : List Int) s0_0 s0_1 s0_2
theorem spec_l1Cur_vector.mono_l : ∀ k, (∀ y0 y1 y2 y3 y4, LeO (spec_l1Cur_vector.l0 k y0 y1 y2 y3 y4) (spec_l1Cur_vector.l0 (k + 1) y0 y1 y2 y3 y4))
 | 0 => fun _ _ _ _ _ r h => by simp [spec_l1Cur_vector.l0] at h
 | k + 1 => by
  have ih0 := spec_l1Cur_vector.mono_l k
  ·intro y0 y1 y2 y3 y4
   unfold spec_l1Cur_vector.l0
   repeat' first | apply LeO.refl | apply LeO.none | apply LeO.ite | apply ih0 | (refine LeO.bind ?_ (fun _ => ?_))
theorem spec_l1Cur_vector.mono : ∀ a0 a1 a2 a3 k, LeO (spec_l1Cur_vector.f k a0 a1 a2 a3) (spec_l1Cur_vector.f (k + 1) a0 a1 a2 a3) := by
 intro a0 a1 a2 a3 k; have ih0 := spec_l1Cur_vector.mono_l k
 unfold spec_l1Cur_vector.f
 repeat' first | apply LeO.refl | apply LeO.none | apply LeO.ite | apply ih0 | (refine LeO.bind ?_ (fun _ => ?_))
set_option maxHeartbeats 8000000 in
set_option maxRecDepth 100000 in
theorem spec_l1Cur_vector.calls (k : Nat) (g : Nat) (s0_0 : List Int) (s0_1 : Int) (s0_2 : Int) (a1 : Int) (r1 : List Int) (r2 : Int) (r3 : Int) (w0 w : World) (hI : IsS63 w0 w g s0_0 s0_1 s0_2) (hB : Below w0.heap.size w0 w) (h : spec_l1Cur_vector.f k s0_0 s0_1 s0_2 a1 = some (r1, r2, r3)) :
  Calls Try.prog 64 #[.pointer (some ⟨g, 0, none⟩), .int .i64 a1] w fun e w' => ∃ v0_ : Value, e = .returned (v0_) ∧ Kd.R (Kd.int .u8) 5 w' w.heap.size (fun _ => True) v0_ r1 ∧ IsS63 w0 w' g s0_0 r2 r3 ∧ Below w0.heap.size w0 w' ∧ KeepBut w w' g none := by
 have HI0 := am hI; have HK := am (KeepBut.refl w g none); have HL := am hB.size; clear hI; have HW0 := am hB.size; have HB := am hB; clear hB; have H : (spec_l1Cur_vector.l0 k a1 ([] : List Int) s0_0 s0_1 s0_2) = some (r1, r2, r3) := h; clear h; have H' := am H; clear H
 go_enter Try.func64, Try.ntmps64
 go_wp2
 go_loopg [1, 5] k (fun kq v1 v5 w' => ∃ (x1_1 : Int) (x5_1 : List Int) (x1001_1 : Int) (x1002_1 : Int), v1 = .int .i64 x1_1 ∧ Aside0 (spec_l1Cur_vector.l0 kq x1_1 x5_1 s0_0 x1001_1 x1002_1 = some (r1, r2, r3)) ∧ Aside0 (kq ≤ k) ∧ Aside0 (Kd.R (Kd.int .u8) 5 w' w.heap.size (fun _ => True) v5 x5_1) ∧ Aside0 (IsS63 w0 w' g s0_0 x1001_1 x1002_1) ∧ Aside0 (KeepBut w w' g none) ∧ Aside0 (Below w0.heap.size w0 w'))
 case atStart => exact ⟨(a1), (([] : List Int)), (s0_1), (s0_2), rfl, H', ⟨Nat.le_refl _⟩, ⟨by first | apply Kd.R_nil | apply Kd.N_nil | apply Kd.V_nil | apply Kd.Q_nil | apply Kd.S_nil⟩, ⟨by repeat (first | (with_reducible first | exact HI0.out | apply IsS63.alloc | apply IsS63.drewN | apply IsS63.drew | apply IsS63.set_1 | apply IsS63.set_2) | exact HI0.out)⟩, ⟨by repeat (first | (with_reducible first | exact HK.out | apply KeepBut.set_ | apply keep_drewN | apply keep_drew | apply keep_alloc) | exact HK.out)⟩, ⟨zB HB.out⟩⟩
 case round =>
  clear H'; obtain ⟨x1_1, x5_1, x1001_1, x1002_1, rfl, HA, HK1, HO_5, HI0, HK, HB⟩ := hrel
  cases gk with
  | zero => exact absurd HA.out (by simp [spec_l1Cur_vector.l0])
  | succ k1 =>
   have H := HA.out; clear HA
   simp only [spec_l1Cur_vector.l0] at H
   by_cases c3 : x1_1 > 0
   ·rw [if_pos c3] at H; have c3b0 : decide (0 < x1_1) = true := decide_eq_true c3; clear c3; obtain ⟨⟨t401, t402, t403⟩, A4, H⟩ := bi_ H; dsimp only at H
    obtain ⟨c5, H⟩ := it_ H; have LMc5 := am c5; clear c5; obtain ⟨y404, hy404⟩ : ∃ y_ : List Int, y_ = (x5_1 ++ [t401]) := ⟨_, rfl⟩
    replace H : (spec_l1Cur_vector.l0 k1 (wrap64 (x1_1 - 1)) y404 s0_0 t402 t403) = some (r1, r2, r3) := by first | (rw [hy404]; exact H) | (have H2_ := (Option.bind_some _ _).symm.trans H; first | exact H2_ | (rw [hy404]; exact H2_)) | exact H
    have Ny404 := am hy404; clear hy404; have H' := am H; clear H
    go_wp2_with (first | ((with_reducible refine gate_callee (f := 82) rfl ?_); refine goL_ (some 12) Try.func82 #[.pointer (some ⟨g, 0, none⟩)] ?_; (with_reducible refine (spec_l1Cur_byte.calls g s0_0 x1001_1 x1002_1 t401 t402 t403 w0 _ ?side1 ?side2 A4.out).mono ?_); (case side1 => repeat (first | (with_reducible first | exact HI0.out | apply IsS63.alloc | apply IsS63.drewN | apply IsS63.drew | apply IsS63.set_1 | apply IsS63.set_2) | exact HI0.out)); (case side2 => repeat (first | (with_reducible first | exact HB.out | apply below_alloc | apply pw_below_drewN | apply below_drew1 | refine below_set ?_ (IsS63.ge HI0.out)) | exact HB.out)); rintro e w6 ⟨rfl, hi, hb, hk⟩; refine ⟨_, rfl, ?_⟩; replace HO_5 := am (Kd.R_mono (Kd.R_keep (IsS63.apart (show IsS63 w0 _ g s0_0 x1001_1 x1002_1 from by repeat (first | (with_reducible first | exact HI0.out | apply IsS63.alloc | apply IsS63.drewN | apply IsS63.drew | apply IsS63.set_1 | apply IsS63.set_2) | exact HI0.out)) (zR HO_5.out) (by decide)) hk (fun _ h => h.2)) (fun _ h => h.1)); replace HK := am (KeepBut.trans (by repeat (first | (with_reducible first | exact HK.out | apply KeepBut.set_ | apply keep_drewN | apply keep_drew | apply keep_alloc) | exact HK.out)) hk (.inl rfl)); replace HB := am (hb); replace HI0 := am (hi); (try clear hb); (try clear hb2); (try clear hk); (try clear hi)) | ((with_reducible refine gate_builtin (b := .append) (xs := #[.tmp 10, .tmp 13]) rfl ?_); at_builtin; refine Kd.R_append (Kd.int .u8) w.heap.size rfl (.tmp 10) (.tmp 13) 22 5 (.int .u8 0) 1 rfl Try.underlying22 info5 rfl (by decide) (by omega) u5 x5_1 t401 [.int .u8 t401] (fun _ => True) (fun _ => False) rfl rfl ?aP (fun _ hk => hk.elim) ?aF ?aO (Below.refl _ _) ?aS ?aL ?_; (case aP => exact rfl); (case aF => exact (fun _ _ => trivial)); (case aO => exact (zR HO_5.out)); (case aS => exact (keep_size (w := w) (g := g) (row := none) (by repeat (first | (with_reducible first | exact HK.out | apply KeepBut.set_ | apply keep_drewN | apply keep_drew | apply keep_alloc) | exact HK.out)))); (case aL => have := LMc5.out; omega); intro v405 w7 ho hb hg hat; rw [← Ny404.out] at ho; replace HI0 := am (IsS63.grown (by repeat (first | (with_reducible first | exact HI0.out | apply IsS63.alloc | apply IsS63.drewN | apply IsS63.drew | apply IsS63.set_1 | apply IsS63.set_2) | exact HI0.out)) hg (IsS63.own_ne HI0.out HO_5.out (by decide))); replace HB := am (below_weaken (zB HB.out) HL.out hb); replace HK := am (KeepBut.trans (by repeat (first | (with_reducible first | exact HK.out | apply KeepBut.set_ | apply keep_drewN | apply keep_drew | apply keep_alloc) | exact HK.out)) (KeepBut.of_grown hg g) (Kd.R_base2 HO_5.out)); have HO406 := am (ho); (try clear HO_5); clear ho hb hg hat))
    go_roundg k1
    case measure => have := HK1.out; omega
    case rel => exact ⟨(wrap64 (x1_1 - 1)), (y404), (t402), (t403), rfl, H', ⟨by have := HK1.out; omega⟩, ⟨zR HO406.out⟩, ⟨by repeat (first | (with_reducible first | exact HI0.out | apply IsS63.alloc | apply IsS63.drewN | apply IsS63.drew | apply IsS63.set_1 | apply IsS63.set_2) | exact HI0.out)⟩, ⟨by repeat (first | (with_reducible first | exact HK.out | apply KeepBut.set_ | apply keep_drewN | apply keep_drew | apply keep_alloc) | exact HK.out)⟩, ⟨zB HB.out⟩⟩
   ·rw [if_neg c3] at H; have c3b0 : decide (0 < x1_1) = false := decide_eq_false c3; clear c3
    simp only [Option.some.injEq, Prod.mk.injEq] at H
    obtain ⟨rfl, rfl, rfl⟩ := H
    go_wp2
    go_ret
    exact ⟨_, rfl, zR HO_5.out, by repeat (first | (with_reducible first | exact HI0.out | apply IsS63.alloc | apply IsS63.drewN | apply IsS63.drew | apply IsS63.set_1 | apply IsS63.set_2) | exact HI0.out), zB HB.out, by repeat (first | (with_reducible first | exact HK.out | apply KeepBut.set_ | apply keep_drewN | apply keep_drew | apply keep_alloc) | exact HK.out)⟩

/-! ### spec_DrawEncodeWord: function 30 -/
def spec_DrawEncodeWord.f (k : Nat) (l0 : List Int) : Option (List Int × Int) := (spec_l1Cur_among.f l0 0 0 (([0, 1, 2, 5, 8, 16, 17, 22, 23] : List Int))).bind fun bt411 => ((spec_l1Cur_vector.f k l0 bt411.2.1 bt411.2.2 bt411.1).bind fun bt414 => ((spec_l1Cur_pick.f l0 bt414.2.1 bt414.2.2 6).bind fun bt419 => (some (bt414.1, bt419.1))))
theorem spec_DrawEncodeWord.mono : ∀ a0 k, LeO (spec_DrawEncodeWord.f k a0) (spec_DrawEncodeWord.f (k + 1) a0) := by
 intro a0 k
 unfold spec_DrawEncodeWord.f
 repeat' first | apply LeO.refl | apply LeO.none | apply LeO.ite | apply spec_l1Cur_vector.mono | (refine LeO.bind ?_ (fun _ => ?_))
set_option maxHeartbeats 8000000 in
set_option maxRecDepth 100000 in
theorem spec_DrawEncodeWord.calls (k : Nat) (A0 : Option Addr) (c0 : Nat) (l0 : List Int) (r1 : List Int) (r2 : Int) (w : World) (hr0 : Kd.C (Kd.int .u8) w A0 l0.length l0) (hc0 : l0.length ≤ c0) (h : spec_DrawEncodeWord.f k l0 = some (r1, r2)) :
  Calls Try.prog 30 #[.slice A0 l0.length c0] w fun e w' => ∃ v0_ : Value, e = .returned (.tuple #[v0_, .int .i64 r2]) ∧ Kd.R (Kd.int .u8) 5 w' w.heap.size (fun _ => True) v0_ r1 ∧ Below w.heap.size w w' := by
 have hu63 := Try.underlying63; have HR0 := am hr0; have HC0 := am hc0; clear hr0 hc0; have HB := am (Below.refl w.heap.size w); have H : ((spec_l1Cur_among.f l0 0 0 (([0, 1, 2, 5, 8, 16, 17, 22, 23] : List Int))).bind fun bt411 => ((spec_l1Cur_vector.f k l0 bt411.2.1 bt411.2.2 bt411.1).bind fun bt414 => ((spec_l1Cur_pick.f l0 bt414.2.1 bt414.2.2 6).bind fun bt419 => (some (bt414.1, bt419.1))))) = some (r1, r2) := h; clear h; (try rw [Option.bind_some] at H); generalize hy408 : (([0, 1, 2, 5, 8, 16, 17, 22, 23] : List Int)) = y408 at H; have Ny408 := am hy408.symm; clear hy408; obtain ⟨⟨t411, t412, t413⟩, A2, H⟩ := bi_ H; dsimp only at H; obtain ⟨⟨t414, t417, t418⟩, A3, H⟩ := bi_ H; dsimp only at H; obtain ⟨⟨t419, t420, t421⟩, A4, H⟩ := bi_ H; dsimp only at H
 simp only [Option.some.injEq, Prod.mk.injEq] at H
 obtain ⟨rfl, rfl⟩ := H
 go_enter Try.func30, Try.ntmps30
 go_wp2_with (first | ((with_reducible refine gate_dst (N := 7) rfl ?_); refine box_event ?hg (N := 7) ?hd (cs := #[.slice A0 l0.length c0, .int .i64 0, .int .u64 0]) (t := 63) ?hr ?_; (case hd => rfl); (case hg => rfl); (case hr => first | (go_simp; done) | (go_simp; rfl)); intro gb407 hg w5 hbox hb; have HI407 := am ((show IsS63 w w5 gb407 l0 0 0 from ⟨_, _, hbox, (gw_ hg HB.out : w.heap.size ≤ gb407), HR0.out⟩)); replace HB := am (below_step (zB HB.out) hb); clear hb hbox hg) | ((with_reducible refine gate_dst (N := 10) rfl ?_); refine Kd.R_lit (Kd.int .i64) _ 3 ?hg (N := 10) ?hd (xs := ([0, 1, 2, 5, 8, 16, 17, 22, 23] : List Int)) (inner := [.int .i64 0, .int .i64 1, .int .i64 2, .int .i64 5, .int .i64 8, .int .i64 16, .int .i64 17, .int .i64 22, .int .i64 23]) (ok := fun _ => True) (okp := fun _ => True) ?hr ?hp (fun _ hk => hk) trivial (Below.refl _ _) (Nat.le_refl _) (by simp) ?_; (case hd => rfl); (case hg => rfl); (case hr => first | (go_simp; done) | (go_simp; rfl)); (case hp => exact (Reps.one (show Kd.M (Kd.int .i64) _ _ _ 0 [.int .i64 0] from rfl) (Reps.one (show Kd.M (Kd.int .i64) _ _ _ 1 [.int .i64 1] from rfl) (Reps.one (show Kd.M (Kd.int .i64) _ _ _ 2 [.int .i64 2] from rfl) (Reps.one (show Kd.M (Kd.int .i64) _ _ _ 5 [.int .i64 5] from rfl) (Reps.one (show Kd.M (Kd.int .i64) _ _ _ 8 [.int .i64 8] from rfl) (Reps.one (show Kd.M (Kd.int .i64) _ _ _ 16 [.int .i64 16] from rfl) (Reps.one (show Kd.M (Kd.int .i64) _ _ _ 17 [.int .i64 17] from rfl) (Reps.one (show Kd.M (Kd.int .i64) _ _ _ 22 [.int .i64 22] from rfl) (Reps.one (show Kd.M (Kd.int .i64) _ _ _ 23 [.int .i64 23] from rfl) (Reps.none _ _))))))))))); intro v409 w6 ho7 hb hg_ hnew_; clear hg_ hnew_; (first | rw [← Ny408.out] at ho7 | (simp only [Int.reduceToNat] at ho7; rw [← Ny408.out] at ho7)); have HO410 := am (Kd.R_lower ho7 (zs_ HB.out)); replace HI407 := am (IsS63.below (by repeat (first | (with_reducible first | exact HI407.out | apply IsS63.alloc | apply IsS63.drewN | apply IsS63.drew | apply IsS63.set_1 | apply IsS63.set_2) | exact HI407.out)) hb); replace HB := am (below_step (zB HB.out) hb); clear hb ho7; obtain ⟨Ao8, co8, eo8⟩ := Kd.R_slice HO410.out; subst eo8) | ((with_reducible refine gate_callee (f := 65) rfl ?_); refine goL_ (some 11) Try.func65 #[.pointer (some ⟨gb407, 0, none⟩), .slice Ao8 y408.length co8] ?_; (with_reducible refine (spec_l1Cur_among.calls gb407 l0 0 0 _ _ y408 t411 t412 t413 w _ ?side1 ?side2 ?side3 ?side4 ?side5 A2.out).mono ?_); (case side1 => repeat (first | (with_reducible first | exact HI407.out | apply IsS63.alloc | apply IsS63.drewN | apply IsS63.drew | apply IsS63.set_1 | apply IsS63.set_2) | exact HI407.out)); (case side2 => repeat (first | (with_reducible first | exact HB.out | apply below_alloc | apply pw_below_drewN | apply below_drew1 | refine below_set ?_ (IsS63.ge HI407.out)) | exact HB.out)); (case side3 => exact zC ((Kd.R_reads' HO410.out).2.2)); (case side4 => exact (Kd.R_reads' HO410.out).2.1); (case side5 => exact far_slice (IsS63.own_ne HI407.out HO410.out (by decide))); rintro e w9 ⟨rfl, hi, hb, hk⟩; refine ⟨_, rfl, ?_⟩; replace HO410 := am (Kd.R_mono (Kd.R_keep (IsS63.apart (show IsS63 w _ gb407 l0 0 0 from by repeat (first | (with_reducible first | exact HI407.out | apply IsS63.alloc | apply IsS63.drewN | apply IsS63.drew | apply IsS63.set_1 | apply IsS63.set_2) | exact HI407.out)) (zR HO410.out) (by decide)) hk (fun _ h => h.2)) (fun _ h => h.1)); replace HB := am (hb); replace HI407 := am (hi); (try clear hb); (try clear hb2); (try clear hk); (try clear hi)) | ((with_reducible refine gate_callee (f := 64) rfl ?_); refine goL_ (some 12) Try.func64 #[.pointer (some ⟨gb407, 0, none⟩), .int .i64 t411] ?_; (with_reducible refine (spec_l1Cur_vector.calls k gb407 l0 t412 t413 t411 t414 t417 t418 w _ ?side1 ?side2 A3.out).mono ?_); (case side1 => repeat (first | (with_reducible first | exact HI407.out | apply IsS63.alloc | apply IsS63.drewN | apply IsS63.drew | apply IsS63.set_1 | apply IsS63.set_2) | exact HI407.out)); (case side2 => repeat (first | (with_reducible first | exact HB.out | apply below_alloc | apply pw_below_drewN | apply below_drew1 | refine below_set ?_ (IsS63.ge HI407.out)) | exact HB.out)); rintro e w10 ⟨v415, rfl, ho0, hi, hb, hk⟩; refine ⟨_, rfl, ?_⟩; replace HO410 := am (Kd.R_mono (Kd.R_keep (IsS63.apart (show IsS63 w _ gb407 l0 t412 t413 from by repeat (first | (with_reducible first | exact HI407.out | apply IsS63.alloc | apply IsS63.drewN | apply IsS63.drew | apply IsS63.set_1 | apply IsS63.set_2) | exact HI407.out)) (zR HO410.out) (by decide)) hk (fun _ h => h.2)) (fun _ h => h.1)); have HO416 := am (Kd.R_lower ho0 (zs_ HB.out)); replace HB := am (hb); replace HI407 := am (hi); (try clear hb); (try clear ho0)) | ((with_reducible refine gate_callee (f := 66) rfl ?_); refine goL_ (some 14) Try.func66 #[.pointer (some ⟨gb407, 0, none⟩), .int .i64 6] ?_; (with_reducible refine (spec_l1Cur_pick.calls gb407 l0 t417 t418 6 t419 t420 t421 w _ ?side1 ?side2 A4.out).mono ?_); (case side1 => repeat (first | (with_reducible first | exact HI407.out | apply IsS63.alloc | apply IsS63.drewN | apply IsS63.drew | apply IsS63.set_1 | apply IsS63.set_2) | exact HI407.out)); (case side2 => repeat (first | (with_reducible first | exact HB.out | apply below_alloc | apply pw_below_drewN | apply below_drew1 | refine below_set ?_ (IsS63.ge HI407.out)) | exact HB.out)); rintro e w11 ⟨rfl, hi, hb, hk⟩; refine ⟨_, rfl, ?_⟩; replace HO410 := am (Kd.R_mono (Kd.R_keep (IsS63.apart (show IsS63 w _ gb407 l0 t417 t418 from by repeat (first | (with_reducible first | exact HI407.out | apply IsS63.alloc | apply IsS63.drewN | apply IsS63.drew | apply IsS63.set_1 | apply IsS63.set_2) | exact HI407.out)) (zR HO410.out) (by decide)) hk (fun _ h => h.2)) (fun _ h => h.1)); replace HO416 := am (Kd.R_mono (Kd.R_keep (IsS63.apart (show IsS63 w _ gb407 l0 t417 t418 from by repeat (first | (with_reducible first | exact HI407.out | apply IsS63.alloc | apply IsS63.drewN | apply IsS63.drew | apply IsS63.set_1 | apply IsS63.set_2) | exact HI407.out)) (zR HO416.out) (by decide)) hk (fun _ h => h.2)) (fun _ h => h.1)); replace HB := am (hb); replace HI407 := am (hi); (try clear hb); (try clear hb2); (try clear hk); (try clear hi)))
 go_ret2
 exact ⟨_, rfl, zR HO416.out, zB HB.out⟩

/-! ### impl_DistanceOf: function 31 -/
mutual
def impl_DistanceOf.j0 : Nat → List Int → List Int → Bool → Option (Int × Bool)
 | 0, _, _, _ => none
 | k + 1, x0, x1, x18 => if x18 = true then (some (0, false)) else (impl_DistanceOf.l0 k x1 0 x0 (x0.length : Int) 0)
def impl_DistanceOf.l0 : Nat → List Int → Int → List Int → Int → Int → Option (Int × Bool)
 | 0, _, _, _, _, _ => none
 | k + 1, x1, x6, x19, x20, x21 => if x21 < x20 then (if 0 ≤ x21 then (if x21 < (x19.length : Int) then (if x21 < (x1.length : Int) then (if (rd x19 x21) = (rd x1 x21) then (impl_DistanceOf.l0 k x1 x6 x19 x20 (wrap64 (x21 + 1))) else (impl_DistanceOf.l0 k x1 (wrap64 (x6 + 1)) x19 x20 (wrap64 (x21 + 1)))) else (none)) else (none)) else (none)) else (some (x6, true))
end
def impl_DistanceOf.f (k : Nat) (l0 : List Int) (l1 : List Int) : Option (Int × Bool) := if (l0.length : Int) = (l1.length : Int) then (impl_DistanceOf.j0 k l0 l1 (decide ((l0.length : Int) > 24))) else (impl_DistanceOf.j0 k l0 l1 true)
theorem impl_DistanceOf.mono_l : ∀ k, (∀ y0 y1 y2, LeO (impl_DistanceOf.j0 k y0 y1 y2) (impl_DistanceOf.j0 (k + 1) y0 y1 y2)) ∧ (∀ y0 y1 y2 y3 y4, LeO (impl_DistanceOf.l0 k y0 y1 y2 y3 y4) (impl_DistanceOf.l0 (k + 1) y0 y1 y2 y3 y4))
 | 0 => ⟨fun _ _ _ r h => by simp [impl_DistanceOf.j0] at h, fun _ _ _ _ _ r h => by simp [impl_DistanceOf.l0] at h⟩
 | k + 1 => by
  obtain ⟨ih0, ih1⟩ := impl_DistanceOf.mono_l k
  refine ⟨?_, ?_⟩
  ·intro y0 y1 y2
   unfold impl_DistanceOf.j0
   repeat' first | apply LeO.refl | apply LeO.none | apply LeO.ite | apply ih0 | apply ih1 | (refine LeO.bind ?_ (fun _ => ?_))
  ·intro y0 y1 y2 y3 y4
   unfold impl_DistanceOf.l0
   repeat' first | apply LeO.refl | apply LeO.none | apply LeO.ite | apply ih0 | apply ih1 | (refine LeO.bind ?_ (fun _ => ?_))
theorem impl_DistanceOf.mono : ∀ a0 a1 k, LeO (impl_DistanceOf.f k a0 a1) (impl_DistanceOf.f (k + 1) a0 a1) := by
 intro a0 a1 k; obtain ⟨ih0, ih1⟩ := impl_DistanceOf.mono_l k
 unfold impl_DistanceOf.f
 repeat' first | apply LeO.refl | apply LeO.none | apply LeO.ite | apply ih0 | apply ih1 | (refine LeO.bind ?_ (fun _ => ?_))
set_option maxHeartbeats 8000000 in
set_option maxRecDepth 100000 in
theorem impl_DistanceOf.calls (k : Nat) (A0 : Option Addr) (c0 : Nat) (l0 : List Int) (A1 : Option Addr) (c1 : Nat) (l1 : List Int) (r1 : Int) (r2 : Bool) (w : World) (hr0 : Kd.C (Kd.int .u8) w A0 l0.length l0) (hc0 : l0.length ≤ c0) (hr1 : Kd.C (Kd.int .u8) w A1 l1.length l1) (hc1 : l1.length ≤ c1) (h : impl_DistanceOf.f k l0 l1 = some (r1, r2)) :
  Calls Try.prog 31 #[.slice A0 l0.length c0, .slice A1 l1.length c1] w fun e w' => e = .returned (.tuple #[.int .i64 r1, .bool r2]) ∧ Drawn0 w w' := by
 have HR0 := am hr0; have HC0 := am hc0; clear hr0 hc0; have HR1 := am hr1; have HC1 := am hc1; clear hr1 hc1; have H : (if (l0.length : Int) = (l1.length : Int) then (impl_DistanceOf.j0 k l0 l1 (decide ((l0.length : Int) > 24))) else (impl_DistanceOf.j0 k l0 l1 true)) = some (r1, r2) := h; clear h; have HC3 := am H; clear H
 go_enter Try.func31, Try.ntmps31
 go_upto_region 1 with (fail)
 go_cut [18] (fun v18 wc => ∃ (kq : Nat) (x18_2 : Bool), v18 = .bool x18_2 ∧ Aside0 (impl_DistanceOf.j0 kq l0 l1 x18_2 = some (r1, r2)) ∧ Aside0 (kq ≤ k) ∧ Drawn0 w wc)
 case first =>
  have H := HC3.out; clear HC3
  by_cases c4 : (l0.length : Int) = (l1.length : Int)
  ·rw [if_pos c4] at H; have c4b0 : ((l0.length : Int) == (l1.length : Int)) = true := beq_iff_eq.mpr c4; have c4b1 : ((l0.length : Int) != (l1.length : Int)) = false := bne_eq_false_iff_eq.mpr c4
   have c4b2 : (l0.length == l1.length) = true := by first | simpa using c4 | (simp at c4 ⊢; omega)
   clear c4
   (first | rw [c4b0] | (simp only [i64_w, i32_w]; rw [c4b0]) | skip)
   have H' := am H; clear H
   go_wp2
   go_meet
   case rel => exact ⟨_, (decide ((l0.length : Int) > 24)), rfl, H', ⟨by first | omega | exact Nat.le_refl _⟩, by repeat (first | exact Drawn0.refl _ | apply Drawn0.step)⟩
  ·rw [if_neg c4] at H; have c4b0 : ((l0.length : Int) == (l1.length : Int)) = false := beq_eq_false_iff_ne.mpr c4; have c4b1 : ((l0.length : Int) != (l1.length : Int)) = true := bne_iff_ne.mpr c4
   have c4b2 : (l0.length == l1.length) = false := by first | simpa using c4 | (simp at c4 ⊢; omega)
   (first | rw [c4b0] | (simp only [i64_w, i32_w]; rw [c4b0]) | skip)
   have H' := am H; clear H
   go_wp2
   go_meet
   case rel => exact ⟨_, (true), rfl, H', ⟨by first | omega | exact Nat.le_refl _⟩, by repeat (first | exact Drawn0.refl _ | apply Drawn0.step)⟩
 case rest =>
  clear HC3; obtain ⟨kq, x18_2, rfl, HA, HJ2, ⟨mc2, rfl⟩⟩ := hcut
  cases kq with
  | zero => exact absurd HA.out (by simp [impl_DistanceOf.j0])
  | succ kj2 =>
   have H := HA.out; clear HA
   simp only [impl_DistanceOf.j0] at H
   by_cases c5 : x18_2 = true
   ·subst c5
    have H1 : (some (0, false)) = some (r1, r2) := by rw [if_pos rfl] at H; exact H
    clear H; have H := H1; clear H1
    simp only [Option.some.injEq, Prod.mk.injEq] at H
    obtain ⟨rfl, rfl⟩ := H
    go_wp2
    go_ret2
    exact ⟨by first | rfl | (simp; done) | (simp [*]; done), by repeat (first | exact Drawn0.refl _ | apply Drawn0.step)⟩
   ·replace c5 := Bool.eq_false_iff.mpr c5
    subst c5
    have H1 : (impl_DistanceOf.l0 kj2 l1 0 l0 (l0.length : Int) 0) = some (r1, r2) := by rw [if_neg (show ¬ (false = true) by decide)] at H; exact H
    clear H; have H := H1; clear H1; have H' := am H; clear H
    go_wp2
    go_loopg [6, 21] kj2 (fun kq v6 v21 w' => ∃ (x6_2 : Int) (x21_2 : Int), v6 = .int .i64 x6_2 ∧ v21 = .int .i64 x21_2 ∧ Aside0 (impl_DistanceOf.l0 kq l1 x6_2 l0 (l0.length : Int) x21_2 = some (r1, r2)) ∧ Aside0 (kq ≤ kj2) ∧ Drawn0 w w')
    case atStart => exact ⟨(0), (0), rfl, rfl, H', ⟨Nat.le_refl _⟩, by repeat (first | exact Drawn0.refl _ | apply Drawn0.step)⟩
    case round =>
     clear H'; obtain ⟨x6_2, x21_2, rfl, rfl, HA, HK2, ⟨m2, rfl⟩⟩ := hrel
     cases gk with
     | zero => exact absurd HA.out (by simp [impl_DistanceOf.l0])
     | succ k2 =>
      have H := HA.out; clear HA
      simp only [impl_DistanceOf.l0] at H
      by_cases c6 : x21_2 < (l0.length : Int)
      ·rw [if_pos c6] at H; have c6b0 := decide_eq_true c6; clear c6
       obtain ⟨c7, H⟩ := it_ H; have c7b0 := decide_eq_true c7; clear c7
       obtain ⟨c8, H⟩ := it_ H; have c8b0 := decide_eq_true c8; clear c8
       obtain ⟨c9, H⟩ := it_ H; have c9b0 := decide_eq_true c9; clear c9
       by_cases c10 : (rd l0 x21_2) = (rd l1 x21_2)
       ·rw [if_pos c10] at H; have c10b0 : ((rd l0 x21_2) == (rd l1 x21_2)) = true := beq_iff_eq.mpr c10; have c10b1 : ((rd l0 x21_2) != (rd l1 x21_2)) = false := bne_eq_false_iff_eq.mpr c10; clear c10; have H' := am H; clear H; have p422 : 0 ≤ (x21_2 : Int) := od_; have q422 : x21_2 < (l0.length : Int) := od_; obtain ⟨ad422, e422, hx422_0⟩ := Kd.at_int HR0.out x21_2 p422 q422; cases e422; replace p422 := eq_true p422; replace q422 := eq_true q422; have p423 : 0 ≤ (x21_2 : Int) := od_; have q423 : x21_2 < (l1.length : Int) := od_; obtain ⟨ad423, e423, hx423_0⟩ := Kd.at_int HR1.out x21_2 p423 q423; cases e423; replace p423 := eq_true p423; replace q423 := eq_true q423
        go_wp2
        go_roundg k2
        case measure => have := HJ2.out; have := HK2.out; omega
        case rel => exact ⟨(x6_2), (wrap64 (x21_2 + 1)), rfl, rfl, H', ⟨by have := HJ2.out; have := HK2.out; omega⟩, by repeat (first | exact Drawn0.refl _ | apply Drawn0.step)⟩
       ·rw [if_neg c10] at H; have c10b0 : ((rd l0 x21_2) == (rd l1 x21_2)) = false := beq_eq_false_iff_ne.mpr c10; have c10b1 : ((rd l0 x21_2) != (rd l1 x21_2)) = true := bne_iff_ne.mpr c10; have H' := am H; clear H; have p422 : 0 ≤ (x21_2 : Int) := od_; have q422 : x21_2 < (l0.length : Int) := od_; obtain ⟨ad422, e422, hx422_0⟩ := Kd.at_int HR0.out x21_2 p422 q422; cases e422; replace p422 := eq_true p422; replace q422 := eq_true q422; have p423 : 0 ≤ (x21_2 : Int) := od_; have q423 : x21_2 < (l1.length : Int) := od_; obtain ⟨ad423, e423, hx423_0⟩ := Kd.at_int HR1.out x21_2 p423 q423; cases e423; replace p423 := eq_true p423; replace q423 := eq_true q423
        go_wp2
        go_roundg k2
        case measure => have := HJ2.out; have := HK2.out; omega
        case rel => exact ⟨(wrap64 (x6_2 + 1)), (wrap64 (x21_2 + 1)), rfl, rfl, H', ⟨by have := HJ2.out; have := HK2.out; omega⟩, by repeat (first | exact Drawn0.refl _ | apply Drawn0.step)⟩
      ·rw [if_neg c6] at H; have c6b0 := decide_eq_false c6; clear c6
       simp only [Option.some.injEq, Prod.mk.injEq] at H
       obtain ⟨rfl, rfl⟩ := H
       go_wp2
       go_ret2
       exact ⟨by first | rfl | (simp; done) | (simp [*]; done), by repeat (first | exact Drawn0.refl _ | apply Drawn0.step)⟩

/-! ### laws_sameBytes: function 32 -/
def laws_sameBytes.f (l0 : List Int) (l1 : List Int) : Option (Bool) := some ((strOfNums l0).toList == (strOfNums l1).toList)
set_option maxHeartbeats 8000000 in
set_option maxRecDepth 100000 in
theorem laws_sameBytes.calls (A0 : Option Addr) (c0 : Nat) (l0 : List Int) (A1 : Option Addr) (c1 : Nat) (l1 : List Int) (r : Bool) (w : World) (hr0 : Kd.C (Kd.int .u8) w A0 l0.length l0) (hc0 : l0.length ≤ c0) (hr1 : Kd.C (Kd.int .u8) w A1 l1.length l1) (hc1 : l1.length ≤ c1) (h : laws_sameBytes.f l0 l1 = some r) :
  Calls Try.prog 32 #[.slice A0 l0.length c0, .slice A1 l1.length c1] w fun e w' => e = .returned (.bool r) ∧ Drawn0 w w' := by
 have HR0 := am hr0; have HC0 := am hc0; clear hr0 hc0; have HR1 := am hr1; have HC1 := am hc1; clear hr1 hc1; have H : (some ((strOfNums l0).toList == (strOfNums l1).toList)) = some r := h; clear h; obtain rfl := Option.some.inj H; have hcv3 := Kd.C_string (P := Try.prog) (A := A0) (c := c0) Try.underlying22 Try.underlying5 Try.underlying9 HR0.out; have hcv4 := Kd.C_string (P := Try.prog) (A := A1) (c := c1) Try.underlying22 Try.underlying5 Try.underlying9 HR1.out
 go_enter Try.func32, Try.ntmps32
 go_wp2
 go_ret
 exact ⟨by first | rfl | (simp; done) | (simp [*]; done), by repeat (first | exact Drawn0.refl _ | apply Drawn0.step)⟩

/-! ### spec_l1Cur_word: function 67 -/
def spec_l1Cur_word.l0 : Nat → Int → List Int → Int → List Int → Int → Int → Option (List Int × Int × Int × Int)
 | 0, _, _, _, _, _, _ => none
 | k + 1, x4, x5, x7, x1000, x1001, x1002 => if x7 > 0 then ((spec_l1Cur_pick.f x1000 x1001 x1002 (x5.length : Int)).bind fun bt442 => (if 0 ≤ bt442.1 then (if bt442.1 < (x5.length : Int) then ((spec_l1Cur_byte.f x1000 bt442.2.1 bt442.2.2).bind fun bt446 => (spec_l1Cur_word.l0 k x4 (x5.set (bt442.1 : Int).toNat (Go.bits .xor .u8 (rd x5 bt442.1) bt446.1)) (wrap64 (x7 - 1)) x1000 bt446.2.1 bt446.2.2)) else (none)) else (none))) else ((spec_l1Cur_one.f x1000 x1001 x1002 20).bind fun bt450 => (if bt450.1 = true then ((spec_l1Cur_pick.f x1000 bt450.2.1 bt450.2.2 6).bind fun bt453 => (some (x5, bt453.1, bt453.2.1, bt453.2.2))) else (some (x5, x4, bt450.2.1, bt450.2.2))))
def spec_l1Cur_word.f (k : Nat) (s0_0 : List Int) (s0_1 : Int) (s0_2 : Int) : Option (List Int × Int × Int × Int) := (spec_l1Cur_pick.f s0_0 s0_1 s0_2 4).bind fun bt424 => ((spec_l1Cur_pick.f s0_0 bt424.2.1 bt424.2.2 8).bind fun bt427 => ((spec_l1Cur_vector.f k s0_0 bt427.2.1 bt427.2.2 (wrap64 (1 + bt427.1))).bind fun bt430 => ((spec_EncodeWord.f k bt430.1 (wrap64 (1 + bt424.1))).bind fun bt435 => ((spec_l1Cur_pick.f s0_0 bt430.2.1 bt430.2.2 (wrap64 ((wrap64 (1 + bt424.1)) + 2))).bind fun bt439 => (spec_l1Cur_word.l0 k (wrap64 (1 + bt424.1)) bt435.1 bt439.1 s0_0 bt439.2.1 bt439.2.2)))))
theorem spec_l1Cur_word.mono_l : ∀ k, (∀ y0 y1 y2 y3 y4 y5, LeO (spec_l1Cur_word.l0 k y0 y1 y2 y3 y4 y5) (spec_l1Cur_word.l0 (k + 1) y0 y1 y2 y3 y4 y5))
 | 0 => fun _ _ _ _ _ _ r h => by simp [spec_l1Cur_word.l0] at h
 | k + 1 => by
  have ih0 := spec_l1Cur_word.mono_l k
  ·intro y0 y1 y2 y3 y4 y5
   unfold spec_l1Cur_word.l0
   repeat' first | apply LeO.refl | apply LeO.none | apply LeO.ite | apply ih0 | apply spec_EncodeWord.mono | apply spec_l1Cur_vector.mono | (refine LeO.bind ?_ (fun _ => ?_))
theorem spec_l1Cur_word.mono : ∀ a0 a1 a2 k, LeO (spec_l1Cur_word.f k a0 a1 a2) (spec_l1Cur_word.f (k + 1) a0 a1 a2) := by
 intro a0 a1 a2 k; have ih0 := spec_l1Cur_word.mono_l k
 unfold spec_l1Cur_word.f
 repeat' first | apply LeO.refl | apply LeO.none | apply LeO.ite | apply ih0 | apply spec_EncodeWord.mono | apply spec_l1Cur_vector.mono | (refine LeO.bind ?_ (fun _ => ?_))
def spec_l1Cur_word.T6 : Bool × List (List Nat × List Nat) := (true, [([], []), ([], []), ([], []), ([2], [2]), ([1, 3], [1, 3]), ([0, 4], [0, 4]), ([5], [5]), ([], []), ([7, 4], [7]), ([6, 8], [6, 8]), ([0, 4, 0, 1, 2, 3, 4, 5, 6, 7, 8, 9], [0, 4]), ([10, 9, 8, 0, 1, 2, 3, 4, 5, 6, 7, 8, 9], [9, 10])])
def spec_l1Cur_word.B6 : List Nat := [0, 0, 0, 4, 14, 31, 63, 0, 158, 511, 1023, 2047]
theorem spec_l1Cur_word.tab6 : rtab .any (opsOf Try.f67 6) = spec_l1Cur_word.T6 := by kernel_rfl
theorem spec_l1Cur_word.bits6 : waitsOk spec_l1Cur_word.T6.2 spec_l1Cur_word.B6 = true := by kernel_rfl
set_option maxHeartbeats 8000000 in
set_option maxRecDepth 100000 in
theorem spec_l1Cur_word.calls (k : Nat) (g : Nat) (s0_0 : List Int) (s0_1 : Int) (s0_2 : Int) (r1 : List Int) (r2 : Int) (r3 : Int) (r4 : Int) (w0 w : World) (hI : IsS63 w0 w g s0_0 s0_1 s0_2) (hB : Below w0.heap.size w0 w) (h : spec_l1Cur_word.f k s0_0 s0_1 s0_2 = some (r1, r2, r3, r4)) :
  Calls Try.prog 67 #[.pointer (some ⟨g, 0, none⟩)] w fun e w' => ∃ v0_ : Value, e = .returned (.tuple #[v0_, .int .i64 r2]) ∧ Kd.R (Kd.int .u8) 5 w' w.heap.size (fun _ => True) v0_ r1 ∧ IsS63 w0 w' g s0_0 r3 r4 ∧ Below w0.heap.size w0 w' ∧ KeepBut w w' g none := by
 have HI0 := am hI; have HK := am (KeepBut.refl w g none); have HL := am hB.size; clear hI; have HW0 := am hB.size; have HB := am hB; clear hB; have H : ((spec_l1Cur_pick.f s0_0 s0_1 s0_2 4).bind fun bt424 => ((spec_l1Cur_pick.f s0_0 bt424.2.1 bt424.2.2 8).bind fun bt427 => ((spec_l1Cur_vector.f k s0_0 bt427.2.1 bt427.2.2 (wrap64 (1 + bt427.1))).bind fun bt430 => ((spec_EncodeWord.f k bt430.1 (wrap64 (1 + bt424.1))).bind fun bt435 => ((spec_l1Cur_pick.f s0_0 bt430.2.1 bt430.2.2 (wrap64 ((wrap64 (1 + bt424.1)) + 2))).bind fun bt439 => (spec_l1Cur_word.l0 k (wrap64 (1 + bt424.1)) bt435.1 bt439.1 s0_0 bt439.2.1 bt439.2.2)))))) = some (r1, r2, r3, r4) := h; clear h; obtain ⟨⟨t424, t425, t426⟩, A2, H⟩ := bi_ H; dsimp only at H; obtain ⟨⟨t427, t428, t429⟩, A3, H⟩ := bi_ H; dsimp only at H; obtain ⟨⟨t430, t433, t434⟩, A4, H⟩ := bi_ H; dsimp only at H; obtain ⟨⟨t435, t436⟩, A5, H⟩ := bi_ H; dsimp only at H; obtain ⟨⟨t439, t440, t441⟩, A6, H⟩ := bi_ H; dsimp only at H; have H' := am H; clear H
 go_enter Try.func67, Try.ntmps67
 go_wp2_with (first | ((with_reducible refine gate_callee (f := 66) rfl ?_); refine goL_ (some 9) Try.func66 #[.pointer (some ⟨g, 0, none⟩), .int .i64 4] ?_; (with_reducible refine (spec_l1Cur_pick.calls g s0_0 s0_1 s0_2 4 t424 t425 t426 w0 _ ?side1 ?side2 A2.out).mono ?_); (case side1 => repeat (first | (with_reducible first | exact HI0.out | apply IsS63.alloc | apply IsS63.drewN | apply IsS63.drew | apply IsS63.set_1 | apply IsS63.set_2) | exact HI0.out)); (case side2 => repeat (first | (with_reducible first | exact HB.out | apply below_alloc | apply pw_below_drewN | apply below_drew1 | refine below_set ?_ (IsS63.ge HI0.out)) | exact HB.out)); rintro e w7 ⟨rfl, hi, hb, hk⟩; refine ⟨_, rfl, ?_⟩; replace HK := am (KeepBut.trans (by repeat (first | (with_reducible first | exact HK.out | apply KeepBut.set_ | apply keep_drewN | apply keep_drew | apply keep_alloc) | exact HK.out)) hk (.inl rfl)); replace HB := am (hb); replace HI0 := am (hi); (try clear hb); (try clear hb2); (try clear hk); (try clear hi)) | ((with_reducible refine gate_callee (f := 66) rfl ?_); refine goL_ (some 14) Try.func66 #[.pointer (some ⟨g, 0, none⟩), .int .i64 8] ?_; (with_reducible refine (spec_l1Cur_pick.calls g s0_0 t425 t426 8 t427 t428 t429 w0 _ ?side1 ?side2 A3.out).mono ?_); (case side1 => repeat (first | (with_reducible first | exact HI0.out | apply IsS63.alloc | apply IsS63.drewN | apply IsS63.drew | apply IsS63.set_1 | apply IsS63.set_2) | exact HI0.out)); (case side2 => repeat (first | (with_reducible first | exact HB.out | apply below_alloc | apply pw_below_drewN | apply below_drew1 | refine below_set ?_ (IsS63.ge HI0.out)) | exact HB.out)); rintro e w8 ⟨rfl, hi, hb, hk⟩; refine ⟨_, rfl, ?_⟩; replace HK := am (KeepBut.trans (by repeat (first | (with_reducible first | exact HK.out | apply KeepBut.set_ | apply keep_drewN | apply keep_drew | apply keep_alloc) | exact HK.out)) hk (.inl rfl)); replace HB := am (hb); replace HI0 := am (hi); (try clear hb); (try clear hb2); (try clear hk); (try clear hi)) | ((with_reducible refine gate_callee (f := 64) rfl ?_); refine goL_ (some 16) Try.func64 #[.pointer (some ⟨g, 0, none⟩), .int .i64 (wrap64 (1 + t427))] ?_; (with_reducible refine (spec_l1Cur_vector.calls k g s0_0 t428 t429 (wrap64 (1 + t427)) t430 t433 t434 w0 _ ?side1 ?side2 A4.out).mono ?_); (case side1 => repeat (first | (with_reducible first | exact HI0.out | apply IsS63.alloc | apply IsS63.drewN | apply IsS63.drew | apply IsS63.set_1 | apply IsS63.set_2) | exact HI0.out)); (case side2 => repeat (first | (with_reducible first | exact HB.out | apply below_alloc | apply pw_below_drewN | apply below_drew1 | refine below_set ?_ (IsS63.ge HI0.out)) | exact HB.out)); rintro e w9 ⟨v431, rfl, ho0, hi, hb, hk⟩; refine ⟨_, rfl, ?_⟩; have HO432 := am (Kd.R_lower ho0 (keep_size (w := w) (g := g) (row := none) (by repeat (first | (with_reducible first | exact HK.out | apply KeepBut.set_ | apply keep_drewN | apply keep_drew | apply keep_alloc) | exact HK.out)))); replace HK := am (KeepBut.trans (by repeat (first | (with_reducible first | exact HK.out | apply KeepBut.set_ | apply keep_drewN | apply keep_drew | apply keep_alloc) | exact HK.out)) hk (.inl rfl)); replace HB := am (hb); replace HI0 := am (hi); (try clear hb); (try clear ho0); obtain ⟨Ao10, co10, eo10⟩ := Kd.R_slice HO432.out; subst eo10) | ((with_reducible refine gate_callee (f := 22) rfl ?_); refine goL_ (some 18) Try.func22 #[.slice Ao10 t430.length co10, .int .i64 (wrap64 (1 + t424))] ?_; (with_reducible refine (spec_EncodeWord.calls k _ _ t430 (wrap64 (1 + t424)) t435 t436 _ ?side1 ?side2 A5.out).mono ?_); (case side1 => exact zC ((Kd.R_reads' HO432.out).2.2)); (case side2 => exact (Kd.R_reads' HO432.out).2.1); rintro e w11 ⟨v437, rfl, ho0, hb⟩; refine ⟨_, rfl, ?_⟩; have HO438 := am (Kd.R_lower (Kd.R_new' ho0 (Kd.R_lt (zR HO432.out))) (keep_size (w := w) (g := g) (row := none) (by repeat (first | (with_reducible first | exact HK.out | apply KeepBut.set_ | apply keep_drewN | apply keep_drew | apply keep_alloc) | exact HK.out)))); replace HO432 := am (Kd.R_elder' (zR HO432.out) (Kd.R_base ho0) hb); replace HI0 := am (IsS63.below (by repeat (first | (with_reducible first | exact HI0.out | apply IsS63.alloc | apply IsS63.drewN | apply IsS63.drew | apply IsS63.set_1 | apply IsS63.set_2) | exact HI0.out)) hb); replace HK := am (KeepBut.trans (by repeat (first | (with_reducible first | exact HK.out | apply KeepBut.set_ | apply keep_drewN | apply keep_drew | apply keep_alloc) | exact HK.out)) (KeepBut.of_below hb g none) (.inl rfl)); replace HB := am (below_step (zB HB.out) hb); (try clear hb); (try clear ho0)) | ((with_reducible refine gate_callee (f := 66) rfl ?_); refine goL_ (some 24) Try.func66 #[.pointer (some ⟨g, 0, none⟩), .int .i64 (wrap64 ((wrap64 (1 + t424)) + 2))] ?_; (with_reducible refine (spec_l1Cur_pick.calls g s0_0 t433 t434 (wrap64 ((wrap64 (1 + t424)) + 2)) t439 t440 t441 w0 _ ?side1 ?side2 A6.out).mono ?_); (case side1 => repeat (first | (with_reducible first | exact HI0.out | apply IsS63.alloc | apply IsS63.drewN | apply IsS63.drew | apply IsS63.set_1 | apply IsS63.set_2) | exact HI0.out)); (case side2 => repeat (first | (with_reducible first | exact HB.out | apply below_alloc | apply pw_below_drewN | apply below_drew1 | refine below_set ?_ (IsS63.ge HI0.out)) | exact HB.out)); rintro e w12 ⟨rfl, hi, hb, hk⟩; refine ⟨_, rfl, ?_⟩; replace HO432 := am (Kd.R_mono (Kd.R_keep (IsS63.apart (show IsS63 w0 _ g s0_0 t433 t434 from by repeat (first | (with_reducible first | exact HI0.out | apply IsS63.alloc | apply IsS63.drewN | apply IsS63.drew | apply IsS63.set_1 | apply IsS63.set_2) | exact HI0.out)) (zR HO432.out) (by decide)) hk (fun _ h => h.2)) (fun _ h => h.1)); replace HO438 := am (Kd.R_mono (Kd.R_keep (IsS63.apart (show IsS63 w0 _ g s0_0 t433 t434 from by repeat (first | (with_reducible first | exact HI0.out | apply IsS63.alloc | apply IsS63.drewN | apply IsS63.drew | apply IsS63.set_1 | apply IsS63.set_2) | exact HI0.out)) (zR HO438.out) (by decide)) hk (fun _ h => h.2)) (fun _ h => h.1)); replace HK := am (KeepBut.trans (by repeat (first | (with_reducible first | exact HK.out | apply KeepBut.set_ | apply keep_drewN | apply keep_drew | apply keep_alloc) | exact HK.out)) hk (.inl rfl)); replace HB := am (hb); replace HI0 := am (hi); (try clear hb); (try clear hb2); (try clear hk); (try clear hi)))
 go_loopg [7] k (fun kq v7 w' => ∃ (x5_1 : List Int) (x7_1 : Int) (x1001_1 : Int) (x1002_1 : Int), v7 = .int .i64 x7_1 ∧ Aside0 (spec_l1Cur_word.l0 kq (wrap64 (1 + t424)) x5_1 x7_1 s0_0 x1001_1 x1002_1 = some (r1, r2, r3, r4)) ∧ Aside0 (kq ≤ k) ∧ Aside0 (Kd.R (Kd.int .u8) 5 w' w.heap.size (fun _ => True) v437 x5_1) ∧ Aside0 (IsS63 w0 w' g s0_0 x1001_1 x1002_1) ∧ Aside0 (KeepBut w w' g none) ∧ Aside0 (Below w0.heap.size w0 w'))
 case atStart => exact ⟨(t435), (t439), (t440), (t441), rfl, H', ⟨Nat.le_refl _⟩, ⟨zR (Kd.R_mono HO438.out (fun _ hk => trivial))⟩, ⟨by repeat (first | (with_reducible first | exact HI0.out | apply IsS63.alloc | apply IsS63.drewN | apply IsS63.drew | apply IsS63.set_1 | apply IsS63.set_2) | exact HI0.out)⟩, ⟨by repeat (first | (with_reducible first | exact HK.out | apply KeepBut.set_ | apply keep_drewN | apply keep_drew | apply keep_alloc) | exact HK.out)⟩, ⟨zB HB.out⟩⟩
 case round =>
  clear H'; obtain ⟨x5_1, x7_1, x1001_1, x1002_1, rfl, HA, HK1, HO_5, HI0, HK, HB⟩ := hrel
  cases gk with
  | zero => exact absurd HA.out (by simp [spec_l1Cur_word.l0])
  | succ k1 =>
   have H := HA.out; clear HA
   simp only [spec_l1Cur_word.l0] at H
   by_cases c13 : x7_1 > 0
   ·rw [if_pos c13] at H; have c13b0 : decide (0 < x7_1) = true := decide_eq_true c13; clear c13; obtain ⟨⟨t442, t443, t444⟩, A14, H⟩ := bi_ H; dsimp only at H
    obtain ⟨c15, H⟩ := it_ H; have c15b0 := decide_eq_true c15; clear c15
    obtain ⟨c16, H⟩ := it_ H; have c16b0 := decide_eq_true c16; clear c16; obtain ⟨⟨t446, t447, t448⟩, A17, H⟩ := bi_ H; dsimp only at H; obtain ⟨y449, hy449⟩ : ∃ y_ : List Int, y_ = (x5_1.set (t442 : Int).toNat (Go.bits .xor .u8 (rd x5_1 t442) t446)) := ⟨_, rfl⟩
    replace H : (spec_l1Cur_word.l0 k1 (wrap64 (1 + t424)) y449 (wrap64 (x7_1 - 1)) s0_0 t447 t448) = some (r1, r2, r3, r4) := by first | (rw [hy449]; exact H) | (have H2_ := (Option.bind_some _ _).symm.trans H; first | exact H2_ | (rw [hy449]; exact H2_)) | exact H
    have Ny449 := am hy449; clear hy449; have H' := am H; clear H
    try go_wp2
    replace HO_5 := am (Kd.R_drew HO_5.out); replace HI0 := am (IsS63.drew HI0.out); replace HK := am (keep_drew HK.out); replace HB := am (below_drew1 HB.out); obtain ⟨Ao20, co20, eo20⟩ := Kd.R_slice HO_5.out
    (first | subst eo20 | (injection eo20 with f1_ f2_ f3_; have f4_ := f1_.symm; have f5_ := f3_.symm; clear f1_ f2_ f3_; subst f4_; subst f5_))
    have p445 : 0 ≤ (t442 : Int) := od_; have q445 : t442 < (x5_1.length : Int) := od_; obtain ⟨ad445, e445, hx445_0⟩ := Kd.at_int (Kd.R_reads' HO_5.out).2.2 t442 p445 q445; cases e445; replace p445 := eq_true p445; replace q445 := eq_true q445
    refine start_ (n := 12) (S := fun w' => w'.cell? (ad445.add (t442).toNat) = some (.int .u8 (rd x5_1 t442))) (ds := [11]) #[false, false, false, false, false, false, false, false, false, false, false, false] (by kernel_rfl) rfl rfl (hx445_0) (fun hHeld => ?_); refine with_tabW spec_l1Cur_word.tab6 spec_l1Cur_word.bits6 (fun HT_ HW_ => ?_)
    generalize wr.drew = w19 at HO_5 HI0 HK HB hx445_0 hHeld ⊢
    refine pu_ (i := 0) (some 29) #[true, false, false, false, false, false, false, false, false, false, false, false] HT_ ?_
    refine pu_ (i := 1) (some 30) #[true, true, false, false, false, false, false, false, false, false, false, false] HT_ ?_
    refine pu_ (i := 2) (some 31) #[true, true, true, false, false, false, false, false, false, false, false, false] HT_ ?_
    refine pu_ (i := 3) (some 32) #[true, true, true, true, false, false, false, false, false, false, false, false] HT_ ?_
    refine pu_ (i := 7) (some 36) #[true, true, true, true, false, false, false, true, false, false, false, false] HT_ ?_
    refine one_ (i := 4) (N := some 33) #[true, true, true, true, true, false, false, true, false, false, false, false] rfl rfl (one_of HT_.out (by kernel_rfl)) (by decide) (fun K hK => ?_)
    refine goR_ Try.func66 #[.pointer (some ⟨g, 0, none⟩), .int .i64 (x5_1.length : Int)] ?_
    with_reducible refine (spec_l1Cur_pick.calls g s0_0 x1001_1 x1002_1 (x5_1.length : Int) t442 t443 t444 w0 _ ?side1 ?side2 A14.out).mono ?_
    (case side1 => repeat (first | (with_reducible first | exact HI0.out | apply IsS63.alloc | apply IsS63.drewN | apply IsS63.drew | apply IsS63.set_1 | apply IsS63.set_2) | exact HI0.out))
    (case side2 => repeat (first | (with_reducible first | exact HB.out | apply below_alloc | apply pw_below_drewN | apply below_drew1 | refine below_set ?_ (IsS63.ge HI0.out)) | exact HB.out))
    rintro e w21 ⟨rfl, hi, hb, hk⟩
    have HS0_ := keep_cell hk (hHeld) (by first | (rw [add_block]; exact Kd.own_blk (IsS63.own_ne HI0.out HO_5.out (by decide))) | (show (Addr.add _ _).block ≠ _; rw [add_block]; exact Kd.own_blk (IsS63.own_ne HI0.out HO_5.out (by decide))) | exact Kd.own_blk (IsS63.own_ne HI0.out HO_5.out (by decide)))
    refine ⟨_, rfl, ?_⟩
    replace HO_5 := am (Kd.R_mono (Kd.R_keep (IsS63.apart (show IsS63 w0 _ g s0_0 x1001_1 x1002_1 from by repeat (first | (with_reducible first | exact HI0.out | apply IsS63.alloc | apply IsS63.drewN | apply IsS63.drew | apply IsS63.set_1 | apply IsS63.set_2) | exact HI0.out)) (zR HO_5.out) (by decide)) hk (fun _ h => h.2)) (fun _ h => h.1))
    replace HK := am (KeepBut.trans (by repeat (first | (with_reducible first | exact HK.out | apply KeepBut.set_ | apply keep_drewN | apply keep_drew | apply keep_alloc) | exact HK.out)) hk (.inl rfl)); replace HB := am (hb); replace HI0 := am (hi); (try clear hb); (try clear hb2); (try clear hk); (try clear hi)
    refine hK.out _ _ (HS0_) (fun hHeld => ?_)
    clear hK K
    refine norm_ (a' := ?_) ?_ ?_
    rotate_left
    ·show Act.put _ (some 33) _ = _
     simp only [Act.put, List.setIfInBounds_toArray, List.set_cons_zero, List.set_cons_succ, i64_w, i32_w]; rfl
    refine pu_ (i := 5) (some 34) #[true, true, true, true, true, true, false, true, false, false, false, false] HT_ ?_
    refine ta_ (i := 6) (some 35) #[true, true, true, true, true, true, true, true, false, false, false, false] HT_ HW_ hHeld ?_
    refine one_ (i := 8) (N := some 37) #[true, true, true, true, true, true, true, true, true, false, false, false] rfl rfl (one_of HT_.out (by kernel_rfl)) (by decide) (fun K hK => ?_)
    refine goR_ Try.func82 #[.pointer (some ⟨g, 0, none⟩)] ?_
    with_reducible refine (spec_l1Cur_byte.calls g s0_0 t443 t444 t446 t447 t448 w0 _ ?side1 ?side2 A17.out).mono ?_
    (case side1 => repeat (first | (with_reducible first | exact HI0.out | apply IsS63.alloc | apply IsS63.drewN | apply IsS63.drew | apply IsS63.set_1 | apply IsS63.set_2) | exact HI0.out))
    (case side2 => repeat (first | (with_reducible first | exact HB.out | apply below_alloc | apply pw_below_drewN | apply below_drew1 | refine below_set ?_ (IsS63.ge HI0.out)) | exact HB.out))
    rintro e w22 ⟨rfl, hi, hb, hk⟩
    have HS0_ := keep_cell hk (hHeld) (by first | (rw [add_block]; exact Kd.own_blk (IsS63.own_ne HI0.out HO_5.out (by decide))) | (show (Addr.add _ _).block ≠ _; rw [add_block]; exact Kd.own_blk (IsS63.own_ne HI0.out HO_5.out (by decide))) | exact Kd.own_blk (IsS63.own_ne HI0.out HO_5.out (by decide)))
    refine ⟨_, rfl, ?_⟩
    replace HO_5 := am (Kd.R_mono (Kd.R_keep (IsS63.apart (show IsS63 w0 _ g s0_0 t443 t444 from by repeat (first | (with_reducible first | exact HI0.out | apply IsS63.alloc | apply IsS63.drewN | apply IsS63.drew | apply IsS63.set_1 | apply IsS63.set_2) | exact HI0.out)) (zR HO_5.out) (by decide)) hk (fun _ h => h.2)) (fun _ h => h.1))
    replace HK := am (KeepBut.trans (by repeat (first | (with_reducible first | exact HK.out | apply KeepBut.set_ | apply keep_drewN | apply keep_drew | apply keep_alloc) | exact HK.out)) hk (.inl rfl)); replace HB := am (hb); replace HI0 := am (hi); (try clear hb); (try clear hb2); (try clear hk); (try clear hi); have p18 : 0 ≤ (t442 : Int) := od_; have q18 : (t442 : Int) < ((x5_1.length : Int) : Int) := od_; obtain ⟨go18, co18, eo18, gb18, gl18, cl18, HG18⟩ := Kd.R_form HO_5.out (by omega)
    (first | cases eo18 | (injection eo18 with ea_ en_ ec_; (first | subst ea_ | (injection ea_ with ea_; subst ea_)); subst ec_; clear en_))
    have GB18 := am gb18; have GG18 := am HG18; clear gb18 gl18 HG18
    (first | simp only [add_plain] at hx445_0 | skip)
    obtain ⟨hx18_0, hf18_0⟩ := Kd.R_celln 0 HO_5.out (t442 : Int) p18 q18; replace p18 := eq_true p18; replace q18 := eq_true q18
    have HN0_go18 := am (show g ≠ go18 from by have h_ := IsS63.own_ne HI0.out HO_5.out (by decide); intro e_; exact h_ (by rw [e_]; rfl))
    have HP23 := Kd.R_putn HO_5.out (t442 : Int) (Go.bits .xor .u8 (rd x5_1 t442) t446); rw [← Ny449.out] at HP23; have HQ23 := am HP23; clear HP23
    refine hK.out _ _ (HS0_) (fun hHeld => ?_)
    clear hK K
    refine norm_ (a' := ?_) ?_ ?_
    rotate_left
    ·show Act.put _ (some 37) _ = _
     simp only [Act.put, List.setIfInBounds_toArray, List.set_cons_zero, List.set_cons_succ, i64_w, i32_w]; rfl
    refine pu_ (i := 9) (some 38) #[true, true, true, true, true, true, true, true, true, true, false, false] HT_ ?_
    refine pu_ (i := 10) (some 39) #[true, true, true, true, true, true, true, true, true, true, true, false] HT_ ?_
    refine last_ (i := 11) (N := none) #[true, true, true, true, true, true, true, true, true, true, true, true] rfl rfl (one_of HT_.out (by kernel_rfl)) (by decide) (fun K hK => ?_)
    refine skip_ (w1 := ?_) (by rfl) rfl ?_ ?_
    rotate_left
    ·go_simp; rfl
    refine hK.out _ _ ?_
    clear hK K
    refine done_ (done_of HT_.out (by kernel_rfl)) ?_
    try go_wp2
    go_roundg k1
    case measure => have := HK1.out; omega
    case rel => exact ⟨(y449), (wrap64 (x7_1 - 1)), (t447), (t448), rf_, H', ⟨by have := HK1.out; omega⟩, ⟨zR HQ23.out⟩, ⟨by repeat (first | (with_reducible first | exact HI0.out | apply IsS63.alloc | apply IsS63.drewN | apply IsS63.drew | apply IsS63.set_1 | apply IsS63.set_2 | refine IsS63.far ?_ HN0_go18.out _) | exact HI0.out)⟩, ⟨by repeat (first | (with_reducible first | exact HK.out | apply KeepBut.set_ | apply keep_drewN | apply keep_drew | apply keep_alloc | refine keep_far ?_ GB18.out _) | exact HK.out)⟩, ⟨by repeat (first | (with_reducible first | exact HB.out | apply below_alloc | apply pw_below_drewN | apply below_drew1 | refine below_set ?_ (Nat.le_trans HL.out GB18.out) | refine below_set ?_ (IsS63.ge HI0.out)) | exact HB.out)⟩⟩
   ·rw [if_neg c13] at H; have c13b0 : decide (0 < x7_1) = false := decide_eq_false c13; clear c13; obtain ⟨⟨t450, t451, t452⟩, A24, H⟩ := bi_ H; dsimp only at H
    by_cases c25 : t450 = true
    ·subst c25
     have H1 : ((spec_l1Cur_pick.f s0_0 t451 t452 6).bind fun bt453 => (some (x5_1, bt453.1, bt453.2.1, bt453.2.2))) = some (r1, r2, r3, r4) := by rw [if_pos rfl] at H; exact H
     clear H; have H := H1; clear H1; obtain ⟨⟨t453, t454, t455⟩, A26, H⟩ := bi_ H; dsimp only at H
     simp only [Option.some.injEq, Prod.mk.injEq] at H
     obtain ⟨rfl, rfl, rfl, rfl⟩ := H
     go_wp2_with (first | ((with_reducible refine gate_callee (f := 68) rfl ?_); refine goL_ (some 41) Try.func68 #[.pointer (some ⟨g, 0, none⟩), .int .i64 20] ?_; (with_reducible refine (spec_l1Cur_one.calls g s0_0 x1001_1 x1002_1 20 true t451 t452 w0 _ ?side1 ?side2 A24.out).mono ?_); (case side1 => repeat (first | (with_reducible first | exact HI0.out | apply IsS63.alloc | apply IsS63.drewN | apply IsS63.drew | apply IsS63.set_1 | apply IsS63.set_2) | exact HI0.out)); (case side2 => repeat (first | (with_reducible first | exact HB.out | apply below_alloc | apply pw_below_drewN | apply below_drew1 | refine below_set ?_ (IsS63.ge HI0.out)) | exact HB.out)); rintro e w27 ⟨rfl, hi, hb, hk⟩; refine ⟨_, rfl, ?_⟩; replace HO_5 := am (Kd.R_mono (Kd.R_keep (IsS63.apart (show IsS63 w0 _ g s0_0 x1001_1 x1002_1 from by repeat (first | (with_reducible first | exact HI0.out | apply IsS63.alloc | apply IsS63.drewN | apply IsS63.drew | apply IsS63.set_1 | apply IsS63.set_2) | exact HI0.out)) (zR HO_5.out) (by decide)) hk (fun _ h => h.2)) (fun _ h => h.1)); replace HK := am (KeepBut.trans (by repeat (first | (with_reducible first | exact HK.out | apply KeepBut.set_ | apply keep_drewN | apply keep_drew | apply keep_alloc) | exact HK.out)) hk (.inl rfl)); replace HB := am (hb); replace HI0 := am (hi); (try clear hb); (try clear hb2); (try clear hk); (try clear hi)) | ((with_reducible refine gate_callee (f := 66) rfl ?_); refine goL_ (some 43) Try.func66 #[.pointer (some ⟨g, 0, none⟩), .int .i64 6] ?_; (with_reducible refine (spec_l1Cur_pick.calls g s0_0 t451 t452 6 t453 t454 t455 w0 _ ?side1 ?side2 A26.out).mono ?_); (case side1 => repeat (first | (with_reducible first | exact HI0.out | apply IsS63.alloc | apply IsS63.drewN | apply IsS63.drew | apply IsS63.set_1 | apply IsS63.set_2) | exact HI0.out)); (case side2 => repeat (first | (with_reducible first | exact HB.out | apply below_alloc | apply pw_below_drewN | apply below_drew1 | refine below_set ?_ (IsS63.ge HI0.out)) | exact HB.out)); rintro e w28 ⟨rfl, hi, hb, hk⟩; refine ⟨_, rfl, ?_⟩; replace HO_5 := am (Kd.R_mono (Kd.R_keep (IsS63.apart (show IsS63 w0 _ g s0_0 t451 t452 from by repeat (first | (with_reducible first | exact HI0.out | apply IsS63.alloc | apply IsS63.drewN | apply IsS63.drew | apply IsS63.set_1 | apply IsS63.set_2) | exact HI0.out)) (zR HO_5.out) (by decide)) hk (fun _ h => h.2)) (fun _ h => h.1)); replace HK := am (KeepBut.trans (by repeat (first | (with_reducible first | exact HK.out | apply KeepBut.set_ | apply keep_drewN | apply keep_drew | apply keep_alloc) | exact HK.out)) hk (.inl rfl)); replace HB := am (hb); replace HI0 := am (hi); (try clear hb); (try clear hb2); (try clear hk); (try clear hi)))
     go_ret2
     exact ⟨_, rfl, zR HO_5.out, by repeat (first | (with_reducible first | exact HI0.out | apply IsS63.alloc | apply IsS63.drewN | apply IsS63.drew | apply IsS63.set_1 | apply IsS63.set_2) | exact HI0.out), zB HB.out, by repeat (first | (with_reducible first | exact HK.out | apply KeepBut.set_ | apply keep_drewN | apply keep_drew | apply keep_alloc) | exact HK.out)⟩
    ·replace c25 := Bool.eq_false_iff.mpr c25
     subst c25
     have H1 : (some (x5_1, (wrap64 (1 + t424)), t451, t452)) = some (r1, r2, r3, r4) := by rw [if_neg (show ¬ (false = true) by decide)] at H; exact H
     clear H; have H := H1; clear H1
     simp only [Option.some.injEq, Prod.mk.injEq] at H
     obtain ⟨rfl, rfl, rfl, rfl⟩ := H
     go_wp2_with (first | ((with_reducible refine gate_callee (f := 68) rfl ?_); refine goL_ (some 41) Try.func68 #[.pointer (some ⟨g, 0, none⟩), .int .i64 20] ?_; (with_reducible refine (spec_l1Cur_one.calls g s0_0 x1001_1 x1002_1 20 false t451 t452 w0 _ ?side1 ?side2 A24.out).mono ?_); (case side1 => repeat (first | (with_reducible first | exact HI0.out | apply IsS63.alloc | apply IsS63.drewN | apply IsS63.drew | apply IsS63.set_1 | apply IsS63.set_2) | exact HI0.out)); (case side2 => repeat (first | (with_reducible first | exact HB.out | apply below_alloc | apply pw_below_drewN | apply below_drew1 | refine below_set ?_ (IsS63.ge HI0.out)) | exact HB.out)); rintro e w29 ⟨rfl, hi, hb, hk⟩; refine ⟨_, rfl, ?_⟩; replace HO_5 := am (Kd.R_mono (Kd.R_keep (IsS63.apart (show IsS63 w0 _ g s0_0 x1001_1 x1002_1 from by repeat (first | (with_reducible first | exact HI0.out | apply IsS63.alloc | apply IsS63.drewN | apply IsS63.drew | apply IsS63.set_1 | apply IsS63.set_2) | exact HI0.out)) (zR HO_5.out) (by decide)) hk (fun _ h => h.2)) (fun _ h => h.1)); replace HK := am (KeepBut.trans (by repeat (first | (with_reducible first | exact HK.out | apply KeepBut.set_ | apply keep_drewN | apply keep_drew | apply keep_alloc) | exact HK.out)) hk (.inl rfl)); replace HB := am (hb); replace HI0 := am (hi); (try clear hb); (try clear hb2); (try clear hk); (try clear hi)))
     go_ret2
     exact ⟨_, rfl, zR HO_5.out, by repeat (first | (with_reducible first | exact HI0.out | apply IsS63.alloc | apply IsS63.drewN | apply IsS63.drew | apply IsS63.set_1 | apply IsS63.set_2) | exact HI0.out), zB HB.out, by repeat (first | (with_reducible first | exact HK.out | apply KeepBut.set_ | apply keep_drewN | apply keep_drew | apply keep_alloc) | exact HK.out)⟩

/-! ### spec_DrawSyndromesOf: function 33 -/
def spec_DrawSyndromesOf.f (k : Nat) (l0 : List Int) : Option (List Int × Int) := (spec_l1Cur_word.f k l0 0 0).bind fun bt457 => (some (bt457.1, bt457.2.1))
theorem spec_DrawSyndromesOf.mono : ∀ a0 k, LeO (spec_DrawSyndromesOf.f k a0) (spec_DrawSyndromesOf.f (k + 1) a0) := by
 intro a0 k
 unfold spec_DrawSyndromesOf.f
 repeat' first | apply LeO.refl | apply LeO.none | apply LeO.ite | apply spec_l1Cur_word.mono | (refine LeO.bind ?_ (fun _ => ?_))
set_option maxHeartbeats 8000000 in
set_option maxRecDepth 100000 in
theorem spec_DrawSyndromesOf.calls (k : Nat) (A0 : Option Addr) (c0 : Nat) (l0 : List Int) (r1 : List Int) (r2 : Int) (w : World) (hr0 : Kd.C (Kd.int .u8) w A0 l0.length l0) (hc0 : l0.length ≤ c0) (h : spec_DrawSyndromesOf.f k l0 = some (r1, r2)) :
  Calls Try.prog 33 #[.slice A0 l0.length c0] w fun e w' => ∃ v0_ : Value, e = .returned (.tuple #[v0_, .int .i64 r2]) ∧ Kd.R (Kd.int .u8) 5 w' w.heap.size (fun _ => True) v0_ r1 ∧ Below w.heap.size w w' := by
 have hu63 := Try.underlying63; have HR0 := am hr0; have HC0 := am hc0; clear hr0 hc0; have HB := am (Below.refl w.heap.size w); have H : ((spec_l1Cur_word.f k l0 0 0).bind fun bt457 => (some (bt457.1, bt457.2.1))) = some (r1, r2) := h; clear h; obtain ⟨⟨t457, t460, t461, t462⟩, A2, H⟩ := bi_ H; dsimp only at H
 simp only [Option.some.injEq, Prod.mk.injEq] at H
 obtain ⟨rfl, rfl⟩ := H
 go_enter Try.func33, Try.ntmps33
 go_wp2_with (first | ((with_reducible refine gate_dst (N := 7) rfl ?_); refine box_event ?hg (N := 7) ?hd (cs := #[.slice A0 l0.length c0, .int .i64 0, .int .u64 0]) (t := 63) ?hr ?_; (case hd => rfl); (case hg => rfl); (case hr => first | (go_simp; done) | (go_simp; rfl)); intro gb456 hg w3 hbox hb; have HI456 := am ((show IsS63 w w3 gb456 l0 0 0 from ⟨_, _, hbox, (gw_ hg HB.out : w.heap.size ≤ gb456), HR0.out⟩)); replace HB := am (below_step (zB HB.out) hb); clear hb hbox hg) | ((with_reducible refine gate_callee (f := 67) rfl ?_); refine goL_ (some 9) Try.func67 #[.pointer (some ⟨gb456, 0, none⟩)] ?_; (with_reducible refine (spec_l1Cur_word.calls k gb456 l0 0 0 t457 t460 t461 t462 w _ ?side1 ?side2 A2.out).mono ?_); (case side1 => repeat (first | (with_reducible first | exact HI456.out | apply IsS63.alloc | apply IsS63.drewN | apply IsS63.drew | apply IsS63.set_1 | apply IsS63.set_2) | exact HI456.out)); (case side2 => repeat (first | (with_reducible first | exact HB.out | apply below_alloc | apply pw_below_drewN | apply below_drew1 | refine below_set ?_ (IsS63.ge HI456.out)) | exact HB.out)); rintro e w4 ⟨v458, rfl, ho0, hi, hb, hk⟩; refine ⟨_, rfl, ?_⟩; have HO459 := am (Kd.R_lower ho0 (zs_ HB.out)); replace HB := am (hb); replace HI456 := am (hi); (try clear hb); (try clear ho0)))
 go_ret2
 exact ⟨_, rfl, zR HO459.out, zB HB.out⟩

end Go.Proofs.Ytbloniemhkfnlaa.PFnSpaced
