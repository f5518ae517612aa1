/- A law's functions as plain Lean functions, each with the walk that shows that the code computes it: written by this session's program wip/tools/ppmake.py. -/
import Derived.Test.YtbloniemhkfnlaaKZ
import Derived.Test.YtbloniemhkfnlaaPFnSpacedx0
import Derived.Test.YtbloniemhkfnlaaPFnSpacedx1
import Derived.Test.YtbloniemhkfnlaaPFnSpacedx2
namespace Go.Proofs.Ytbloniemhkfnlaa.PFnSpaced
open Go.RowKit Go.Proofs.YtbloniemhkfnlaaW.PrintWords Go.Proofs.YtbloniemhkfnlaaW.PrintLast Go.Proofs.YtbloniemhkfnlaaW.PrintMore
attribute [local go_sem] max2_int min2_int max_two min_two max_three min_three max_four min_four   -- for this text's walks alone
set_option linter.unusedVariables false
set_option linter.unusedSimpArgs false

/-! ### impl_generator: function 39 -/
mutual
def impl_generator.l0 : Nat → Int → List Int → Int → Option (List Int)
 | 0, _, _, _ => none
 | k + 1, x0, x3, x4 => if x4 ≤ (wrap64 (2 * x0)) then ((impl_power.f k 3 x4).bind fun t195 => ((some (([0] : List Int) : List Int)).bind fun y196 => (if y196.length + x3.length < 140737488355328 then (impl_generator.l1 k x0 x4 t195 (y196 ++ x3) x3 (x3.length : Int) 0) else (none)))) else (some x3)
def impl_generator.l1 : Nat → Int → Int → Int → List Int → List Int → Int → Int → Option (List Int)
 | 0, _, _, _, _, _, _, _ => none
 | k + 1, x0, x4, x5, x6, x21, x22, x23 => if x23 < x22 then (if 0 ≤ x23 then (if x23 < (x21.length : Int) then (if x23 < (x6.length : Int) then ((impl_Times.f k (rd x21 x23) x5).bind fun t204 => (impl_generator.l1 k x0 x4 x5 (x6.set (x23 : Int).toNat (Go.bits .xor .u8 (rd x6 x23) t204)) x21 x22 (wrap64 (x23 + 1)))) else (none)) else (none)) else (none)) else (impl_generator.l0 k x0 x6 (wrap64 (x4 + 1)))
end
def impl_generator.f (k : Nat) (a0 : Int) : Option (List Int) := impl_generator.l0 k a0 (([1] : List Int)) 1
theorem impl_generator.mono_l : ∀ k, (∀ y0 y1 y2, LeO (impl_generator.l0 k y0 y1 y2) (impl_generator.l0 (k + 1) y0 y1 y2)) ∧ (∀ y0 y1 y2 y3 y4 y5 y6, LeO (impl_generator.l1 k y0 y1 y2 y3 y4 y5 y6) (impl_generator.l1 (k + 1) y0 y1 y2 y3 y4 y5 y6))
 | 0 => ⟨fun _ _ _ r h => by simp [impl_generator.l0] at h, fun _ _ _ _ _ _ _ r h => by simp [impl_generator.l1] at h⟩
 | k + 1 => by
  obtain ⟨ih0, ih1⟩ := impl_generator.mono_l k
  refine ⟨?_, ?_⟩
  ·intro y0 y1 y2
   unfold impl_generator.l0
   repeat' first | apply LeO.refl | apply LeO.none | apply LeO.ite | apply ih0 | apply ih1 | apply impl_Times.mono | apply impl_power.mono | (refine LeO.bind ?_ (fun _ => ?_))
  ·intro y0 y1 y2 y3 y4 y5 y6
   unfold impl_generator.l1
   repeat' first | apply LeO.refl | apply LeO.none | apply LeO.ite | apply ih0 | apply ih1 | apply impl_Times.mono | apply impl_power.mono | (refine LeO.bind ?_ (fun _ => ?_))
theorem impl_generator.mono : ∀ a0 k, LeO (impl_generator.f k a0) (impl_generator.f (k + 1) a0) := by
 intro a0 k; obtain ⟨ih0, ih1⟩ := impl_generator.mono_l k
 unfold impl_generator.f
 repeat' first | apply LeO.refl | apply LeO.none | apply LeO.ite | apply ih0 | apply ih1 | apply impl_Times.mono | apply impl_power.mono | (refine LeO.bind ?_ (fun _ => ?_))
def impl_generator.T10 : Bool × List (List Nat × List Nat) := (true, [([], []), ([], []), ([0, 1], [0, 1]), ([2], [2]), ([], []), ([], []), ([4, 5], [4, 5]), ([3, 6], [3, 6]), ([0, 1, 0, 1, 2, 3, 4, 5, 6, 7], [0, 1]), ([8, 7, 6, 0, 1, 2, 3, 4, 5, 6, 7], [7, 8])])
def impl_generator.B10 : List Nat := [0, 0, 3, 7, 0, 0, 48, 127, 255, 511]
theorem impl_generator.tab10 : rtab .any (opsOf Try.f39 10) = impl_generator.T10 := by kernel_rfl
theorem impl_generator.bits10 : waitsOk impl_generator.T10.2 impl_generator.B10 = true := by kernel_rfl
set_option maxHeartbeats 8000000 in
set_option maxRecDepth 100000 in
theorem impl_generator.calls (k : Nat) (a0 : Int) (r : List Int) (w : World) (h : impl_generator.f k a0 = some r) :
  Calls Try.prog 39 #[.int .i64 a0] w fun e w' => ∃ v0_ : Value, e = .returned (v0_) ∧ Kd.R (Kd.int .u8) 5 w' w.heap.size (fun _ => True) v0_ r ∧ Below w.heap.size w w' := by
 have HB := am (Below.refl w.heap.size w); have H : (impl_generator.l0 k a0 (([1] : List Int)) 1) = some r := h; clear h; (try rw [Option.bind_some] at H); generalize hy192 : (([1] : List Int)) = y192 at H; have Ny192 := am hy192.symm; clear hy192; have H' := am H; clear H
 go_enter Try.func39, Try.ntmps39
 go_wp2_with (first | ((with_reducible refine gate_dst (N := 9) rfl ?_); refine Kd.R_lit (Kd.int .u8) _ 5 ?hg (N := 9) ?hd (xs := ([1] : List Int)) (inner := [.int .u8 1]) (ok := fun _ => True) (okp := fun _ => True) ?hr ?hp (fun _ hk => hk) trivial (Below.refl _ _) (Nat.le_refl _) (by simp) ?_; (case hd => rfl); (case hg => rfl); (case hr => first | (go_simp; done) | (go_simp; rfl)); (case hp => exact (Reps.one (show Kd.M (Kd.int .u8) _ _ _ 1 [.int .u8 1] from rfl) (Reps.none _ _))); intro v193 w2 ho3 hb hg_ hnew_; clear hg_ hnew_; (first | rw [← Ny192.out] at ho3 | (simp only [Int.reduceToNat] at ho3; rw [← Ny192.out] at ho3)); have HO194 := am (Kd.R_lower ho3 (zs_ HB.out)); replace HB := am (below_step (zB HB.out) hb); clear hb ho3))
 go_loopg [3, 4] k (fun kq v3 v4 w' => ∃ (x3_1 : List Int) (x4_1 : Int), v4 = .int .i64 x4_1 ∧ Aside0 (impl_generator.l0 kq a0 x3_1 x4_1 = some r) ∧ Aside0 (kq ≤ k) ∧ Aside0 (Kd.R (Kd.int .u8) 5 w' w.heap.size (fun _ => True) v3 x3_1) ∧ Aside0 (Below w.heap.size w w'))
 case atStart => exact ⟨(y192), (1), rfl, H', ⟨Nat.le_refl _⟩, ⟨zR HO194.out⟩, ⟨zB HB.out⟩⟩
 case round =>
  clear H'; obtain ⟨x3_1, x4_1, rfl, HA, HK1, HO_3, HB⟩ := hrel
  cases gk with
  | zero => exact absurd HA.out (by simp [impl_generator.l0])
  | succ k1 =>
   have H := HA.out; clear HA
   simp only [impl_generator.l0] at H
   by_cases c4 : x4_1 ≤ (wrap64 (2 * a0))
   ·rw [if_pos c4] at H; have c4b0 : decide (x4_1 ≤ (wrap64 (2 * a0))) = true := decide_eq_true c4; clear c4; obtain ⟨t195, A5, H⟩ := bi_ H; (try rw [Option.bind_some] at H); generalize hy196 : (([0] : List Int)) = y196 at H; have Ny196 := am hy196.symm; clear hy196
    obtain ⟨c6, H⟩ := it_ H; have LMc6 := am c6; clear c6; obtain ⟨y199, hy199⟩ : ∃ y_ : List Int, y_ = (y196 ++ x3_1) := ⟨_, rfl⟩
    replace H : (impl_generator.l1 k1 a0 x4_1 t195 y199 x3_1 (x3_1.length : Int) 0) = some r := by first | (rw [hy199]; exact H) | (have H2_ := (Option.bind_some _ _).symm.trans H; first | exact H2_ | (rw [hy199]; exact H2_)) | exact H
    have Ny199 := am hy199; clear hy199; have H' := am H; clear H
    go_wp2_with (first | ((with_reducible refine gate_callee (f := 59) rfl ?_); refine goL_ (some 17) Try.func59 #[.int .u8 3, .int .i64 x4_1] ?_; (with_reducible refine (impl_power.calls k1 3 x4_1 t195 _ A5.out).mono ?_); rintro e w' ⟨rfl, ⟨nd, rfl⟩⟩; refine ⟨_, rfl, ?_⟩) | ((with_reducible refine gate_dst (N := 18) rfl ?_); refine Kd.R_lit (Kd.int .u8) _ 5 ?hg (N := 18) ?hd (xs := ([0] : List Int)) (inner := [.int .u8 0]) (ok := fun _ => True) (okp := fun _ => True) ?hr ?hp (fun _ hk => hk) trivial (Below.refl _ _) (Nat.le_refl _) (by simp) ?_; (case hd => rfl); (case hg => rfl); (case hr => first | (go_simp; done) | (go_simp; rfl)); (case hp => exact (Reps.one (show Kd.M (Kd.int .u8) _ _ _ 0 [.int .u8 0] from rfl) (Reps.none _ _))); intro v197 w7 ho8 hb hg_ hnew_; clear hg_ hnew_; (first | rw [← Ny196.out] at ho8 | (simp only [Int.reduceToNat] at ho8; rw [← Ny196.out] at ho8)); have HO198 := am (Kd.R_lower (Kd.R_new' ho8 (Kd.R_lt (zR HO_3.out))) (zs_ HB.out)); replace HO_3 := am (Kd.R_elder' (zR HO_3.out) (Kd.R_base ho8) hb); replace HB := am (below_step (zB HB.out) hb); clear hb ho8; obtain ⟨Ao10, co10, eo10⟩ := Kd.R_slice HO_3.out; subst eo10) | ((with_reducible refine gate_builtin (b := .append) (xs := #[.tmp 18, .tmp 19]) rfl ?_); at_builtin; refine Kd.R_append_rows (Kd.int .u8) (w0 := w) w.heap.size rfl (.tmp 18) (.tmp 19) 22 5 (.int .u8 0) 1 rfl Try.underlying22 info5 rfl (by decide) (by omega) v197 y196 x3_1 _ _ _ (fun k_ => some k_ ≠ (.slice Ao10 x3_1.length co10 : Value).ownBlock) (fun _ => False) rfl rfl ?aO ?aR (fun _ _ h => h) (fun _ h => h.elim) ?aF ?aB ?aS ?aL ?_; (case aR => exact zC ((Kd.R_reads' HO_3.out).2.2)); (case aB => exact (zB HB.out)); (case aF => exact (fun k_ hk => Kd.fresh' (Kd.R_lt (zR HO_3.out)) k_ hk)); (case aO => exact (zR (Kd.R_mono HO198.out (fun _ hk => hk.2)))); (case aS => exact (zs_ HB.out)); (case aL => have := LMc6.out; omega); intro v200 w9 ho hb hg hat; rw [← Ny199.out] at ho; replace HO_3 := am (Kd.R_after (ok := (fun _ => True)) (zR HO_3.out) hg hat); replace HB := am (hb); have HO201 := am (ho); (try clear HO198); clear ho hb hg hat))
    go_loopg [23] k1 (fun kq v23 w' => ∃ (x6_2 : List Int) (x23_2 : Int), v23 = .int .i64 x23_2 ∧ Aside0 (impl_generator.l1 kq a0 x4_1 t195 x6_2 x3_1 (x3_1.length : Int) x23_2 = some r) ∧ Aside0 (kq ≤ k1) ∧ Aside0 (Kd.R (Kd.int .u8) 5 w' w.heap.size (fun k_ => some k_ ≠ ((.slice Ao10 x3_1.length co10) : Value).ownBlock) v200 x6_2) ∧ Aside0 (Kd.R (Kd.int .u8) 5 w' w.heap.size (fun k_ => some k_ ≠ (v200 : Value).ownBlock) (.slice Ao10 x3_1.length co10) x3_1) ∧ Aside0 (Below w.heap.size w w'))
    case atStart => exact ⟨(y199), (0), rfl, H', ⟨Nat.le_refl _⟩, ⟨zR HO201.out⟩, ⟨zR (Kd.R_mono HO_3.out (fun _ hk => hk.2))⟩, ⟨zB HB.out⟩⟩
    case round =>
     clear H'; obtain ⟨x6_2, x23_2, rfl, HA, HK2, HO_6, HO_21, HB⟩ := hrel
     cases gk with
     | zero => exact absurd HA.out (by simp [impl_generator.l1])
     | succ k2 =>
      have H := HA.out; clear HA
      simp only [impl_generator.l1] at H
      by_cases c11 : x23_2 < (x3_1.length : Int)
      ·rw [if_pos c11] at H; have c11b0 := decide_eq_true c11; clear c11
       obtain ⟨c12, H⟩ := it_ H; have c12b0 := decide_eq_true c12; clear c12
       obtain ⟨c13, H⟩ := it_ H; have c13b0 := decide_eq_true c13; clear c13
       obtain ⟨c14, H⟩ := it_ H; have c14b0 := decide_eq_true c14; clear c14; obtain ⟨t204, A15, H⟩ := bi_ H; obtain ⟨y205, hy205⟩ : ∃ y_ : List Int, y_ = (x6_2.set (x23_2 : Int).toNat (Go.bits .xor .u8 (rd x6_2 x23_2) t204)) := ⟨_, rfl⟩
       replace H : (impl_generator.l1 k2 a0 x4_1 t195 y205 x3_1 (x3_1.length : Int) (wrap64 (x23_2 + 1))) = some r := by first | (rw [hy205]; exact H) | (have H2_ := (Option.bind_some _ _).symm.trans H; first | exact H2_ | (rw [hy205]; exact H2_)) | exact H
       have Ny205 := am hy205; clear hy205; have H' := am H; clear H; have p202 : 0 ≤ (x23_2 : Int) := od_; have q202 : x23_2 < (x3_1.length : Int) := od_; obtain ⟨ad202, e202, hx202_0⟩ := Kd.at_int (Kd.R_reads' HO_21.out).2.2 x23_2 p202 q202; cases e202; replace p202 := eq_true p202; replace q202 := eq_true q202
       try go_wp2
       replace HO_6 := am (Kd.R_drew HO_6.out); replace HO_21 := am (Kd.R_drew HO_21.out); replace HB := am (below_drew1 HB.out); obtain ⟨Ao18, co18, eo18⟩ := Kd.R_slice HO_6.out
       (first | subst eo18 | (injection eo18 with f1_ f2_ f3_; have f4_ := f1_.symm; have f5_ := f3_.symm; clear f1_ f2_ f3_; subst f4_; subst f5_))
       have p203 : 0 ≤ (x23_2 : Int) := od_; have q203 : x23_2 < (x6_2.length : Int) := od_; obtain ⟨ad203, e203, hx203_0⟩ := Kd.at_int (Kd.R_reads' HO_6.out).2.2 x23_2 p203 q203; cases e203; replace p203 := eq_true p203; replace q203 := eq_true q203
       refine start_ (n := 10) (S := fun w' => w'.cell? (ad203.add (x23_2).toNat) = some (.int .u8 (rd x6_2 x23_2))) (ds := [9]) #[false, false, false, false, false, false, false, false, false, false] (by kernel_rfl) rfl rfl (hx203_0) (fun hHeld => ?_); refine with_tabW impl_generator.tab10 impl_generator.bits10 (fun HT_ HW_ => ?_)
       generalize wr.drew = w17 at HO_6 HO_21 HB hx203_0 hHeld ⊢
       refine pu_ (i := 0) (some 28) #[true, false, false, false, false, false, false, false, false, false] HT_ ?_
       refine pu_ (i := 1) (some 29) #[true, true, false, false, false, false, false, false, false, false] HT_ ?_
       refine pu_ (i := 2) (some 30) #[true, true, true, false, false, false, false, false, false, false] HT_ ?_
       refine pu_ (i := 4) (some 32) #[true, true, true, false, true, false, false, false, false, false] HT_ ?_
       refine pu_ (i := 5) (some 33) #[true, true, true, false, true, true, false, false, false, false] HT_ ?_
       refine ta_ (i := 3) (some 31) #[true, true, true, true, true, true, false, false, false, false] HT_ HW_ hHeld ?_
       refine one_ (i := 6) (N := some 34) #[true, true, true, true, true, true, true, false, false, false] rfl rfl (one_of HT_.out (by kernel_rfl)) (by decide) (fun K hK => ?_)
       refine goR_ Try.func48 #[.int .u8 (rd x3_1 x23_2), .int .u8 t195] ?_
       with_reducible refine (impl_Times.calls k2 (rd x3_1 x23_2) t195 t204 _ A15.out).mono ?_
       rintro e w' ⟨rfl, ⟨nd, rfl⟩⟩
       refine ⟨_, rfl, ?_⟩
       have p16 : 0 ≤ (x23_2 : Int) := od_; have q16 : (x23_2 : Int) < ((x6_2.length : Int) : Int) := od_; obtain ⟨go16, co16, eo16, gb16, gl16, cl16, HG16⟩ := Kd.R_form HO_6.out (by omega)
       (first | cases eo16 | (injection eo16 with ea_ en_ ec_; (first | subst ea_ | (injection ea_ with ea_; subst ea_)); subst ec_; clear en_))
       have GB16 := am gb16; have GG16 := am HG16; clear gb16 gl16 HG16
       (first | simp only [add_plain] at hx203_0 | skip)
       obtain ⟨hx16_0, hf16_0⟩ := Kd.R_celln 0 HO_6.out (x23_2 : Int) p16 q16; replace p16 := eq_true p16; replace q16 := eq_true q16; have HP19 := Kd.R_putn HO_6.out (x23_2 : Int) (Go.bits .xor .u8 (rd x6_2 x23_2) t204); rw [← Ny205.out] at HP19; have HQ19 := am HP19; clear HP19
       refine hK.out _ _ (hHeld) (fun hHeld => ?_)
       clear hK K
       refine norm_ (a' := ?_) ?_ ?_
       rotate_left
       ·show Act.put _ (some 34) _ = _
        simp only [Act.put, List.setIfInBounds_toArray, List.set_cons_zero, List.set_cons_succ, i64_w, i32_w]; rfl
       refine pu_ (i := 7) (some 35) #[true, true, true, true, true, true, true, true, false, false] HT_ ?_
       refine pu_ (i := 8) (some 36) #[true, true, true, true, true, true, true, true, true, false] HT_ ?_
       refine last_ (i := 9) (N := none) #[true, true, true, true, true, true, true, true, true, true] rfl rfl (one_of HT_.out (by kernel_rfl)) (by decide) (fun K hK => ?_)
       refine skip_ (w1 := ?_) (by rfl) rfl ?_ ?_
       rotate_left
       ·go_simp; rfl
       refine hK.out _ _ ?_
       clear hK K
       refine done_ (done_of HT_.out (by kernel_rfl)) ?_
       try go_wp2
       first | go_roundg k2 | (try rw [show (⟨go16, (x4_1).toNat, none⟩ : Addr) = (⟨go16, 0, none⟩ : Addr).add (x4_1).toNat from by simp [Addr.add]]; go_roundg k2)
       case measure => have := HK1.out; have := HK2.out; omega
       case rel => exact ⟨(y205), (wrap64 (x23_2 + 1)), (by first | rfl | (simp; done) | (simp [*]; done)), H', ⟨by have := HK1.out; have := HK2.out; omega⟩, ⟨by (with_reducible repeat (first | apply Kd.R_alloc | apply Kd.R_drewN | apply Kd.R_drew)); exact HQ19.out⟩, ⟨by (with_reducible repeat (first | apply Kd.R_alloc | apply Kd.R_drewN | apply Kd.R_drew)); exact Kd.R_mono (Kd.R_far (p := ⟨go16, (x23_2 : Int).toNat, none⟩) (Kd.R_mono HO_21.out (fun k_ hk => (⟨hk, fun e_ => hk (by rw [e_]; rfl)⟩ : _ ∧ k_ ≠ go16))) (fun _ hk => hk.2) (.int .u8 (Go.bits .xor .u8 (rd x6_2 x23_2) t204))) (fun _ hk => hk.1)⟩, ⟨by repeat (first | (with_reducible first | exact HB.out | apply below_alloc | apply pw_below_drewN | apply below_drew1 | refine below_set ?_ GB16.out) | exact HB.out)⟩⟩
      ·rw [if_neg c11] at H; have c11b0 := decide_eq_false c11; clear c11; have H' := am H; clear H
       go_wp2
       go_roundg k2
       case measure => have := HK1.out; have := HK2.out; omega
       case rel => exact ⟨(x6_2), (wrap64 (x4_1 + 1)), rfl, H', ⟨by have := HK1.out; have := HK2.out; omega⟩, ⟨zR (Kd.R_mono HO_6.out (fun _ hk => trivial))⟩, ⟨zB HB.out⟩⟩
   ·rw [if_neg c4] at H; have c4b0 := decide_eq_false c4; clear c4; obtain rfl := Option.some.inj H
    go_wp2
    go_ret
    exact ⟨_, rfl, zR HO_3.out, zB HB.out⟩

/-! ### slices_Clone_byte_byte: function 49 -/
def slices_Clone_byte_byte.f (l0 : List Int) : Option (List Int) := (some (([] : List Int) : List Int)).bind fun y206 => (if y206.length + l0.length < 140737488355328 then (some (y206 ++ l0)) else (none))
set_option maxHeartbeats 8000000 in
set_option maxRecDepth 100000 in
theorem slices_Clone_byte_byte.calls (A0 : Option Addr) (c0 : Nat) (l0 : List Int) (r : List Int) (w : World) (hr0 : Kd.C (Kd.int .u8) w A0 l0.length l0) (hc0 : l0.length ≤ c0) (h : slices_Clone_byte_byte.f l0 = some r) :
  Calls Try.prog 49 #[.slice A0 l0.length c0] w fun e w' => ∃ v0_ : Value, e = .returned (v0_) ∧ Kd.R (Kd.int .u8) 5 w' w.heap.size (fun _ => True) v0_ r ∧ Below w.heap.size w w' := by
 have HR0 := am hr0; have HC0 := am hc0; clear hr0 hc0; have HB := am (Below.refl w.heap.size w); have H : ((some (([] : List Int) : List Int)).bind fun y206 => (if y206.length + l0.length < 140737488355328 then (some (y206 ++ l0)) else (none))) = some r := h; clear h; obtain ⟨y206, hy206⟩ : ∃ y_ : List Int, y_ = (([] : List Int)) := ⟨_, rfl⟩
 replace H : (if y206.length + l0.length < 140737488355328 then (some (y206 ++ l0)) else (none)) = some r := by first | (rw [hy206]; exact H) | (have H2_ := (Option.bind_some _ _).symm.trans H; first | exact H2_ | (rw [hy206]; exact H2_)) | exact H
 have Ny206 := am hy206; clear hy206
 obtain ⟨c2, H⟩ := it_ H; have LMc2 := am c2; clear c2; obtain ⟨y209, hy209⟩ : ∃ y_ : List Int, y_ = (y206 ++ l0) := ⟨_, rfl⟩
 replace H : (some y209) = some r := by first | (rw [hy209]; exact H) | (have H2_ := (Option.bind_some _ _).symm.trans H; first | exact H2_ | (rw [hy209]; exact H2_)) | exact H
 have Ny209 := am hy209; clear hy209; obtain rfl := Option.some.inj H
 have qN_ : ∀ (w : World) (a : Option Addr) (n c n' c' : Nat), (binOp .eql 22 (.slice a n c) (.slice none n' c')).run Try.prog w = .ok (.bool a.isNone) w := fun w a n c n' c' => Lib.run_eql_slice_nil w _ _ a n c n' c' Try.underlying22
 cases A0 with
 | none =>
  have hl0 : l0 = [] := by
   cases l0 with
   | nil => rfl
   | cons a_ l_ => obtain ⟨ad_, e_, _⟩ := HR0.out.2.2 (by simp); cases e_
  subst hl0
  have hy_ := Ny206.out; have hz_ := Ny209.out; rw [hy_] at hz_; have hz2_ : y209 = [] := hz_
  go_enter Try.func49, Try.ntmps49
  go_wp2
  go_ret
  exact ⟨_, rfl, by first | exact Kd.R_nil _ _ _ _ _ | (rw [hz2_]; exact Kd.R_nil _ _ _ _ _), HB.out⟩
 | some ad0_ =>
 go_enter Try.func49, Try.ntmps49
 go_wp2_with (first | ((with_reducible refine gate_dst (N := 5) rfl ?_); refine Kd.R_lit (Kd.int .u8) _ 5 ?hg (N := 5) ?hd (xs := ([] : List Int)) (inner := []) (ok := fun _ => True) (okp := fun _ => True) ?hr ?hp (fun _ hk => hk) trivial (Below.refl _ _) (Nat.le_refl _) (by simp) ?_; (case hd => rfl); (case hg => rfl); (case hr => first | (go_simp; done) | (go_simp; rfl)); (case hp => exact (Reps.none _ _)); intro v207 w3 ho4 hb hg_ hnew_; clear hg_ hnew_; (first | rw [← Ny206.out] at ho4 | (simp only [Int.reduceToNat] at ho4; rw [← Ny206.out] at ho4)); have HO208 := am (Kd.R_lower ho4 (zs_ HB.out)); replace HB := am (below_step (zB HB.out) hb); clear hb ho4) | ((with_reducible refine gate_builtin (b := .append) (xs := #[.tmp 5, .tmp 6]) rfl ?_); at_builtin; refine Kd.R_append_rows (Kd.int .u8) (w0 := w) w.heap.size rfl (.tmp 5) (.tmp 6) 22 5 (.int .u8 0) 1 rfl Try.underlying22 info5 rfl (by decide) (by omega) v207 y206 l0 _ _ _ (fun _ => True) (fun _ => False) rfl rfl ?aO ?aR (fun _ _ h => h) (fun _ h => h.elim) ?aF ?aB ?aS ?aL ?_; (case aR => exact zC (Kd.C_below HR0.out HB.out)); (case aB => exact (zB HB.out)); (case aF => exact (fun _ _ => trivial)); (case aO => exact (zR HO208.out)); (case aS => exact (zs_ HB.out)); (case aL => have := LMc2.out; omega); intro v210 w5 ho hb hg hat; rw [← Ny209.out] at ho; replace HB := am (hb); have HO211 := am (ho); (try clear HO208); clear ho hb hg hat))
 go_ret
 exact ⟨_, rfl, zR HO211.out, zB HB.out⟩

end Go.Proofs.Ytbloniemhkfnlaa.PFnSpaced
