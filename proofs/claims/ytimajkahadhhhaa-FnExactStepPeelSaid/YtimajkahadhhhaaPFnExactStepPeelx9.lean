/- A law's functions as plain Lean functions, each with the walk that shows that the code computes it: written by this session's program wip/tools/ppmake.py. -/
import Derived.Test.YtimajkahadhhhaaKZ
import Derived.Test.YtimajkahadhhhaaPFnExactStepPeelx0
import Derived.Test.YtimajkahadhhhaaPFnExactStepPeelx8
namespace Go.Proofs.Ytimajkahadhhhaa.PFnExactStepPeel
open Go.RowKit Go.Proofs.YtimajkahadhhhaaW.PrintWords Go.Proofs.YtimajkahadhhhaaW.PrintLast Go.Proofs.YtimajkahadhhhaaW.PrintMore
attribute [local go_sem] max2_int min2_int max_two min_two max_three min_three max_four min_four   -- for this text's walks alone
set_option linter.unusedVariables false
set_option linter.unusedSimpArgs false

/-! ### impl_peeled: function 58 -/
mutual
def impl_peeled.l0 : Nat → List (S54) → Int → Int → List ByteArray → List Bool → Int → Option (Bool × Int × ByteArray)
 | 0, _, _, _, _, _, _ => none
 | k + 1, x11, x12, x13, xaa, xbb, x263002 => if x13 < x12 then (if 0 ≤ x13 then (if x13 < (x11.length : Int) then ((impl_blocksOf.f k ((rd_T54 x11 x13).f0) (xaa.length : Int)).bind fun t268 => (impl_peeled.l1 k (([] : List Int)) ((rd_T54 x11 x13).f1) x11 x12 x13 t268 (t268.length : Int) 0 xaa xbb x263002)) else (none)) else (none)) else (some (false, 0, (⟨#[]⟩ : ByteArray)))
def impl_peeled.l1 : Nat → List Int → ByteArray → List (S54) → Int → Int → List Int → Int → Int → List ByteArray → List Bool → Int → Option (Bool × Int × ByteArray)
 | 0, _, _, _, _, _, _, _, _, _, _, _ => none
 | k + 1, x7, x8, x11, x12, x13, x27, x28, x29, xaa, xbb, x263002 => if x29 < x28 then (if 0 ≤ x29 then (if x29 < (x27.length : Int) then (if 0 ≤ (rd x27 x29) then (if (rd x27 x29) < (xbb.length : Int) then (if rdOf false xbb (rd x27 x29) = true then (if (rd x27 x29) < (xaa.length : Int) then ((impl_sumOf.f k x8 (rdOf ByteArray.empty xaa (rd x27 x29))).bind fun t274 => (impl_peeled.l1 k x7 t274 x11 x12 x13 x27 x28 (wrap64 (x29 + 1)) xaa xbb x263002)) else (none)) else (if x7.length < 17592186044416 then (impl_peeled.l1 k (x7 ++ [rd x27 x29]) x8 x11 x12 x13 x27 x28 (wrap64 (x29 + 1)) xaa xbb x263002) else (none))) else (none)) else (none)) else (none)) else (none)) else (if (x7.length : Int) = 1 then (if 0 < (x7.length : Int) then (if 0 ≤ (rd x7 0) then (if (rd x7 0) < (xaa.length : Int) then (if (rd x7 0) < (xbb.length : Int) then (some (true, rd x7 0, x8)) else (none)) else (none)) else (none)) else (none)) else (impl_peeled.l0 k x11 x12 (wrap64 (x13 + 1)) xaa xbb x263002))
end
def impl_peeled.f (k : Nat) (l0 : List (S54)) (l1_0 : List ByteArray) (l1_1 : List Bool) (a1_2 : Int) : Option (Bool × Int × ByteArray) := impl_peeled.l0 k l0 (l0.length : Int) 0 l1_0 l1_1 a1_2
theorem impl_peeled.mono_l : ∀ k, (∀ y0 y1 y2 y3 y4 y5, LeO (impl_peeled.l0 k y0 y1 y2 y3 y4 y5) (impl_peeled.l0 (k + 1) y0 y1 y2 y3 y4 y5)) ∧ (∀ y0 y1 y2 y3 y4 y5 y6 y7 y8 y9 y10, LeO (impl_peeled.l1 k y0 y1 y2 y3 y4 y5 y6 y7 y8 y9 y10) (impl_peeled.l1 (k + 1) y0 y1 y2 y3 y4 y5 y6 y7 y8 y9 y10))
 | 0 => ⟨fun _ _ _ _ _ _ r h => by simp [impl_peeled.l0] at h, fun _ _ _ _ _ _ _ _ _ _ _ r h => by simp [impl_peeled.l1] at h⟩
 | k + 1 => by
  obtain ⟨ih0, ih1⟩ := impl_peeled.mono_l k
  refine ⟨?_, ?_⟩
  ·intro y0 y1 y2 y3 y4 y5
   unfold impl_peeled.l0
   repeat' first | apply LeO.refl | apply LeO.none | apply LeO.ite | apply ih0 | apply ih1 | apply impl_blocksOf.mono | apply impl_sumOf.mono | (refine LeO.bind ?_ (fun _ => ?_))
  ·intro y0 y1 y2 y3 y4 y5 y6 y7 y8 y9 y10
   unfold impl_peeled.l1
   repeat' first | apply LeO.refl | apply LeO.none | apply LeO.ite | apply ih0 | apply ih1 | apply impl_blocksOf.mono | apply impl_sumOf.mono | (refine LeO.bind ?_ (fun _ => ?_))
theorem impl_peeled.mono : ∀ a0 a1 a2 a3 k, LeO (impl_peeled.f k a0 a1 a2 a3) (impl_peeled.f (k + 1) a0 a1 a2 a3) := by
 intro a0 a1 a2 a3 k; obtain ⟨ih0, ih1⟩ := impl_peeled.mono_l k
 unfold impl_peeled.f
 repeat' first | apply LeO.refl | apply LeO.none | apply LeO.ite | apply ih0 | apply ih1 | apply impl_blocksOf.mono | apply impl_sumOf.mono | (refine LeO.bind ?_ (fun _ => ?_))
def impl_peeled.T6 : Bool × List (List Nat × List Nat) := (true, [([], []), ([0], [0]), ([], []), ([2], [2]), ([3], [3]), ([4], [4]), ([5], [5]), ([1, 6], [1, 6]), ([7], [7]), ([], [])])
def impl_peeled.B6 : List Nat := [0, 1, 0, 4, 12, 28, 60, 127, 255, 0]
theorem impl_peeled.tab6 : rtab .any (opsOf Try.f58 6) = impl_peeled.T6 := by kernel_rfl
theorem impl_peeled.bits6 : waitsOk impl_peeled.T6.2 impl_peeled.B6 = true := by kernel_rfl
/-- What impl.peeled leaves: nothing, or one block more. -/
def impl_peeled.Post (w w' : World) (gb : Nat) (A1 A2 : Option Addr) (m : Int) (n1 n2 : Nat) (r1 : Bool) (r2 : Int) (r3 : ByteArray) : Prop :=
 (r1 = false ∧ Below w.heap.size w w') ∨ (r1 = true ∧ (0 ≤ r2 ∧ r2 < (n1 : Int) ∧ r2 < (n2 : Int)) ∧ ∃ (g1 g2 : Nat) (wx : World), A1 = some ⟨g1, 0, none⟩ ∧ A2 = some ⟨g2, 0, none⟩ ∧ Below w.heap.size w wx ∧ w' = ((wx.setCell ⟨g1, r2.toNat, none⟩ (.string r3)).setCell ⟨g2, r2.toNat, none⟩ (.bool true)).setCell ⟨gb, 2, none⟩ (.int .i64 (wrap64 (m + 1))))
set_option maxHeartbeats 8000000 in
set_option maxRecDepth 100000 in
theorem impl_peeled.calls (k : Nat) (A0 : Option Addr) (c0 : Nat) (l0 : List (S54)) (A1_0 : Option Addr) (c1_0 : Nat) (l1_0 : List ByteArray) (A1_1 : Option Addr) (c1_1 : Nat) (l1_1 : List Bool) (a1_2 : Int) (r1 : Bool) (r2 : Int) (r3 : ByteArray) (w : World) (gb262 : Nat) (hbx : w.heap[gb262]? = some (.cells #[.slice A1_0 l1_0.length c1_0, .slice A1_1 l1_1.length c1_1, .int .i64 a1_2] 35 (0, 0))) (hg_ : 0 < l1_0.length → 0 < l1_1.length → ∃ g1 g2 : Nat, A1_0 = some ⟨g1, 0, none⟩ ∧ A1_1 = some ⟨g2, 0, none⟩ ∧ (∃ cu, w.heap[g1]? = some (.cells cu 9 (0, 0))) ∧ (∃ cu, w.heap[g2]? = some (.cells cu 4 (0, 0)))) (hr0 : Kd.C k54 w A0 l0.length l0) (hc0 : l0.length ≤ c0) (hr1_0 : Kd.C Kd.string w A1_0 l1_0.length l1_0) (hc1_0 : l1_0.length ≤ c1_0) (hr1_1 : Kd.C Kd.bool w A1_1 l1_1.length l1_1) (hc1_1 : l1_1.length ≤ c1_1) (h : impl_peeled.f k l0 l1_0 l1_1 a1_2 = some (r1, r2, r3)) :
  Calls Try.prog 58 #[.slice A0 l0.length c0, .pointer (some ⟨gb262, 0, none⟩)] w fun e w' => e = .returned (.bool r1) ∧ impl_peeled.Post w w' gb262 A1_0 A1_1 a1_2 l1_0.length l1_1.length r1 r2 r3 := by
 have HG_ := am hg_; have BK262 := am hbx; clear hg_ hbx; have hu35 := Try.underlying35; have hu54 := Try.underlying54; have HR0 := am hr0; have HC0 := am hc0; clear hr0 hc0; have HR1_0 := am hr1_0; have HC1_0 := am hc1_0; clear hr1_0 hc1_0; have HR1_1 := am hr1_1; have HC1_1 := am hc1_1; clear hr1_1 hc1_1; have HB := am (Below.refl w.heap.size w); have H : (impl_peeled.l0 k l0 (l0.length : Int) 0 l1_0 l1_1 a1_2) = some (r1, r2, r3) := h; clear h; have H' := am H; clear H
 go_enter Try.func58, Try.ntmps58
 go_wp2
 go_loopg [13] k (fun kq v13 w' => ∃ (x13_1 : Int), v13 = .int .i64 x13_1 ∧ Aside0 (impl_peeled.l0 kq l0 (l0.length : Int) x13_1 l1_0 l1_1 a1_2 = some (r1, r2, r3)) ∧ Aside0 (kq ≤ k) ∧ Aside0 (w'.heap[gb262]? = some (.cells #[(.slice A1_0 l1_0.length c1_0), (.slice A1_1 l1_1.length c1_1), .int .i64 a1_2] 35 (0, 0))) ∧ Aside0 (Below w.heap.size w w'))
 case atStart => exact ⟨(0), rfl, H', ⟨Nat.le_refl _⟩, ⟨zK BK262.out⟩, ⟨zB HB.out⟩⟩
 case round =>
  clear H'; obtain ⟨x13_1, rfl, HA, HK1, BK262, HB⟩ := hrel
  cases gk with
  | zero => exact absurd HA.out (by simp [impl_peeled.l0])
  | succ k1 =>
   have H := HA.out; clear HA
   simp only [impl_peeled.l0] at H
   by_cases c4 : x13_1 < (l0.length : Int)
   ·rw [if_pos c4] at H; have c4b0 := decide_eq_true c4; clear c4
    obtain ⟨c5, H⟩ := it_ H; have c5b0 := decide_eq_true c5; clear c5
    obtain ⟨c6, H⟩ := it_ H; have c6b0 := decide_eq_true c6; clear c6; obtain ⟨y265, hy265⟩ : ∃ y_ : List Int, y_ = (([] : List Int)) := ⟨_, rfl⟩
    replace H : ((impl_blocksOf.f k1 ((rd_T54 l0 x13_1).f0) (l1_0.length : Int)).bind fun t268 => (impl_peeled.l1 k1 y265 ((rd_T54 l0 x13_1).f1) l0 (l0.length : Int) x13_1 t268 (t268.length : Int) 0 l1_0 l1_1 a1_2)) = some (r1, r2, r3) := by first | (rw [hy265]; exact H) | (have H2_ := (Option.bind_some _ _).symm.trans H; first | exact H2_ | (rw [hy265]; exact H2_)) | exact H
    have Ny265 := am hy265; clear hy265; obtain ⟨t268, A7, H⟩ := bi_ H; have H' := am H; clear H; have p263 : 0 ≤ (x13_1 : Int) := od_; have q263 : x13_1 < (l0.length : Int) := od_; obtain ⟨ad263, e263, hx263_0, hx263_1⟩ := at_T54 HR0.out x13_1 p263 q263; cases e263; replace hx263_0 := (HB.out.cell (World.block_lt_of_cell? w _ hx263_0)).trans hx263_0; replace hx263_1 := (HB.out.cell (World.block_lt_of_cell? w _ hx263_1)).trans hx263_1; replace p263 := eq_true p263; replace q263 := eq_true q263
    try go_wp2_with (first | ((with_reducible refine gate_dst (N := 6) rfl ?_); refine box_event ?hg (N := 6) ?hd (cs := #[.int .i64 0, .string (⟨#[]⟩ : ByteArray)]) (t := 54) ?hr ?_; (case hd => rfl); (case hg => rfl); (case hr => first | (go_simp; done) | (go_simp; rfl)); intro gb264 hg w8 hbox hb; have BK264 := am (hbox); have GW264 := am ((gw_ hg HB.out : w.heap.size ≤ gb264)); have GE264 := am ((gw_ hg HB.out : w.heap.size ≤ gb264)); replace HB := am (below_step (zB HB.out) hb); have NB262_264 := am ((by rw [hg]; exact Nat.ne_of_lt (blk_lt (zK BK262.out)) : gb262 ≠ gb264)); have NB264_262 := am ((by rw [hg]; exact Nat.ne_of_gt (blk_lt (zK BK262.out)) : gb264 ≠ gb262)); replace BK262 := am (blk_below (zK BK262.out) hb); clear hb hbox hg; have hnb9 := NB264_262.out; have hnc9 := NB262_264.out; have hcz10_0 : w8.cell? ⟨gb264, 0, none⟩ = some (.int .i64 0) := (blk_cell BK264.out 0).trans rfl; have hcz10_1 : w8.cell? ⟨gb264, 1, none⟩ = some (.string (⟨#[]⟩ : ByteArray)) := (blk_cell BK264.out 1).trans rfl; have hfz10_0 := blk_frozen BK264.out 0; have hfz10_1 := blk_frozen BK264.out 1) | ((with_reducible refine gate_dst (N := 17) rfl ?_); refine Kd.R_lit (Kd.int .i64) _ 3 ?hg (N := 17) ?hd (xs := ([] : List Int)) (inner := []) (ok := fun _ => True) (okp := fun _ => True) ?hr ?hp (fun _ hk => hk) trivial (Below.refl _ _) (Nat.le_refl _) (by simp) ?_; (case hd => rfl); (case hg => rfl); (case hr => first | (go_simp; done) | (go_simp; rfl)); (case hp => exact (Reps.none _ _)); intro v266 w11 ho12 hb hg_ hnew_; clear hg_ hnew_; (first | rw [← Ny265.out] at ho12 | (simp only [Int.reduceToNat] at ho12; rw [← Ny265.out] at ho12)); have HO267 := am (Kd.R_lower ho12 (zs_ HB.out)); replace BK262 := am (blk_below (g := gb262) (o := .cells #[.slice A1_0 l1_0.length c1_0, .slice A1_1 l1_1.length c1_1, .int .i64 a1_2] 35 (0, 0)) (by (with_reducible repeat (first | apply blk_drewN | apply blk_drew | apply blk_alloc)); refine blk_far ?_ NB262_264.out _; (with_reducible repeat (first | apply blk_drewN | apply blk_drew | apply blk_alloc)); refine blk_far ?_ NB262_264.out _; (with_reducible repeat (first | apply blk_drewN | apply blk_drew | apply blk_alloc)); exact BK262.out) hb); replace BK264 := am (blk_below (g := gb264) (o := .cells #[.int .i64 ((rd_T54 l0 x13_1).f0), .string ((rd_T54 l0 x13_1).f1)] 54 (0, 0)) (by (with_reducible repeat (first | apply blk_drewN | apply blk_drew | apply blk_alloc)); refine blk_put (cs := #[.int .i64 ((rd_T54 l0 x13_1).f0), .string (⟨#[]⟩ : ByteArray)]) ?_ 1 _ rfl; (with_reducible repeat (first | apply blk_drewN | apply blk_drew | apply blk_alloc)); refine blk_put (cs := #[.int .i64 0, .string (⟨#[]⟩ : ByteArray)]) ?_ 0 _ rfl; (with_reducible repeat (first | apply blk_drewN | apply blk_drew | apply blk_alloc)); exact BK264.out) hb); replace HB := am (below_step (by repeat (first | (with_reducible first | exact HB.out | apply below_alloc | apply pw_below_drewN | apply below_drew1 | refine below_set ?_ GE264.out) | exact HB.out)) hb); clear hb ho12; have hcz13_0 : w11.cell? ⟨gb264, 0, none⟩ = some (.int .i64 ((rd_T54 l0 x13_1).f0)) := (blk_cell BK264.out 0).trans rfl; have hcz13_1 : w11.cell? ⟨gb264, 1, none⟩ = some (.string ((rd_T54 l0 x13_1).f1)) := (blk_cell BK264.out 1).trans rfl; have hfz13_0 := blk_frozen BK264.out 0; have hfz13_1 := blk_frozen BK264.out 1))
    replace HO267 := am (Kd.R_drew HO267.out); replace BK262 := am (blk_drew BK262.out); replace BK264 := am (blk_drew BK264.out); replace HB := am (below_drew1 HB.out)
    refine start_ (n := 10) (S := fun w' => w'.cell? ⟨gb264, 0, none⟩ = some (.int .i64 ((rd_T54 l0 x13_1).f0)) ∧ w'.cell? ⟨gb264, 1, none⟩ = some (.string ((rd_T54 l0 x13_1).f1)) ∧ w'.cell? ⟨gb262, 0, none⟩ = some (.slice A1_0 l1_0.length c1_0) ∧ w'.cell? ⟨gb262, 1, none⟩ = some (.slice A1_1 l1_1.length c1_1) ∧ w'.cell? ⟨gb262, 2, none⟩ = some (.int .i64 a1_2)) (ds := []) #[false, false, false, false, false, false, false, false, false, false] (by kernel_rfl) rfl rfl ⟨(blk_cell BK264.out 0).trans rfl, (blk_cell BK264.out 1).trans rfl, (blk_cell BK262.out 0).trans rfl, (blk_cell BK262.out 1).trans rfl, (blk_cell BK262.out 2).trans rfl⟩ (fun hHeld => ?_); refine with_tabW impl_peeled.tab6 impl_peeled.bits6 (fun HT_ HW_ => ?_)
    generalize w11.drew = w14 at HO267 BK262 BK264 HB hHeld ⊢
    refine pu_ (i := 0) (some 20) #[true, false, false, false, false, false, false, false, false, false] HT_ ?_
    refine pu_ (i := 2) (some 22) #[true, false, true, false, false, false, false, false, false, false] HT_ ?_
    refine pu_ (i := 3) (some 23) #[true, false, true, true, false, false, false, false, false, false] HT_ ?_
    refine pu_ (i := 4) (some 24) #[true, false, true, true, true, false, false, false, false, false] HT_ ?_
    refine pu_ (i := 9) (some 29) #[true, false, true, true, true, false, false, false, false, true] HT_ ?_
    refine ta_ (i := 1) (some 21) #[true, true, true, true, true, false, false, false, false, true] HT_ HW_ hHeld ?_
    refine ta_ (i := 5) (some 25) #[true, true, true, true, true, true, false, false, false, true] HT_ HW_ hHeld ?_
    refine pu_ (i := 6) (some 26) #[true, true, true, true, true, true, true, false, false, true] HT_ ?_
    refine one_ (i := 7) (N := some 27) #[true, true, true, true, true, true, true, true, false, true] rfl rfl (one_of HT_.out (by kernel_rfl)) (by decide) (fun K hK => ?_)
    refine goR_ Try.func71 #[.int .i64 ((rd_T54 l0 x13_1).f0), .int .i64 (l1_0.length : Int)] ?_
    with_reducible refine (impl_blocksOf.calls k1 ((rd_T54 l0 x13_1).f0) (l1_0.length : Int) t268 _ A7.out).mono ?_
    rintro e w15 ⟨v269, rfl, ho0, hb⟩
    refine ⟨_, rfl, ?_⟩
    have HO270 := am (Kd.R_lower (Kd.R_new' ho0 (Kd.R_lt (zR HO267.out))) (zs_ HB.out))
    replace HO267 := am (Kd.R_elder' (zR HO267.out) (Kd.R_base ho0) hb)
    replace BK262 := am (blk_below (zK BK262.out) hb)
    replace BK264 := am (blk_below (zK BK264.out) hb)
    replace HB := am (below_step (zB HB.out) hb); (try clear hb); (try clear ho0); obtain ⟨Ao16, co16, eo16⟩ := Kd.R_slice HO270.out
    (first | subst eo16 | (injection eo16 with f1_ f2_ f3_; have f4_ := f1_.symm; have f5_ := f3_.symm; clear f1_ f2_ f3_; subst f4_; subst f5_))
    refine hK.out _ _ ⟨(blk_cell BK264.out 0).trans rfl, (blk_cell BK264.out 1).trans rfl, (blk_cell BK262.out 0).trans rfl, (blk_cell BK262.out 1).trans rfl, (blk_cell BK262.out 2).trans rfl⟩ (fun hHeld => ?_)
    clear hK K
    refine norm_ (a' := ?_) ?_ ?_
    rotate_left
    ·show Act.put _ (some 27) _ = _
     simp only [Act.put, List.setIfInBounds_toArray, List.set_cons_zero, List.set_cons_succ, i64_w, i32_w]; rfl
    refine pu_ (i := 8) (some 28) #[true, true, true, true, true, true, true, true, true, true] HT_ ?_
    refine done_ (done_of HT_.out (by kernel_rfl)) ?_
    try go_wp2
    go_loopg [7, 8, 29] k1 (fun kq v7 v8 v29 w' => ∃ (x7_2 : List Int) (x8_2 : ByteArray) (x29_2 : Int), v8 = .string x8_2 ∧ v29 = .int .i64 x29_2 ∧ Aside0 (impl_peeled.l1 kq x7_2 x8_2 l0 (l0.length : Int) x13_1 t268 (t268.length : Int) x29_2 l1_0 l1_1 a1_2 = some (r1, r2, r3)) ∧ Aside0 (kq ≤ k1) ∧ Aside0 (Kd.R (Kd.int .i64) 3 w' w.heap.size (fun k_ => some k_ ≠ ((.slice Ao16 t268.length co16) : Value).ownBlock) v7 x7_2) ∧ Aside0 (Kd.R (Kd.int .i64) 3 w' w.heap.size (fun k_ => some k_ ≠ (v7 : Value).ownBlock) (.slice Ao16 t268.length co16) t268) ∧ Aside0 (w'.heap[gb262]? = some (.cells #[(.slice A1_0 l1_0.length c1_0), (.slice A1_1 l1_1.length c1_1), .int .i64 a1_2] 35 (0, 0))) ∧ Aside0 (w'.heap[gb264]? = some (.cells #[.int .i64 ((rd_T54 l0 x13_1).f0), .string ((rd_T54 l0 x13_1).f1)] 54 (0, 0))) ∧ Aside0 (Below w.heap.size w w'))
    case atStart => exact ⟨(y265), ((rd_T54 l0 x13_1).f1), (0), rfl, rfl, H', ⟨Nat.le_refl _⟩, ⟨zR (Kd.R_mono HO267.out (fun _ hk => hk.2))⟩, ⟨zR (Kd.R_mono HO270.out (fun _ hk => hk.2))⟩, ⟨zK BK262.out⟩, ⟨zK BK264.out⟩, ⟨zB HB.out⟩⟩
    case round =>
     clear H'; (try clear hfz10_0); (try clear hfz10_1); (try clear hfz13_0); (try clear hfz13_1); obtain ⟨x7_2, x8_2, x29_2, rfl, rfl, HA, HK2, HO_7, HO_27, BK262, BK264, HB⟩ := hrel
     cases gk with
     | zero => exact absurd HA.out (by simp [impl_peeled.l1])
     | succ k2 =>
      have H := HA.out; clear HA
      simp only [impl_peeled.l1] at H
      by_cases c17 : x29_2 < (t268.length : Int)
      ·rw [if_pos c17] at H; have c17b0 := decide_eq_true c17; clear c17
       obtain ⟨c18, H⟩ := it_ H; have c18b0 := decide_eq_true c18; clear c18
       obtain ⟨c19, H⟩ := it_ H; have c19b0 := decide_eq_true c19; clear c19
       obtain ⟨c20, H⟩ := it_ H; have c20b0 := decide_eq_true c20; clear c20
       obtain ⟨c21, H⟩ := it_ H; have c21b0 := decide_eq_true c21; clear c21; obtain ⟨bq22, hbq22⟩ : ∃ b_ : Bool, b_ = (rdOf false l1_1 (rd t268 x29_2)) := ⟨_, rfl⟩
       replace H : (if bq22 = true then (if (rd t268 x29_2) < (l1_0.length : Int) then ((impl_sumOf.f k2 x8_2 (rdOf ByteArray.empty l1_0 (rd t268 x29_2))).bind fun t274 => (impl_peeled.l1 k2 x7_2 t274 l0 (l0.length : Int) x13_1 t268 (t268.length : Int) (wrap64 (x29_2 + 1)) l1_0 l1_1 a1_2)) else (none)) else (if x7_2.length < 17592186044416 then (impl_peeled.l1 k2 (x7_2 ++ [rd t268 x29_2]) x8_2 l0 (l0.length : Int) x13_1 t268 (t268.length : Int) (wrap64 (x29_2 + 1)) l1_0 l1_1 a1_2) else (none))) = some (r1, r2, r3) := by rw [← hbq22] at H; exact H
       have Nbq22 := am hbq22; clear hbq22
       by_cases c23 : bq22 = true
       ·subst c23
        have H1 : (if (rd t268 x29_2) < (l1_0.length : Int) then ((impl_sumOf.f k2 x8_2 (rdOf ByteArray.empty l1_0 (rd t268 x29_2))).bind fun t274 => (impl_peeled.l1 k2 x7_2 t274 l0 (l0.length : Int) x13_1 t268 (t268.length : Int) (wrap64 (x29_2 + 1)) l1_0 l1_1 a1_2)) else (none)) = some (r1, r2, r3) := by rw [if_pos rfl] at H; exact H
        clear H; have H := H1; clear H1
        obtain ⟨c24, H⟩ := it_ H; have c24b0 := decide_eq_true c24; clear c24; obtain ⟨t274, A25, H⟩ := bi_ H; have H' := am H; clear H; have p271 : 0 ≤ (x29_2 : Int) := od_; have q271 : x29_2 < (t268.length : Int) := od_; obtain ⟨ad271, e271, hx271_0⟩ := Kd.at_int (Kd.R_reads' HO_27.out).2.2 x29_2 p271 q271; cases e271; replace p271 := eq_true p271; replace q271 := eq_true q271; have hnb26 := NB262_264.out; have hnc26 := NB264_262.out; have hcz27_0 : wr.cell? ⟨gb262, 0, none⟩ = some (.slice A1_0 l1_0.length c1_0) := (blk_cell BK262.out 0).trans rfl; have hcz27_1 : wr.cell? ⟨gb262, 1, none⟩ = some (.slice A1_1 l1_1.length c1_1) := (blk_cell BK262.out 1).trans rfl; have hcz27_2 : wr.cell? ⟨gb262, 2, none⟩ = some (.int .i64 a1_2) := (blk_cell BK262.out 2).trans rfl; have hfz27_0 := blk_frozen BK262.out 0; have hfz27_1 := blk_frozen BK262.out 1; have hfz27_2 := blk_frozen BK262.out 2; have p272 : 0 ≤ ((rd t268 x29_2) : Int) := od_; have q272 : (rd t268 x29_2) < (l1_1.length : Int) := od_; obtain ⟨ad272, e272, hx272_0⟩ := Kd.at_bool HR1_1.out (rd t268 x29_2) p272 q272
        (try rw [← Nbq22.out] at hx272_0)
        cases e272; replace hx272_0 := (HB.out.cell (World.block_lt_of_cell? w _ hx272_0)).trans hx272_0; replace p272 := eq_true p272; replace q272 := eq_true q272; have p273 : 0 ≤ ((rd t268 x29_2) : Int) := od_; have q273 : (rd t268 x29_2) < (l1_0.length : Int) := od_; obtain ⟨ad273, e273, hx273_0⟩ := Kd.at_string HR1_0.out (rd t268 x29_2) p273 q273; cases e273; replace hx273_0 := (HB.out.cell (World.block_lt_of_cell? w _ hx273_0)).trans hx273_0; replace p273 := eq_true p273; replace q273 := eq_true q273
        go_wp2_with (first | ((with_reducible refine gate_callee (f := 83) rfl ?_); refine goL_ (some 48) Try.func83 #[.string x8_2, .string (rdOf ByteArray.empty l1_0 (rd t268 x29_2))] ?_; (with_reducible refine (impl_sumOf.calls k2 x8_2 (rdOf ByteArray.empty l1_0 (rd t268 x29_2)) t274 _ A25.out).mono ?_); rintro e w28 ⟨rfl, hb⟩; refine ⟨_, rfl, ?_⟩; replace HO_7 := am (Kd.R_below (zR HO_7.out) hb); replace HO_27 := am (Kd.R_below (zR HO_27.out) hb); replace BK262 := am (blk_below (zK BK262.out) hb); replace BK264 := am (blk_below (zK BK264.out) hb); replace HB := am (below_step (zB HB.out) hb); (try clear hb); (try clear hb2); (try clear hk); (try clear hi)))
        go_roundg k2
        case measure => have := HK1.out; have := HK2.out; omega
        case rel => exact ⟨(x7_2), (t274), (wrap64 (x29_2 + 1)), rfl, rfl, H', ⟨by have := HK1.out; have := HK2.out; omega⟩, ⟨zR HO_7.out⟩, ⟨zR HO_27.out⟩, ⟨zK BK262.out⟩, ⟨zK BK264.out⟩, ⟨zB HB.out⟩⟩
       ·replace c23 := Bool.eq_false_iff.mpr c23
        subst c23
        have H1 : (if x7_2.length < 17592186044416 then (impl_peeled.l1 k2 (x7_2 ++ [rd t268 x29_2]) x8_2 l0 (l0.length : Int) x13_1 t268 (t268.length : Int) (wrap64 (x29_2 + 1)) l1_0 l1_1 a1_2) else (none)) = some (r1, r2, r3) := by rw [if_neg (show ¬ (false = true) by decide)] at H; exact H
        clear H; have H := H1; clear H1
        obtain ⟨c29, H⟩ := it_ H; have LMc29 := am c29; clear c29; obtain ⟨y275, hy275⟩ : ∃ y_ : List Int, y_ = (x7_2 ++ [rd t268 x29_2]) := ⟨_, rfl⟩
        replace H : (impl_peeled.l1 k2 y275 x8_2 l0 (l0.length : Int) x13_1 t268 (t268.length : Int) (wrap64 (x29_2 + 1)) l1_0 l1_1 a1_2) = some (r1, r2, r3) := by first | (rw [hy275]; exact H) | (have H2_ := (Option.bind_some _ _).symm.trans H; first | exact H2_ | (rw [hy275]; exact H2_)) | exact H
        have Ny275 := am hy275; clear hy275; have H' := am H; clear H; have p271 : 0 ≤ (x29_2 : Int) := od_; have q271 : x29_2 < (t268.length : Int) := od_; obtain ⟨ad271, e271, hx271_0⟩ := Kd.at_int (Kd.R_reads' HO_27.out).2.2 x29_2 p271 q271; cases e271; replace p271 := eq_true p271; replace q271 := eq_true q271; have hnb30 := NB262_264.out; have hnc30 := NB264_262.out; have hcz31_0 : wr.cell? ⟨gb262, 0, none⟩ = some (.slice A1_0 l1_0.length c1_0) := (blk_cell BK262.out 0).trans rfl; have hcz31_1 : wr.cell? ⟨gb262, 1, none⟩ = some (.slice A1_1 l1_1.length c1_1) := (blk_cell BK262.out 1).trans rfl; have hcz31_2 : wr.cell? ⟨gb262, 2, none⟩ = some (.int .i64 a1_2) := (blk_cell BK262.out 2).trans rfl; have hfz31_0 := blk_frozen BK262.out 0; have hfz31_1 := blk_frozen BK262.out 1; have hfz31_2 := blk_frozen BK262.out 2; have p272 : 0 ≤ ((rd t268 x29_2) : Int) := od_; have q272 : (rd t268 x29_2) < (l1_1.length : Int) := od_; obtain ⟨ad272, e272, hx272_0⟩ := Kd.at_bool HR1_1.out (rd t268 x29_2) p272 q272
        (try rw [← Nbq22.out] at hx272_0)
        cases e272; replace hx272_0 := (HB.out.cell (World.block_lt_of_cell? w _ hx272_0)).trans hx272_0; replace p272 := eq_true p272; replace q272 := eq_true q272
        go_wp2_with (first | ((with_reducible refine gate_builtin (b := .append) (xs := #[.tmp 49, .tmp 51]) rfl ?_); at_builtin; refine Kd.R_append (Kd.int .i64) (w0 := w) w.heap.size rfl (.tmp 49) (.tmp 51) 47 3 (.int .i64 0) 8 rfl Try.underlying47 info3 rfl (by decide) (by omega) u7 x7_2 (rd t268 x29_2) [.int .i64 (rd t268 x29_2)] (fun k_ => some k_ ≠ (.slice (some ad271) t268.length co16 : Value).ownBlock) (fun _ => False) rfl rfl ?aP (fun _ hk => hk.elim) ?aF ?aO ?aB ?aS ?aL ?_; (case aP => exact rfl); (case aB => exact (zB HB.out)); (case aF => exact (fun k_ hk => Kd.fresh' (Kd.R_lt (zR HO_27.out)) k_ hk)); (case aO => exact (zR HO_7.out)); (case aS => exact (zs_ HB.out)); (case aL => have := LMc29.out; omega); intro v276 w32 ho hb hg hat; rw [← Ny275.out] at ho; replace HO_27 := am (Kd.R_after (ok := (fun _ => True)) (zR (Kd.R_mono HO_27.out (fun _ hk => ⟨trivial, hk⟩))) hg hat); replace BK262 := am (blk_grown (zK BK262.out) hg (Kd.R_ne HO_7.out BK262.out (by decide))); replace BK264 := am (blk_grown (zK BK264.out) hg (Kd.R_ne HO_7.out BK264.out (by decide))); replace HB := am (hb); have HO277 := am (ho); (try clear HO_7); clear ho hb hg hat))
        go_roundg k2
        case measure => have := HK1.out; have := HK2.out; omega
        case rel => exact ⟨(y275), (x8_2), (wrap64 (x29_2 + 1)), rfl, rfl, H', ⟨by have := HK1.out; have := HK2.out; omega⟩, ⟨zR HO277.out⟩, ⟨zR (Kd.R_mono HO_27.out (fun _ hk => hk.2))⟩, ⟨zK BK262.out⟩, ⟨zK BK264.out⟩, ⟨zB HB.out⟩⟩
      ·rw [if_neg c17] at H; have c17b0 := decide_eq_false c17; clear c17
       by_cases c33 : (x7_2.length : Int) = 1
       ·rw [if_pos c33] at H; have c33b0 : ((x7_2.length : Int) == 1) = true := beq_iff_eq.mpr c33; have c33b1 : ((x7_2.length : Int) != 1) = false := bne_eq_false_iff_eq.mpr c33; clear c33
        obtain ⟨c34, H⟩ := it_ H; have c34b0 := decide_eq_true c34; have c34b1 : decide (0 < x7_2.length) = true := decide_eq_true (by omega); clear c34
        obtain ⟨c35, H⟩ := it_ H; have c35b0 := decide_eq_true c35; clear c35
        obtain ⟨c36, H⟩ := it_ H; have c36b0 := decide_eq_true c36; clear c36
        obtain ⟨c37, H⟩ := it_ H; have c37b0 := decide_eq_true c37; clear c37
        simp only [Option.some.injEq, Prod.mk.injEq] at H
        obtain ⟨rfl, rfl, rfl⟩ := H; obtain ⟨Ao38, co38, eo38⟩ := Kd.R_slice HO_7.out
        subst eo38
        have hnb39 := NB262_264.out; have hnc39 := NB264_262.out; have hcz40_0 : wr.cell? ⟨gb262, 0, none⟩ = some (.slice A1_0 l1_0.length c1_0) := (blk_cell BK262.out 0).trans rfl; have hcz40_1 : wr.cell? ⟨gb262, 1, none⟩ = some (.slice A1_1 l1_1.length c1_1) := (blk_cell BK262.out 1).trans rfl; have hcz40_2 : wr.cell? ⟨gb262, 2, none⟩ = some (.int .i64 a1_2) := (blk_cell BK262.out 2).trans rfl; have hfz40_0 := blk_frozen BK262.out 0; have hfz40_1 := blk_frozen BK262.out 1; have hfz40_2 := blk_frozen BK262.out 2; have p278 : 0 ≤ (0 : Int) := (by omega); have q278 : 0 < (x7_2.length : Int) := od_; obtain ⟨ad278, e278, hx278_0⟩ := Kd.at_int (Kd.R_reads' HO_7.out).2.2 0 p278 q278; cases e278; have qi278 : (0 < x7_2.length) = True := eq_true (by omega)
        (try rw [show ((0 : Int)).toNat = 0 from rfl] at hx278_0)
        (try rw [Addr.add_zero'] at hx278_0)
        replace p278 := eq_true p278; replace q278 := eq_true q278; have p279 : 0 ≤ (0 : Int) := (by omega); have q279 : 0 < (x7_2.length : Int) := od_; obtain ⟨ad279, e279, hx279_0⟩ := Kd.at_int (Kd.R_reads' HO_7.out).2.2 0 p279 q279; obtain rfl : ad278 = ad279 := (by injection e279); have qi279 : (0 < x7_2.length) = True := eq_true (by omega)
        (try rw [show ((0 : Int)).toNat = 0 from rfl] at hx279_0)
        (try rw [Addr.add_zero'] at hx279_0)
        replace p279 := eq_true p279; replace q279 := eq_true q279; have p280 : 0 ≤ ((rd x7_2 0) : Int) := od_; have q280 : (rd x7_2 0) < (l1_0.length : Int) := od_; obtain ⟨ad280, e280, hx280_0⟩ := Kd.at_string HR1_0.out (rd x7_2 0) p280 q280; cases e280; replace hx280_0 := (HB.out.cell (World.block_lt_of_cell? w _ hx280_0)).trans hx280_0; replace p280 := eq_true p280; replace q280 := eq_true q280; have p281 : 0 ≤ ((rd x7_2 0) : Int) := od_; have q281 : (rd x7_2 0) < (l1_1.length : Int) := od_; obtain ⟨ad281, e281, hx281_0⟩ := Kd.at_bool HR1_1.out (rd x7_2 0) p281 q281; cases e281; replace hx281_0 := (HB.out.cell (World.block_lt_of_cell? w _ hx281_0)).trans hx281_0; replace p281 := eq_true p281; replace q281 := eq_true q281
        obtain ⟨g1_, g2_, hA1, hA2, ⟨cu1, hk1⟩, ⟨cu2, hk2⟩⟩ := HG_.out (by have := of_eq_true p280; have := of_eq_true q280; omega) (by have := of_eq_true p280; have := of_eq_true q281; omega)
        injection hA1 with hA1
        injection hA2 with hA2
        subst hA1
        subst hA2
        simp only [add_plain] at hx280_0 hx281_0
        have hb1 := blk_below hk1 HB.out; have hb2 := blk_below hk2 HB.out; have hf1 := blk_frozen hb1 (rd x7_2 0).toNat; have hf2 := blk_frozen hb2 (rd x7_2 0).toNat
        have n12 : g1_ ≠ g2_ := fun e => by subst e; rw [hb1] at hb2; injection hb2 with hb2; injection hb2 with _ hb2; exact absurd hb2 (by decide)
        have n1b : g1_ ≠ gb262 := fun e => by subst e; have q := BK262.out; rw [hb1] at q; injection q with q; injection q with _ q; exact absurd q (by decide)
        have n2b : g2_ ≠ gb262 := fun e => by subst e; have q := BK262.out; rw [hb2] at q; injection q with q; injection q with _ q; exact absurd q (by decide)
        have N12 := am n12; have e12 : (g1_ = g2_) = False := eq_false n12; have e21 : (g2_ = g1_) = False := eq_false (Ne.symm n12); have e1b : (g1_ = gb262) = False := eq_false n1b; have eb1 : (gb262 = g1_) = False := eq_false (Ne.symm n1b); have e2b : (g2_ = gb262) = False := eq_false n2b; have eb2 : (gb262 = g2_) = False := eq_false (Ne.symm n2b); have HLT := am (And.intro (of_eq_true p280) (And.intro (of_eq_true q280) (of_eq_true q281))); clear hb1 hb2 hk1 hk2 n12 n1b n2b
        go_wp2_with fail
        go_big_region
        all_goals go_wp2
        all_goals go_ret
        all_goals refine ⟨rfl, .inr ⟨rfl, HLT.out, g1_, g2_, wr.drew, rfl, rfl, below_drew1 HB.out, ?_⟩⟩
        all_goals rfl
       ·rw [if_neg c33] at H; have c33b0 : ((x7_2.length : Int) == 1) = false := beq_eq_false_iff_ne.mpr c33; have c33b1 : ((x7_2.length : Int) != 1) = true := bne_iff_ne.mpr c33; have H' := am H; clear H; obtain ⟨Ao41, co41, eo41⟩ := Kd.R_slice HO_7.out
        subst eo41
        go_wp2
        go_roundg k2
        case measure => have := HK1.out; have := HK2.out; omega
        case rel => exact ⟨(wrap64 (x13_1 + 1)), rfl, H', ⟨by have := HK1.out; have := HK2.out; omega⟩, ⟨zK BK262.out⟩, ⟨zB HB.out⟩⟩
   ·rw [if_neg c4] at H; have c4b0 := decide_eq_false c4; clear c4
    simp only [Option.some.injEq, Prod.mk.injEq] at H
    obtain ⟨rfl, rfl, rfl⟩ := H
    go_wp2
    go_ret
    exact ⟨rfl, .inl ⟨rfl, zB HB.out⟩⟩

end Go.Proofs.Ytimajkahadhhhaa.PFnExactStepPeel
