/- A law's functions as plain Lean functions, each with the walk that shows that the code computes it: written by this session's program wip/tools/ppmake.py. -/
import Derived.Test.YtimajkahadhhhaaKZ
import Derived.Test.YtimajkahadhhhaaPFnExactSolveDropsx0
namespace Go.Proofs.Ytimajkahadhhhaa.PFnExactSolveDrops
open Go.RowKit Go.Proofs.YtimajkahadhhhaaW.PrintWords Go.Proofs.YtimajkahadhhhaaW.PrintLast Go.Proofs.YtimajkahadhhhaaW.PrintMore
attribute [local go_sem] max2_int min2_int max_two min_two max_three min_three max_four min_four   -- for this text's walks alone
set_option linter.unusedVariables false
set_option linter.unusedSimpArgs false

/-! ### spec_l2Blank: function 105 -/
def spec_l2Blank.l0 : Nat → Int → Int → Int → List (List Int) → Option ((List (List Int)))
 | 0, _, _, _, _ => none
 | k + 1, x0, x1, x6, xaa => if x6 < x0 then (if 0 ≤ x1 then (if (x1 : Int).toNat ≤ 281474976710656 then (if xaa.length < 5864062014805 then (spec_l2Blank.l0 k x0 x1 (wrap64 (x6 + 1)) (xaa ++ [(List.replicate (x1 : Int).toNat 0)])) else (none)) else (none)) else (none)) else (some xaa)
def spec_l2Blank.f (k : Nat) (a0 : Int) (a1 : Int) : Option ((List (List Int))) := spec_l2Blank.l0 k a0 a1 0 ([] : List (List Int))
theorem spec_l2Blank.mono_l : ∀ k, (∀ y0 y1 y2 y3, LeO (spec_l2Blank.l0 k y0 y1 y2 y3) (spec_l2Blank.l0 (k + 1) y0 y1 y2 y3))
 | 0 => fun _ _ _ _ r h => by simp [spec_l2Blank.l0] at h
 | k + 1 => by
  have ih0 := spec_l2Blank.mono_l k
  ·intro y0 y1 y2 y3
   unfold spec_l2Blank.l0
   repeat' first | apply LeO.refl | apply LeO.none | apply LeO.ite | apply ih0 | (refine LeO.bind ?_ (fun _ => ?_))
theorem spec_l2Blank.mono : ∀ a0 a1 k, LeO (spec_l2Blank.f k a0 a1) (spec_l2Blank.f (k + 1) a0 a1) := by
 intro a0 a1 k; have ih0 := spec_l2Blank.mono_l k
 unfold spec_l2Blank.f
 repeat' first | apply LeO.refl | apply LeO.none | apply LeO.ite | apply ih0 | (refine LeO.bind ?_ (fun _ => ?_))
def spec_l2Blank.T5 : Bool × List (List Nat × List Nat) := (true, [([], []), ([0], [0]), ([], []), ([2, 2], [2]), ([3], [3]), ([1, 4], [1, 4]), ([0, 1, 2, 3, 4, 5], []), ([6, 5, 5, 0, 1, 2, 3, 4, 5], [5, 6])])
def spec_l2Blank.B5 : List Nat := [0, 1, 0, 4, 12, 31, 63, 127]
theorem spec_l2Blank.tab5 : rtab .any (opsOf Try.f105 5) = spec_l2Blank.T5 := by kernel_rfl
theorem spec_l2Blank.bits5 : waitsOk spec_l2Blank.T5.2 spec_l2Blank.B5 = true := by kernel_rfl
set_option maxHeartbeats 8000000 in
set_option maxRecDepth 100000 in
theorem spec_l2Blank.calls (k : Nat) (a0 : Int) (a1 : Int) (r : List (List Int)) (w : World) (h : spec_l2Blank.f k a0 a1 = some r) :
  Calls Try.prog 105 #[.int .i64 a0, .int .i64 a1] w fun e w' => ∃ v0_ : Value, e = .returned (.agg #[v0_]) ∧ Kd.S (Kd.slice 5 (Kd.int .u8)) 75 w' w.heap.size (fun _ => True) v0_ r ∧ Below w.heap.size w w' := by
 have hu71 := Try.underlying71; have HB := am (Below.refl w.heap.size w); have H : (spec_l2Blank.l0 k a0 a1 0 ([] : List (List Int))) = some r := h; clear h; have H' := am H; clear H
 go_enter Try.func105, Try.ntmps105
 go_wp2_with (first | ((with_reducible refine gate_dst (N := 4) rfl ?_); refine box_event ?hg (N := 4) ?hd (cs := #[.slice none 0 0]) (t := 71) ?hr ?_; (case hd => rfl); (case hg => rfl); (case hr => first | (go_simp; done) | (go_simp; rfl)); intro gb202 hg w3 hbox hb; have BK202 := am (hbox); have GW202 := am ((gw_ hg HB.out : w.heap.size ≤ gb202)); have GE202 := am ((gw_ hg HB.out : w.heap.size ≤ gb202)); replace HB := am (below_step (zB HB.out) hb); clear hb hbox hg) | ((with_reducible refine gate_dst (N := 5) rfl ?_); refine box_event ?hg (N := 5) ?hd (cs := #[.slice none 0 0]) (t := 71) ?hr ?_; (case hd => rfl); (case hg => rfl); (case hr => first | (go_simp; done) | (go_simp; rfl)); intro gb203 hg w4 hbox hb; have BK203 := am (hbox); have GW203 := am ((gw_ hg HB.out : w.heap.size ≤ gb203)); have GE203 := am ((gw_ hg HB.out : w.heap.size ≤ gb203)); replace HB := am (below_step (zB HB.out) hb); have NB202_203 := am ((by rw [hg]; exact Nat.ne_of_lt (blk_lt (zK BK202.out)) : gb202 ≠ gb203)); have NB203_202 := am ((by rw [hg]; exact Nat.ne_of_gt (blk_lt (zK BK202.out)) : gb203 ≠ gb202)); replace BK202 := am (blk_below (zK BK202.out) hb); clear hb hbox hg; have hnb5 := NB203_202.out; have hnc5 := NB202_203.out; have hcz6_0 : w4.cell? ⟨gb203, 0, none⟩ = some (.slice none 0 0) := (blk_cell BK203.out 0).trans rfl; have hfz6_0 := blk_frozen BK203.out 0))
 go_loopg [6] k (fun kq v6 w' => ∃ (x6_1 : Int) (xaa_1 : List (List Int)) (uaa : Value), v6 = .int .i64 x6_1 ∧ Aside0 (spec_l2Blank.l0 kq a0 a1 x6_1 xaa_1 = some r) ∧ Aside0 (kq ≤ k) ∧ Aside0 (Kd.S (Kd.slice 5 (Kd.int .u8)) 75 w' w.heap.size (fun _ => True) uaa xaa_1) ∧ Aside0 (w'.heap[gb202]? = some (.cells #[(.slice none 0 0)] 71 (0, 0))) ∧ Aside0 (w'.heap[gb203]? = some (.cells #[uaa] 71 (0, 0))) ∧ Aside0 (Below w.heap.size w w'))
 case atStart => exact ⟨(0), (([] : List (List Int))), (.slice none 0 0), rf_, H', ⟨Nat.le_refl _⟩, ⟨by first | exact Kd.S_nil _ _ _ _ _ | exact Kd.N_nil _ _ _ _ _ | exact Kd.V_nil _ _ _ _ _ | exact Kd.Q_nil _ _ _ _ _ | exact Kd.R_nil _ _ _ _ _⟩, ⟨by (with_reducible repeat (first | apply blk_drewN | apply blk_drew | apply blk_alloc)); refine blk_far ?_ NB202_203.out _; (with_reducible repeat (first | apply blk_drewN | apply blk_drew | apply blk_alloc)); exact BK202.out⟩, ⟨by (with_reducible repeat (first | apply blk_drewN | apply blk_drew | apply blk_alloc)); refine blk_put (cs := #[.slice none 0 0]) ?_ 0 _ rfl; (with_reducible repeat (first | apply blk_drewN | apply blk_drew | apply blk_alloc)); exact BK203.out⟩, ⟨by repeat (first | (with_reducible first | exact HB.out | apply below_alloc | apply pw_below_drewN | apply below_drew1 | refine below_set ?_ GE202.out | refine below_set ?_ GE203.out) | exact HB.out)⟩⟩
 case round =>
  clear H'; (try clear hfz6_0); obtain ⟨x6_1, xaa_1, uaa, rfl, HA, HK1, HO_aa, BK202, BK203, HB⟩ := hrel
  cases gk with
  | zero => exact absurd HA.out (by simp [spec_l2Blank.l0])
  | succ k1 =>
   have H := HA.out; clear HA
   simp only [spec_l2Blank.l0] at H
   by_cases c7 : x6_1 < a0
   ·rw [if_pos c7] at H; have c7b0 := decide_eq_true c7; clear c7
    obtain ⟨c8, H⟩ := it_ H; have c8b0 := eq_true c8; have c8b1 := decide_eq_true c8; clear c8
    obtain ⟨c9, H⟩ := it_ H; have c9b0 := eq_true c9; have c9b1 := decide_eq_true c9; clear c9; obtain ⟨y204, hy204⟩ : ∃ y_ : List Int, y_ = (List.replicate (a1 : Int).toNat 0) := ⟨_, rfl⟩
    replace H : (if xaa_1.length < 5864062014805 then (spec_l2Blank.l0 k1 a0 a1 (wrap64 (x6_1 + 1)) (xaa_1 ++ [y204])) else (none)) = some r := by first | (rw [hy204]; exact H) | (have H2_ := (Option.bind_some _ _).symm.trans H; first | exact H2_ | (rw [hy204]; exact H2_)) | exact H
    have Ny204 := am hy204; clear hy204
    obtain ⟨c10, H⟩ := it_ H; have LMc10 := am c10; clear c10; obtain ⟨y207, hy207⟩ : ∃ y_ : List (List Int), y_ = (xaa_1 ++ [y204]) := ⟨_, rfl⟩
    replace H : (spec_l2Blank.l0 k1 a0 a1 (wrap64 (x6_1 + 1)) y207) = some r := by first | (rw [hy207]; exact H) | (have H2_ := (Option.bind_some _ _).symm.trans H; first | exact H2_ | (rw [hy207]; exact H2_)) | exact H
    have Ny207 := am hy207; clear hy207; have H' := am H; clear H
    try go_wp2
    replace HO_aa := am (Kd.S_drew HO_aa.out); replace BK202 := am (blk_drew BK202.out); replace BK203 := am (blk_drew BK203.out); replace HB := am (below_drew1 HB.out)
    refine start_ (n := 8) (S := fun w' => w'.cell? ⟨gb203, 0, none⟩ = some (uaa)) (ds := [7]) #[false, false, false, false, false, false, false, false] (by kernel_rfl) rfl rfl ((blk_cell BK203.out 0).trans rfl) (fun hHeld => ?_); refine with_tabW spec_l2Blank.tab5 spec_l2Blank.bits5 (fun HT_ HW_ => ?_)
    generalize wr.drew = w11 at HO_aa BK202 BK203 HB hHeld ⊢
    refine pu_ (i := 0) (some 13) #[true, false, false, false, false, false, false, false] HT_ ?_
    refine pu_ (i := 2) (some 15) #[true, false, true, false, false, false, false, false] HT_ ?_
    refine ta_ (i := 1) (some 14) #[true, true, true, false, false, false, false, false] HT_ HW_ hHeld ?_
    refine one_ (i := 3) (N := some 16) #[true, true, true, true, false, false, false, false] rfl rfl (one_of HT_.out (by kernel_rfl)) (by decide) (fun K hK => ?_)
    refine Kd.R_make_step (Kd.int .u8) _ 5 (by rfl) (N := 16) rfl 75 _ _ rfl a1 rfl rfl Try.underlying75 (.int .u8 0) 1 info5 rfl (by decide) (by omega) 0 (ok := fun _ => True) (okp := fun _ => True) rfl (fun _ hk => hk) trivial (od_) (Nat.le_trans (Nat.mul_le_mul_right _ (od_ : a1.toNat ≤ 281474976710656)) (by omega)) (Below.refl _ _) (Nat.le_refl _) ?_
    intro v205 w12 ho13 hb hg_ hnew_; clear hg_ hnew_
    (first | rw [← Ny204.out] at ho13 | (simp only [Int.reduceToNat] at ho13; rw [← Ny204.out] at ho13))
    replace HO_aa := am (Kd.S_elder' (zS HO_aa.out) (Kd.R_base ho13) hb)
    have HO206 := am (Kd.R_lower ho13 (zs_ HB.out))
    replace BK202 := am (blk_below (zK BK202.out) hb)
    replace BK203 := am (blk_below (zK BK203.out) hb)
    replace HB := am (below_step (zB HB.out) hb); clear hb ho13; obtain ⟨Ao15, co15, eo15⟩ := Kd.R_slice HO206.out
    (first | subst eo15 | (injection eo15 with f1_ f2_ f3_; have f4_ := f1_.symm; have f5_ := f3_.symm; clear f1_ f2_ f3_; subst f4_; subst f5_))
    refine hK.out _ _ ((blk_cell BK203.out 0).trans rfl) (fun hHeld => ?_)
    clear hK K
    refine norm_ (a' := ?_) ?_ ?_
    rotate_left
    ·show Act.put _ (some 16) _ = _
     simp only [Act.put, List.setIfInBounds_toArray, List.set_cons_zero, List.set_cons_succ, i64_w, i32_w]; rfl
    refine one_ (i := 4) (N := some 17) #[true, true, true, true, true, false, false, false] rfl rfl (one_of HT_.out (by kernel_rfl)) (by decide) (fun K hK => ?_)
    refine value_ (w1 := ?_) (v := ?_) (by rfl) rfl ?_ ?_
    rotate_left 2
    ·go_simp
     constructor
     ·rfl
     ·rfl
    refine hK.out _ _ ((blk_cell (blk_alloc BK203.out _) 0).trans rfl) (fun hHeld => ?_)
    clear hK K
    refine norm_ (a' := ?_) ?_ ?_
    rotate_left
    ·show Act.put _ (some 17) _ = _
     simp only [Act.put, List.setIfInBounds_toArray, List.set_cons_zero, List.set_cons_succ, i64_w, i32_w]; rfl
    refine one_ (i := 5) (N := some 18) #[true, true, true, true, true, true, false, false] rfl rfl (one_of HT_.out (by kernel_rfl)) (by decide) (fun K hK => ?_)
    refine Kd.S_append_step (Kd.slice 5 (Kd.int .u8)) (w0 := w) w.heap.size (by rfl) (.tmp 14) (.tmp 17) 69 75 (.slice none 0 0) 24 rfl Try.underlying69 info75 rfl (by decide) (by omega) uaa xaa_1 y204 [.slice Ao15 y204.length co15] (fun _ => True) (fun k_ => some k_ = (.slice Ao15 y204.length co15 : Value).ownBlock) rfl rfl ?aP (fun k_ hk_ => ((Kd.R_mono (ok' := fun k_ => ((fun _ => True)) k_ ∧ some k_ ≠ (uaa : Value).ownBlock) (Kd.R_apart' (HO206.out) (Kd.S_typed HO_aa.out) (by decide)) (fun k_ hk => ⟨trivial, hk.2⟩))).1 k_ hk_.symm) ?aF ?aO ?aB ?aS ?aL ?_
    (case aP => exact Kd.M_row (Kd.R_mono (Kd.R_tight rfl (Kd.R_mono (ok' := fun k_ => ((fun _ => True)) k_ ∧ some k_ ≠ (uaa : Value).ownBlock) (Kd.R_apart' (HO206.out) (Kd.S_typed HO_aa.out) (by decide)) (fun k_ hk => ⟨trivial, hk.2⟩))) (fun _ h_ => h_)))
    (case aB => exact (zB HB.out))
    (case aF => exact (fun _ _ => trivial))
    (case aO => exact (zS (Kd.S_mono HO_aa.out (fun k_ hk => ⟨trivial, fun e_ => hk.2 e_⟩))))
    (case aS => exact (zs_ HB.out))
    (case aL => have := LMc10.out; omega)
    intro v208 w14 ho hb hg hat; rw [← Ny207.out] at ho
    replace BK202 := am (blk_grown (zK BK202.out) hg (Kd.S_ne HO_aa.out BK202.out (by decide)))
    replace BK203 := am (blk_grown (zK BK203.out) hg (Kd.S_ne HO_aa.out BK203.out (by decide)))
    replace HB := am (hb); have HO209 := am (ho); (try clear HO_aa); (try clear HO206); clear ho hb hg hat; obtain ⟨Ao16, co16, eo16⟩ := Kd.S_slice HO209.out
    (first | subst eo16 | (injection eo16 with f1_ f2_ f3_; have f4_ := f1_.symm; have f5_ := f3_.symm; clear f1_ f2_ f3_; subst f4_; subst f5_))
    refine hK.out _ _ ((blk_cell BK203.out 0).trans rfl) (fun hHeld => ?_)
    clear hK K
    refine norm_ (a' := ?_) ?_ ?_
    rotate_left
    ·show Act.put _ (some 18) _ = _
     simp only [Act.put, List.setIfInBounds_toArray, List.set_cons_zero, List.set_cons_succ, i64_w, i32_w]; rfl
    refine pu_ (i := 6) (some 19) #[true, true, true, true, true, true, true, false] HT_ ?_
    refine last_ (i := 7) (N := none) #[true, true, true, true, true, true, true, true] rfl rfl (one_of HT_.out (by kernel_rfl)) (by decide) (fun K hK => ?_)
    have hs17 : w14.cell? ⟨gb203, 0, none⟩ = some (uaa) := (blk_cell BK203.out 0).trans rfl; have hfs17 := blk_frozen BK203.out 0; have hns17_0 := NB202_203.out; have hms17_0 := NB203_202.out
    refine skip_ (w1 := ?_) (by rfl) rfl ?_ ?_
    rotate_left
    ·go_simp; rfl
    refine hK.out _ _ ?_
    clear hK K
    refine done_ (done_of HT_.out (by kernel_rfl)) ?_
    try go_wp2
    go_roundg k1
    case measure => have := HK1.out; omega
    case rel => exact ⟨(wrap64 (x6_1 + 1)), (y207), (.slice Ao16 y207.length co16), rf_, H', ⟨by have := HK1.out; omega⟩, ⟨zS (Kd.S_mono (Kd.S_far (p := ⟨gb203, 0, none⟩) (Kd.S_types HO209.out BK203.out (by decide)) (fun _ hk => hk.2) (.slice Ao16 y207.length co16)) (fun _ hk => trivial))⟩, ⟨by (with_reducible repeat (first | apply blk_drewN | apply blk_drew | apply blk_alloc)); refine blk_far ?_ NB202_203.out _; (with_reducible repeat (first | apply blk_drewN | apply blk_drew | apply blk_alloc)); exact BK202.out⟩, ⟨by (with_reducible repeat (first | apply blk_drewN | apply blk_drew | apply blk_alloc)); refine blk_put (cs := #[uaa]) ?_ 0 _ rfl; (with_reducible repeat (first | apply blk_drewN | apply blk_drew | apply blk_alloc)); exact BK203.out⟩, ⟨by repeat (first | (with_reducible first | exact HB.out | apply below_alloc | apply pw_below_drewN | apply below_drew1 | refine below_set ?_ GE202.out | refine below_set ?_ GE203.out) | exact HB.out)⟩⟩
   ·rw [if_neg c7] at H; have c7b0 := decide_eq_false c7; clear c7; obtain rfl := Option.some.inj H; have hnb18 := NB203_202.out; have hnc18 := NB202_203.out; have hcz19_0 : wr.cell? ⟨gb203, 0, none⟩ = some (uaa) := (blk_cell BK203.out 0).trans rfl; have hfz19_0 := blk_frozen BK203.out 0; obtain ⟨Ao20, co20, eo20⟩ := Kd.S_slice HO_aa.out
    subst eo20
    have hcz21_0 : wr.cell? ⟨gb202, 0, none⟩ = some (.slice none 0 0) := (blk_cell BK202.out 0).trans rfl; have hfz21_0 := blk_frozen BK202.out 0
    go_wp2
    refine bodyPost_ret (results_cell_row rfl _ _ gb202 71 #[.slice Ao20 xaa_1.length co20] (0, 0) _ rfl (by (with_reducible repeat (first | apply blk_drewN | apply blk_drew | apply blk_alloc)); refine blk_put (cs := #[.slice none 0 0]) ?_ 0 _ rfl; (with_reducible repeat (first | apply blk_drewN | apply blk_drew | apply blk_alloc)); exact BK202.out) Try.underlying71 rfl (by kernel_rfl)) rfl ?_
    exact ⟨_, by first | rfl | (simp [errW_none, errW_some] <;> rfl) | (simp [*, errW_none, errW_some] <;> rfl), zS (Kd.S_mono (Kd.S_far (p := ⟨gb202, 0, none⟩) (Kd.S_types HO_aa.out BK202.out (by decide)) (fun _ hk => hk.2) (.slice Ao20 xaa_1.length co20)) (fun _ hk => trivial)), by repeat (first | (with_reducible first | exact HB.out | apply below_alloc | apply pw_below_drewN | apply below_drew1 | refine below_set ?_ GE202.out | refine below_set ?_ GE203.out) | exact HB.out)⟩

/-! ### spec_l2Identity: function 85 -/
def spec_l2Identity.l0 : Nat → Int → Int → List (List Int) → Option ((List (List Int)))
 | 0, _, _, _ => none
 | k + 1, x10, x11, xbb => if x11 < x10 then (if 0 ≤ x11 then (if x11 < (xbb.length : Int) then (if x11 < ((rd_L5 xbb x11).length : Int) then (spec_l2Identity.l0 k x10 (wrap64 (x11 + 1)) (xbb.set (x11 : Int).toNat ((rd_L5 xbb x11).set (x11 : Int).toNat 1))) else (none)) else (none)) else (none)) else (some xbb)
def spec_l2Identity.f (k : Nat) (a0 : Int) : Option ((List (List Int))) := (spec_l2Blank.f k a0 a0).bind fun t211 => (spec_l2Identity.l0 k (t211.length : Int) 0 t211)
theorem spec_l2Identity.mono_l : ∀ k, (∀ y0 y1 y2, LeO (spec_l2Identity.l0 k y0 y1 y2) (spec_l2Identity.l0 (k + 1) y0 y1 y2))
 | 0 => fun _ _ _ r h => by simp [spec_l2Identity.l0] at h
 | k + 1 => by
  have ih0 := spec_l2Identity.mono_l k
  ·intro y0 y1 y2
   unfold spec_l2Identity.l0
   repeat' first | apply LeO.refl | apply LeO.none | apply LeO.ite | apply ih0 | apply spec_l2Blank.mono | (refine LeO.bind ?_ (fun _ => ?_))
theorem spec_l2Identity.mono : ∀ a0 k, LeO (spec_l2Identity.f k a0) (spec_l2Identity.f (k + 1) a0) := by
 intro a0 k; have ih0 := spec_l2Identity.mono_l k
 unfold spec_l2Identity.f
 repeat' first | apply LeO.refl | apply LeO.none | apply LeO.ite | apply ih0 | apply spec_l2Blank.mono | (refine LeO.bind ?_ (fun _ => ?_))
set_option maxHeartbeats 8000000 in
set_option maxRecDepth 100000 in
theorem spec_l2Identity.calls (k : Nat) (a0 : Int) (r : List (List Int)) (w : World) (h : spec_l2Identity.f k a0 = some r) :
  Calls Try.prog 85 #[.int .i64 a0] w fun e w' => ∃ v0_ : Value, e = .returned (.agg #[v0_]) ∧ Kd.S (Kd.slice 5 (Kd.int .u8)) 75 w' w.heap.size (fun _ => True) v0_ r ∧ Below w.heap.size w w' := by
 have hu71 := Try.underlying71; have HB := am (Below.refl w.heap.size w); have H : ((spec_l2Blank.f k a0 a0).bind fun t211 => (spec_l2Identity.l0 k (t211.length : Int) 0 t211)) = some r := h; clear h; obtain ⟨t211, A2, H⟩ := bi_ H; have H' := am H; clear H
 go_enter Try.func85, Try.ntmps85
 go_wp2_with (first | ((with_reducible refine gate_dst (N := 2) rfl ?_); refine box_event ?hg (N := 2) ?hd (cs := #[.slice none 0 0]) (t := 71) ?hr ?_; (case hd => rfl); (case hg => rfl); (case hr => first | (go_simp; done) | (go_simp; rfl)); intro gb210 hg w3 hbox hb; have BK210 := am (hbox); have GW210 := am ((gw_ hg HB.out : w.heap.size ≤ gb210)); have GE210 := am ((gw_ hg HB.out : w.heap.size ≤ gb210)); replace HB := am (below_step (zB HB.out) hb); clear hb hbox hg) | ((with_reducible refine gate_callee (f := 105) rfl ?_); refine goL_ (some 7) Try.func105 #[.int .i64 a0, .int .i64 a0] ?_; (with_reducible refine (spec_l2Blank.calls k a0 a0 t211 _ A2.out).mono ?_); rintro e w4 ⟨v212, rfl, ho0, hb⟩; refine ⟨_, rfl, ?_⟩; have HO213 := am (Kd.S_lower ho0 (zs_ HB.out)); replace BK210 := am (blk_below (zK BK210.out) hb); replace HB := am (below_step (zB HB.out) hb); (try clear hb); (try clear ho0)) | ((with_reducible refine gate_dst (N := 3) rfl ?_); refine box_event ?hg (N := 3) ?hd (cs := #[.slice none 0 0]) (t := 71) ?hr ?_; (case hd => rfl); (case hg => rfl); (case hr => first | (go_simp; done) | (go_simp; rfl)); intro gb214 hg w5 hbox hb; replace HO213 := am (Kd.S_below (zS HO213.out) hb); have BK214 := am (hbox); have GW214 := am ((gw_ hg HB.out : w.heap.size ≤ gb214)); have GE214 := am ((gw_ hg HB.out : w.heap.size ≤ gb214)); replace HB := am (below_step (zB HB.out) hb); have NB210_214 := am ((by rw [hg]; exact Nat.ne_of_lt (blk_lt (zK BK210.out)) : gb210 ≠ gb214)); have NB214_210 := am ((by rw [hg]; exact Nat.ne_of_gt (blk_lt (zK BK210.out)) : gb214 ≠ gb210)); replace BK210 := am (blk_below (zK BK210.out) hb); clear hb hbox hg; obtain ⟨Ao6, co6, eo6⟩ := Kd.S_slice HO213.out; subst eo6; have hnb7 := NB214_210.out; have hnc7 := NB210_214.out; have hcz8_0 : w5.cell? ⟨gb214, 0, none⟩ = some (.slice none 0 0) := (blk_cell BK214.out 0).trans rfl; have hfz8_0 := blk_frozen BK214.out 0))
 go_loopg [11] k (fun kq v11 w' => ∃ (x11_1 : Int) (xbb_1 : List (List Int)) (ubb : Value), v11 = .int .i64 x11_1 ∧ Aside0 (spec_l2Identity.l0 kq (t211.length : Int) x11_1 xbb_1 = some r) ∧ Aside0 (kq ≤ k) ∧ Aside0 (Kd.S (Kd.slice 5 (Kd.int .u8)) 75 w' w.heap.size (fun _ => True) ubb xbb_1) ∧ Aside0 (w'.heap[gb210]? = some (.cells #[(.slice none 0 0)] 71 (0, 0))) ∧ Aside0 (w'.heap[gb214]? = some (.cells #[ubb] 71 (0, 0))) ∧ Aside0 (Below w.heap.size w w'))
 case atStart => exact ⟨(0), (t211), (.slice Ao6 t211.length co6), rf_, H', ⟨Nat.le_refl _⟩, ⟨zS (Kd.S_mono (Kd.S_far (p := ⟨gb214, 0, none⟩) (Kd.S_types HO213.out BK214.out (by decide)) (fun _ hk => hk.2) (.slice Ao6 t211.length co6)) (fun _ hk => trivial))⟩, ⟨by (with_reducible repeat (first | apply blk_drewN | apply blk_drew | apply blk_alloc)); refine blk_far ?_ NB210_214.out _; (with_reducible repeat (first | apply blk_drewN | apply blk_drew | apply blk_alloc)); exact BK210.out⟩, ⟨by (with_reducible repeat (first | apply blk_drewN | apply blk_drew | apply blk_alloc)); refine blk_put (cs := #[.slice none 0 0]) ?_ 0 _ rfl; (with_reducible repeat (first | apply blk_drewN | apply blk_drew | apply blk_alloc)); exact BK214.out⟩, ⟨by repeat (first | (with_reducible first | exact HB.out | apply below_alloc | apply pw_below_drewN | apply below_drew1 | refine below_set ?_ GE210.out | refine below_set ?_ GE214.out) | exact HB.out)⟩⟩
 case round =>
  clear H'; (try clear hfz8_0); obtain ⟨x11_1, xbb_1, ubb, rfl, HA, HK1, HO_bb, BK210, BK214, HB⟩ := hrel
  cases gk with
  | zero => exact absurd HA.out (by simp [spec_l2Identity.l0])
  | succ k1 =>
   have H := HA.out; clear HA
   simp only [spec_l2Identity.l0] at H
   by_cases c9 : x11_1 < (t211.length : Int)
   ·rw [if_pos c9] at H; have c9b0 := decide_eq_true c9; clear c9
    obtain ⟨c10, H⟩ := it_ H; have c10b0 := decide_eq_true c10; clear c10
    obtain ⟨c11, H⟩ := it_ H; have c11b0 := decide_eq_true c11; clear c11
    obtain ⟨c12, H⟩ := it_ H; have c12b0 := decide_eq_true c12; clear c12; obtain ⟨y216, hy216⟩ : ∃ y_ : List Int, y_ = ((rd_L5 xbb_1 x11_1).set (x11_1 : Int).toNat 1) := ⟨_, rfl⟩
    replace H : (spec_l2Identity.l0 k1 (t211.length : Int) (wrap64 (x11_1 + 1)) (xbb_1.set (x11_1 : Int).toNat y216)) = some r := by first | (rw [hy216]; exact H) | (have H2_ := (Option.bind_some _ _).symm.trans H; first | exact H2_ | (rw [hy216]; exact H2_)) | exact H
    have Ny216 := am hy216; clear hy216; (try rw [Option.bind_some] at H); generalize hy218 : (xbb_1.set (x11_1 : Int).toNat y216) = y218 at H; have Ny218 := am hy218.symm; clear hy218; have H' := am H; clear H; have hnb14 := NB214_210.out; have hnc14 := NB210_214.out; have hcz15_0 : wr.cell? ⟨gb214, 0, none⟩ = some (ubb) := (blk_cell BK214.out 0).trans rfl; have hfz15_0 := blk_frozen BK214.out 0; obtain ⟨Ao16, co16, eo16⟩ := Kd.S_slice HO_bb.out
    subst eo16
    have p215 : 0 ≤ (x11_1 : Int) := od_; have q215 : x11_1 < (xbb_1.length : Int) := od_; obtain ⟨ad215, A215_0, c215_0, e215, hx215_0, hl215_0, hi215_0⟩ := at_L5 (Kd.S_reads' HO_bb.out).2.2 x11_1 p215 q215; cases e215
    obtain ⟨ce215, hce215, hMe215, hcc215⟩ := Kd.S_get HO_bb.out [] x11_1 p215 (by first | exact q215 | exact od_ | (have e_ := (Kd.S_reads' HO_bb.out).1; omega))
    obtain ⟨ve215_0, rfl, ge215_0⟩ := hMe215; have hv215_0 := hcc215 0 _ rfl; rw [Nat.add_zero, show ((Kd.slice 5 (Kd.int .u8))).sz = 1 from rfl, Nat.mul_one] at hv215_0; replace hv215_0 := Option.some.inj (hv215_0.symm.trans hx215_0); rw [hv215_0] at ge215_0; have HL215_0 := am (show Kd.R (Kd.int .u8) 5 _ _ _ _ (rd_L5 xbb_1 x11_1) from ge215_0); clear hv215_0 ge215_0; have HX215_0 := am hx215_0; clear hcc215 hce215; have HR215_0 := am hi215_0; have HC215_0 := am hl215_0; clear hi215_0 hl215_0; replace p215 := eq_true p215; replace q215 := eq_true q215; have p13 : 0 ≤ (x11_1 : Int) := od_; have q13 : (x11_1 : Int) < (((rd_L5 xbb_1 x11_1).length : Int) : Int) := od_; obtain ⟨go13, co13, eo13, gb13, gl13, cl13, HG13⟩ := Kd.R_form HL215_0.out (by omega)
    (first | cases eo13 | (injection eo13 with ea_ en_ ec_; (first | subst ea_ | (injection ea_ with ea_; subst ea_)); subst ec_; clear en_))
    have GB13 := am gb13; have GG13 := am HG13; clear gb13 gl13 HG13; obtain ⟨hx13_0, hf13_0⟩ := Kd.R_celln 0 HL215_0.out (x11_1 : Int) p13 q13; replace p13 := eq_true p13; replace q13 := eq_true q13
    have hq17 : (x11_1 : Int) < (xbb_1.length : Int) := (by have h_ : (x11_1 : Int) < ((xbb_1.length : Int) : Int) := od_; first | exact h_ | (have e_ := (Kd.S_reads' HO_bb.out).1; omega) | simpa only [List.length_set, List.length_set] using h_)
    obtain ⟨oki17, ce17, hcl17, hM17, hcc17, hok17, hbk17⟩ := Kd.S_borrow HO_bb.out [] (x11_1 : Int) (od_) hq17; obtain ⟨ve17_0, rfl, ge17_0⟩ := hM17; have hv17 := hcc17 0 _ rfl; rw [Nat.add_zero, show ((Kd.slice 5 (Kd.int .u8))).sz = 1 from rfl, Nat.mul_one] at hv17; replace hv17 := Option.some.inj (hv17.symm.trans HX215_0.out)
    subst hv17
    clear hcc17 hcl17; replace ge17_0 := (show Kd.R (Kd.int .u8) 5 _ _ _ _ (rd_L5 xbb_1 x11_1) from ge17_0); have HP17 := Kd.R_putg ge17_0 (x11_1 : Int) 1
    go_wp2_with (first | ((with_reducible refine gate_store (t := 5) (p := 20) rfl ?_); refine store_event (t := 5) (p := 20) (v := ?vo_w18) (w1 := (wr.setCell ⟨go13, (x11_1 : Int).toNat, none⟩ (.int .u8 1))) ?hg ?ho ?hn ?hr ?_; (case ho => rfl); (case hg => rfl); (case hn => rfl); (case hr => first | (go_simp; done) | (go_simp; rfl)); intro w18 hw; have hg : wr.grownBy w18 (some go13) := (by rw [hw]; exact HP17.2); have hz_ : Kd.R (Kd.int .u8) 5 w18 w.heap.size oki17 (.slice (some ⟨go13, 0, none⟩) (rd_L5 xbb_1 x11_1).length c215_0) y216 := (by rw [hw, Ny216.out]; exact HP17.1); have hp_ : Kd.S (Kd.slice 5 (Kd.int .u8)) 75 w18 w.heap.size (fun _ => True) (.slice (some ad215) xbb_1.length co16) y218 := (by rw [Ny218.out]; exact hbk17 hg (fun k_ e_ => by injection e_ with e_; subst e_; exact ge17_0.1 _ rfl) (Kd.M_row hz_)); have hm_ := Kd.R_mono hz_ hok17; clear HP17 hbk17; replace HO_bb := am (hp_); replace BK210 := am (blk_grown (zK BK210.out) hg (Kd.R_ne HL215_0.out BK210.out (by decide))); replace BK214 := am (blk_grown (zK BK214.out) hg (Kd.R_ne HL215_0.out BK214.out (by decide))); replace HB := am ((by rw [hw]; exact below_set (HB.out) GB13.out : Below w.heap.size w w18)); have HL219 := am (hm_); have HC217 := am ((Kd.R_reads' hm_).2.1); (try clear HL215_0); clear hg hw hp_ hz_ hm_ hok17))
    go_roundg k1
    case measure => have := HK1.out; omega
    case rel => exact ⟨(wrap64 (x11_1 + 1)), (y218), (.slice (some ad215) xbb_1.length co16), rfl, H', ⟨by have := HK1.out; omega⟩, ⟨zS HO_bb.out⟩, ⟨zK BK210.out⟩, ⟨zK BK214.out⟩, ⟨zB HB.out⟩⟩
   ·rw [if_neg c9] at H; have c9b0 := decide_eq_false c9; clear c9; obtain rfl := Option.some.inj H; have hnb19 := NB214_210.out; have hnc19 := NB210_214.out; have hcz20_0 : wr.cell? ⟨gb214, 0, none⟩ = some (ubb) := (blk_cell BK214.out 0).trans rfl; have hfz20_0 := blk_frozen BK214.out 0; obtain ⟨Ao21, co21, eo21⟩ := Kd.S_slice HO_bb.out
    subst eo21
    have hcz22_0 : wr.cell? ⟨gb210, 0, none⟩ = some (.slice none 0 0) := (blk_cell BK210.out 0).trans rfl; have hfz22_0 := blk_frozen BK210.out 0
    go_wp2
    refine bodyPost_ret (results_cell_row rfl _ _ gb210 71 #[.slice Ao21 xbb_1.length co21] (0, 0) _ rfl (by (with_reducible repeat (first | apply blk_drewN | apply blk_drew | apply blk_alloc)); refine blk_put (cs := #[.slice none 0 0]) ?_ 0 _ rfl; (with_reducible repeat (first | apply blk_drewN | apply blk_drew | apply blk_alloc)); exact BK210.out) Try.underlying71 rfl (by kernel_rfl)) rfl ?_
    exact ⟨_, by first | rfl | (simp [errW_none, errW_some] <;> rfl) | (simp [*, errW_none, errW_some] <;> rfl), zS (Kd.S_mono (Kd.S_far (p := ⟨gb210, 0, none⟩) (Kd.S_types HO_bb.out BK210.out (by decide)) (fun _ hk => hk.2) (.slice Ao21 xbb_1.length co21)) (fun _ hk => trivial)), by repeat (first | (with_reducible first | exact HB.out | apply below_alloc | apply pw_below_drewN | apply below_drew1 | refine below_set ?_ GE210.out | refine below_set ?_ GE214.out) | exact HB.out)⟩

end Go.Proofs.Ytimajkahadhhhaa.PFnExactSolveDrops
