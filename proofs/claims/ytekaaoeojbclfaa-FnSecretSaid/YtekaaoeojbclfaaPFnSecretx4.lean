/- A law's functions as plain Lean functions, each with the walk that shows that the code computes it: written by this session's program wip/tools/ppmake.py. -/
import Derived.Test.YtekaaoeojbclfaaKZ
import Derived.Test.YtekaaoeojbclfaaPFnSecretx0
namespace Go.Proofs.Ytekaaoeojbclfaa.PFnSecret
open Go.RowKit Go.Proofs.YtekaaoeojbclfaaW.PrintWords Go.Proofs.YtekaaoeojbclfaaW.PrintLast Go.Proofs.YtekaaoeojbclfaaW.PrintMore
attribute [local go_sem] max2_int min2_int max_two min_two max_three min_three max_four min_four   -- for this text's walks alone
set_option linter.unusedVariables false
set_option linter.unusedSimpArgs false

/-! ### spec_l2Blank: function 127 -/
def spec_l2Blank.l0 : Nat → Int → Int → Int → List (List Int) → Option ((List (List Int)))
 | 0, _, _, _, _ => none
 | k + 1, x0, x1, x6, xaa => if x6 < x0 then (if 0 ≤ x1 then (if (x1 : Int).toNat ≤ 281474976710656 then (if xaa.length < 5864062014805 then (spec_l2Blank.l0 k x0 x1 (wrap64 (x6 + 1)) (xaa ++ [(List.replicate (x1 : Int).toNat 0)])) else (none)) else (none)) else (none)) else (some xaa)
def spec_l2Blank.f (k : Nat) (a0 : Int) (a1 : Int) : Option ((List (List Int))) := spec_l2Blank.l0 k a0 a1 0 ([] : List (List Int))
theorem spec_l2Blank.mono_l : ∀ k, (∀ y0 y1 y2 y3, LeO (spec_l2Blank.l0 k y0 y1 y2 y3) (spec_l2Blank.l0 (k + 1) y0 y1 y2 y3))
 | 0 => fun _ _ _ _ r h => by simp [spec_l2Blank.l0] at h
 | k + 1 => by
  have ih0 := spec_l2Blank.mono_l k
  ·intro y0 y1 y2 y3
   unfold spec_l2Blank.l0
   repeat' first | apply LeO.refl | apply LeO.none | apply LeO.ite | apply ih0 | (refine LeO.bind ?_ (fun _ => ?_))
theorem spec_l2Blank.mono : ∀ a0 a1 k, LeO (spec_l2Blank.f k a0 a1) (spec_l2Blank.f (k + 1) a0 a1) := by
 intro a0 a1 k; have ih0 := spec_l2Blank.mono_l k
 unfold spec_l2Blank.f
 repeat' first | apply LeO.refl | apply LeO.none | apply LeO.ite | apply ih0 | (refine LeO.bind ?_ (fun _ => ?_))
def spec_l2Blank.T5 : Bool × List (List Nat × List Nat) := (true, [([], []), ([0], [0]), ([], []), ([2, 2], [2]), ([3], [3]), ([1, 4], [1, 4]), ([0, 1, 2, 3, 4, 5], []), ([6, 5, 5, 0, 1, 2, 3, 4, 5], [5, 6])])
def spec_l2Blank.B5 : List Nat := [0, 1, 0, 4, 12, 31, 63, 127]
theorem spec_l2Blank.tab5 : rtab .any (opsOf Try.f127 5) = spec_l2Blank.T5 := by kernel_rfl
theorem spec_l2Blank.bits5 : waitsOk spec_l2Blank.T5.2 spec_l2Blank.B5 = true := by kernel_rfl
set_option maxHeartbeats 8000000 in
set_option maxRecDepth 100000 in
theorem spec_l2Blank.calls (k : Nat) (a0 : Int) (a1 : Int) (r : List (List Int)) (w : World) (h : spec_l2Blank.f k a0 a1 = some r) :
  Calls Try.prog 127 #[.int .i64 a0, .int .i64 a1] w fun e w' => ∃ v0_ : Value, e = .returned (.agg #[v0_]) ∧ Kd.S (Kd.slice 5 (Kd.int .u8)) 25 w' w.heap.size (fun _ => True) v0_ r ∧ Below w.heap.size w w' := by
 have hu107 := Try.underlying107; have HB := am (Below.refl w.heap.size w); have H : (spec_l2Blank.l0 k a0 a1 0 ([] : List (List Int))) = some r := h; clear h; have H' := am H; clear H
 go_enter Try.func127, Try.ntmps127
 go_wp2_with (first | ((with_reducible refine gate_dst (N := 4) rfl ?_); refine box_event ?hg (N := 4) ?hd (cs := #[.slice none 0 0]) (t := 107) ?hr ?_; (case hd => rfl); (case hg => rfl); (case hr => first | (go_simp; done) | (go_simp; rfl)); intro gb132 hg w3 hbox hb; have BK132 := am (hbox); have GW132 := am ((gw_ hg HB.out : w.heap.size ≤ gb132)); have GE132 := am ((gw_ hg HB.out : w.heap.size ≤ gb132)); replace HB := am (below_step (zB HB.out) hb); clear hb hbox hg) | ((with_reducible refine gate_dst (N := 5) rfl ?_); refine box_event ?hg (N := 5) ?hd (cs := #[.slice none 0 0]) (t := 107) ?hr ?_; (case hd => rfl); (case hg => rfl); (case hr => first | (go_simp; done) | (go_simp; rfl)); intro gb133 hg w4 hbox hb; have BK133 := am (hbox); have GW133 := am ((gw_ hg HB.out : w.heap.size ≤ gb133)); have GE133 := am ((gw_ hg HB.out : w.heap.size ≤ gb133)); replace HB := am (below_step (zB HB.out) hb); have NB132_133 := am ((by rw [hg]; exact Nat.ne_of_lt (blk_lt (zK BK132.out)) : gb132 ≠ gb133)); have NB133_132 := am ((by rw [hg]; exact Nat.ne_of_gt (blk_lt (zK BK132.out)) : gb133 ≠ gb132)); replace BK132 := am (blk_below (zK BK132.out) hb); clear hb hbox hg; have hnb5 := NB133_132.out; have hnc5 := NB132_133.out; have hcz6_0 : w4.cell? ⟨gb133, 0, none⟩ = some (.slice none 0 0) := (blk_cell BK133.out 0).trans rfl; have hfz6_0 := blk_frozen BK133.out 0))
 go_loopg [6] k (fun kq v6 w' => ∃ (x6_1 : Int) (xaa_1 : List (List Int)) (uaa : Value), v6 = .int .i64 x6_1 ∧ Aside0 (spec_l2Blank.l0 kq a0 a1 x6_1 xaa_1 = some r) ∧ Aside0 (kq ≤ k) ∧ Aside0 (Kd.S (Kd.slice 5 (Kd.int .u8)) 25 w' w.heap.size (fun _ => True) uaa xaa_1) ∧ Aside0 (w'.heap[gb132]? = some (.cells #[(.slice none 0 0)] 107 (0, 0))) ∧ Aside0 (w'.heap[gb133]? = some (.cells #[uaa] 107 (0, 0))) ∧ Aside0 (Below w.heap.size w w'))
 case atStart => exact ⟨(0), (([] : List (List Int))), (.slice none 0 0), (by first | rfl | (simp; done) | (simp [*]; done)), H', ⟨Nat.le_refl _⟩, ⟨by first | exact Kd.S_nil _ _ _ _ _ | exact Kd.N_nil _ _ _ _ _ | exact Kd.V_nil _ _ _ _ _ | exact Kd.Q_nil _ _ _ _ _ | exact Kd.R_nil _ _ _ _ _⟩, ⟨by (with_reducible repeat (first | apply blk_drewN | apply blk_drew | apply blk_alloc)); refine blk_far ?_ NB132_133.out _; (with_reducible repeat (first | apply blk_drewN | apply blk_drew | apply blk_alloc)); exact BK132.out⟩, ⟨by (with_reducible repeat (first | apply blk_drewN | apply blk_drew | apply blk_alloc)); refine blk_put (cs := #[.slice none 0 0]) ?_ 0 _ rfl; (with_reducible repeat (first | apply blk_drewN | apply blk_drew | apply blk_alloc)); exact BK133.out⟩, ⟨by repeat (first | (with_reducible first | exact HB.out | apply below_alloc | apply pw_below_drewN | apply below_drew1 | refine below_set ?_ GE132.out | refine below_set ?_ GE133.out) | exact HB.out)⟩⟩
 case round =>
  clear H'; (try clear hfz6_0); obtain ⟨x6_1, xaa_1, uaa, rfl, HA, HK1, HO_aa, BK132, BK133, HB⟩ := hrel
  cases gk with
  | zero => exact absurd HA.out (by simp [spec_l2Blank.l0])
  | succ k1 =>
   have H := HA.out; clear HA
   simp only [spec_l2Blank.l0] at H
   by_cases c7 : x6_1 < a0
   ·rw [if_pos c7] at H; have c7b0 := decide_eq_true c7; clear c7
    obtain ⟨c8, H⟩ := it_ H; have c8b0 := eq_true c8; have c8b1 := decide_eq_true c8; clear c8
    obtain ⟨c9, H⟩ := it_ H; have c9b0 := eq_true c9; have c9b1 := decide_eq_true c9; clear c9; obtain ⟨y134, hy134⟩ : ∃ y_ : List Int, y_ = (List.replicate (a1 : Int).toNat 0) := ⟨_, rfl⟩
    replace H : (if xaa_1.length < 5864062014805 then (spec_l2Blank.l0 k1 a0 a1 (wrap64 (x6_1 + 1)) (xaa_1 ++ [y134])) else (none)) = some r := by first | (rw [hy134]; exact H) | (have H2_ := (Option.bind_some _ _).symm.trans H; first | exact H2_ | (rw [hy134]; exact H2_)) | exact H
    have Ny134 := am hy134; clear hy134
    obtain ⟨c10, H⟩ := it_ H; have LMc10 := am c10; clear c10; obtain ⟨y137, hy137⟩ : ∃ y_ : List (List Int), y_ = (xaa_1 ++ [y134]) := ⟨_, rfl⟩
    replace H : (spec_l2Blank.l0 k1 a0 a1 (wrap64 (x6_1 + 1)) y137) = some r := by first | (rw [hy137]; exact H) | (have H2_ := (Option.bind_some _ _).symm.trans H; first | exact H2_ | (rw [hy137]; exact H2_)) | exact H
    have Ny137 := am hy137; clear hy137; have H' := am H; clear H
    try go_wp2
    replace HO_aa := am (Kd.S_drew HO_aa.out); replace BK132 := am (blk_drew BK132.out); replace BK133 := am (blk_drew BK133.out); replace HB := am (below_drew1 HB.out)
    refine start_ (n := 8) (S := fun w' => w'.cell? ⟨gb133, 0, none⟩ = some (uaa)) (ds := [7]) #[false, false, false, false, false, false, false, false] (by kernel_rfl) rfl rfl ((blk_cell BK133.out 0).trans rfl) (fun hHeld => ?_); refine with_tabW spec_l2Blank.tab5 spec_l2Blank.bits5 (fun HT_ HW_ => ?_)
    generalize wr.drew = w11 at HO_aa BK132 BK133 HB hHeld ⊢
    refine pu_ (i := 0) (some 13) #[true, false, false, false, false, false, false, false] HT_ ?_
    refine pu_ (i := 2) (some 15) #[true, false, true, false, false, false, false, false] HT_ ?_
    refine ta_ (i := 1) (some 14) #[true, true, true, false, false, false, false, false] HT_ HW_ hHeld ?_
    refine one_ (i := 3) (N := some 16) #[true, true, true, true, false, false, false, false] rfl rfl (one_of HT_.out (by kernel_rfl)) (by decide) (fun K hK => ?_)
    refine Kd.R_make_step (Kd.int .u8) _ 5 (by rfl) (N := 16) rfl 25 _ _ rfl a1 rfl rfl Try.underlying25 (.int .u8 0) 1 info5 rfl (by decide) (by omega) 0 (ok := fun _ => True) (okp := fun _ => True) rfl (fun _ hk => hk) trivial (of_decide_eq_true (by with_reducible assumption)) (Nat.le_trans (Nat.mul_le_mul_right _ (of_decide_eq_true (by with_reducible assumption) : a1.toNat ≤ 281474976710656)) (by omega)) (Below.refl _ _) (Nat.le_refl _) ?_
    intro v135 w12 ho13 hb hg_ hnew_; clear hg_ hnew_
    (first | rw [← Ny134.out] at ho13 | (simp only [Int.reduceToNat] at ho13; rw [← Ny134.out] at ho13))
    replace HO_aa := am (Kd.S_elder' (zS HO_aa.out) (Kd.R_base ho13) hb)
    have HO136 := am (Kd.R_lower ho13 (zs_ HB.out))
    replace BK132 := am (blk_below (zK BK132.out) hb)
    replace BK133 := am (blk_below (zK BK133.out) hb)
    replace HB := am (below_step (zB HB.out) hb); clear hb ho13; obtain ⟨Ao15, co15, eo15⟩ := Kd.R_slice HO136.out
    (first | subst eo15 | (injection eo15 with f1_ f2_ f3_; have f4_ := f1_.symm; have f5_ := f3_.symm; clear f1_ f2_ f3_; subst f4_; subst f5_))
    refine hK.out _ _ ((blk_cell BK133.out 0).trans rfl) (fun hHeld => ?_)
    clear hK K
    refine norm_ (a' := ?_) ?_ ?_
    rotate_left
    ·show Act.put _ (some 16) _ = _
     simp only [Act.put, List.setIfInBounds_toArray, List.set_cons_zero, List.set_cons_succ, i64_w, i32_w]; rfl
    refine one_ (i := 4) (N := some 17) #[true, true, true, true, true, false, false, false] rfl rfl (one_of HT_.out (by kernel_rfl)) (by decide) (fun K hK => ?_)
    refine value_ (w1 := ?_) (v := ?_) (by rfl) rfl ?_ ?_
    rotate_left 2
    ·go_simp
     constructor
     ·rfl
     ·rfl
    refine hK.out _ _ ((blk_cell (blk_alloc BK133.out _) 0).trans rfl) (fun hHeld => ?_)
    clear hK K
    refine norm_ (a' := ?_) ?_ ?_
    rotate_left
    ·show Act.put _ (some 17) _ = _
     simp only [Act.put, List.setIfInBounds_toArray, List.set_cons_zero, List.set_cons_succ, i64_w, i32_w]; rfl
    refine one_ (i := 5) (N := some 18) #[true, true, true, true, true, true, false, false] rfl rfl (one_of HT_.out (by kernel_rfl)) (by decide) (fun K hK => ?_)
    refine Kd.S_append_step (Kd.slice 5 (Kd.int .u8)) (w0 := w) w.heap.size (by rfl) (.tmp 14) (.tmp 17) 105 25 (.slice none 0 0) 24 rfl Try.underlying105 info25 rfl (by decide) (by omega) uaa xaa_1 y134 [.slice Ao15 y134.length co15] (fun _ => True) (fun k_ => some k_ = (.slice Ao15 y134.length co15 : Value).ownBlock) rfl rfl ?aP (fun k_ hk_ => ((Kd.R_mono (ok' := fun k_ => ((fun _ => True)) k_ ∧ some k_ ≠ (uaa : Value).ownBlock) (Kd.R_apart' (HO136.out) (Kd.S_typed HO_aa.out) (by decide)) (fun k_ hk => ⟨trivial, hk.2⟩))).1 k_ hk_.symm) ?aF ?aO ?aB ?aS ?aL ?_
    (case aP => exact Kd.M_row (Kd.R_mono (Kd.R_tight rfl (Kd.R_mono (ok' := fun k_ => ((fun _ => True)) k_ ∧ some k_ ≠ (uaa : Value).ownBlock) (Kd.R_apart' (HO136.out) (Kd.S_typed HO_aa.out) (by decide)) (fun k_ hk => ⟨trivial, hk.2⟩))) (fun _ h_ => h_)))
    (case aB => exact (zB HB.out))
    (case aF => exact (fun _ _ => trivial))
    (case aO => exact (zS (Kd.S_mono HO_aa.out (fun k_ hk => ⟨trivial, fun e_ => hk.2 e_⟩))))
    (case aS => exact (zs_ HB.out))
    (case aL => have := LMc10.out; omega)
    intro v138 w14 ho hb hg hat; rw [← Ny137.out] at ho
    replace BK132 := am (blk_grown (zK BK132.out) hg (Kd.S_ne HO_aa.out BK132.out (by decide)))
    replace BK133 := am (blk_grown (zK BK133.out) hg (Kd.S_ne HO_aa.out BK133.out (by decide)))
    replace HB := am (hb); have HO139 := am (ho); (try clear HO_aa); (try clear HO136); clear ho hb hg hat; obtain ⟨Ao16, co16, eo16⟩ := Kd.S_slice HO139.out
    (first | subst eo16 | (injection eo16 with f1_ f2_ f3_; have f4_ := f1_.symm; have f5_ := f3_.symm; clear f1_ f2_ f3_; subst f4_; subst f5_))
    refine hK.out _ _ ((blk_cell BK133.out 0).trans rfl) (fun hHeld => ?_)
    clear hK K
    refine norm_ (a' := ?_) ?_ ?_
    rotate_left
    ·show Act.put _ (some 18) _ = _
     simp only [Act.put, List.setIfInBounds_toArray, List.set_cons_zero, List.set_cons_succ, i64_w, i32_w]; rfl
    refine pu_ (i := 6) (some 19) #[true, true, true, true, true, true, true, false] HT_ ?_
    refine last_ (i := 7) (N := none) #[true, true, true, true, true, true, true, true] rfl rfl (one_of HT_.out (by kernel_rfl)) (by decide) (fun K hK => ?_)
    have hs17 : w14.cell? ⟨gb133, 0, none⟩ = some (uaa) := (blk_cell BK133.out 0).trans rfl; have hfs17 := blk_frozen BK133.out 0; have hns17_0 := NB132_133.out; have hms17_0 := NB133_132.out
    refine skip_ (w1 := ?_) (by rfl) rfl ?_ ?_
    rotate_left
    ·go_simp; rfl
    refine hK.out _ _ ?_
    clear hK K
    refine done_ (done_of HT_.out (by kernel_rfl)) ?_
    try go_wp2
    go_roundg k1
    case measure => have := HK1.out; omega
    case rel => exact ⟨(wrap64 (x6_1 + 1)), (y137), (.slice Ao16 y137.length co16), (by first | rfl | (simp; done) | (simp [*]; done)), H', ⟨by have := HK1.out; omega⟩, ⟨zS (Kd.S_mono (Kd.S_far (p := ⟨gb133, 0, none⟩) (Kd.S_types HO139.out BK133.out (by decide)) (fun _ hk => hk.2) (.slice Ao16 y137.length co16)) (fun _ hk => trivial))⟩, ⟨by (with_reducible repeat (first | apply blk_drewN | apply blk_drew | apply blk_alloc)); refine blk_far ?_ NB132_133.out _; (with_reducible repeat (first | apply blk_drewN | apply blk_drew | apply blk_alloc)); exact BK132.out⟩, ⟨by (with_reducible repeat (first | apply blk_drewN | apply blk_drew | apply blk_alloc)); refine blk_put (cs := #[uaa]) ?_ 0 _ rfl; (with_reducible repeat (first | apply blk_drewN | apply blk_drew | apply blk_alloc)); exact BK133.out⟩, ⟨by repeat (first | (with_reducible first | exact HB.out | apply below_alloc | apply pw_below_drewN | apply below_drew1 | refine below_set ?_ GE132.out | refine below_set ?_ GE133.out) | exact HB.out)⟩⟩
   ·rw [if_neg c7] at H; have c7b0 := decide_eq_false c7; clear c7; obtain rfl := Option.some.inj H; have hnb18 := NB133_132.out; have hnc18 := NB132_133.out; have hcz19_0 : wr.cell? ⟨gb133, 0, none⟩ = some (uaa) := (blk_cell BK133.out 0).trans rfl; have hfz19_0 := blk_frozen BK133.out 0; obtain ⟨Ao20, co20, eo20⟩ := Kd.S_slice HO_aa.out
    subst eo20
    have hcz21_0 : wr.cell? ⟨gb132, 0, none⟩ = some (.slice none 0 0) := (blk_cell BK132.out 0).trans rfl; have hfz21_0 := blk_frozen BK132.out 0
    go_wp2
    refine bodyPost_ret (results_cell_row rfl _ _ gb132 107 #[.slice Ao20 xaa_1.length co20] (0, 0) _ rfl (by (with_reducible repeat (first | apply blk_drewN | apply blk_drew | apply blk_alloc)); refine blk_put (cs := #[.slice none 0 0]) ?_ 0 _ rfl; (with_reducible repeat (first | apply blk_drewN | apply blk_drew | apply blk_alloc)); exact BK132.out) Try.underlying107 rfl (by kernel_rfl)) rfl ?_
    exact ⟨_, by first | rfl | (simp [errW_none, errW_some] <;> rfl) | (simp [*, errW_none, errW_some] <;> rfl), zS (Kd.S_mono (Kd.S_far (p := ⟨gb132, 0, none⟩) (Kd.S_types HO_aa.out BK132.out (by decide)) (fun _ hk => hk.2) (.slice Ao20 xaa_1.length co20)) (fun _ hk => trivial)), by repeat (first | (with_reducible first | exact HB.out | apply below_alloc | apply pw_below_drewN | apply below_drew1 | refine below_set ?_ GE132.out | refine below_set ?_ GE133.out) | exact HB.out)⟩

/-! ### spec_l2Identity: function 115 -/
def spec_l2Identity.l0 : Nat → Int → Int → List (List Int) → Option ((List (List Int)))
 | 0, _, _, _ => none
 | k + 1, x10, x11, xbb => if x11 < x10 then (if 0 ≤ x11 then (if x11 < (xbb.length : Int) then (if x11 < ((rd_L2 xbb x11).length : Int) then (spec_l2Identity.l0 k x10 (wrap64 (x11 + 1)) (xbb.set (x11 : Int).toNat ((rd_L2 xbb x11).set (x11 : Int).toNat 1))) else (none)) else (none)) else (none)) else (some xbb)
def spec_l2Identity.f (k : Nat) (a0 : Int) : Option ((List (List Int))) := (spec_l2Blank.f k a0 a0).bind fun t141 => (spec_l2Identity.l0 k (t141.length : Int) 0 t141)
theorem spec_l2Identity.mono_l : ∀ k, (∀ y0 y1 y2, LeO (spec_l2Identity.l0 k y0 y1 y2) (spec_l2Identity.l0 (k + 1) y0 y1 y2))
 | 0 => fun _ _ _ r h => by simp [spec_l2Identity.l0] at h
 | k + 1 => by
  have ih0 := spec_l2Identity.mono_l k
  ·intro y0 y1 y2
   unfold spec_l2Identity.l0
   repeat' first | apply LeO.refl | apply LeO.none | apply LeO.ite | apply ih0 | apply spec_l2Blank.mono | (refine LeO.bind ?_ (fun _ => ?_))
theorem spec_l2Identity.mono : ∀ a0 k, LeO (spec_l2Identity.f k a0) (spec_l2Identity.f (k + 1) a0) := by
 intro a0 k; have ih0 := spec_l2Identity.mono_l k
 unfold spec_l2Identity.f
 repeat' first | apply LeO.refl | apply LeO.none | apply LeO.ite | apply ih0 | apply spec_l2Blank.mono | (refine LeO.bind ?_ (fun _ => ?_))
set_option maxHeartbeats 8000000 in
set_option maxRecDepth 100000 in
theorem spec_l2Identity.calls (k : Nat) (a0 : Int) (r : List (List Int)) (w : World) (h : spec_l2Identity.f k a0 = some r) :
  Calls Try.prog 115 #[.int .i64 a0] w fun e w' => ∃ v0_ : Value, e = .returned (.agg #[v0_]) ∧ Kd.S (Kd.slice 5 (Kd.int .u8)) 25 w' w.heap.size (fun _ => True) v0_ r ∧ Below w.heap.size w w' := by
 have hu107 := Try.underlying107; have HB := am (Below.refl w.heap.size w); have H : ((spec_l2Blank.f k a0 a0).bind fun t141 => (spec_l2Identity.l0 k (t141.length : Int) 0 t141)) = some r := h; clear h; obtain ⟨t141, A2, H⟩ := bi_ H; have H' := am H; clear H
 go_enter Try.func115, Try.ntmps115
 go_wp2_with (first | ((with_reducible refine gate_dst (N := 2) rfl ?_); refine box_event ?hg (N := 2) ?hd (cs := #[.slice none 0 0]) (t := 107) ?hr ?_; (case hd => rfl); (case hg => rfl); (case hr => first | (go_simp; done) | (go_simp; rfl)); intro gb140 hg w3 hbox hb; have BK140 := am (hbox); have GW140 := am ((gw_ hg HB.out : w.heap.size ≤ gb140)); have GE140 := am ((gw_ hg HB.out : w.heap.size ≤ gb140)); replace HB := am (below_step (zB HB.out) hb); clear hb hbox hg) | ((with_reducible refine gate_callee (f := 127) rfl ?_); refine goL_ (some 7) Try.func127 #[.int .i64 a0, .int .i64 a0] ?_; (with_reducible refine (spec_l2Blank.calls k a0 a0 t141 _ A2.out).mono ?_); rintro e w4 ⟨v142, rfl, ho0, hb⟩; refine ⟨_, rfl, ?_⟩; have HO143 := am (Kd.S_lower ho0 (zs_ HB.out)); replace BK140 := am (blk_below (zK BK140.out) hb); replace HB := am (below_step (zB HB.out) hb); (try clear hb); (try clear ho0)) | ((with_reducible refine gate_dst (N := 3) rfl ?_); refine box_event ?hg (N := 3) ?hd (cs := #[.slice none 0 0]) (t := 107) ?hr ?_; (case hd => rfl); (case hg => rfl); (case hr => first | (go_simp; done) | (go_simp; rfl)); intro gb144 hg w5 hbox hb; replace HO143 := am (Kd.S_below (zS HO143.out) hb); have BK144 := am (hbox); have GW144 := am ((gw_ hg HB.out : w.heap.size ≤ gb144)); have GE144 := am ((gw_ hg HB.out : w.heap.size ≤ gb144)); replace HB := am (below_step (zB HB.out) hb); have NB140_144 := am ((by rw [hg]; exact Nat.ne_of_lt (blk_lt (zK BK140.out)) : gb140 ≠ gb144)); have NB144_140 := am ((by rw [hg]; exact Nat.ne_of_gt (blk_lt (zK BK140.out)) : gb144 ≠ gb140)); replace BK140 := am (blk_below (zK BK140.out) hb); clear hb hbox hg; obtain ⟨Ao6, co6, eo6⟩ := Kd.S_slice HO143.out; subst eo6; have hnb7 := NB144_140.out; have hnc7 := NB140_144.out; have hcz8_0 : w5.cell? ⟨gb144, 0, none⟩ = some (.slice none 0 0) := (blk_cell BK144.out 0).trans rfl; have hfz8_0 := blk_frozen BK144.out 0))
 go_loopg [11] k (fun kq v11 w' => ∃ (x11_1 : Int) (xbb_1 : List (List Int)) (ubb : Value), v11 = .int .i64 x11_1 ∧ Aside0 (spec_l2Identity.l0 kq (t141.length : Int) x11_1 xbb_1 = some r) ∧ Aside0 (kq ≤ k) ∧ Aside0 (Kd.S (Kd.slice 5 (Kd.int .u8)) 25 w' w.heap.size (fun _ => True) ubb xbb_1) ∧ Aside0 (w'.heap[gb140]? = some (.cells #[(.slice none 0 0)] 107 (0, 0))) ∧ Aside0 (w'.heap[gb144]? = some (.cells #[ubb] 107 (0, 0))) ∧ Aside0 (Below w.heap.size w w'))
 case atStart => exact ⟨(0), (t141), (.slice Ao6 t141.length co6), (by first | rfl | (simp; done) | (simp [*]; done)), H', ⟨Nat.le_refl _⟩, ⟨zS (Kd.S_mono (Kd.S_far (p := ⟨gb144, 0, none⟩) (Kd.S_types HO143.out BK144.out (by decide)) (fun _ hk => hk.2) (.slice Ao6 t141.length co6)) (fun _ hk => trivial))⟩, ⟨by (with_reducible repeat (first | apply blk_drewN | apply blk_drew | apply blk_alloc)); refine blk_far ?_ NB140_144.out _; (with_reducible repeat (first | apply blk_drewN | apply blk_drew | apply blk_alloc)); exact BK140.out⟩, ⟨by (with_reducible repeat (first | apply blk_drewN | apply blk_drew | apply blk_alloc)); refine blk_put (cs := #[.slice none 0 0]) ?_ 0 _ rfl; (with_reducible repeat (first | apply blk_drewN | apply blk_drew | apply blk_alloc)); exact BK144.out⟩, ⟨by repeat (first | (with_reducible first | exact HB.out | apply below_alloc | apply pw_below_drewN | apply below_drew1 | refine below_set ?_ GE140.out | refine below_set ?_ GE144.out) | exact HB.out)⟩⟩
 case round =>
  clear H'; (try clear hfz8_0); obtain ⟨x11_1, xbb_1, ubb, rfl, HA, HK1, HO_bb, BK140, BK144, HB⟩ := hrel
  cases gk with
  | zero => exact absurd HA.out (by simp [spec_l2Identity.l0])
  | succ k1 =>
   have H := HA.out; clear HA
   simp only [spec_l2Identity.l0] at H
   by_cases c9 : x11_1 < (t141.length : Int)
   ·rw [if_pos c9] at H; have c9b0 := decide_eq_true c9; clear c9
    obtain ⟨c10, H⟩ := it_ H; have c10b0 := decide_eq_true c10; clear c10
    obtain ⟨c11, H⟩ := it_ H; have c11b0 := decide_eq_true c11; clear c11
    obtain ⟨c12, H⟩ := it_ H; have c12b0 := decide_eq_true c12; clear c12; obtain ⟨y146, hy146⟩ : ∃ y_ : List Int, y_ = ((rd_L2 xbb_1 x11_1).set (x11_1 : Int).toNat 1) := ⟨_, rfl⟩
    replace H : (spec_l2Identity.l0 k1 (t141.length : Int) (wrap64 (x11_1 + 1)) (xbb_1.set (x11_1 : Int).toNat y146)) = some r := by first | (rw [hy146]; exact H) | (have H2_ := (Option.bind_some _ _).symm.trans H; first | exact H2_ | (rw [hy146]; exact H2_)) | exact H
    have Ny146 := am hy146; clear hy146; (try rw [Option.bind_some] at H); generalize hy148 : (xbb_1.set (x11_1 : Int).toNat y146) = y148 at H; have Ny148 := am hy148.symm; clear hy148; have H' := am H; clear H; have hnb14 := NB144_140.out; have hnc14 := NB140_144.out; have hcz15_0 : wr.cell? ⟨gb144, 0, none⟩ = some (ubb) := (blk_cell BK144.out 0).trans rfl; have hfz15_0 := blk_frozen BK144.out 0; obtain ⟨Ao16, co16, eo16⟩ := Kd.S_slice HO_bb.out
    subst eo16
    have p145 : 0 ≤ (x11_1 : Int) := of_decide_eq_true (by with_reducible assumption); have q145 : x11_1 < (xbb_1.length : Int) := of_decide_eq_true (by with_reducible assumption); obtain ⟨ad145, A145_0, c145_0, e145, hx145_0, hl145_0, hi145_0⟩ := at_L2 (Kd.S_reads' HO_bb.out).2.2 x11_1 p145 q145; cases e145
    obtain ⟨ce145, hce145, hMe145, hcc145⟩ := Kd.S_get HO_bb.out [] x11_1 p145 (by first | exact q145 | exact of_decide_eq_true (by with_reducible assumption) | (have e_ := (Kd.S_reads' HO_bb.out).1; omega))
    obtain ⟨ve145_0, rfl, ge145_0⟩ := hMe145; have hv145_0 := hcc145 0 _ rfl; rw [Nat.add_zero, show ((Kd.slice 5 (Kd.int .u8))).sz = 1 from rfl, Nat.mul_one] at hv145_0; replace hv145_0 := Option.some.inj (hv145_0.symm.trans hx145_0); rw [hv145_0] at ge145_0; have HL145_0 := am (show Kd.R (Kd.int .u8) 5 _ _ _ _ (rd_L2 xbb_1 x11_1) from ge145_0); clear hv145_0 ge145_0; have HX145_0 := am hx145_0; clear hcc145 hce145; have HR145_0 := am hi145_0; have HC145_0 := am hl145_0; clear hi145_0 hl145_0; replace p145 := eq_true p145; replace q145 := eq_true q145; have p13 : 0 ≤ (x11_1 : Int) := of_decide_eq_true (by with_reducible assumption); have q13 : (x11_1 : Int) < (((rd_L2 xbb_1 x11_1).length : Int) : Int) := of_decide_eq_true (by with_reducible assumption); obtain ⟨go13, co13, eo13, gb13, gl13, cl13, HG13⟩ := Kd.R_form HL145_0.out (by omega)
    (first | cases eo13 | (injection eo13 with ea_ en_ ec_; (first | subst ea_ | (injection ea_ with ea_; subst ea_)); subst ec_; clear en_))
    have GB13 := am gb13; have GG13 := am HG13; clear gb13 gl13 HG13; obtain ⟨hx13_0, hf13_0⟩ := Kd.R_celln 0 HL145_0.out (x11_1 : Int) p13 q13; replace p13 := eq_true p13; replace q13 := eq_true q13
    have hq17 : (x11_1 : Int) < (xbb_1.length : Int) := (by have h_ : (x11_1 : Int) < ((xbb_1.length : Int) : Int) := of_decide_eq_true (by with_reducible assumption); first | exact h_ | (have e_ := (Kd.S_reads' HO_bb.out).1; omega) | simpa only [List.length_set, List.length_set] using h_)
    obtain ⟨oki17, ce17, hcl17, hM17, hcc17, hok17, hbk17⟩ := Kd.S_borrow HO_bb.out [] (x11_1 : Int) (of_decide_eq_true (by with_reducible assumption)) hq17; obtain ⟨ve17_0, rfl, ge17_0⟩ := hM17; have hv17 := hcc17 0 _ rfl; rw [Nat.add_zero, show ((Kd.slice 5 (Kd.int .u8))).sz = 1 from rfl, Nat.mul_one] at hv17; replace hv17 := Option.some.inj (hv17.symm.trans HX145_0.out)
    subst hv17
    clear hcc17 hcl17; replace ge17_0 := (show Kd.R (Kd.int .u8) 5 _ _ _ _ (rd_L2 xbb_1 x11_1) from ge17_0); have HP17 := Kd.R_putg ge17_0 (x11_1 : Int) 1
    go_wp2_with (first | ((with_reducible refine gate_store (t := 5) (p := 20) rfl ?_); refine store_event (t := 5) (p := 20) (v := ?vo_w18) (w1 := (wr.setCell ⟨go13, (x11_1 : Int).toNat, none⟩ (.int .u8 1))) ?hg ?ho ?hn ?hr ?_; (case ho => rfl); (case hg => rfl); (case hn => rfl); (case hr => first | (go_simp; done) | (go_simp; rfl)); intro w18 hw; have hg : wr.grownBy w18 (some go13) := (by rw [hw]; exact HP17.2); have hz_ : Kd.R (Kd.int .u8) 5 w18 w.heap.size oki17 (.slice (some ⟨go13, 0, none⟩) (rd_L2 xbb_1 x11_1).length c145_0) y146 := (by rw [hw, Ny146.out]; exact HP17.1); have hp_ : Kd.S (Kd.slice 5 (Kd.int .u8)) 25 w18 w.heap.size (fun _ => True) (.slice (some ad145) xbb_1.length co16) y148 := (by rw [Ny148.out]; exact hbk17 hg (fun k_ e_ => by injection e_ with e_; subst e_; exact ge17_0.1 _ rfl) (Kd.M_row hz_)); have hm_ := Kd.R_mono hz_ hok17; clear HP17 hbk17; replace HO_bb := am (hp_); replace BK140 := am (blk_grown (zK BK140.out) hg (Kd.R_ne HL145_0.out BK140.out (by decide))); replace BK144 := am (blk_grown (zK BK144.out) hg (Kd.R_ne HL145_0.out BK144.out (by decide))); replace HB := am ((by rw [hw]; exact below_set (HB.out) GB13.out : Below w.heap.size w w18)); have HL149 := am (hm_); have HC147 := am ((Kd.R_reads' hm_).2.1); (try clear HL145_0); clear hg hw hp_ hz_ hm_ hok17))
    go_roundg k1
    case measure => have := HK1.out; omega
    case rel => exact ⟨(wrap64 (x11_1 + 1)), (y148), (.slice (some ad145) xbb_1.length co16), rfl, H', ⟨by have := HK1.out; omega⟩, ⟨zS HO_bb.out⟩, ⟨zK BK140.out⟩, ⟨zK BK144.out⟩, ⟨zB HB.out⟩⟩
   ·rw [if_neg c9] at H; have c9b0 := decide_eq_false c9; clear c9; obtain rfl := Option.some.inj H; have hnb19 := NB144_140.out; have hnc19 := NB140_144.out; have hcz20_0 : wr.cell? ⟨gb144, 0, none⟩ = some (ubb) := (blk_cell BK144.out 0).trans rfl; have hfz20_0 := blk_frozen BK144.out 0; obtain ⟨Ao21, co21, eo21⟩ := Kd.S_slice HO_bb.out
    subst eo21
    have hcz22_0 : wr.cell? ⟨gb140, 0, none⟩ = some (.slice none 0 0) := (blk_cell BK140.out 0).trans rfl; have hfz22_0 := blk_frozen BK140.out 0
    go_wp2
    refine bodyPost_ret (results_cell_row rfl _ _ gb140 107 #[.slice Ao21 xbb_1.length co21] (0, 0) _ rfl (by (with_reducible repeat (first | apply blk_drewN | apply blk_drew | apply blk_alloc)); refine blk_put (cs := #[.slice none 0 0]) ?_ 0 _ rfl; (with_reducible repeat (first | apply blk_drewN | apply blk_drew | apply blk_alloc)); exact BK140.out) Try.underlying107 rfl (by kernel_rfl)) rfl ?_
    exact ⟨_, by first | rfl | (simp [errW_none, errW_some] <;> rfl) | (simp [*, errW_none, errW_some] <;> rfl), zS (Kd.S_mono (Kd.S_far (p := ⟨gb140, 0, none⟩) (Kd.S_types HO_bb.out BK140.out (by decide)) (fun _ hk => hk.2) (.slice Ao21 xbb_1.length co21)) (fun _ hk => trivial)), by repeat (first | (with_reducible first | exact HB.out | apply below_alloc | apply pw_below_drewN | apply below_drew1 | refine below_set ?_ GE140.out | refine below_set ?_ GE144.out) | exact HB.out)⟩

end Go.Proofs.Ytekaaoeojbclfaa.PFnSecret
