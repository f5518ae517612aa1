/- A law's functions as plain Lean functions, each with the walk that shows that the code computes it: written by this session's program wip/tools/ppmake.py. -/
import Derived.Test.YtbloniemhkfnlaaKZ
import Derived.Test.YtbloniemhkfnlaaPFnSpacedx0
import Derived.Test.YtbloniemhkfnlaaPFnSpacedx10
namespace Go.Proofs.Ytbloniemhkfnlaa.PFnSpaced
open Go.RowKit Go.Proofs.YtbloniemhkfnlaaW.PrintWords Go.Proofs.YtbloniemhkfnlaaW.PrintLast Go.Proofs.YtbloniemhkfnlaaW.PrintMore
attribute [local go_sem] max2_int min2_int max_two min_two max_three min_three max_four min_four   -- for this text's walks alone
set_option linter.unusedVariables false
set_option linter.unusedSimpArgs false

/-! ### spec_l2Apply: function 56 -/
def spec_l2Apply.l0 : Nat → List Int → List Int → List (List Int) → Int → Int → Option (List Int)
 | 0, _, _, _, _, _ => none
 | k + 1, x1, x5, x9, x10, x11 => if x11 < x10 then (if 0 ≤ x11 then (if x11 < (x9.length : Int) then ((spec_l1Dot.f k (rd_L1 x9 x11) x1).bind fun t285 => (if x5.length < 140737488355328 then (spec_l2Apply.l0 k x1 (x5 ++ [t285]) x9 x10 (wrap64 (x11 + 1))) else (none))) else (none)) else (none)) else (some x5)
def spec_l2Apply.f (k : Nat) (l0_0 : List (List Int)) (l1 : List Int) : Option (List Int) := spec_l2Apply.l0 k l1 ([] : List Int) l0_0 (l0_0.length : Int) 0
theorem spec_l2Apply.mono_l : ∀ k, (∀ y0 y1 y2 y3 y4, LeO (spec_l2Apply.l0 k y0 y1 y2 y3 y4) (spec_l2Apply.l0 (k + 1) y0 y1 y2 y3 y4))
 | 0 => fun _ _ _ _ _ r h => by simp [spec_l2Apply.l0] at h
 | k + 1 => by
  have ih0 := spec_l2Apply.mono_l k
  ·intro y0 y1 y2 y3 y4
   unfold spec_l2Apply.l0
   repeat' first | apply LeO.refl | apply LeO.none | apply LeO.ite | apply ih0 | apply spec_l1Dot.mono | (refine LeO.bind ?_ (fun _ => ?_))
theorem spec_l2Apply.mono : ∀ a0 a1 k, LeO (spec_l2Apply.f k a0 a1) (spec_l2Apply.f (k + 1) a0 a1) := by
 intro a0 a1 k; have ih0 := spec_l2Apply.mono_l k
 unfold spec_l2Apply.f
 repeat' first | apply LeO.refl | apply LeO.none | apply LeO.ite | apply ih0 | apply spec_l1Dot.mono | (refine LeO.bind ?_ (fun _ => ?_))
set_option maxHeartbeats 8000000 in
set_option maxRecDepth 100000 in
theorem spec_l2Apply.calls (k : Nat) (A0_0 : Option Addr) (c0_0 : Nat) (l0_0 : List (List Int)) (A1 : Option Addr) (c1 : Nat) (l1 : List Int) (r : List Int) (w : World) (hr0_0 : Kd.C (Kd.slice 5 (Kd.int .u8)) w A0_0 l0_0.length l0_0) (hc0_0 : l0_0.length ≤ c0_0) (hr1 : Kd.C (Kd.int .u8) w A1 l1.length l1) (hc1 : l1.length ≤ c1) (h : spec_l2Apply.f k l0_0 l1 = some r) :
  Calls Try.prog 56 #[.agg #[.slice A0_0 l0_0.length c0_0], .slice A1 l1.length c1] w fun e w' => ∃ v0_ : Value, e = .returned (v0_) ∧ Kd.R (Kd.int .u8) 5 w' w.heap.size (fun _ => True) v0_ r ∧ Below w.heap.size w w' := by
 have hu52 := Try.underlying52; have HR0_0 := am hr0_0; have HC0_0 := am hc0_0; clear hr0_0 hc0_0; have HR1 := am hr1; have HC1 := am hc1; clear hr1 hc1; have HB := am (Below.refl w.heap.size w); have H : (spec_l2Apply.l0 k l1 ([] : List Int) l0_0 (l0_0.length : Int) 0) = some r := h; clear h; have H' := am H; clear H
 go_enter Try.func56, Try.ntmps56
 go_wp2_with (first | ((with_reducible refine gate_dst (N := 2) rfl ?_); refine box_event ?hg (N := 2) ?hd (cs := #[.slice A0_0 l0_0.length c0_0]) (t := 52) ?hr ?_; (case hd => rfl); (case hg => rfl); (case hr => first | (go_simp; done) | (go_simp; rfl)); intro gb283 hg w3 hbox hb; have BK283 := am (hbox); have GW283 := am ((gw_ hg HB.out : w.heap.size ≤ gb283)); have GE283 := am ((gw_ hg HB.out : w.heap.size ≤ gb283)); replace HB := am (below_step (zB HB.out) hb); clear hb hbox hg; have hcz4_0 : w3.cell? ⟨gb283, 0, none⟩ = some (.slice A0_0 l0_0.length c0_0) := (blk_cell BK283.out 0).trans rfl; have hfz4_0 := blk_frozen BK283.out 0))
 go_loopg [5, 11] k (fun kq v5 v11 w' => ∃ (x5_1 : List Int) (x11_1 : Int), v11 = .int .i64 x11_1 ∧ Aside0 (spec_l2Apply.l0 kq l1 x5_1 l0_0 (l0_0.length : Int) x11_1 = some r) ∧ Aside0 (kq ≤ k) ∧ Aside0 (Kd.R (Kd.int .u8) 5 w' w.heap.size (fun _ => True) v5 x5_1) ∧ Aside0 (w'.heap[gb283]? = some (.cells #[(.slice A0_0 l0_0.length c0_0)] 52 (0, 0))) ∧ Aside0 (Below w.heap.size w w'))
 case atStart => exact ⟨(([] : List Int)), (0), rfl, H', ⟨Nat.le_refl _⟩, ⟨by first | apply Kd.R_nil | apply Kd.N_nil | apply Kd.V_nil | apply Kd.Q_nil | apply Kd.S_nil⟩, ⟨zK BK283.out⟩, ⟨zB HB.out⟩⟩
 case round =>
  clear H'; (try clear hfz4_0); obtain ⟨x5_1, x11_1, rfl, HA, HK1, HO_5, BK283, HB⟩ := hrel
  cases gk with
  | zero => exact absurd HA.out (by simp [spec_l2Apply.l0])
  | succ k1 =>
   have H := HA.out; clear HA
   simp only [spec_l2Apply.l0] at H
   by_cases c5 : x11_1 < (l0_0.length : Int)
   ·rw [if_pos c5] at H; have c5b0 := decide_eq_true c5; clear c5
    obtain ⟨c6, H⟩ := it_ H; have c6b0 := decide_eq_true c6; clear c6
    obtain ⟨c7, H⟩ := it_ H; have c7b0 := decide_eq_true c7; clear c7; obtain ⟨t285, A8, H⟩ := bi_ H
    obtain ⟨c9, H⟩ := it_ H; have LMc9 := am c9; clear c9; obtain ⟨y286, hy286⟩ : ∃ y_ : List Int, y_ = (x5_1 ++ [t285]) := ⟨_, rfl⟩
    replace H : (spec_l2Apply.l0 k1 l1 y286 l0_0 (l0_0.length : Int) (wrap64 (x11_1 + 1))) = some r := by first | (rw [hy286]; exact H) | (have H2_ := (Option.bind_some _ _).symm.trans H; first | exact H2_ | (rw [hy286]; exact H2_)) | exact H
    have Ny286 := am hy286; clear hy286; have H' := am H; clear H; have p284 : 0 ≤ (x11_1 : Int) := od_; have q284 : x11_1 < (l0_0.length : Int) := od_; obtain ⟨ad284, A284_0, c284_0, e284, hx284_0, hl284_0, hi284_0⟩ := at_L1 HR0_0.out x11_1 p284 q284; cases e284; replace hx284_0 := (HB.out.cell (World.block_lt_of_cell? w _ hx284_0)).trans hx284_0; have HR284_0 := am hi284_0; have HC284_0 := am hl284_0; clear hi284_0 hl284_0; replace p284 := eq_true p284; replace q284 := eq_true q284
    go_wp2_with (first | ((with_reducible refine gate_callee (f := 78) rfl ?_); refine goL_ (some 18) Try.func78 #[.slice A284_0 (rd_L1 l0_0 x11_1).length c284_0, .slice A1 l1.length c1] ?_; (with_reducible refine (spec_l1Dot.calls k1 _ _ (rd_L1 l0_0 x11_1) _ _ l1 t285 _ ?side1 ?side2 ?side3 ?side4 A8.out).mono ?_); (case side1 => exact zC (Kd.C_below HR284_0.out HB.out)); (case side2 => exact HC284_0.out); (case side3 => exact zC (Kd.C_below HR1.out HB.out)); (case side4 => exact HC1.out); rintro e w' ⟨rfl, ⟨nd, rfl⟩⟩; refine ⟨_, rfl, ?_⟩) | ((with_reducible refine gate_builtin (b := .append) (xs := #[.tmp 15, .tmp 19]) rfl ?_); at_builtin; refine Kd.R_append (Kd.int .u8) (w0 := w) w.heap.size rfl (.tmp 15) (.tmp 19) 22 5 (.int .u8 0) 1 rfl Try.underlying22 info5 rfl (by decide) (by omega) u5 x5_1 t285 [.int .u8 t285] (fun _ => True) (fun _ => False) rfl rfl ?aP (fun _ hk => hk.elim) ?aF ?aO ?aB ?aS ?aL ?_; (case aP => exact rfl); (case aB => exact (zB HB.out)); (case aF => exact (fun _ _ => trivial)); (case aO => exact (zR HO_5.out)); (case aS => exact (zs_ HB.out)); (case aL => have := LMc9.out; omega); intro v287 w10 ho hb hg hat; rw [← Ny286.out] at ho; replace BK283 := am (blk_grown (zK BK283.out) hg (Kd.R_ne HO_5.out BK283.out (by decide))); replace HB := am (hb); have HO288 := am (ho); (try clear HO_5); clear ho hb hg hat))
    go_roundg k1
    case measure => have := HK1.out; omega
    case rel => exact ⟨(y286), (wrap64 (x11_1 + 1)), rfl, H', ⟨by have := HK1.out; omega⟩, ⟨zR HO288.out⟩, ⟨zK BK283.out⟩, ⟨zB HB.out⟩⟩
   ·rw [if_neg c5] at H; have c5b0 := decide_eq_false c5; clear c5; obtain rfl := Option.some.inj H
    go_wp2
    go_ret
    exact ⟨_, rfl, zR HO_5.out, zB HB.out⟩

/-! ### spec_l8Hankel: function 73 -/
def spec_l8Hankel.l0 : Nat → List Int → Int → Int → List (List Int) → Option ((List (List Int)))
 | 0, _, _, _, _ => none
 | k + 1, x0, x1, x6, xaa => if x6 < x1 then ((some (([] : List Int) : List Int)).bind fun y291 => (if 0 ≤ x6 then (if x6 ≤ (wrap64 (x6 + x1)) then (if (wrap64 (x6 + x1)) ≤ (x0.length : Int) then (if y291.length + ((x0.take ((wrap64 (x6 + x1)) : Int).toNat).drop (x6 : Int).toNat).length < 140737488355328 then (if xaa.length < 5864062014805 then (spec_l8Hankel.l0 k x0 x1 (wrap64 (x6 + 1)) (xaa ++ [(y291 ++ ((x0.take ((wrap64 (x6 + x1)) : Int).toNat).drop (x6 : Int).toNat))])) else (none)) else (none)) else (none)) else (none)) else (none))) else (some xaa)
def spec_l8Hankel.f (k : Nat) (l0 : List Int) (a1 : Int) : Option ((List (List Int))) := spec_l8Hankel.l0 k l0 a1 0 ([] : List (List Int))
theorem spec_l8Hankel.mono_l : ∀ k, (∀ y0 y1 y2 y3, LeO (spec_l8Hankel.l0 k y0 y1 y2 y3) (spec_l8Hankel.l0 (k + 1) y0 y1 y2 y3))
 | 0 => fun _ _ _ _ r h => by simp [spec_l8Hankel.l0] at h
 | k + 1 => by
  have ih0 := spec_l8Hankel.mono_l k
  ·intro y0 y1 y2 y3
   unfold spec_l8Hankel.l0
   repeat' first | apply LeO.refl | apply LeO.none | apply LeO.ite | apply ih0 | (refine LeO.bind ?_ (fun _ => ?_))
theorem spec_l8Hankel.mono : ∀ a0 a1 k, LeO (spec_l8Hankel.f k a0 a1) (spec_l8Hankel.f (k + 1) a0 a1) := by
 intro a0 a1 k; have ih0 := spec_l8Hankel.mono_l k
 unfold spec_l8Hankel.f
 repeat' first | apply LeO.refl | apply LeO.none | apply LeO.ite | apply ih0 | (refine LeO.bind ?_ (fun _ => ?_))
def spec_l8Hankel.T5 : Bool × List (List Nat × List Nat) := (true, [([], []), ([0], [0]), ([], []), ([], []), ([], []), ([], []), ([], []), ([5, 6], [5, 6]), ([3, 4, 7], [3, 4, 7]), ([2, 8], [2, 8]), ([9], [9]), ([1, 10, 9], [1, 10]), ([0, 1, 2, 3, 4, 5, 6, 7, 8, 9, 10, 11], []), ([12, 11, 11, 0, 1, 2, 3, 4, 5, 6, 7, 8, 9, 10, 11], [11, 12])])
def spec_l8Hankel.B5 : List Nat := [0, 1, 0, 0, 0, 0, 0, 96, 248, 508, 1020, 2047, 4095, 8191]
theorem spec_l8Hankel.tab5 : rtab .any (opsOf Try.f73 5) = spec_l8Hankel.T5 := by kernel_rfl
theorem spec_l8Hankel.bits5 : waitsOk spec_l8Hankel.T5.2 spec_l8Hankel.B5 = true := by kernel_rfl
set_option maxHeartbeats 8000000 in
set_option maxRecDepth 100000 in
theorem spec_l8Hankel.calls (k : Nat) (A0 : Option Addr) (c0 : Nat) (l0 : List Int) (a1 : Int) (r : List (List Int)) (w : World) (hr0 : Kd.C (Kd.int .u8) w A0 l0.length l0) (hc0 : l0.length ≤ c0) (h : spec_l8Hankel.f k l0 a1 = some r) :
  Calls Try.prog 73 #[.slice A0 l0.length c0, .int .i64 a1] w fun e w' => ∃ v0_ : Value, e = .returned (.agg #[v0_]) ∧ Kd.S (Kd.slice 5 (Kd.int .u8)) 22 w' w.heap.size (fun _ => True) v0_ r ∧ Below w.heap.size w w' := by
 have hu52 := Try.underlying52; have HR0 := am hr0; have HC0 := am hc0; clear hr0 hc0; have HB := am (Below.refl w.heap.size w); have H : (spec_l8Hankel.l0 k l0 a1 0 ([] : List (List Int))) = some r := h; clear h; have H' := am H; clear H
 go_enter Try.func73, Try.ntmps73
 go_wp2_with (first | ((with_reducible refine gate_dst (N := 4) rfl ?_); refine box_event ?hg (N := 4) ?hd (cs := #[.slice none 0 0]) (t := 52) ?hr ?_; (case hd => rfl); (case hg => rfl); (case hr => first | (go_simp; done) | (go_simp; rfl)); intro gb289 hg w3 hbox hb; have BK289 := am (hbox); have GW289 := am ((gw_ hg HB.out : w.heap.size ≤ gb289)); have GE289 := am ((gw_ hg HB.out : w.heap.size ≤ gb289)); replace HB := am (below_step (zB HB.out) hb); clear hb hbox hg) | ((with_reducible refine gate_dst (N := 5) rfl ?_); refine box_event ?hg (N := 5) ?hd (cs := #[.slice none 0 0]) (t := 52) ?hr ?_; (case hd => rfl); (case hg => rfl); (case hr => first | (go_simp; done) | (go_simp; rfl)); intro gb290 hg w4 hbox hb; have BK290 := am (hbox); have GW290 := am ((gw_ hg HB.out : w.heap.size ≤ gb290)); have GE290 := am ((gw_ hg HB.out : w.heap.size ≤ gb290)); replace HB := am (below_step (zB HB.out) hb); have NB289_290 := am ((by rw [hg]; exact Nat.ne_of_lt (blk_lt (zK BK289.out)) : gb289 ≠ gb290)); have NB290_289 := am ((by rw [hg]; exact Nat.ne_of_gt (blk_lt (zK BK289.out)) : gb290 ≠ gb289)); replace BK289 := am (blk_below (zK BK289.out) hb); clear hb hbox hg; have hnb5 := NB290_289.out; have hnc5 := NB289_290.out; have hcz6_0 : w4.cell? ⟨gb290, 0, none⟩ = some (.slice none 0 0) := (blk_cell BK290.out 0).trans rfl; have hfz6_0 := blk_frozen BK290.out 0))
 go_loopg [6] k (fun kq v6 w' => ∃ (x6_1 : Int) (xaa_1 : List (List Int)) (uaa : Value), v6 = .int .i64 x6_1 ∧ Aside0 (spec_l8Hankel.l0 kq l0 a1 x6_1 xaa_1 = some r) ∧ Aside0 (kq ≤ k) ∧ Aside0 (Kd.S (Kd.slice 5 (Kd.int .u8)) 22 w' w.heap.size (fun _ => True) uaa xaa_1) ∧ Aside0 (w'.heap[gb289]? = some (.cells #[(.slice none 0 0)] 52 (0, 0))) ∧ Aside0 (w'.heap[gb290]? = some (.cells #[uaa] 52 (0, 0))) ∧ Aside0 (Below w.heap.size w w'))
 case atStart => exact ⟨(0), (([] : List (List Int))), (.slice none 0 0), rf_, H', ⟨Nat.le_refl _⟩, ⟨by first | exact Kd.S_nil _ _ _ _ _ | exact Kd.N_nil _ _ _ _ _ | exact Kd.V_nil _ _ _ _ _ | exact Kd.Q_nil _ _ _ _ _ | exact Kd.R_nil _ _ _ _ _⟩, ⟨by (with_reducible repeat (first | apply blk_drewN | apply blk_drew | apply blk_alloc)); refine blk_far ?_ NB289_290.out _; (with_reducible repeat (first | apply blk_drewN | apply blk_drew | apply blk_alloc)); exact BK289.out⟩, ⟨by (with_reducible repeat (first | apply blk_drewN | apply blk_drew | apply blk_alloc)); refine blk_put (cs := #[.slice none 0 0]) ?_ 0 _ rfl; (with_reducible repeat (first | apply blk_drewN | apply blk_drew | apply blk_alloc)); exact BK290.out⟩, ⟨by repeat (first | (with_reducible first | exact HB.out | apply below_alloc | apply pw_below_drewN | apply below_drew1 | refine below_set ?_ GE289.out | refine below_set ?_ GE290.out) | exact HB.out)⟩⟩
 case round =>
  clear H'; (try clear hfz6_0); obtain ⟨x6_1, xaa_1, uaa, rfl, HA, HK1, HO_aa, BK289, BK290, HB⟩ := hrel
  cases gk with
  | zero => exact absurd HA.out (by simp [spec_l8Hankel.l0])
  | succ k1 =>
   have H := HA.out; clear HA
   simp only [spec_l8Hankel.l0] at H
   by_cases c7 : x6_1 < a1
   ·rw [if_pos c7] at H; have c7b0 := decide_eq_true c7; clear c7; obtain ⟨y291, hy291⟩ : ∃ y_ : List Int, y_ = (([] : List Int)) := ⟨_, rfl⟩
    replace H : (if 0 ≤ x6_1 then (if x6_1 ≤ (wrap64 (x6_1 + a1)) then (if (wrap64 (x6_1 + a1)) ≤ (l0.length : Int) then (if y291.length + ((l0.take ((wrap64 (x6_1 + a1)) : Int).toNat).drop (x6_1 : Int).toNat).length < 140737488355328 then (if xaa_1.length < 5864062014805 then (spec_l8Hankel.l0 k1 l0 a1 (wrap64 (x6_1 + 1)) (xaa_1 ++ [(y291 ++ ((l0.take ((wrap64 (x6_1 + a1)) : Int).toNat).drop (x6_1 : Int).toNat))])) else (none)) else (none)) else (none)) else (none)) else (none)) = some r := by first | (rw [hy291]; exact H) | (have H2_ := (Option.bind_some _ _).symm.trans H; first | exact H2_ | (rw [hy291]; exact H2_)) | exact H
    have Ny291 := am hy291; clear hy291
    obtain ⟨c8, H⟩ := it_ H; have c8b0 := eq_true c8; have c8b1 := decide_eq_true c8; clear c8
    obtain ⟨c9, H⟩ := it_ H; have c9b0 := eq_true c9; have c9b1 := decide_eq_true c9
    obtain ⟨c10, H⟩ := it_ H; have c10b0 := eq_true c10; have c10b1 := decide_eq_true c10
    obtain ⟨c11, H⟩ := it_ H; have LMc11 := am c11; clear c11; obtain ⟨y295, hy295⟩ : ∃ y_ : List Int, y_ = (y291 ++ ((l0.take ((wrap64 (x6_1 + a1)) : Int).toNat).drop (x6_1 : Int).toNat)) := ⟨_, rfl⟩
    replace H : (if xaa_1.length < 5864062014805 then (spec_l8Hankel.l0 k1 l0 a1 (wrap64 (x6_1 + 1)) (xaa_1 ++ [y295])) else (none)) = some r := by first | (rw [hy295]; exact H) | (have H2_ := (Option.bind_some _ _).symm.trans H; first | exact H2_ | (rw [hy295]; exact H2_)) | exact H
    have Ny295 := am hy295; clear hy295
    obtain ⟨c12, H⟩ := it_ H; have LMc12 := am c12; clear c12; obtain ⟨y298, hy298⟩ : ∃ y_ : List (List Int), y_ = (xaa_1 ++ [y295]) := ⟨_, rfl⟩
    replace H : (spec_l8Hankel.l0 k1 l0 a1 (wrap64 (x6_1 + 1)) y298) = some r := by first | (rw [hy298]; exact H) | (have H2_ := (Option.bind_some _ _).symm.trans H; first | exact H2_ | (rw [hy298]; exact H2_)) | exact H
    have Ny298 := am hy298; clear hy298; have H' := am H; clear H
    try go_wp2
    replace HO_aa := am (Kd.S_drew HO_aa.out); replace BK289 := am (blk_drew BK289.out); replace BK290 := am (blk_drew BK290.out); replace HB := am (below_drew1 HB.out); obtain ⟨i014, hi014, _, hsz14, _⟩ := info_parts info5; obtain ⟨A14, hcut14, hA14, hC14⟩ := print_mid_of (P := Try.prog) (Value.int .u8) 0 22 5 .i64 .i64 Try.underlying22 hi014 hsz14 A0 c0 l0 x6_1 (wrap64 (x6_1 + a1)) (od_) (by first | omega | exact od_) (od_) HC0.out; have HR294 := am (Kd.C_of_reads (h1 := fun _ => rfl) (hA14 _ (Kd.reads_of_C HR0.out))); have HC294 := am hC14; clear hA14 hC14 hi014 hsz14
    refine start_ (n := 14) (S := fun w' => w'.cell? ⟨gb290, 0, none⟩ = some (uaa)) (ds := [13]) #[false, false, false, false, false, false, false, false, false, false, false, false, false, false] (by kernel_rfl) rfl rfl ((blk_cell BK290.out 0).trans rfl) (fun hHeld => ?_); refine with_tabW spec_l8Hankel.tab5 spec_l8Hankel.bits5 (fun HT_ HW_ => ?_)
    generalize wr.drew = w13 at HO_aa BK289 BK290 HB HR294 hHeld ⊢
    refine pu_ (i := 0) (some 13) #[true, false, false, false, false, false, false, false, false, false, false, false, false, false] HT_ ?_
    refine pu_ (i := 3) (some 16) #[true, false, false, true, false, false, false, false, false, false, false, false, false, false] HT_ ?_
    refine pu_ (i := 4) (some 17) #[true, false, false, true, true, false, false, false, false, false, false, false, false, false] HT_ ?_
    refine pu_ (i := 5) (some 18) #[true, false, false, true, true, true, false, false, false, false, false, false, false, false] HT_ ?_
    refine pu_ (i := 6) (some 19) #[true, false, false, true, true, true, true, false, false, false, false, false, false, false] HT_ ?_
    refine pu_ (i := 7) (some 20) #[true, false, false, true, true, true, true, true, false, false, false, false, false, false] HT_ ?_
    refine pu_ (i := 8) (some 21) #[true, false, false, true, true, true, true, true, true, false, false, false, false, false] HT_ ?_
    refine ta_ (i := 1) (some 14) #[true, true, false, true, true, true, true, true, true, false, false, false, false, false] HT_ HW_ hHeld ?_
    refine one_ (i := 2) (N := some 15) #[true, true, true, true, true, true, true, true, true, false, false, false, false, false] rfl rfl (one_of HT_.out (by kernel_rfl)) (by decide) (fun K hK => ?_)
    refine Kd.R_lit_step (Kd.int .u8) _ 5 ?hg (N := 15) ?hd (xs := ([] : List Int)) (inner := []) (ok := fun _ => True) (okp := fun _ => True) ?hr ?hp (fun _ hk => hk) trivial (Below.refl _ _) (Nat.le_refl _) (by simp) ?_; (case hd => rfl); (case hg => rfl); (case hr => first | (go_simp; done) | (go_simp; rfl)); (case hp => exact (Reps.none _ _))
    intro v292 w15 ho16 hb hg_ hnew_; clear hg_ hnew_
    (first | rw [← Ny291.out] at ho16 | (simp only [Int.reduceToNat] at ho16; rw [← Ny291.out] at ho16))
    replace HO_aa := am (Kd.S_elder' (zS HO_aa.out) (Kd.R_base ho16) hb)
    have HO293 := am (Kd.R_lower ho16 (zs_ HB.out))
    replace BK289 := am (blk_below (zK BK289.out) hb)
    replace BK290 := am (blk_below (zK BK290.out) hb)
    replace HB := am (below_step (zB HB.out) hb); clear hb ho16
    refine hK.out _ _ ((blk_cell BK290.out 0).trans rfl) (fun hHeld => ?_)
    clear hK K
    refine norm_ (a' := ?_) ?_ ?_
    rotate_left
    ·show Act.put _ (some 15) _ = _
     simp only [Act.put, List.setIfInBounds_toArray, List.set_cons_zero, List.set_cons_succ, i64_w, i32_w]; rfl
    refine one_ (i := 9) (N := some 22) #[true, true, true, true, true, true, true, true, true, true, false, false, false, false] rfl rfl (one_of HT_.out (by kernel_rfl)) (by decide) (fun K hK => ?_)
    refine Kd.R_append_rows_step (Kd.int .u8) (w0 := w) w.heap.size (by rfl) (.tmp 15) (.tmp 21) 22 5 (.int .u8 0) 1 rfl Try.underlying22 info5 rfl (by decide) (by omega) v292 y291 ((l0.take ((wrap64 (x6_1 + a1)) : Int).toNat).drop (x6_1 : Int).toNat) _ _ _ (fun _ => True) (fun _ => False) rfl rfl ?aO ?aR (fun _ _ h => h) (fun _ h => h.elim) ?aF ?aB ?aS ?aL ?_
    (case aR => first | (have hlq_ := (show ((l0.take ((wrap64 (x6_1 + a1)) : Int).toNat).drop (x6_1 : Int).toNat).length = ((wrap64 (x6_1 + a1)).toNat - x6_1.toNat) from (by rw [List.length_drop, List.length_take]; have h_ : ((wrap64 (x6_1 + a1)) : Int) ≤ (l0.length : Int) := od_; omega)); have hX_ := (Kd.C_below HR294.out HB.out); rw [hlq_] at hX_; exact hX_) | (rw [← show ((l0.take ((wrap64 (x6_1 + a1)) : Int).toNat).drop (x6_1 : Int).toNat).length = ((wrap64 (x6_1 + a1)).toNat - x6_1.toNat) from (by rw [List.length_drop, List.length_take]; have h_ : ((wrap64 (x6_1 + a1)) : Int) ≤ (l0.length : Int) := od_; omega)]; repeat (first | exact (Kd.C_below HR294.out HB.out) | (with_reducible refine Kd.C_alloc ?_ _) | (with_reducible refine Kd.C_drewN ?_ _) | (with_reducible refine Kd.C_drew ?_))) | (repeat (first | exact (Kd.C_below HR294.out HB.out) | (with_reducible refine Kd.C_alloc ?_ _) | (with_reducible refine Kd.C_drewN ?_ _) | (with_reducible refine Kd.C_drew ?_))))
    (case aB => exact (zB HB.out))
    (case aF => exact (fun _ _ => trivial))
    (case aO => exact (zR HO293.out))
    (case aS => exact (zs_ HB.out))
    (case aL => have := LMc11.out; have hlx_ := (show ((l0.take ((wrap64 (x6_1 + a1)) : Int).toNat).drop (x6_1 : Int).toNat).length = ((wrap64 (x6_1 + a1)).toNat - x6_1.toNat) from (by rw [List.length_drop, List.length_take]; have h_ : ((wrap64 (x6_1 + a1)) : Int) ≤ (l0.length : Int) := od_; omega)); omega)
    intro v296 w17 ho hb hg hat; rw [← Ny295.out] at ho
    replace HO_aa := am (Kd.S_after (ok := (fun _ => True)) (zS HO_aa.out) hg hat)
    replace BK289 := am (blk_grown (zK BK289.out) hg (Kd.R_ne HO293.out BK289.out (by decide)))
    replace BK290 := am (blk_grown (zK BK290.out) hg (Kd.R_ne HO293.out BK290.out (by decide)))
    replace HB := am (hb); have HO297 := am (ho); (try clear HO293); clear ho hb hg hat; obtain ⟨Ao19, co19, eo19⟩ := Kd.R_slice HO297.out
    (first | subst eo19 | (injection eo19 with f1_ f2_ f3_; have f4_ := f1_.symm; have f5_ := f3_.symm; clear f1_ f2_ f3_; subst f4_; subst f5_))
    refine hK.out _ _ ((blk_cell BK290.out 0).trans rfl) (fun hHeld => ?_)
    clear hK K
    refine norm_ (a' := ?_) ?_ ?_
    rotate_left
    ·show Act.put _ (some 22) _ = _
     simp only [Act.put, List.setIfInBounds_toArray, List.set_cons_zero, List.set_cons_succ, i64_w, i32_w]; rfl
    refine one_ (i := 10) (N := some 23) #[true, true, true, true, true, true, true, true, true, true, true, false, false, false] rfl rfl (one_of HT_.out (by kernel_rfl)) (by decide) (fun K hK => ?_)
    refine value_ (w1 := ?_) (v := ?_) (by rfl) rfl ?_ ?_
    rotate_left 2
    ·go_simp
     constructor
     ·rfl
     ·rfl
    refine hK.out _ _ ((blk_cell (blk_alloc BK290.out _) 0).trans rfl) (fun hHeld => ?_)
    clear hK K
    refine norm_ (a' := ?_) ?_ ?_
    rotate_left
    ·show Act.put _ (some 23) _ = _
     simp only [Act.put, List.setIfInBounds_toArray, List.set_cons_zero, List.set_cons_succ, i64_w, i32_w]; rfl
    refine one_ (i := 11) (N := some 24) #[true, true, true, true, true, true, true, true, true, true, true, true, false, false] rfl rfl (one_of HT_.out (by kernel_rfl)) (by decide) (fun K hK => ?_)
    refine Kd.S_append_step (Kd.slice 5 (Kd.int .u8)) (w0 := w) w.heap.size (by rfl) (.tmp 14) (.tmp 23) 50 22 (.slice none 0 0) 24 rfl Try.underlying50 info22 rfl (by decide) (by omega) uaa xaa_1 y295 [.slice Ao19 y295.length co19] (fun _ => True) (fun k_ => some k_ = (.slice Ao19 y295.length co19 : Value).ownBlock) rfl rfl ?aP (fun k_ hk_ => ((Kd.R_mono (ok' := fun k_ => ((fun _ => True)) k_ ∧ some k_ ≠ (uaa : Value).ownBlock) (Kd.R_apart' (HO297.out) (Kd.S_typed HO_aa.out) (by decide)) (fun k_ hk => ⟨trivial, hk.2⟩))).1 k_ hk_.symm) ?aF ?aO ?aB ?aS ?aL ?_
    (case aP => exact Kd.M_row (Kd.R_mono (Kd.R_tight rfl (Kd.R_mono (ok' := fun k_ => ((fun _ => True)) k_ ∧ some k_ ≠ (uaa : Value).ownBlock) (Kd.R_apart' (HO297.out) (Kd.S_typed HO_aa.out) (by decide)) (fun k_ hk => ⟨trivial, hk.2⟩))) (fun _ h_ => h_)))
    (case aB => exact (zB HB.out))
    (case aF => exact (fun _ _ => trivial))
    (case aO => exact (zS (Kd.S_mono HO_aa.out (fun k_ hk => ⟨trivial, fun e_ => hk.2 e_⟩))))
    (case aS => exact (zs_ HB.out))
    (case aL => have := LMc12.out; omega)
    intro v299 w18 ho hb hg hat; rw [← Ny298.out] at ho
    replace BK289 := am (blk_grown (zK BK289.out) hg (Kd.S_ne HO_aa.out BK289.out (by decide)))
    replace BK290 := am (blk_grown (zK BK290.out) hg (Kd.S_ne HO_aa.out BK290.out (by decide)))
    replace HB := am (hb); have HO300 := am (ho); (try clear HO_aa); (try clear HO297); clear ho hb hg hat; obtain ⟨Ao20, co20, eo20⟩ := Kd.S_slice HO300.out
    (first | subst eo20 | (injection eo20 with f1_ f2_ f3_; have f4_ := f1_.symm; have f5_ := f3_.symm; clear f1_ f2_ f3_; subst f4_; subst f5_))
    refine hK.out _ _ ((blk_cell BK290.out 0).trans rfl) (fun hHeld => ?_)
    clear hK K
    refine norm_ (a' := ?_) ?_ ?_
    rotate_left
    ·show Act.put _ (some 24) _ = _
     simp only [Act.put, List.setIfInBounds_toArray, List.set_cons_zero, List.set_cons_succ, i64_w, i32_w]; rfl
    refine pu_ (i := 12) (some 25) #[true, true, true, true, true, true, true, true, true, true, true, true, true, false] HT_ ?_
    refine last_ (i := 13) (N := none) #[true, true, true, true, true, true, true, true, true, true, true, true, true, true] rfl rfl (one_of HT_.out (by kernel_rfl)) (by decide) (fun K hK => ?_)
    have hs21 : w18.cell? ⟨gb290, 0, none⟩ = some (uaa) := (blk_cell BK290.out 0).trans rfl; have hfs21 := blk_frozen BK290.out 0; have hns21_0 := NB289_290.out; have hms21_0 := NB290_289.out
    refine skip_ (w1 := ?_) (by rfl) rfl ?_ ?_
    rotate_left
    ·go_simp; rfl
    refine hK.out _ _ ?_
    clear hK K
    refine done_ (done_of HT_.out (by kernel_rfl)) ?_
    try go_wp2
    go_roundg k1
    case measure => have := HK1.out; omega
    case rel => exact ⟨(wrap64 (x6_1 + 1)), (y298), (.slice Ao20 y298.length co20), rf_, H', ⟨by have := HK1.out; omega⟩, ⟨zS (Kd.S_mono (Kd.S_far (p := ⟨gb290, 0, none⟩) (Kd.S_types HO300.out BK290.out (by decide)) (fun _ hk => hk.2) (.slice Ao20 y298.length co20)) (fun _ hk => trivial))⟩, ⟨by (with_reducible repeat (first | apply blk_drewN | apply blk_drew | apply blk_alloc)); refine blk_far ?_ NB289_290.out _; (with_reducible repeat (first | apply blk_drewN | apply blk_drew | apply blk_alloc)); exact BK289.out⟩, ⟨by (with_reducible repeat (first | apply blk_drewN | apply blk_drew | apply blk_alloc)); refine blk_put (cs := #[uaa]) ?_ 0 _ rfl; (with_reducible repeat (first | apply blk_drewN | apply blk_drew | apply blk_alloc)); exact BK290.out⟩, ⟨by repeat (first | (with_reducible first | exact HB.out | apply below_alloc | apply pw_below_drewN | apply below_drew1 | refine below_set ?_ GE289.out | refine below_set ?_ GE290.out) | exact HB.out)⟩⟩
   ·rw [if_neg c7] at H; have c7b0 := decide_eq_false c7; clear c7; obtain rfl := Option.some.inj H; have hnb22 := NB290_289.out; have hnc22 := NB289_290.out; have hcz23_0 : wr.cell? ⟨gb290, 0, none⟩ = some (uaa) := (blk_cell BK290.out 0).trans rfl; have hfz23_0 := blk_frozen BK290.out 0; obtain ⟨Ao24, co24, eo24⟩ := Kd.S_slice HO_aa.out
    subst eo24
    have hcz25_0 : wr.cell? ⟨gb289, 0, none⟩ = some (.slice none 0 0) := (blk_cell BK289.out 0).trans rfl; have hfz25_0 := blk_frozen BK289.out 0
    go_wp2
    refine bodyPost_ret (results_cell_row rfl _ _ gb289 52 #[.slice Ao24 xaa_1.length co24] (0, 0) _ rfl (by (with_reducible repeat (first | apply blk_drewN | apply blk_drew | apply blk_alloc)); refine blk_put (cs := #[.slice none 0 0]) ?_ 0 _ rfl; (with_reducible repeat (first | apply blk_drewN | apply blk_drew | apply blk_alloc)); exact BK289.out) Try.underlying52 rfl (by kernel_rfl)) rfl ?_
    exact ⟨_, by first | rfl | (simp [errW_none, errW_some] <;> rfl) | (simp [*, errW_none, errW_some] <;> rfl), zS (Kd.S_mono (Kd.S_far (p := ⟨gb289, 0, none⟩) (Kd.S_types HO_aa.out BK289.out (by decide)) (fun _ hk => hk.2) (.slice Ao24 xaa_1.length co24)) (fun _ hk => trivial)), by repeat (first | (with_reducible first | exact HB.out | apply below_alloc | apply pw_below_drewN | apply below_drew1 | refine below_set ?_ GE289.out | refine below_set ?_ GE290.out) | exact HB.out)⟩

/-! ### spec_l8Locator: function 50 -/
mutual
def spec_l8Locator.l0 : Nat → List Int → Int → Option (List Int)
 | 0, _, _ => none
 | k + 1, x0, x3 => if x3 > 0 then ((spec_l8Hankel.f k x0 x3).bind fun t304 => ((spec_l2Inverse.f k t304).bind fun bt307 => (if bt307.2 = true then (if 0 ≤ x3 then (if x3 ≤ (wrap64 (2 * x3)) then (if (wrap64 (2 * x3)) ≤ (x0.length : Int) then ((spec_l2Apply.f k bt307.1 ((x0.take ((wrap64 (2 * x3)) : Int).toNat).drop (x3 : Int).toNat)).bind fun t313 => (spec_l8Locator.l1 k t313 (([1] : List Int)) (wrap64 (x3 - 1)))) else (none)) else (none)) else (none)) else (spec_l8Locator.l0 k x0 (wrap64 (x3 - 1)))))) else (some (([1] : List Int)))
def spec_l8Locator.l1 : Nat → List Int → List Int → Int → Option (List Int)
 | 0, _, _, _ => none
 | k + 1, x6, x7, x8 => if x8 ≥ 0 then (if 0 ≤ x8 then (if x8 < (x6.length : Int) then (if x7.length < 140737488355328 then (spec_l8Locator.l1 k x6 (x7 ++ [rd x6 x8]) (wrap64 (x8 - 1))) else (none)) else (none)) else (none)) else (some x7)
end
def spec_l8Locator.f (k : Nat) (l0 : List Int) : Option (List Int) := spec_l8Locator.l0 k l0 (wrap64 ((l0.length : Int) / 2))
theorem spec_l8Locator.mono_l : ∀ k, (∀ y0 y1, LeO (spec_l8Locator.l0 k y0 y1) (spec_l8Locator.l0 (k + 1) y0 y1)) ∧ (∀ y0 y1 y2, LeO (spec_l8Locator.l1 k y0 y1 y2) (spec_l8Locator.l1 (k + 1) y0 y1 y2))
 | 0 => ⟨fun _ _ r h => by simp [spec_l8Locator.l0] at h, fun _ _ _ r h => by simp [spec_l8Locator.l1] at h⟩
 | k + 1 => by
  obtain ⟨ih0, ih1⟩ := spec_l8Locator.mono_l k
  refine ⟨?_, ?_⟩
  ·intro y0 y1
   unfold spec_l8Locator.l0
   repeat' first | apply LeO.refl | apply LeO.none | apply LeO.ite | apply ih0 | apply ih1 | apply spec_l2Apply.mono | apply spec_l2Inverse.mono | apply spec_l8Hankel.mono | (refine LeO.bind ?_ (fun _ => ?_))
  ·intro y0 y1 y2
   unfold spec_l8Locator.l1
   repeat' first | apply LeO.refl | apply LeO.none | apply LeO.ite | apply ih0 | apply ih1 | apply spec_l2Apply.mono | apply spec_l2Inverse.mono | apply spec_l8Hankel.mono | (refine LeO.bind ?_ (fun _ => ?_))
theorem spec_l8Locator.mono : ∀ a0 k, LeO (spec_l8Locator.f k a0) (spec_l8Locator.f (k + 1) a0) := by
 intro a0 k; obtain ⟨ih0, ih1⟩ := spec_l8Locator.mono_l k
 unfold spec_l8Locator.f
 repeat' first | apply LeO.refl | apply LeO.none | apply LeO.ite | apply ih0 | apply ih1 | apply spec_l2Apply.mono | apply spec_l2Inverse.mono | apply spec_l8Hankel.mono | (refine LeO.bind ?_ (fun _ => ?_))
def spec_l8Locator.T6 : Bool × List (List Nat × List Nat) := (true, [([], []), ([], []), ([], []), ([], []), ([3], [3]), ([1, 2, 4], [1, 2, 4]), ([0, 5], [0, 5]), ([6, 6, 0, 1, 2, 3, 4, 5, 6], [6])])
def spec_l8Locator.B6 : List Nat := [0, 0, 0, 0, 8, 30, 63, 127]
theorem spec_l8Locator.tab6 : rtab .any (opsOf Try.f50 6) = spec_l8Locator.T6 := by kernel_rfl
theorem spec_l8Locator.bits6 : waitsOk spec_l8Locator.T6.2 spec_l8Locator.B6 = true := by kernel_rfl
set_option maxHeartbeats 8000000 in
set_option maxRecDepth 100000 in
theorem spec_l8Locator.calls (k : Nat) (A0 : Option Addr) (c0 : Nat) (l0 : List Int) (r : List Int) (w : World) (hr0 : Kd.C (Kd.int .u8) w A0 l0.length l0) (hc0 : l0.length ≤ c0) (h : spec_l8Locator.f k l0 = some r) :
  Calls Try.prog 50 #[.slice A0 l0.length c0] w fun e w' => ∃ v0_ : Value, e = .returned (v0_) ∧ Kd.R (Kd.int .u8) 5 w' w.heap.size (fun _ => True) v0_ r ∧ Below w.heap.size w w' := by
 have hu52 := Try.underlying52; have HR0 := am hr0; have HC0 := am hc0; clear hr0 hc0; have HB := am (Below.refl w.heap.size w); have H : (spec_l8Locator.l0 k l0 (wrap64 ((l0.length : Int) / 2))) = some r := h; clear h; have H' := am H; clear H
 go_enter Try.func50, Try.ntmps50
 go_wp2
 go_loopg [3] k (fun kq v3 w' => ∃ (x3_1 : Int), v3 = .int .i64 x3_1 ∧ Aside0 (spec_l8Locator.l0 kq l0 x3_1 = some r) ∧ Aside0 (kq ≤ k) ∧ Aside0 (Below w.heap.size w w'))
 case atStart => exact ⟨(wrap64 ((l0.length : Int) / 2)), rfl, H', ⟨Nat.le_refl _⟩, ⟨zB HB.out⟩⟩
 case round =>
  clear H'; obtain ⟨x3_1, rfl, HA, HK1, HB⟩ := hrel
  cases gk with
  | zero => exact absurd HA.out (by simp [spec_l8Locator.l0])
  | succ k1 =>
   have H := HA.out; clear HA
   simp only [spec_l8Locator.l0] at H
   by_cases c2 : x3_1 > 0
   ·rw [if_pos c2] at H; have c2b0 : decide (0 < x3_1) = true := decide_eq_true c2; clear c2; obtain ⟨t304, A3, H⟩ := bi_ H; obtain ⟨⟨t307, t310⟩, A4, H⟩ := bi_ H; dsimp only at H
    by_cases c5 : t310 = true
    ·subst c5
     have H1 : (if 0 ≤ x3_1 then (if x3_1 ≤ (wrap64 (2 * x3_1)) then (if (wrap64 (2 * x3_1)) ≤ (l0.length : Int) then ((spec_l2Apply.f k1 t307 ((l0.take ((wrap64 (2 * x3_1)) : Int).toNat).drop (x3_1 : Int).toNat)).bind fun t313 => (spec_l8Locator.l1 k1 t313 (([1] : List Int)) (wrap64 (x3_1 - 1)))) else (none)) else (none)) else (none)) = some r := by rw [if_pos rfl] at H; exact H
     clear H; have H := H1; clear H1
     obtain ⟨c6, H⟩ := it_ H; have c6b0 := eq_true c6; have c6b1 := decide_eq_true c6; clear c6
     obtain ⟨c7, H⟩ := it_ H; have c7b0 := eq_true c7; have c7b1 := decide_eq_true c7; clear c7
     obtain ⟨c8, H⟩ := it_ H; have c8b0 := eq_true c8; have c8b1 := decide_eq_true c8; clear c8; obtain ⟨t313, A9, H⟩ := bi_ H; obtain ⟨y316, hy316⟩ : ∃ y_ : List Int, y_ = (([1] : List Int)) := ⟨_, rfl⟩
     replace H : (spec_l8Locator.l1 k1 t313 y316 (wrap64 (x3_1 - 1))) = some r := by first | (rw [hy316]; exact H) | (have H2_ := (Option.bind_some _ _).symm.trans H; first | exact H2_ | (rw [hy316]; exact H2_)) | exact H
     have Ny316 := am hy316; clear hy316; have H' := am H; clear H
     try go_wp2_with (first | ((with_reducible refine gate_callee (f := 73) rfl ?_); refine goL_ (some 19) Try.func73 #[.slice A0 l0.length c0, .int .i64 x3_1] ?_; (with_reducible refine (spec_l8Hankel.calls k1 _ _ l0 x3_1 t304 _ ?side1 ?side2 A3.out).mono ?_); (case side1 => exact zC (Kd.C_below HR0.out HB.out)); (case side2 => exact HC0.out); rintro e w10 ⟨v305, rfl, ho0, hb⟩; refine ⟨_, rfl, ?_⟩; have HO306 := am (Kd.S_lower ho0 (zs_ HB.out)); replace HB := am (below_step (zB HB.out) hb); (try clear hb); (try clear ho0); obtain ⟨Ao11, co11, eo11⟩ := Kd.S_slice HO306.out; subst eo11) | ((with_reducible refine gate_callee (f := 55) rfl ?_); refine goL_ (some 20) Try.func55 #[.agg #[.slice Ao11 t304.length co11]] ?_; (with_reducible refine (spec_l2Inverse.calls k1 _ _ t304 t307 true _ ?side1 ?side2 A4.out).mono ?_); (case side1 => exact zC ((Kd.S_reads' HO306.out).2.2)); (case side2 => exact (Kd.S_reads' HO306.out).2.1); rintro e w12 ⟨v308, rfl, ho0, hb⟩; refine ⟨_, rfl, ?_⟩; have HO309 := am (Kd.V_lower (Kd.V_mono (ok' := fun k_ => some k_ ≠ (.slice Ao11 t304.length co11 : Value).ownBlock) (Kd.V_bound ho0) (fun k_ hk0_ => have hk_ := And.intro trivial hk0_; (Kd.fresh' (Kd.S_lt (zS HO306.out)) k_ hk_.2.1))) (zs_ HB.out)); replace HO306 := am (Kd.S_below (zS HO306.out) hb); replace HB := am (below_step (zB HB.out) hb); (try clear hb); (try clear ho0)) | ((with_reducible refine gate_dst (N := 4) rfl ?_); refine box_event ?hg (N := 4) ?hd (cs := #[.slice none 0 0]) (t := 52) ?hr ?_; (case hd => rfl); (case hg => rfl); (case hr => first | (go_simp; done) | (go_simp; rfl)); intro gb311 hg w13 hbox hb; replace HO306 := am (Kd.S_below (zS HO306.out) hb); replace HO309 := am (Kd.V_below (Kd.V_elderB (zV HO309.out) gb311 (Nat.le_of_eq hg.symm)) hb); have BK311 := am (hbox); have GW311 := am ((gw_ hg HB.out : w.heap.size ≤ gb311)); have GE311 := am ((gw_ hg HB.out : w.heap.size ≤ gb311)); replace HB := am (below_step (zB HB.out) hb); clear hb hbox hg; obtain ⟨Ao14, co14, eo14⟩ := Kd.V_slice HO309.out; subst eo14; have hcz15_0 : w13.cell? ⟨gb311, 0, none⟩ = some (.slice none 0 0) := (blk_cell BK311.out 0).trans rfl; have hfz15_0 := blk_frozen BK311.out 0))
     have n0_ : Aside0 (Kd.S (Kd.slice 5 (Kd.int .u8)) 22 (w13.setCell ⟨gb311, 0, none⟩ (.slice Ao14 t307.length co14)) w.heap.size (fun _ => True) (.slice Ao11 t304.length co11) t304) := ⟨zS (Kd.S_mono (Kd.S_far (p := ⟨gb311, 0, none⟩) (Kd.S_types HO306.out BK311.out (by decide)) (fun _ hk => hk.2) (.slice Ao14 t307.length co14)) (fun _ hk => trivial))⟩
     have n1_ : Aside0 (Kd.V (Kd.slice 5 (Kd.int .u8)) 22 (w13.setCell ⟨gb311, 0, none⟩ (.slice Ao14 t307.length co14)) w.heap.size (fun k_ => some k_ ≠ (.slice Ao11 t304.length co11 : Value).ownBlock ∧ k_ ≠ gb311) (.slice Ao14 t307.length co14) t307) := ⟨zV (Kd.V_mono (Kd.V_far (p := ⟨gb311, 0, none⟩) (Kd.V_mono HO309.out (fun k_ hk => (⟨hk, hk.2⟩ : _ ∧ k_ ≠ gb311))) (fun _ hk => hk.2) (.slice Ao14 t307.length co14)) (fun _ hk => ⟨hk.1.1, hk.1.2⟩))⟩
     have n2_ : Aside0 ((w13.setCell ⟨gb311, 0, none⟩ (.slice Ao14 t307.length co14)).heap[gb311]? = some (.cells #[.slice Ao14 t307.length co14] 52 (0, 0))) := ⟨by (with_reducible repeat (first | apply blk_drewN | apply blk_drew | apply blk_alloc)); refine blk_put (cs := #[.slice none 0 0]) ?_ 0 _ rfl; (with_reducible repeat (first | apply blk_drewN | apply blk_drew | apply blk_alloc)); exact BK311.out⟩
     have n3_ : Aside0 (Below w.heap.size w (w13.setCell ⟨gb311, 0, none⟩ (.slice Ao14 t307.length co14))) := ⟨by repeat (first | (with_reducible first | exact HB.out | apply below_alloc | apply pw_below_drewN | apply below_drew1 | refine below_set ?_ GE311.out) | exact HB.out)⟩; (try clear HO306); (try clear HO309); (try clear BK311); (try clear HB); generalize (w13.setCell ⟨gb311, 0, none⟩ (.slice Ao14 t307.length co14)) = w16 at n0_ n1_ n2_ n3_ ⊢; have HO306 := n0_; have HO309 := n1_; have BK311 := n2_; have HB := n3_; clear n0_ n1_ n2_ n3_; replace HO306 := am (Kd.S_drew HO306.out); replace HO309 := am (Kd.V_drew HO309.out); replace BK311 := am (blk_drew BK311.out); replace HB := am (below_drew1 HB.out); obtain ⟨i018, hi018, _, hsz18, _⟩ := info_parts info5; obtain ⟨A18, hcut18, hA18, hC18⟩ := print_mid_of (P := Try.prog) (Value.int .u8) 0 22 5 .i64 .i64 Try.underlying22 hi018 hsz18 A0 c0 l0 x3_1 (wrap64 (2 * x3_1)) (od_) (by first | omega | exact od_) (od_) HC0.out; have HR312 := am (Kd.C_of_reads (h1 := fun _ => rfl) (hA18 _ (Kd.reads_of_C HR0.out))); have HC312 := am hC18; clear hA18 hC18 hi018 hsz18
     refine start_ (n := 8) (S := fun w' => w'.cell? ⟨gb311, 0, none⟩ = some (.slice Ao14 t307.length co14)) (ds := []) #[false, false, false, false, false, false, false, false] (by kernel_rfl) rfl rfl ((blk_cell BK311.out 0).trans rfl) (fun hHeld => ?_); refine with_tabW spec_l8Locator.tab6 spec_l8Locator.bits6 (fun HT_ HW_ => ?_)
     generalize w16.drew = w17 at HO306 HO309 BK311 HB HR312 hHeld ⊢
     refine pu_ (i := 1) (some 26) #[false, true, false, false, false, false, false, false] HT_ ?_
     refine pu_ (i := 2) (some 27) #[false, true, true, false, false, false, false, false] HT_ ?_
     refine pu_ (i := 3) (some 28) #[false, true, true, true, false, false, false, false] HT_ ?_
     refine pu_ (i := 4) (some 29) #[false, true, true, true, true, false, false, false] HT_ ?_
     refine pu_ (i := 5) (some 30) #[false, true, true, true, true, true, false, false] HT_ ?_
     refine ta_ (i := 0) (some 25) #[true, true, true, true, true, true, false, false] HT_ HW_ hHeld ?_
     refine one_ (i := 6) (N := some 31) #[true, true, true, true, true, true, true, false] rfl rfl (one_of HT_.out (by kernel_rfl)) (by decide) (fun K hK => ?_)
     refine goes_ Try.func56 (by kernel_rfl) rfl #[.agg #[.slice Ao14 t307.length co14], .slice A18 ((l0.take ((wrap64 (2 * x3_1)) : Int).toNat).drop (x3_1 : Int).toNat).length (c0 - x3_1.toNat)] (by rfl) rfl rfl (by (try simp only [List.map_toArray, List.map_cons, List.map_nil]); first | done | (rw [show ((l0.take ((wrap64 (2 * x3_1)) : Int).toNat).drop (x3_1 : Int).toNat).length = ((wrap64 (2 * x3_1)).toNat - x3_1.toNat) from (by rw [List.length_drop, List.length_take]; have h_ : ((wrap64 (2 * x3_1)) : Int) ≤ (l0.length : Int) := od_; omega)] <;> rfl) | rfl | (simp only [List.length_drop, List.length_take]; rfl)) ?_
     with_reducible refine (spec_l2Apply.calls k1 _ _ t307 _ _ ((l0.take ((wrap64 (2 * x3_1)) : Int).toNat).drop (x3_1 : Int).toNat) t313 _ ?side1 ?side2 ?side3 ?side4 A9.out).mono ?_
     (case side1 => exact zC ((Kd.V_reads' HO309.out).2.2))
     (case side2 => exact (Kd.V_reads' HO309.out).2.1)
     (case side3 => exact zC (Kd.C_below HR312.out HB.out))
     (case side4 => exact HC312.out)
     rintro e w19 ⟨v314, rfl, ho0, hb⟩
     refine ⟨_, rfl, ?_⟩
     replace HO306 := am (Kd.S_elder' (zS HO306.out) (Kd.R_base ho0) hb)
     replace HO309 := am (Kd.V_elder' (zV HO309.out) (Kd.R_base ho0) hb)
     have HO315 := am (Kd.R_lower ho0 (zs_ HB.out))
     replace BK311 := am (blk_below (zK BK311.out) hb)
     replace HB := am (below_step (zB HB.out) hb); (try clear hb); (try clear ho0)
     refine hK.out _ _ ((blk_cell BK311.out 0).trans rfl) (fun hHeld => ?_)
     clear hK K
     refine norm_ (a' := ?_) ?_ ?_
     rotate_left
     ·show Act.put _ (some 31) _ = _
      simp only [Act.put, List.setIfInBounds_toArray, List.set_cons_zero, List.set_cons_succ, i64_w, i32_w]; rfl
     refine pu_ (i := 7) (some 6) #[true, true, true, true, true, true, true, true] HT_ ?_
     refine done_ (done_of HT_.out (by kernel_rfl)) ?_
     try go_wp2_with (first | ((with_reducible refine gate_dst (N := 32) rfl ?_); refine Kd.R_lit (Kd.int .u8) _ 5 ?hg (N := 32) ?hd (xs := ([1] : List Int)) (inner := [.int .u8 1]) (ok := fun _ => True) (okp := fun _ => True) ?hr ?hp (fun _ hk => hk) trivial (Below.refl _ _) (Nat.le_refl _) (by simp) ?_; (case hd => rfl); (case hg => rfl); (case hr => first | (go_simp; done) | (go_simp; rfl)); (case hp => exact (Reps.one (show Kd.M (Kd.int .u8) _ _ _ 1 [.int .u8 1] from rfl) (Reps.none _ _))); intro v317 w20 ho21 hb hg_ hnew_; clear hg_ hnew_; (first | rw [← Ny316.out] at ho21 | (simp only [Int.reduceToNat] at ho21; rw [← Ny316.out] at ho21)); replace HO306 := am (Kd.S_elder' (zS HO306.out) (Kd.R_base ho21) hb); replace HO309 := am (Kd.V_elder' (zV HO309.out) (Kd.R_base ho21) hb); have HO318 := am (Kd.R_lower (Kd.R_new' ho21 (Kd.R_lt (zR HO315.out))) (zs_ HB.out)); replace HO315 := am (Kd.R_elder' (zR HO315.out) (Kd.R_base ho21) hb); replace BK311 := am (blk_below (zK BK311.out) hb); replace HB := am (below_step (zB HB.out) hb); clear hb ho21))
     go_loopg [7, 8] k1 (fun kq v7 v8 w' => ∃ (x7_2 : List Int) (x8_2 : Int), v8 = .int .i64 x8_2 ∧ Aside0 (spec_l8Locator.l1 kq t313 x7_2 x8_2 = some r) ∧ Aside0 (kq ≤ k1) ∧ Aside0 (Kd.R (Kd.int .u8) 5 w' w.heap.size (fun k_ => some k_ ≠ (v7 : Value).ownBlock) v314 t313) ∧ Aside0 (Kd.R (Kd.int .u8) 5 w' w.heap.size (fun k_ => some k_ ≠ (v314 : Value).ownBlock) v7 x7_2) ∧ Aside0 (Kd.V (Kd.slice 5 (Kd.int .u8)) 22 w' w.heap.size (fun k_ => some k_ ≠ (v314 : Value).ownBlock ∧ some k_ ≠ (v7 : Value).ownBlock ∧ k_ ≠ gb311) (.slice Ao14 t307.length co14) t307) ∧ Aside0 (w'.heap[gb311]? = some (.cells #[(.slice Ao14 t307.length co14)] 52 (0, 0))) ∧ Aside0 (Below w.heap.size w w'))
     case atStart => exact ⟨(y316), (wrap64 (x3_1 - 1)), rfl, H', ⟨Nat.le_refl _⟩, ⟨zR (Kd.R_mono HO315.out (fun _ hk => hk.2))⟩, ⟨zR (Kd.R_mono HO318.out (fun _ hk => hk.2))⟩, ⟨zV (Kd.V_mono HO309.out (fun _ hk => ⟨hk.1.2, ⟨hk.2, hk.1.1.2⟩⟩))⟩, ⟨zK BK311.out⟩, ⟨zB HB.out⟩⟩
     case round =>
      clear H'; (try clear hfz15_0); obtain ⟨x7_2, x8_2, rfl, HA, HK2, HO_6, HO_7, HO_bb, BK311, HB⟩ := hrel
      cases gk with
      | zero => exact absurd HA.out (by simp [spec_l8Locator.l1])
      | succ k2 =>
       have H := HA.out; clear HA
       simp only [spec_l8Locator.l1] at H
       by_cases c22 : x8_2 ≥ 0
       ·rw [if_pos c22] at H; have c22b0 : decide (0 ≤ x8_2) = true := decide_eq_true c22; clear c22
        obtain ⟨c23, H⟩ := it_ H; have c23b0 := decide_eq_true c23; clear c23
        obtain ⟨c24, H⟩ := it_ H; have c24b0 := decide_eq_true c24; clear c24
        obtain ⟨c25, H⟩ := it_ H; have LMc25 := am c25; clear c25; obtain ⟨y320, hy320⟩ : ∃ y_ : List Int, y_ = (x7_2 ++ [rd t313 x8_2]) := ⟨_, rfl⟩
        replace H : (spec_l8Locator.l1 k2 t313 y320 (wrap64 (x8_2 - 1))) = some r := by first | (rw [hy320]; exact H) | (have H2_ := (Option.bind_some _ _).symm.trans H; first | exact H2_ | (rw [hy320]; exact H2_)) | exact H
        have Ny320 := am hy320; clear hy320; have H' := am H; clear H; obtain ⟨Ao26, co26, eo26⟩ := Kd.R_slice HO_6.out
        subst eo26
        have p319 : 0 ≤ (x8_2 : Int) := od_; have q319 : x8_2 < (t313.length : Int) := od_; obtain ⟨ad319, e319, hx319_0⟩ := Kd.at_int (Kd.R_reads' HO_6.out).2.2 x8_2 p319 q319; cases e319; replace p319 := eq_true p319; replace q319 := eq_true q319
        go_wp2_with (first | ((with_reducible refine gate_builtin (b := .append) (xs := #[.tmp 39, .tmp 44]) rfl ?_); at_builtin; refine Kd.R_append (Kd.int .u8) (w0 := w) w.heap.size rfl (.tmp 39) (.tmp 44) 22 5 (.int .u8 0) 1 rfl Try.underlying22 info5 rfl (by decide) (by omega) u7 x7_2 (rd t313 x8_2) [.int .u8 (rd t313 x8_2)] (fun k_ => some k_ ≠ (.slice (some ad319) t313.length co26 : Value).ownBlock) (fun _ => False) rfl rfl ?aP (fun _ hk => hk.elim) ?aF ?aO ?aB ?aS ?aL ?_; (case aP => exact rfl); (case aB => exact (zB HB.out)); (case aF => exact (fun k_ hk => Kd.fresh' (Kd.R_lt (zR HO_6.out)) k_ hk)); (case aO => exact (zR HO_7.out)); (case aS => exact (zs_ HB.out)); (case aL => have := LMc25.out; omega); intro v321 w27 ho hb hg hat; rw [← Ny320.out] at ho; replace HO_6 := am (Kd.R_after (ok := (fun _ => True)) (zR (Kd.R_mono HO_6.out (fun _ hk => ⟨trivial, hk⟩))) hg hat); replace HO_bb := am (Kd.V_afterv (ok := (fun k_ => some k_ ≠ (.slice (some ad319) t313.length co26 : Value).ownBlock ∧ k_ ≠ gb311)) (zV (Kd.V_mono HO_bb.out (fun _ hk => ⟨⟨hk.1, hk.2.2⟩, hk.2.1⟩))) hg hat); replace BK311 := am (blk_grown (zK BK311.out) hg (Kd.R_ne HO_7.out BK311.out (by decide))); replace HB := am (hb); have HO322 := am (ho); (try clear HO_7); clear ho hb hg hat))
        go_roundg k2
        case measure => have := HK1.out; have := HK2.out; omega
        case rel => exact ⟨(y320), (wrap64 (x8_2 - 1)), rfl, H', ⟨by have := HK1.out; have := HK2.out; omega⟩, ⟨zR (Kd.R_mono HO_6.out (fun _ hk => hk.2))⟩, ⟨zR HO322.out⟩, ⟨zV (Kd.V_mono HO_bb.out (fun _ hk => ⟨hk.1.1, ⟨hk.2, hk.1.2⟩⟩))⟩, ⟨zK BK311.out⟩, ⟨zB HB.out⟩⟩
       ·rw [if_neg c22] at H; have c22b0 : decide (0 ≤ x8_2) = false := decide_eq_false c22; clear c22; obtain rfl := Option.some.inj H
        go_wp2
        go_ret
        exact ⟨_, rfl, zR (Kd.R_mono HO_7.out (fun _ hk => trivial)), zB HB.out⟩
    ·replace c5 := Bool.eq_false_iff.mpr c5
     subst c5
     have H1 : (spec_l8Locator.l0 k1 l0 (wrap64 (x3_1 - 1))) = some r := by rw [if_neg (show ¬ (false = true) by decide)] at H; exact H
     clear H; have H := H1; clear H1; have H' := am H; clear H
     go_wp2_with (first | ((with_reducible refine gate_callee (f := 73) rfl ?_); refine goL_ (some 19) Try.func73 #[.slice A0 l0.length c0, .int .i64 x3_1] ?_; (with_reducible refine (spec_l8Hankel.calls k1 _ _ l0 x3_1 t304 _ ?side1 ?side2 A3.out).mono ?_); (case side1 => exact zC (Kd.C_below HR0.out HB.out)); (case side2 => exact HC0.out); rintro e w28 ⟨v305, rfl, ho0, hb⟩; refine ⟨_, rfl, ?_⟩; have HO306 := am (Kd.S_lower ho0 (zs_ HB.out)); replace HB := am (below_step (zB HB.out) hb); (try clear hb); (try clear ho0); obtain ⟨Ao29, co29, eo29⟩ := Kd.S_slice HO306.out; subst eo29) | ((with_reducible refine gate_callee (f := 55) rfl ?_); refine goL_ (some 20) Try.func55 #[.agg #[.slice Ao29 t304.length co29]] ?_; (with_reducible refine (spec_l2Inverse.calls k1 _ _ t304 t307 false _ ?side1 ?side2 A4.out).mono ?_); (case side1 => exact zC ((Kd.S_reads' HO306.out).2.2)); (case side2 => exact (Kd.S_reads' HO306.out).2.1); rintro e w30 ⟨v308, rfl, ho0, hb⟩; refine ⟨_, rfl, ?_⟩; have HO309 := am (Kd.V_lower (Kd.V_mono (ok' := fun k_ => some k_ ≠ (.slice Ao29 t304.length co29 : Value).ownBlock) (Kd.V_bound ho0) (fun k_ hk0_ => have hk_ := And.intro trivial hk0_; (Kd.fresh' (Kd.S_lt (zS HO306.out)) k_ hk_.2.1))) (zs_ HB.out)); replace HO306 := am (Kd.S_below (zS HO306.out) hb); replace HB := am (below_step (zB HB.out) hb); (try clear hb); (try clear ho0)) | ((with_reducible refine gate_dst (N := 4) rfl ?_); refine box_event ?hg (N := 4) ?hd (cs := #[.slice none 0 0]) (t := 52) ?hr ?_; (case hd => rfl); (case hg => rfl); (case hr => first | (go_simp; done) | (go_simp; rfl)); intro gb311 hg w31 hbox hb; replace HO306 := am (Kd.S_below (zS HO306.out) hb); replace HO309 := am (Kd.V_below (Kd.V_elderB (zV HO309.out) gb311 (Nat.le_of_eq hg.symm)) hb); have BK311 := am (hbox); have GW311 := am ((gw_ hg HB.out : w.heap.size ≤ gb311)); have GE311 := am ((gw_ hg HB.out : w.heap.size ≤ gb311)); replace HB := am (below_step (zB HB.out) hb); clear hb hbox hg; obtain ⟨Ao32, co32, eo32⟩ := Kd.V_slice HO309.out; subst eo32; have hcz33_0 : w31.cell? ⟨gb311, 0, none⟩ = some (.slice none 0 0) := (blk_cell BK311.out 0).trans rfl; have hfz33_0 := blk_frozen BK311.out 0))
     go_roundg k1
     case measure => have := HK1.out; omega
     case rel => exact ⟨(wrap64 (x3_1 - 1)), rf_, H', ⟨by have := HK1.out; omega⟩, ⟨by repeat (first | (with_reducible first | exact HB.out | apply below_alloc | apply pw_below_drewN | apply below_drew1 | refine below_set ?_ GE311.out) | exact HB.out)⟩⟩
   ·rw [if_neg c2] at H; have c2b0 : decide (0 < x3_1) = false := decide_eq_false c2; clear c2; (try rw [Option.bind_some] at H); generalize hy301 : (([1] : List Int)) = y301 at H; have Ny301 := am hy301.symm; clear hy301; obtain rfl := Option.some.inj H
    go_wp2_with (first | ((with_reducible refine gate_dst (N := 47) rfl ?_); refine Kd.R_lit (Kd.int .u8) _ 5 ?hg (N := 47) ?hd (xs := ([1] : List Int)) (inner := [.int .u8 1]) (ok := fun _ => True) (okp := fun _ => True) ?hr ?hp (fun _ hk => hk) trivial (Below.refl _ _) (Nat.le_refl _) (by simp) ?_; (case hd => rfl); (case hg => rfl); (case hr => first | (go_simp; done) | (go_simp; rfl)); (case hp => exact (Reps.one (show Kd.M (Kd.int .u8) _ _ _ 1 [.int .u8 1] from rfl) (Reps.none _ _))); intro v302 w34 ho35 hb hg_ hnew_; clear hg_ hnew_; (first | rw [← Ny301.out] at ho35 | (simp only [Int.reduceToNat] at ho35; rw [← Ny301.out] at ho35)); have HO303 := am (Kd.R_lower ho35 (zs_ HB.out)); replace HB := am (below_step (zB HB.out) hb); clear hb ho35))
    go_ret
    exact ⟨_, rfl, zR HO303.out, zB HB.out⟩

end Go.Proofs.Ytbloniemhkfnlaa.PFnSpaced
