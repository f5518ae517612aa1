/- A law's functions as plain Lean functions, each with the walk that shows that the code computes it: written by this session's program wip/tools/ppmake.py. -/
import Derived.Test.YtimajkahadhhhaaKZ
import Derived.Test.YtimajkahadhhhaaPFnExactStepPeelx0
import Derived.Test.YtimajkahadhhhaaPFnExactStepPeelx3
import Derived.Test.YtimajkahadhhhaaPFnExactStepPeelx4
namespace Go.Proofs.Ytimajkahadhhhaa.PFnExactStepPeel
open Go.RowKit Go.Proofs.YtimajkahadhhhaaW.PrintWords Go.Proofs.YtimajkahadhhhaaW.PrintLast Go.Proofs.YtimajkahadhhhaaW.PrintMore
attribute [local go_sem] max2_int min2_int max_two min_two max_three min_three max_four min_four   -- for this text's walks alone
set_option linter.unusedVariables false
set_option linter.unusedSimpArgs false

/-! ### spec_l9Step: function 53 -/
mutual
def spec_l9Step.l0 : Nat → List (S54) → Int → Int → List ByteArray → List Bool → Int → Option (List ByteArray × List Bool × Int × Bool)
 | 0, _, _, _, _, _, _ => none
 | k + 1, x14, x15, x16, xaa, xbb, x155002 => if x16 < x15 then (if 0 ≤ x16 then (if x16 < (x14.length : Int) then ((spec_l9Blocks.f k ((rd_T54 x14 x16).f0) (xaa.length : Int)).bind fun t158 => (spec_l9Step.l1 k (-1) 0 ((rd_T54 x14 x16).f1) x14 x15 x16 t158 (t158.length : Int) 0 xaa xbb x155002)) else (none)) else (none)) else (some (([] : List ByteArray), ([] : List Bool), 0, false))
def spec_l9Step.l1 : Nat → Int → Int → ByteArray → List (S54) → Int → Int → List Int → Int → Int → List ByteArray → List Bool → Int → Option (List ByteArray × List Bool × Int × Bool)
 | 0, _, _, _, _, _, _, _, _, _, _, _, _ => none
 | k + 1, x8, x9, x10, x14, x15, x16, x27, x28, x29, xaa, xbb, x155002 => if x29 < x28 then (if 0 ≤ x29 then (if x29 < (x27.length : Int) then (if 0 ≤ (rd x27 x29) then (if (rd x27 x29) < (xbb.length : Int) then (if rdOf false xbb (rd x27 x29) = true then (if (rd x27 x29) < (xaa.length : Int) then ((spec_l6Plus.f k x10 1 (rdOf ByteArray.empty xaa (rd x27 x29))).bind fun t164 => (spec_l9Step.l1 k x8 x9 t164 x14 x15 x16 x27 x28 (wrap64 (x29 + 1)) xaa xbb x155002)) else (none)) else (spec_l9Step.l1 k (rd x27 x29) (wrap64 (x9 + 1)) x10 x14 x15 x16 x27 x28 (wrap64 (x29 + 1)) xaa xbb x155002)) else (none)) else (none)) else (none)) else (none)) else (if x9 = 1 then ((some (([] : List ByteArray) : List ByteArray)).bind fun y165 => (if y165.length + xaa.length < 8796093022208 then ((some (y165 ++ xaa : List ByteArray)).bind fun y168 => ((some (([] : List Bool) : List Bool)).bind fun y171 => (if y171.length + xbb.length < 140737488355328 then ((some (y171 ++ xbb : List Bool)).bind fun y174 => (if 0 ≤ x8 then (if x8 < (y168.length : Int) then (if x8 < (y174.length : Int) then (some ((y168.set (x8 : Int).toNat x10), (y174.set (x8 : Int).toNat true), wrap64 (x155002 + 1), true)) else (none)) else (none)) else (none))) else (none)))) else (none))) else (spec_l9Step.l0 k x14 x15 (wrap64 (x16 + 1)) xaa xbb x155002))
end
def spec_l9Step.f (k : Nat) (l0 : List (S54)) (l1_0 : List ByteArray) (l1_1 : List Bool) (a1_2 : Int) : Option (List ByteArray × List Bool × Int × Bool) := spec_l9Step.l0 k l0 (l0.length : Int) 0 l1_0 l1_1 a1_2
theorem spec_l9Step.mono_l : ∀ k, (∀ y0 y1 y2 y3 y4 y5, LeO (spec_l9Step.l0 k y0 y1 y2 y3 y4 y5) (spec_l9Step.l0 (k + 1) y0 y1 y2 y3 y4 y5)) ∧ (∀ y0 y1 y2 y3 y4 y5 y6 y7 y8 y9 y10 y11, LeO (spec_l9Step.l1 k y0 y1 y2 y3 y4 y5 y6 y7 y8 y9 y10 y11) (spec_l9Step.l1 (k + 1) y0 y1 y2 y3 y4 y5 y6 y7 y8 y9 y10 y11))
 | 0 => ⟨fun _ _ _ _ _ _ r h => by simp [spec_l9Step.l0] at h, fun _ _ _ _ _ _ _ _ _ _ _ _ r h => by simp [spec_l9Step.l1] at h⟩
 | k + 1 => by
  obtain ⟨ih0, ih1⟩ := spec_l9Step.mono_l k
  refine ⟨?_, ?_⟩
  ·intro y0 y1 y2 y3 y4 y5
   unfold spec_l9Step.l0
   repeat' first
   | (with_reducible exact ih0 _ _ _ _ _ _)
   | (with_reducible exact ih1 _ _ _ _ _ _ _ _ _ _ _ _)
   | (with_reducible exact spec_l6Plus.mono _ _ _ _)
   | (with_reducible exact spec_l9Blocks.mono _ _ _)
   | (with_reducible exact LeO.refl _)
   | (with_reducible exact LeO.none _)
   | (with_reducible refine LeO.ite ?_ ?_)
   | (with_reducible refine LeO.bind ?_ (fun _ => ?_))
   | exact ih0 _ _ _ _ _ _
   | exact ih1 _ _ _ _ _ _ _ _ _ _ _ _
   | exact spec_l6Plus.mono _ _ _ _
   | exact spec_l9Blocks.mono _ _ _
   | exact LeO.none _
   | refine LeO.ite ?_ ?_
   | refine LeO.bind ?_ (fun _ => ?_)
  ·intro y0 y1 y2 y3 y4 y5 y6 y7 y8 y9 y10 y11
   unfold spec_l9Step.l1
   repeat' first | apply LeO.refl | apply LeO.none | apply LeO.ite | apply ih0 | apply ih1 | apply spec_l6Plus.mono | apply spec_l9Blocks.mono | (refine LeO.bind ?_ (fun _ => ?_))
theorem spec_l9Step.mono : ∀ a0 a1 a2 a3 k, LeO (spec_l9Step.f k a0 a1 a2 a3) (spec_l9Step.f (k + 1) a0 a1 a2 a3) := by
 intro a0 a1 a2 a3 k; obtain ⟨ih0, ih1⟩ := spec_l9Step.mono_l k
 unfold spec_l9Step.f
 repeat' first | apply LeO.refl | apply LeO.none | apply LeO.ite | apply ih0 | apply ih1 | apply spec_l6Plus.mono | apply spec_l9Blocks.mono | (refine LeO.bind ?_ (fun _ => ?_))
def spec_l9Step.T16 : Bool × List (List Nat × List Nat) := (true, [([], []), ([], []), ([1], [1]), ([0, 2], [0, 2]), ([], []), ([], []), ([5], [5]), ([4, 6, 3], [4, 6]), ([], []), ([8], [8]), ([9], [9]), ([3, 7, 10], [3, 7, 10]), ([], []), ([12, 11, 7, 0, 1, 2, 3, 4, 5, 6, 7, 8, 9, 10, 11, 12], [11, 12])])
def spec_l9Step.B16 : List Nat := [0, 0, 2, 7, 0, 0, 32, 127, 0, 256, 768, 2047, 0, 8191]
theorem spec_l9Step.tab16 : rtab .any (opsOf Try.f53 16) = spec_l9Step.T16 := by kernel_rfl
theorem spec_l9Step.bits16 : waitsOk spec_l9Step.T16.2 spec_l9Step.B16 = true := by kernel_rfl
set_option maxHeartbeats 8000000 in
set_option maxRecDepth 100000 in
theorem spec_l9Step.calls (k : Nat) (A0 : Option Addr) (c0 : Nat) (l0 : List (S54)) (A1_0 : Option Addr) (c1_0 : Nat) (l1_0 : List ByteArray) (A1_1 : Option Addr) (c1_1 : Nat) (l1_1 : List Bool) (a1_2 : Int) (r1 : List ByteArray) (r2 : List Bool) (r3 : Int) (r4 : Bool) (w : World) (hr0 : Kd.C k54 w A0 l0.length l0) (hc0 : l0.length ≤ c0) (hr1_0 : Kd.C Kd.string w A1_0 l1_0.length l1_0) (hc1_0 : l1_0.length ≤ c1_0) (hr1_1 : Kd.C Kd.bool w A1_1 l1_1.length l1_1) (hc1_1 : l1_1.length ≤ c1_1) (h : spec_l9Step.f k l0 l1_0 l1_1 a1_2 = some (r1, r2, r3, r4)) :
  Calls Try.prog 53 #[.slice A0 l0.length c0, .agg #[.slice A1_0 l1_0.length c1_0, .slice A1_1 l1_1.length c1_1, .int .i64 a1_2]] w fun e w' => ∃ v0_ v1_ : Value, e = .returned (.tuple #[.agg #[v0_, v1_, .int .i64 r3], .bool r4]) ∧ Kd.R Kd.string 9 w' w.heap.size (fun _ => True) v0_ r1 ∧ Kd.R Kd.bool 4 w' w.heap.size (fun _ => True) v1_ r2 ∧ Below w.heap.size w w' := by
 have hu35 := Try.underlying35; have hu54 := Try.underlying54; have HR0 := am hr0; have HC0 := am hc0; clear hr0 hc0; have HR1_0 := am hr1_0; have HC1_0 := am hc1_0; clear hr1_0 hc1_0; have HR1_1 := am hr1_1; have HC1_1 := am hc1_1; clear hr1_1 hc1_1; have HB := am (Below.refl w.heap.size w); have H : (spec_l9Step.l0 k l0 (l0.length : Int) 0 l1_0 l1_1 a1_2) = some (r1, r2, r3, r4) := h; clear h; have H' := am H; clear H
 go_enter Try.func53, Try.ntmps53
 go_wp2_with (first | ((with_reducible refine gate_dst (N := 3) rfl ?_); refine box_event ?hg (N := 3) ?hd (cs := #[.slice A1_0 l1_0.length c1_0, .slice A1_1 l1_1.length c1_1, .int .i64 a1_2]) (t := 35) ?hr ?_; (case hd => rfl); (case hg => rfl); (case hr => first | (go_simp; done) | (go_simp; rfl)); intro gb154 hg w3 hbox hb; have BK154 := am (hbox); have GW154 := am ((gw_ hg HB.out : w.heap.size ≤ gb154)); have GE154 := am ((gw_ hg HB.out : w.heap.size ≤ gb154)); replace HB := am (below_step (zB HB.out) hb); clear hb hbox hg) | ((with_reducible refine gate_dst (N := 4) rfl ?_); refine box_event ?hg (N := 4) ?hd (cs := #[.slice none 0 0, .slice none 0 0, .int .i64 0]) (t := 35) ?hr ?_; (case hd => rfl); (case hg => rfl); (case hr => first | (go_simp; done) | (go_simp; rfl)); intro gb155 hg w4 hbox hb; have BK155 := am (hbox); have GW155 := am ((gw_ hg HB.out : w.heap.size ≤ gb155)); have GE155 := am ((gw_ hg HB.out : w.heap.size ≤ gb155)); replace HB := am (below_step (zB HB.out) hb); have NB154_155 := am ((by rw [hg]; exact Nat.ne_of_lt (blk_lt (zK BK154.out)) : gb154 ≠ gb155)); have NB155_154 := am ((by rw [hg]; exact Nat.ne_of_gt (blk_lt (zK BK154.out)) : gb155 ≠ gb154)); replace BK154 := am (blk_below (zK BK154.out) hb); clear hb hbox hg))
 go_loopg [16] k (fun kq v16 w' => ∃ (x16_1 : Int) (xdd_1 : Int), v16 = .int .i64 x16_1 ∧ Aside0 (spec_l9Step.l0 kq l0 (l0.length : Int) x16_1 l1_0 l1_1 a1_2 = some (r1, r2, r3, r4)) ∧ Aside0 (kq ≤ k) ∧ Aside0 (w'.heap[gb154]? = some (.cells #[(.slice A1_0 l1_0.length c1_0), (.slice A1_1 l1_1.length c1_1), .int .i64 a1_2] 35 (0, 0))) ∧ Aside0 (w'.heap[gb155]? = some (.cells #[(.slice none 0 0), (.slice none 0 0), .int .i64 xdd_1] 35 (0, 0))) ∧ Aside0 (Below w.heap.size w w'))
 case atStart => exact ⟨(0), (0), rfl, H', ⟨Nat.le_refl _⟩, ⟨zK BK154.out⟩, ⟨zK BK155.out⟩, ⟨zB HB.out⟩⟩
 case round =>
  clear H'; obtain ⟨x16_1, xdd_1, rfl, HA, HK1, BK154, BK155, HB⟩ := hrel
  cases gk with
  | zero => exact absurd HA.out (by simp [spec_l9Step.l0])
  | succ k1 =>
   have H := HA.out; clear HA
   simp only [spec_l9Step.l0] at H
   by_cases c5 : x16_1 < (l0.length : Int)
   ·rw [if_pos c5] at H; have c5b0 := decide_eq_true c5; clear c5
    obtain ⟨c6, H⟩ := it_ H; have c6b0 := decide_eq_true c6; clear c6
    obtain ⟨c7, H⟩ := it_ H; have c7b0 := decide_eq_true c7; clear c7; obtain ⟨t158, A8, H⟩ := bi_ H; have H' := am H; clear H; have p156 : 0 ≤ (x16_1 : Int) := od_; have q156 : x16_1 < (l0.length : Int) := od_; obtain ⟨ad156, e156, hx156_0, hx156_1⟩ := at_T54 HR0.out x16_1 p156 q156; cases e156; replace hx156_0 := (HB.out.cell (World.block_lt_of_cell? w _ hx156_0)).trans hx156_0; replace hx156_1 := (HB.out.cell (World.block_lt_of_cell? w _ hx156_1)).trans hx156_1; replace p156 := eq_true p156; replace q156 := eq_true q156
    go_wp2_with (first | ((with_reducible refine gate_dst (N := 7) rfl ?_); refine box_event ?hg (N := 7) ?hd (cs := #[.int .i64 0, .string (⟨#[]⟩ : ByteArray)]) (t := 54) ?hr ?_; (case hd => rfl); (case hg => rfl); (case hr => first | (go_simp; done) | (go_simp; rfl)); intro gb157 hg w9 hbox hb; have BK157 := am (hbox); have GW157 := am ((gw_ hg HB.out : w.heap.size ≤ gb157)); have GE157 := am ((gw_ hg HB.out : w.heap.size ≤ gb157)); replace HB := am (below_step (by repeat (first | (with_reducible first | exact HB.out | apply below_alloc | apply pw_below_drewN | apply below_drew1 | refine below_set ?_ GE154.out | refine below_set ?_ GE155.out) | exact HB.out)) hb); have NB154_157 := am ((by rw [hg]; exact Nat.ne_of_lt (blk_lt (zK BK154.out)) : gb154 ≠ gb157)); have NB157_154 := am ((by rw [hg]; exact Nat.ne_of_gt (blk_lt (zK BK154.out)) : gb157 ≠ gb154)); replace BK154 := am (blk_below (zK BK154.out) hb); have NB155_157 := am ((by rw [hg]; exact Nat.ne_of_lt (blk_lt (zK BK155.out)) : gb155 ≠ gb157)); have NB157_155 := am ((by rw [hg]; exact Nat.ne_of_gt (blk_lt (zK BK155.out)) : gb157 ≠ gb155)); replace BK155 := am (blk_below (zK BK155.out) hb); clear hb hbox hg; have hnb10 := NB157_154.out; have hnc10 := NB154_157.out; have hnb11 := NB157_155.out; have hnc11 := NB155_157.out; have hcz12_0 : w9.cell? ⟨gb157, 0, none⟩ = some (.int .i64 0) := (blk_cell BK157.out 0).trans rfl; have hcz12_1 : w9.cell? ⟨gb157, 1, none⟩ = some (.string (⟨#[]⟩ : ByteArray)) := (blk_cell BK157.out 1).trans rfl; have hfz12_0 := blk_frozen BK157.out 0; have hfz12_1 := blk_frozen BK157.out 1; have hnb13 := NB154_155.out; have hnc13 := NB155_154.out; have hcz14_0 : w9.cell? ⟨gb154, 0, none⟩ = some (.slice A1_0 l1_0.length c1_0) := (blk_cell BK154.out 0).trans rfl; have hcz14_1 : w9.cell? ⟨gb154, 1, none⟩ = some (.slice A1_1 l1_1.length c1_1) := (blk_cell BK154.out 1).trans rfl; have hcz14_2 : w9.cell? ⟨gb154, 2, none⟩ = some (.int .i64 a1_2) := (blk_cell BK154.out 2).trans rfl; have hfz14_0 := blk_frozen BK154.out 0; have hfz14_1 := blk_frozen BK154.out 1; have hfz14_2 := blk_frozen BK154.out 2) | ((with_reducible refine gate_callee (f := 69) rfl ?_); refine goL_ (some 27) Try.func69 #[.int .i64 ((rd_T54 l0 x16_1).f0), .int .i64 (l1_0.length : Int)] ?_; (with_reducible refine (spec_l9Blocks.calls k1 ((rd_T54 l0 x16_1).f0) (l1_0.length : Int) t158 _ A8.out).mono ?_); rintro e w15 ⟨v159, rfl, ho0, hb⟩; refine ⟨_, rfl, ?_⟩; have HO160 := am (Kd.R_lower ho0 (zs_ HB.out)); replace BK154 := am (blk_below (g := gb154) (o := .cells #[.slice A1_0 l1_0.length c1_0, .slice A1_1 l1_1.length c1_1, .int .i64 a1_2] 35 (0, 0)) (by (with_reducible repeat (first | apply blk_drewN | apply blk_drew | apply blk_alloc)); refine blk_far ?_ NB154_157.out _; (with_reducible repeat (first | apply blk_drewN | apply blk_drew | apply blk_alloc)); refine blk_far ?_ NB154_157.out _; (with_reducible repeat (first | apply blk_drewN | apply blk_drew | apply blk_alloc)); exact BK154.out) hb); replace BK155 := am (blk_below (g := gb155) (o := .cells #[.slice none 0 0, .slice none 0 0, .int .i64 xdd_1] 35 (0, 0)) (by (with_reducible repeat (first | apply blk_drewN | apply blk_drew | apply blk_alloc)); refine blk_far ?_ NB155_157.out _; (with_reducible repeat (first | apply blk_drewN | apply blk_drew | apply blk_alloc)); refine blk_far ?_ NB155_157.out _; (with_reducible repeat (first | apply blk_drewN | apply blk_drew | apply blk_alloc)); exact BK155.out) hb); replace BK157 := am (blk_below (g := gb157) (o := .cells #[.int .i64 ((rd_T54 l0 x16_1).f0), .string ((rd_T54 l0 x16_1).f1)] 54 (0, 0)) (by (with_reducible repeat (first | apply blk_drewN | apply blk_drew | apply blk_alloc)); refine blk_put (cs := #[.int .i64 ((rd_T54 l0 x16_1).f0), .string (⟨#[]⟩ : ByteArray)]) ?_ 1 _ rfl; (with_reducible repeat (first | apply blk_drewN | apply blk_drew | apply blk_alloc)); refine blk_put (cs := #[.int .i64 0, .string (⟨#[]⟩ : ByteArray)]) ?_ 0 _ rfl; (with_reducible repeat (first | apply blk_drewN | apply blk_drew | apply blk_alloc)); exact BK157.out) hb); replace HB := am (below_step (by repeat (first | (with_reducible first | exact HB.out | apply below_alloc | apply pw_below_drewN | apply below_drew1 | refine below_set ?_ GE154.out | refine below_set ?_ GE155.out | refine below_set ?_ GE157.out) | exact HB.out)) hb); (try clear hb); (try clear ho0); obtain ⟨Ao16, co16, eo16⟩ := Kd.R_slice HO160.out; subst eo16))
    go_loopg [8, 9, 10, 29] k1 (fun kq v8 v9 v10 v29 w' => ∃ (x8_2 : Int) (x9_2 : Int) (x10_2 : ByteArray) (x29_2 : Int), v8 = .int .i64 x8_2 ∧ v9 = .int .i64 x9_2 ∧ v10 = .string x10_2 ∧ v29 = .int .i64 x29_2 ∧ Aside0 (spec_l9Step.l1 kq x8_2 x9_2 x10_2 l0 (l0.length : Int) x16_1 t158 (t158.length : Int) x29_2 l1_0 l1_1 a1_2 = some (r1, r2, r3, r4)) ∧ Aside0 (kq ≤ k1) ∧ Aside0 (Kd.R (Kd.int .i64) 3 w' w.heap.size (fun _ => True) (.slice Ao16 t158.length co16) t158) ∧ Aside0 (w'.heap[gb154]? = some (.cells #[(.slice A1_0 l1_0.length c1_0), (.slice A1_1 l1_1.length c1_1), .int .i64 a1_2] 35 (0, 0))) ∧ Aside0 (w'.heap[gb155]? = some (.cells #[(.slice none 0 0), (.slice none 0 0), .int .i64 xdd_1] 35 (0, 0))) ∧ Aside0 (w'.heap[gb157]? = some (.cells #[.int .i64 ((rd_T54 l0 x16_1).f0), .string ((rd_T54 l0 x16_1).f1)] 54 (0, 0))) ∧ Aside0 (Below w.heap.size w w'))
    case atStart => exact ⟨((-1)), (0), ((rd_T54 l0 x16_1).f1), (0), rfl, rfl, rfl, rfl, H', ⟨Nat.le_refl _⟩, ⟨zR HO160.out⟩, ⟨zK BK154.out⟩, ⟨zK BK155.out⟩, ⟨zK BK157.out⟩, ⟨zB HB.out⟩⟩
    case round =>
     clear H'; (try clear hfz12_0); (try clear hfz12_1); (try clear hfz14_0); (try clear hfz14_1); (try clear hfz14_2); obtain ⟨x8_2, x9_2, x10_2, x29_2, rfl, rfl, rfl, rfl, HA, HK2, HO_27, BK154, BK155, BK157, HB⟩ := hrel
     cases gk with
     | zero => exact absurd HA.out (by simp [spec_l9Step.l1])
     | succ k2 =>
      have H := HA.out; clear HA
      simp only [spec_l9Step.l1] at H
      by_cases c17 : x29_2 < (t158.length : Int)
      ·rw [if_pos c17] at H; have c17b0 := decide_eq_true c17; clear c17
       obtain ⟨c18, H⟩ := it_ H; have c18b0 := decide_eq_true c18; clear c18
       obtain ⟨c19, H⟩ := it_ H; have c19b0 := decide_eq_true c19; clear c19
       obtain ⟨c20, H⟩ := it_ H; have c20b0 := decide_eq_true c20; clear c20
       obtain ⟨c21, H⟩ := it_ H; have c21b0 := decide_eq_true c21; clear c21; obtain ⟨bq22, hbq22⟩ : ∃ b_ : Bool, b_ = (rdOf false l1_1 (rd t158 x29_2)) := ⟨_, rfl⟩
       replace H : (if bq22 = true then (if (rd t158 x29_2) < (l1_0.length : Int) then ((spec_l6Plus.f k2 x10_2 1 (rdOf ByteArray.empty l1_0 (rd t158 x29_2))).bind fun t164 => (spec_l9Step.l1 k2 x8_2 x9_2 t164 l0 (l0.length : Int) x16_1 t158 (t158.length : Int) (wrap64 (x29_2 + 1)) l1_0 l1_1 a1_2)) else (none)) else (spec_l9Step.l1 k2 (rd t158 x29_2) (wrap64 (x9_2 + 1)) x10_2 l0 (l0.length : Int) x16_1 t158 (t158.length : Int) (wrap64 (x29_2 + 1)) l1_0 l1_1 a1_2)) = some (r1, r2, r3, r4) := by rw [← hbq22] at H; exact H
       have Nbq22 := am hbq22; clear hbq22
       by_cases c23 : bq22 = true
       ·subst c23
        have H1 : (if (rd t158 x29_2) < (l1_0.length : Int) then ((spec_l6Plus.f k2 x10_2 1 (rdOf ByteArray.empty l1_0 (rd t158 x29_2))).bind fun t164 => (spec_l9Step.l1 k2 x8_2 x9_2 t164 l0 (l0.length : Int) x16_1 t158 (t158.length : Int) (wrap64 (x29_2 + 1)) l1_0 l1_1 a1_2)) else (none)) = some (r1, r2, r3, r4) := by rw [if_pos rfl] at H; exact H
        clear H; have H := H1; clear H1
        obtain ⟨c24, H⟩ := it_ H; have c24b0 := decide_eq_true c24; clear c24; obtain ⟨t164, A25, H⟩ := bi_ H; have H' := am H; clear H; have p161 : 0 ≤ (x29_2 : Int) := od_; have q161 : x29_2 < (t158.length : Int) := od_; obtain ⟨ad161, e161, hx161_0⟩ := Kd.at_int (Kd.R_reads' HO_27.out).2.2 x29_2 p161 q161; cases e161; replace p161 := eq_true p161; replace q161 := eq_true q161; have hnb26 := NB154_155.out; have hnc26 := NB155_154.out; have hnb27 := NB154_157.out; have hnc27 := NB157_154.out; have hcz28_0 : wr.cell? ⟨gb154, 0, none⟩ = some (.slice A1_0 l1_0.length c1_0) := (blk_cell BK154.out 0).trans rfl; have hcz28_1 : wr.cell? ⟨gb154, 1, none⟩ = some (.slice A1_1 l1_1.length c1_1) := (blk_cell BK154.out 1).trans rfl; have hcz28_2 : wr.cell? ⟨gb154, 2, none⟩ = some (.int .i64 a1_2) := (blk_cell BK154.out 2).trans rfl; have hfz28_0 := blk_frozen BK154.out 0; have hfz28_1 := blk_frozen BK154.out 1; have hfz28_2 := blk_frozen BK154.out 2; have p162 : 0 ≤ ((rd t158 x29_2) : Int) := od_; have q162 : (rd t158 x29_2) < (l1_1.length : Int) := od_; obtain ⟨ad162, e162, hx162_0⟩ := Kd.at_bool HR1_1.out (rd t158 x29_2) p162 q162
        (try rw [← Nbq22.out] at hx162_0)
        cases e162; replace hx162_0 := (HB.out.cell (World.block_lt_of_cell? w _ hx162_0)).trans hx162_0; replace p162 := eq_true p162; replace q162 := eq_true q162; have p163 : 0 ≤ ((rd t158 x29_2) : Int) := od_; have q163 : (rd t158 x29_2) < (l1_0.length : Int) := od_; obtain ⟨ad163, e163, hx163_0⟩ := Kd.at_string HR1_0.out (rd t158 x29_2) p163 q163; cases e163; replace hx163_0 := (HB.out.cell (World.block_lt_of_cell? w _ hx163_0)).trans hx163_0; replace p163 := eq_true p163; replace q163 := eq_true q163
        go_wp2_with (first | ((with_reducible refine gate_callee (f := 82) rfl ?_); refine goL_ (some 44) Try.func82 #[.string x10_2, .int .u8 1, .string (rdOf ByteArray.empty l1_0 (rd t158 x29_2))] ?_; (with_reducible refine (spec_l6Plus.calls k2 x10_2 1 (rdOf ByteArray.empty l1_0 (rd t158 x29_2)) t164 _ A25.out).mono ?_); rintro e w29 ⟨rfl, hb⟩; refine ⟨_, rfl, ?_⟩; replace HO_27 := am (Kd.R_below (zR HO_27.out) hb); replace BK154 := am (blk_below (zK BK154.out) hb); replace BK155 := am (blk_below (zK BK155.out) hb); replace BK157 := am (blk_below (zK BK157.out) hb); replace HB := am (below_step (zB HB.out) hb); (try clear hb); (try clear hb2); (try clear hk); (try clear hi)))
        go_roundg k2
        case measure => have := HK1.out; have := HK2.out; omega
        case rel => exact ⟨(x8_2), (x9_2), (t164), (wrap64 (x29_2 + 1)), rfl, rfl, rfl, rfl, H', ⟨by have := HK1.out; have := HK2.out; omega⟩, ⟨zR HO_27.out⟩, ⟨zK BK154.out⟩, ⟨zK BK155.out⟩, ⟨zK BK157.out⟩, ⟨zB HB.out⟩⟩
       ·replace c23 := Bool.eq_false_iff.mpr c23
        subst c23
        have H1 : (spec_l9Step.l1 k2 (rd t158 x29_2) (wrap64 (x9_2 + 1)) x10_2 l0 (l0.length : Int) x16_1 t158 (t158.length : Int) (wrap64 (x29_2 + 1)) l1_0 l1_1 a1_2) = some (r1, r2, r3, r4) := by rw [if_neg (show ¬ (false = true) by decide)] at H; exact H
        clear H; have H := H1; clear H1; have H' := am H; clear H; have p161 : 0 ≤ (x29_2 : Int) := od_; have q161 : x29_2 < (t158.length : Int) := od_; obtain ⟨ad161, e161, hx161_0⟩ := Kd.at_int (Kd.R_reads' HO_27.out).2.2 x29_2 p161 q161; cases e161; replace p161 := eq_true p161; replace q161 := eq_true q161; have hnb30 := NB154_155.out; have hnc30 := NB155_154.out; have hnb31 := NB154_157.out; have hnc31 := NB157_154.out; have hcz32_0 : wr.cell? ⟨gb154, 0, none⟩ = some (.slice A1_0 l1_0.length c1_0) := (blk_cell BK154.out 0).trans rfl; have hcz32_1 : wr.cell? ⟨gb154, 1, none⟩ = some (.slice A1_1 l1_1.length c1_1) := (blk_cell BK154.out 1).trans rfl; have hcz32_2 : wr.cell? ⟨gb154, 2, none⟩ = some (.int .i64 a1_2) := (blk_cell BK154.out 2).trans rfl; have hfz32_0 := blk_frozen BK154.out 0; have hfz32_1 := blk_frozen BK154.out 1; have hfz32_2 := blk_frozen BK154.out 2; have p162 : 0 ≤ ((rd t158 x29_2) : Int) := od_; have q162 : (rd t158 x29_2) < (l1_1.length : Int) := od_; obtain ⟨ad162, e162, hx162_0⟩ := Kd.at_bool HR1_1.out (rd t158 x29_2) p162 q162
        (try rw [← Nbq22.out] at hx162_0)
        cases e162; replace hx162_0 := (HB.out.cell (World.block_lt_of_cell? w _ hx162_0)).trans hx162_0; replace p162 := eq_true p162; replace q162 := eq_true q162
        go_wp2
        go_roundg k2
        case measure => have := HK1.out; have := HK2.out; omega
        case rel => exact ⟨(rd t158 x29_2), (wrap64 (x9_2 + 1)), (x10_2), (wrap64 (x29_2 + 1)), rfl, rfl, rfl, rfl, H', ⟨by have := HK1.out; have := HK2.out; omega⟩, ⟨zR HO_27.out⟩, ⟨zK BK154.out⟩, ⟨zK BK155.out⟩, ⟨zK BK157.out⟩, ⟨zB HB.out⟩⟩
      ·rw [if_neg c17] at H; have c17b0 := decide_eq_false c17; clear c17
       by_cases c33 : x9_2 = 1
       ·rw [if_pos c33] at H; have c33b0 : (x9_2 == 1) = true := beq_iff_eq.mpr c33; have c33b1 : (x9_2 != 1) = false := bne_eq_false_iff_eq.mpr c33; clear c33; obtain ⟨y165, hy165⟩ : ∃ y_ : List ByteArray, y_ = (([] : List ByteArray)) := ⟨_, rfl⟩
        replace H : (if y165.length + l1_0.length < 8796093022208 then ((some (y165 ++ l1_0 : List ByteArray)).bind fun y168 => ((some (([] : List Bool) : List Bool)).bind fun y171 => (if y171.length + l1_1.length < 140737488355328 then ((some (y171 ++ l1_1 : List Bool)).bind fun y174 => (if 0 ≤ x8_2 then (if x8_2 < (y168.length : Int) then (if x8_2 < (y174.length : Int) then (some ((y168.set (x8_2 : Int).toNat x10_2), (y174.set (x8_2 : Int).toNat true), wrap64 (a1_2 + 1), true)) else (none)) else (none)) else (none))) else (none)))) else (none)) = some (r1, r2, r3, r4) := by first | (rw [hy165]; exact H) | (have H2_ := (Option.bind_some _ _).symm.trans H; first | exact H2_ | (rw [hy165]; exact H2_)) | exact H
        have Ny165 := am hy165; clear hy165
        obtain ⟨c34, H⟩ := it_ H; have LMc34 := am c34; clear c34; obtain ⟨y168, hy168⟩ : ∃ y_ : List ByteArray, y_ = (y165 ++ l1_0) := ⟨_, rfl⟩
        replace H : ((some (([] : List Bool) : List Bool)).bind fun y171 => (if y171.length + l1_1.length < 140737488355328 then ((some (y171 ++ l1_1 : List Bool)).bind fun y174 => (if 0 ≤ x8_2 then (if x8_2 < (y168.length : Int) then (if x8_2 < (y174.length : Int) then (some ((y168.set (x8_2 : Int).toNat x10_2), (y174.set (x8_2 : Int).toNat true), wrap64 (a1_2 + 1), true)) else (none)) else (none)) else (none))) else (none))) = some (r1, r2, r3, r4) := by first | (rw [hy168]; exact H) | (have H2_ := (Option.bind_some _ _).symm.trans H; first | exact H2_ | (rw [hy168]; exact H2_)) | exact H
        have Ny168 := am hy168; clear hy168; obtain ⟨y171, hy171⟩ : ∃ y_ : List Bool, y_ = (([] : List Bool)) := ⟨_, rfl⟩
        replace H : (if y171.length + l1_1.length < 140737488355328 then ((some (y171 ++ l1_1 : List Bool)).bind fun y174 => (if 0 ≤ x8_2 then (if x8_2 < (y168.length : Int) then (if x8_2 < (y174.length : Int) then (some ((y168.set (x8_2 : Int).toNat x10_2), (y174.set (x8_2 : Int).toNat true), wrap64 (a1_2 + 1), true)) else (none)) else (none)) else (none))) else (none)) = some (r1, r2, r3, r4) := by first | (rw [hy171]; exact H) | (have H2_ := (Option.bind_some _ _).symm.trans H; first | exact H2_ | (rw [hy171]; exact H2_)) | exact H
        have Ny171 := am hy171; clear hy171
        obtain ⟨c35, H⟩ := it_ H; have LMc35 := am c35; clear c35; obtain ⟨y174, hy174⟩ : ∃ y_ : List Bool, y_ = (y171 ++ l1_1) := ⟨_, rfl⟩
        replace H : (if 0 ≤ x8_2 then (if x8_2 < (y168.length : Int) then (if x8_2 < (y174.length : Int) then (some ((y168.set (x8_2 : Int).toNat x10_2), (y174.set (x8_2 : Int).toNat true), wrap64 (a1_2 + 1), true)) else (none)) else (none)) else (none)) = some (r1, r2, r3, r4) := by first | (rw [hy174]; exact H) | (have H2_ := (Option.bind_some _ _).symm.trans H; first | exact H2_ | (rw [hy174]; exact H2_)) | exact H
        have Ny174 := am hy174; clear hy174
        obtain ⟨c36, H⟩ := it_ H; have c36b0 := decide_eq_true c36; clear c36
        obtain ⟨c37, H⟩ := it_ H; have c37b0 := decide_eq_true c37; clear c37; obtain ⟨y178, hy178⟩ : ∃ y_ : List ByteArray, y_ = (y168.set (x8_2 : Int).toNat x10_2) := ⟨_, rfl⟩
        replace H : (if x8_2 < (y174.length : Int) then (some (y178, (y174.set (x8_2 : Int).toNat true), wrap64 (a1_2 + 1), true)) else (none)) = some (r1, r2, r3, r4) := by first | (rw [hy178]; exact H) | (have H2_ := (Option.bind_some _ _).symm.trans H; first | exact H2_ | (rw [hy178]; exact H2_)) | exact H
        have Ny178 := am hy178; clear hy178
        obtain ⟨c39, H⟩ := it_ H; have c39b0 := decide_eq_true c39; clear c39; obtain ⟨y179, hy179⟩ : ∃ y_ : List Bool, y_ = (y174.set (x8_2 : Int).toNat true) := ⟨_, rfl⟩
        replace H : (some (y178, y179, wrap64 (a1_2 + 1), true)) = some (r1, r2, r3, r4) := by first | (rw [hy179]; exact H) | (have H2_ := (Option.bind_some _ _).symm.trans H; first | exact H2_ | (rw [hy179]; exact H2_)) | exact H
        have Ny179 := am hy179; clear hy179
        simp only [Option.some.injEq, Prod.mk.injEq] at H
        obtain ⟨rfl, rfl, rfl, rfl⟩ := H
        try go_wp2
        replace HO_27 := am (Kd.R_drew HO_27.out); replace BK154 := am (blk_drew BK154.out); replace BK155 := am (blk_drew BK155.out); replace BK157 := am (blk_drew BK157.out); replace HB := am (below_drew1 HB.out)
        refine start_ (n := 14) (S := fun w' => w'.cell? ⟨gb154, 0, none⟩ = some (.slice A1_0 l1_0.length c1_0) ∧ w'.cell? ⟨gb154, 1, none⟩ = some (.slice A1_1 l1_1.length c1_1) ∧ w'.cell? ⟨gb154, 2, none⟩ = some (.int .i64 a1_2)) (ds := []) #[false, false, false, false, false, false, false, false, false, false, false, false, false, false] (by kernel_rfl) rfl rfl ⟨(blk_cell BK154.out 0).trans rfl, (blk_cell BK154.out 1).trans rfl, (blk_cell BK154.out 2).trans rfl⟩ (fun hHeld => ?_); refine with_tabW spec_l9Step.tab16 spec_l9Step.bits16 (fun HT_ HW_ => ?_)
        generalize wr.drew = w41 at HO_27 BK154 BK155 BK157 HB hHeld ⊢
        refine pu_ (i := 1) (some 52) #[false, true, false, false, false, false, false, false, false, false, false, false, false, false] HT_ ?_
        refine pu_ (i := 5) (some 56) #[false, true, false, false, false, true, false, false, false, false, false, false, false, false] HT_ ?_
        refine pu_ (i := 8) (some 59) #[false, true, false, false, false, true, false, false, true, false, false, false, false, false] HT_ ?_
        refine ta_ (i := 2) (some 53) #[false, true, true, false, false, true, false, false, true, false, false, false, false, false] HT_ HW_ hHeld ?_
        refine ta_ (i := 6) (some 57) #[false, true, true, false, false, true, true, false, true, false, false, false, false, false] HT_ HW_ hHeld ?_
        refine ta_ (i := 9) (some 60) #[false, true, true, false, false, true, true, false, true, true, false, false, false, false] HT_ HW_ hHeld ?_
        refine pu_ (i := 10) (some 61) #[false, true, true, false, false, true, true, false, true, true, true, false, false, false] HT_ ?_
        refine join_ (σ := Value × Value × Value × Value × Nat) 1 #[true, true, true, true, true, true, true, true, true, true, true, true, true, false] (fun s_ => [(51, s_.1), (54, s_.2.1), (55, s_.2.2.1), (58, s_.2.2.2.1), (13, .pointer (some ⟨s_.2.2.2.2, 0, none⟩)), (62, .agg #[s_.2.1, s_.2.2.2.1, .int .i64 (wrap64 (a1_2 + 1))])]) (fun s_ w' => (w'.cell? ⟨gb154, 0, none⟩ = some (.slice A1_0 l1_0.length c1_0) ∧ w'.cell? ⟨gb154, 1, none⟩ = some (.slice A1_1 l1_1.length c1_1) ∧ w'.cell? ⟨gb154, 2, none⟩ = some (.int .i64 a1_2)) ∧ (Kd.R Kd.string 9 w' w.heap.size (fun _ => True) s_.2.1 y168) ∧ (Kd.R Kd.bool 4 w' w.heap.size (fun _ => True) s_.2.2.2.1 y174) ∧ (Kd.R (Kd.int .i64) 3 w' w.heap.size (fun _ => True) (.slice Ao16 t158.length co16) t158) ∧ (w'.heap[gb154]? = some (.cells #[.slice A1_0 l1_0.length c1_0, .slice A1_1 l1_1.length c1_1, .int .i64 a1_2] 35 (0, 0))) ∧ (w'.heap[gb155]? = some (.cells #[.slice none 0 0, .slice none 0 0, .int .i64 xdd_1] 35 (0, 0))) ∧ (w'.heap[gb157]? = some (.cells #[.int .i64 ((rd_T54 l0 x16_1).f0), .string ((rd_T54 l0 x16_1).f1)] 54 (0, 0))) ∧ (w'.heap[s_.2.2.2.2]? = some (.cells #[.slice none 0 0, .slice none 0 0, .int .i64 0] 35 (0, 0))) ∧ (w.heap.size ≤ s_.2.2.2.2) ∧ (w.heap.size ≤ s_.2.2.2.2) ∧ (gb154 ≠ s_.2.2.2.2) ∧ (s_.2.2.2.2 ≠ gb154) ∧ (gb155 ≠ s_.2.2.2.2) ∧ (s_.2.2.2.2 ≠ gb155) ∧ (gb157 ≠ s_.2.2.2.2) ∧ (s_.2.2.2.2 ≠ gb157) ∧ (Below w.heap.size w w')) ?_ ?_
        rotate_left
        ·intro hJ0_3_4_7_12
         refine join_ (σ := Value × Value × Value × Value) 2 #[true, true, true, true, true, true, true, true, true, true, true, true, false, false] (fun s_ => [(51, s_.1), (54, s_.2.1), (55, s_.2.2.1), (58, s_.2.2.2), (62, .agg #[s_.2.1, s_.2.2.2, .int .i64 (wrap64 (a1_2 + 1))])]) (fun s_ w' => (w'.cell? ⟨gb154, 0, none⟩ = some (.slice A1_0 l1_0.length c1_0) ∧ w'.cell? ⟨gb154, 1, none⟩ = some (.slice A1_1 l1_1.length c1_1) ∧ w'.cell? ⟨gb154, 2, none⟩ = some (.int .i64 a1_2)) ∧ (Kd.R Kd.string 9 w' w.heap.size (fun _ => True) s_.2.1 y168) ∧ (Kd.R Kd.bool 4 w' w.heap.size (fun _ => True) s_.2.2.2 y174) ∧ (Kd.R (Kd.int .i64) 3 w' w.heap.size (fun _ => True) (.slice Ao16 t158.length co16) t158) ∧ (w'.heap[gb154]? = some (.cells #[.slice A1_0 l1_0.length c1_0, .slice A1_1 l1_1.length c1_1, .int .i64 a1_2] 35 (0, 0))) ∧ (w'.heap[gb155]? = some (.cells #[.slice none 0 0, .slice none 0 0, .int .i64 xdd_1] 35 (0, 0))) ∧ (w'.heap[gb157]? = some (.cells #[.int .i64 ((rd_T54 l0 x16_1).f0), .string ((rd_T54 l0 x16_1).f1)] 54 (0, 0))) ∧ (Below w.heap.size w w')) ?_ ?_
         rotate_left
         ·intro hJ0_3_4_7
          refine join_ (σ := Value × Value × Value × Nat) 3 #[true, true, true, true, true, true, true, false, true, true, true, false, true, false] (fun s_ => [(51, s_.1), (54, s_.2.1), (55, s_.2.2.1), (13, .pointer (some ⟨s_.2.2.2, 0, none⟩))]) (fun s_ w' => (w'.cell? ⟨gb154, 0, none⟩ = some (.slice A1_0 l1_0.length c1_0) ∧ w'.cell? ⟨gb154, 1, none⟩ = some (.slice A1_1 l1_1.length c1_1) ∧ w'.cell? ⟨gb154, 2, none⟩ = some (.int .i64 a1_2)) ∧ (Kd.R Kd.string 9 w' w.heap.size (fun _ => True) s_.2.1 y168) ∧ (Kd.R Kd.bool 4 w' w.heap.size (fun _ => True) s_.2.2.1 y171) ∧ (Kd.R (Kd.int .i64) 3 w' w.heap.size (fun _ => True) (.slice Ao16 t158.length co16) t158) ∧ (w'.heap[gb154]? = some (.cells #[.slice A1_0 l1_0.length c1_0, .slice A1_1 l1_1.length c1_1, .int .i64 a1_2] 35 (0, 0))) ∧ (w'.heap[gb155]? = some (.cells #[.slice none 0 0, .slice none 0 0, .int .i64 xdd_1] 35 (0, 0))) ∧ (w'.heap[gb157]? = some (.cells #[.int .i64 ((rd_T54 l0 x16_1).f0), .string ((rd_T54 l0 x16_1).f1)] 54 (0, 0))) ∧ (w'.heap[s_.2.2.2]? = some (.cells #[.slice none 0 0, .slice none 0 0, .int .i64 0] 35 (0, 0))) ∧ (w.heap.size ≤ s_.2.2.2) ∧ (w.heap.size ≤ s_.2.2.2) ∧ (gb154 ≠ s_.2.2.2) ∧ (s_.2.2.2 ≠ gb154) ∧ (gb155 ≠ s_.2.2.2) ∧ (s_.2.2.2 ≠ gb155) ∧ (gb157 ≠ s_.2.2.2) ∧ (s_.2.2.2 ≠ gb157) ∧ (Below w.heap.size w w')) ?_ ?_
          rotate_left
          ·intro hJ0_3_4_12
           refine join_ (σ := Value × Value × Value) 4 #[true, true, true, true, true, true, true, false, true, true, true, false, false, false] (fun s_ => [(51, s_.1), (54, s_.2.1), (55, s_.2.2)]) (fun s_ w' => (w'.cell? ⟨gb154, 0, none⟩ = some (.slice A1_0 l1_0.length c1_0) ∧ w'.cell? ⟨gb154, 1, none⟩ = some (.slice A1_1 l1_1.length c1_1) ∧ w'.cell? ⟨gb154, 2, none⟩ = some (.int .i64 a1_2)) ∧ (Kd.R Kd.string 9 w' w.heap.size (fun _ => True) s_.2.1 y168) ∧ (Kd.R Kd.bool 4 w' w.heap.size (fun _ => True) s_.2.2 y171) ∧ (Kd.R (Kd.int .i64) 3 w' w.heap.size (fun _ => True) (.slice Ao16 t158.length co16) t158) ∧ (w'.heap[gb154]? = some (.cells #[.slice A1_0 l1_0.length c1_0, .slice A1_1 l1_1.length c1_1, .int .i64 a1_2] 35 (0, 0))) ∧ (w'.heap[gb155]? = some (.cells #[.slice none 0 0, .slice none 0 0, .int .i64 xdd_1] 35 (0, 0))) ∧ (w'.heap[gb157]? = some (.cells #[.int .i64 ((rd_T54 l0 x16_1).f0), .string ((rd_T54 l0 x16_1).f1)] 54 (0, 0))) ∧ (Below w.heap.size w w')) ?_ ?_
           rotate_left
           ·intro hJ0_3_4
            refine join_ (σ := Value × Value × Nat) 4 #[true, true, true, true, false, true, true, false, true, true, true, false, true, false] (fun s_ => [(51, s_.1), (54, s_.2.1), (13, .pointer (some ⟨s_.2.2, 0, none⟩))]) (fun s_ w' => (w'.cell? ⟨gb154, 0, none⟩ = some (.slice A1_0 l1_0.length c1_0) ∧ w'.cell? ⟨gb154, 1, none⟩ = some (.slice A1_1 l1_1.length c1_1) ∧ w'.cell? ⟨gb154, 2, none⟩ = some (.int .i64 a1_2)) ∧ (Kd.R Kd.string 9 w' w.heap.size (fun _ => True) s_.2.1 y168) ∧ (Kd.R (Kd.int .i64) 3 w' w.heap.size (fun _ => True) (.slice Ao16 t158.length co16) t158) ∧ (w'.heap[gb154]? = some (.cells #[.slice A1_0 l1_0.length c1_0, .slice A1_1 l1_1.length c1_1, .int .i64 a1_2] 35 (0, 0))) ∧ (w'.heap[gb155]? = some (.cells #[.slice none 0 0, .slice none 0 0, .int .i64 xdd_1] 35 (0, 0))) ∧ (w'.heap[gb157]? = some (.cells #[.int .i64 ((rd_T54 l0 x16_1).f0), .string ((rd_T54 l0 x16_1).f1)] 54 (0, 0))) ∧ (w'.heap[s_.2.2]? = some (.cells #[.slice none 0 0, .slice none 0 0, .int .i64 0] 35 (0, 0))) ∧ (w.heap.size ≤ s_.2.2) ∧ (w.heap.size ≤ s_.2.2) ∧ (gb154 ≠ s_.2.2) ∧ (s_.2.2 ≠ gb154) ∧ (gb155 ≠ s_.2.2) ∧ (s_.2.2 ≠ gb155) ∧ (gb157 ≠ s_.2.2) ∧ (s_.2.2 ≠ gb157) ∧ (Below w.heap.size w w')) ?_ ?_
            rotate_left
            ·intro hJ0_3_12
             refine join_ (σ := Value × Value × Nat) 4 #[true, true, true, false, true, true, true, false, true, true, true, false, true, false] (fun s_ => [(51, s_.1), (55, s_.2.1), (13, .pointer (some ⟨s_.2.2, 0, none⟩))]) (fun s_ w' => (w'.cell? ⟨gb154, 0, none⟩ = some (.slice A1_0 l1_0.length c1_0) ∧ w'.cell? ⟨gb154, 1, none⟩ = some (.slice A1_1 l1_1.length c1_1) ∧ w'.cell? ⟨gb154, 2, none⟩ = some (.int .i64 a1_2)) ∧ (Kd.R Kd.string 9 w' w.heap.size (fun _ => True) s_.1 y165) ∧ (Kd.R Kd.bool 4 w' w.heap.size (fun _ => True) s_.2.1 y171) ∧ (Kd.R (Kd.int .i64) 3 w' w.heap.size (fun _ => True) (.slice Ao16 t158.length co16) t158) ∧ (w'.heap[gb154]? = some (.cells #[.slice A1_0 l1_0.length c1_0, .slice A1_1 l1_1.length c1_1, .int .i64 a1_2] 35 (0, 0))) ∧ (w'.heap[gb155]? = some (.cells #[.slice none 0 0, .slice none 0 0, .int .i64 xdd_1] 35 (0, 0))) ∧ (w'.heap[gb157]? = some (.cells #[.int .i64 ((rd_T54 l0 x16_1).f0), .string ((rd_T54 l0 x16_1).f1)] 54 (0, 0))) ∧ (w'.heap[s_.2.2]? = some (.cells #[.slice none 0 0, .slice none 0 0, .int .i64 0] 35 (0, 0))) ∧ (w.heap.size ≤ s_.2.2) ∧ (w.heap.size ≤ s_.2.2) ∧ (gb154 ≠ s_.2.2) ∧ (s_.2.2 ≠ gb154) ∧ (gb155 ≠ s_.2.2) ∧ (s_.2.2 ≠ gb155) ∧ (gb157 ≠ s_.2.2) ∧ (s_.2.2 ≠ gb157) ∧ (Below w.heap.size w w')) ?_ ?_
             rotate_left
             ·intro hJ0_4_12
              refine join_ (σ := Value × Value) 5 #[true, true, true, true, false, true, true, false, true, true, true, false, false, false] (fun s_ => [(51, s_.1), (54, s_.2)]) (fun s_ w' => (w'.cell? ⟨gb154, 0, none⟩ = some (.slice A1_0 l1_0.length c1_0) ∧ w'.cell? ⟨gb154, 1, none⟩ = some (.slice A1_1 l1_1.length c1_1) ∧ w'.cell? ⟨gb154, 2, none⟩ = some (.int .i64 a1_2)) ∧ (Kd.R Kd.string 9 w' w.heap.size (fun _ => True) s_.2 y168) ∧ (Kd.R (Kd.int .i64) 3 w' w.heap.size (fun _ => True) (.slice Ao16 t158.length co16) t158) ∧ (w'.heap[gb154]? = some (.cells #[.slice A1_0 l1_0.length c1_0, .slice A1_1 l1_1.length c1_1, .int .i64 a1_2] 35 (0, 0))) ∧ (w'.heap[gb155]? = some (.cells #[.slice none 0 0, .slice none 0 0, .int .i64 xdd_1] 35 (0, 0))) ∧ (w'.heap[gb157]? = some (.cells #[.int .i64 ((rd_T54 l0 x16_1).f0), .string ((rd_T54 l0 x16_1).f1)] 54 (0, 0))) ∧ (Below w.heap.size w w')) ?_ ?_
              rotate_left
              ·intro hJ0_3
               refine join_ (σ := Value × Value) 5 #[true, true, true, false, true, true, true, false, true, true, true, false, false, false] (fun s_ => [(51, s_.1), (55, s_.2)]) (fun s_ w' => (w'.cell? ⟨gb154, 0, none⟩ = some (.slice A1_0 l1_0.length c1_0) ∧ w'.cell? ⟨gb154, 1, none⟩ = some (.slice A1_1 l1_1.length c1_1) ∧ w'.cell? ⟨gb154, 2, none⟩ = some (.int .i64 a1_2)) ∧ (Kd.R Kd.string 9 w' w.heap.size (fun _ => True) s_.1 y165) ∧ (Kd.R Kd.bool 4 w' w.heap.size (fun _ => True) s_.2 y171) ∧ (Kd.R (Kd.int .i64) 3 w' w.heap.size (fun _ => True) (.slice Ao16 t158.length co16) t158) ∧ (w'.heap[gb154]? = some (.cells #[.slice A1_0 l1_0.length c1_0, .slice A1_1 l1_1.length c1_1, .int .i64 a1_2] 35 (0, 0))) ∧ (w'.heap[gb155]? = some (.cells #[.slice none 0 0, .slice none 0 0, .int .i64 xdd_1] 35 (0, 0))) ∧ (w'.heap[gb157]? = some (.cells #[.int .i64 ((rd_T54 l0 x16_1).f0), .string ((rd_T54 l0 x16_1).f1)] 54 (0, 0))) ∧ (Below w.heap.size w w')) ?_ ?_
               rotate_left
               ·intro hJ0_4
                refine join_ (σ := Value × Nat) 5 #[true, true, true, false, false, true, true, false, true, true, true, false, true, false] (fun s_ => [(51, s_.1), (13, .pointer (some ⟨s_.2, 0, none⟩))]) (fun s_ w' => (w'.cell? ⟨gb154, 0, none⟩ = some (.slice A1_0 l1_0.length c1_0) ∧ w'.cell? ⟨gb154, 1, none⟩ = some (.slice A1_1 l1_1.length c1_1) ∧ w'.cell? ⟨gb154, 2, none⟩ = some (.int .i64 a1_2)) ∧ (Kd.R Kd.string 9 w' w.heap.size (fun _ => True) s_.1 y165) ∧ (Kd.R (Kd.int .i64) 3 w' w.heap.size (fun _ => True) (.slice Ao16 t158.length co16) t158) ∧ (w'.heap[gb154]? = some (.cells #[.slice A1_0 l1_0.length c1_0, .slice A1_1 l1_1.length c1_1, .int .i64 a1_2] 35 (0, 0))) ∧ (w'.heap[gb155]? = some (.cells #[.slice none 0 0, .slice none 0 0, .int .i64 xdd_1] 35 (0, 0))) ∧ (w'.heap[gb157]? = some (.cells #[.int .i64 ((rd_T54 l0 x16_1).f0), .string ((rd_T54 l0 x16_1).f1)] 54 (0, 0))) ∧ (w'.heap[s_.2]? = some (.cells #[.slice none 0 0, .slice none 0 0, .int .i64 0] 35 (0, 0))) ∧ (w.heap.size ≤ s_.2) ∧ (w.heap.size ≤ s_.2) ∧ (gb154 ≠ s_.2) ∧ (s_.2 ≠ gb154) ∧ (gb155 ≠ s_.2) ∧ (s_.2 ≠ gb155) ∧ (gb157 ≠ s_.2) ∧ (s_.2 ≠ gb157) ∧ (Below w.heap.size w w')) ?_ ?_
                rotate_left
                ·intro hJ0_12
                 refine join_ (σ := Value × Nat) 5 #[false, true, true, false, true, true, true, false, true, true, true, false, true, false] (fun s_ => [(55, s_.1), (13, .pointer (some ⟨s_.2, 0, none⟩))]) (fun s_ w' => (w'.cell? ⟨gb154, 0, none⟩ = some (.slice A1_0 l1_0.length c1_0) ∧ w'.cell? ⟨gb154, 1, none⟩ = some (.slice A1_1 l1_1.length c1_1) ∧ w'.cell? ⟨gb154, 2, none⟩ = some (.int .i64 a1_2)) ∧ (Kd.R Kd.bool 4 w' w.heap.size (fun _ => True) s_.1 y171) ∧ (Kd.R (Kd.int .i64) 3 w' w.heap.size (fun _ => True) (.slice Ao16 t158.length co16) t158) ∧ (w'.heap[gb154]? = some (.cells #[.slice A1_0 l1_0.length c1_0, .slice A1_1 l1_1.length c1_1, .int .i64 a1_2] 35 (0, 0))) ∧ (w'.heap[gb155]? = some (.cells #[.slice none 0 0, .slice none 0 0, .int .i64 xdd_1] 35 (0, 0))) ∧ (w'.heap[gb157]? = some (.cells #[.int .i64 ((rd_T54 l0 x16_1).f0), .string ((rd_T54 l0 x16_1).f1)] 54 (0, 0))) ∧ (w'.heap[s_.2]? = some (.cells #[.slice none 0 0, .slice none 0 0, .int .i64 0] 35 (0, 0))) ∧ (w.heap.size ≤ s_.2) ∧ (w.heap.size ≤ s_.2) ∧ (gb154 ≠ s_.2) ∧ (s_.2 ≠ gb154) ∧ (gb155 ≠ s_.2) ∧ (s_.2 ≠ gb155) ∧ (gb157 ≠ s_.2) ∧ (s_.2 ≠ gb157) ∧ (Below w.heap.size w w')) ?_ ?_
                 rotate_left
                 ·intro hJ4_12
                  refine join_ (σ := Value) 6 #[true, true, true, false, false, true, true, false, true, true, true, false, false, false] (fun s_ => [(51, s_)]) (fun s_ w' => (w'.cell? ⟨gb154, 0, none⟩ = some (.slice A1_0 l1_0.length c1_0) ∧ w'.cell? ⟨gb154, 1, none⟩ = some (.slice A1_1 l1_1.length c1_1) ∧ w'.cell? ⟨gb154, 2, none⟩ = some (.int .i64 a1_2)) ∧ (Kd.R Kd.string 9 w' w.heap.size (fun _ => True) s_ y165) ∧ (Kd.R (Kd.int .i64) 3 w' w.heap.size (fun _ => True) (.slice Ao16 t158.length co16) t158) ∧ (w'.heap[gb154]? = some (.cells #[.slice A1_0 l1_0.length c1_0, .slice A1_1 l1_1.length c1_1, .int .i64 a1_2] 35 (0, 0))) ∧ (w'.heap[gb155]? = some (.cells #[.slice none 0 0, .slice none 0 0, .int .i64 xdd_1] 35 (0, 0))) ∧ (w'.heap[gb157]? = some (.cells #[.int .i64 ((rd_T54 l0 x16_1).f0), .string ((rd_T54 l0 x16_1).f1)] 54 (0, 0))) ∧ (Below w.heap.size w w')) ?_ ?_
                  rotate_left
                  ·intro hJ0
                   refine join_ (σ := Value) 6 #[false, true, true, false, true, true, true, false, true, true, true, false, false, false] (fun s_ => [(55, s_)]) (fun s_ w' => (w'.cell? ⟨gb154, 0, none⟩ = some (.slice A1_0 l1_0.length c1_0) ∧ w'.cell? ⟨gb154, 1, none⟩ = some (.slice A1_1 l1_1.length c1_1) ∧ w'.cell? ⟨gb154, 2, none⟩ = some (.int .i64 a1_2)) ∧ (Kd.R Kd.bool 4 w' w.heap.size (fun _ => True) s_ y171) ∧ (Kd.R (Kd.int .i64) 3 w' w.heap.size (fun _ => True) (.slice Ao16 t158.length co16) t158) ∧ (w'.heap[gb154]? = some (.cells #[.slice A1_0 l1_0.length c1_0, .slice A1_1 l1_1.length c1_1, .int .i64 a1_2] 35 (0, 0))) ∧ (w'.heap[gb155]? = some (.cells #[.slice none 0 0, .slice none 0 0, .int .i64 xdd_1] 35 (0, 0))) ∧ (w'.heap[gb157]? = some (.cells #[.int .i64 ((rd_T54 l0 x16_1).f0), .string ((rd_T54 l0 x16_1).f1)] 54 (0, 0))) ∧ (Below w.heap.size w w')) ?_ ?_
                   rotate_left
                   ·intro hJ4
                    refine join_ (σ := Nat) 6 #[false, true, true, false, false, true, true, false, true, true, true, false, true, false] (fun s_ => [(13, .pointer (some ⟨s_, 0, none⟩))]) (fun s_ w' => (w'.cell? ⟨gb154, 0, none⟩ = some (.slice A1_0 l1_0.length c1_0) ∧ w'.cell? ⟨gb154, 1, none⟩ = some (.slice A1_1 l1_1.length c1_1) ∧ w'.cell? ⟨gb154, 2, none⟩ = some (.int .i64 a1_2)) ∧ (Kd.R (Kd.int .i64) 3 w' w.heap.size (fun _ => True) (.slice Ao16 t158.length co16) t158) ∧ (w'.heap[gb154]? = some (.cells #[.slice A1_0 l1_0.length c1_0, .slice A1_1 l1_1.length c1_1, .int .i64 a1_2] 35 (0, 0))) ∧ (w'.heap[gb155]? = some (.cells #[.slice none 0 0, .slice none 0 0, .int .i64 xdd_1] 35 (0, 0))) ∧ (w'.heap[gb157]? = some (.cells #[.int .i64 ((rd_T54 l0 x16_1).f0), .string ((rd_T54 l0 x16_1).f1)] 54 (0, 0))) ∧ (w'.heap[s_]? = some (.cells #[.slice none 0 0, .slice none 0 0, .int .i64 0] 35 (0, 0))) ∧ (w.heap.size ≤ s_) ∧ (w.heap.size ≤ s_) ∧ (gb154 ≠ s_) ∧ (s_ ≠ gb154) ∧ (gb155 ≠ s_) ∧ (s_ ≠ gb155) ∧ (gb157 ≠ s_) ∧ (s_ ≠ gb157) ∧ (Below w.heap.size w w')) ?_ ?_
                    rotate_left
                    ·intro hJ12
                     refine three_ (i := 0) (j := 4) (k := 12) (Ni := some 51) (Nj := some 55) (Nk := some 13) #[true, true, true, false, false, true, true, false, true, true, true, false, false, false] #[false, true, true, false, true, true, true, false, true, true, true, false, false, false] #[false, true, true, false, false, true, true, false, true, true, true, false, true, false] rfl rfl rfl rfl rfl rfl (three_of HT_.out (by kernel_rfl)) (by decide) (by decide) (by decide) (fun K hK => ?_) (fun K hK => ?_) (fun K hK => ?_)
                     ·skip
                      refine Kd.R_lit_step Kd.string _ 9 ?hg (N := 51) ?hd (xs := ([] : List ByteArray)) (inner := []) (ok := fun _ => True) (okp := fun _ => True) ?hr ?hp (fun _ hk => hk) trivial (Below.refl _ _) (Nat.le_refl _) (by simp) ?_; (case hd => rfl); (case hg => rfl); (case hr => first | (go_simp; done) | (go_simp; rfl)); (case hp => exact (Reps.none _ _))
                      intro v166 w42 ho43 hb hg_ hnew_; clear hg_ hnew_
                      (first | rw [← Ny165.out] at ho43 | (simp only [Int.reduceToNat] at ho43; rw [← Ny165.out] at ho43))
                      replace HO_27 := am (Kd.R_below (zR HO_27.out) hb)
                      have HO167 := am (Kd.R_lower ho43 (zs_ HB.out))
                      replace BK154 := am (blk_below (zK BK154.out) hb)
                      replace BK155 := am (blk_below (zK BK155.out) hb)
                      replace BK157 := am (blk_below (zK BK157.out) hb)
                      replace HB := am (below_step (zB HB.out) hb); clear hb ho43
                      refine hK.out _ _ ⟨(blk_cell BK154.out 0).trans rfl, (blk_cell BK154.out 1).trans rfl, (blk_cell BK154.out 2).trans rfl⟩ (fun hHeld => ?_)
                      clear hK K
                      refine norm_ (a' := ?_) ?_ ?_
                      rotate_left
                      ·show Act.put _ (some 51) _ = _
                       simp only [Act.put, List.setIfInBounds_toArray, List.set_cons_zero, List.set_cons_succ, i64_w, i32_w]; rfl
                      exact nm_ (hJ0 (v166) _ ⟨hHeld, (zR HO167.out), (zR HO_27.out), (zK BK154.out), (zK BK155.out), (zK BK157.out), (zB HB.out)⟩)
                     ·skip
                      refine Kd.R_lit_step Kd.bool _ 4 ?hg (N := 55) ?hd (xs := ([] : List Bool)) (inner := []) (ok := fun _ => True) (okp := fun _ => True) ?hr ?hp (fun _ hk => hk) trivial (Below.refl _ _) (Nat.le_refl _) (by simp) ?_; (case hd => rfl); (case hg => rfl); (case hr => first | (go_simp; done) | (go_simp; rfl)); (case hp => exact (Reps.none _ _))
                      intro v172 w42 ho43 hb hg_ hnew_; clear hg_ hnew_
                      (first | rw [← Ny171.out] at ho43 | (simp only [Int.reduceToNat] at ho43; rw [← Ny171.out] at ho43))
                      replace HO_27 := am (Kd.R_below (zR HO_27.out) hb)
                      have HO173 := am (Kd.R_lower ho43 (zs_ HB.out))
                      replace BK154 := am (blk_below (zK BK154.out) hb)
                      replace BK155 := am (blk_below (zK BK155.out) hb)
                      replace BK157 := am (blk_below (zK BK157.out) hb)
                      replace HB := am (below_step (zB HB.out) hb); clear hb ho43
                      refine hK.out _ _ ⟨(blk_cell BK154.out 0).trans rfl, (blk_cell BK154.out 1).trans rfl, (blk_cell BK154.out 2).trans rfl⟩ (fun hHeld => ?_)
                      clear hK K
                      refine norm_ (a' := ?_) ?_ ?_
                      rotate_left
                      ·show Act.put _ (some 55) _ = _
                       simp only [Act.put, List.setIfInBounds_toArray, List.set_cons_zero, List.set_cons_succ, i64_w, i32_w]; rfl
                      exact nm_ (hJ4 (v172) _ ⟨hHeld, (zR HO173.out), (zR HO_27.out), (zK BK154.out), (zK BK155.out), (zK BK157.out), (zB HB.out)⟩)
                     ·skip
                      refine box_step ?hg (N := 13) ?hd (cs := #[.slice none 0 0, .slice none 0 0, .int .i64 0]) (t := 35) ?hr ?_; (case hd => rfl); (case hg => rfl); (case hr => first | (go_simp; done) | (go_simp; rfl))
                      intro gb177 hg w42 hbox hb
                      replace HO_27 := am (Kd.R_below (zR HO_27.out) hb)
                      have BK177 := am (hbox)
                      have GW177 := am ((gw_ hg HB.out : w.heap.size ≤ gb177))
                      have GE177 := am ((gw_ hg HB.out : w.heap.size ≤ gb177))
                      replace HB := am (below_step (zB HB.out) hb)
                      have NB154_177 := am ((by rw [hg]; exact Nat.ne_of_lt (blk_lt (zK BK154.out)) : gb154 ≠ gb177))
                      have NB177_154 := am ((by rw [hg]; exact Nat.ne_of_gt (blk_lt (zK BK154.out)) : gb177 ≠ gb154))
                      replace BK154 := am (blk_below (zK BK154.out) hb)
                      have NB155_177 := am ((by rw [hg]; exact Nat.ne_of_lt (blk_lt (zK BK155.out)) : gb155 ≠ gb177))
                      have NB177_155 := am ((by rw [hg]; exact Nat.ne_of_gt (blk_lt (zK BK155.out)) : gb177 ≠ gb155))
                      replace BK155 := am (blk_below (zK BK155.out) hb)
                      have NB157_177 := am ((by rw [hg]; exact Nat.ne_of_lt (blk_lt (zK BK157.out)) : gb157 ≠ gb177))
                      have NB177_157 := am ((by rw [hg]; exact Nat.ne_of_gt (blk_lt (zK BK157.out)) : gb177 ≠ gb157))
                      replace BK157 := am (blk_below (zK BK157.out) hb)
                      clear hb hbox hg
                      refine hK.out _ _ ⟨(blk_cell BK154.out 0).trans rfl, (blk_cell BK154.out 1).trans rfl, (blk_cell BK154.out 2).trans rfl⟩ (fun hHeld => ?_)
                      clear hK K
                      refine norm_ (a' := ?_) ?_ ?_
                      rotate_left
                      ·show Act.put _ (some 13) _ = _
                       simp only [Act.put, List.setIfInBounds_toArray, List.set_cons_zero, List.set_cons_succ, i64_w, i32_w]; rfl
                      exact nm_ (hJ12 (gb177) _ ⟨hHeld, (zR HO_27.out), (zK BK154.out), (zK BK155.out), (zK BK157.out), (zK BK177.out), GW177.out, GE177.out, NB154_177.out, NB177_154.out, NB155_177.out, NB177_155.out, NB157_177.out, NB177_157.out, (zB HB.out)⟩)
                    ·skip
                     rintro gb177 w43 ⟨hS_, h0_, h1_, h2_, h3_, h4_, h5_, h6_, h7_, h8_, h9_, h10_, h11_, h12_, h13_⟩; have n0_ : Aside0 (Kd.R (Kd.int .i64) 3 w43 w.heap.size (fun _ => True) (.slice Ao16 t158.length co16) t158) := ⟨h0_⟩; have n1_ : Aside0 (w43.heap[gb154]? = some (.cells #[.slice A1_0 l1_0.length c1_0, .slice A1_1 l1_1.length c1_1, .int .i64 a1_2] 35 (0, 0))) := ⟨h1_⟩; have n2_ : Aside0 (w43.heap[gb155]? = some (.cells #[.slice none 0 0, .slice none 0 0, .int .i64 xdd_1] 35 (0, 0))) := ⟨h2_⟩; have n3_ : Aside0 (w43.heap[gb157]? = some (.cells #[.int .i64 ((rd_T54 l0 x16_1).f0), .string ((rd_T54 l0 x16_1).f1)] 54 (0, 0))) := ⟨h3_⟩; have n4_ : Aside0 (w43.heap[gb177]? = some (.cells #[.slice none 0 0, .slice none 0 0, .int .i64 0] 35 (0, 0))) := ⟨h4_⟩; have n5_ : Aside0 (w.heap.size ≤ gb177) := ⟨h5_⟩; have n6_ : Aside0 (w.heap.size ≤ gb177) := ⟨h6_⟩; have n7_ : Aside0 (gb154 ≠ gb177) := ⟨h7_⟩; have n8_ : Aside0 (gb177 ≠ gb154) := ⟨h8_⟩; have n9_ : Aside0 (gb155 ≠ gb177) := ⟨h9_⟩; have n10_ : Aside0 (gb177 ≠ gb155) := ⟨h10_⟩; have n11_ : Aside0 (gb157 ≠ gb177) := ⟨h11_⟩; have n12_ : Aside0 (gb177 ≠ gb157) := ⟨h12_⟩; have n13_ : Aside0 (Below w.heap.size w w43) := ⟨h13_⟩; clear HO_27; clear BK154; clear BK155; clear BK157; clear HB; clear h0_ h1_ h2_ h3_ h4_ h5_ h6_ h7_ h8_ h9_ h10_ h11_ h12_ h13_; have HO_27 := n0_; have BK154 := n1_; have BK155 := n2_; have BK157 := n3_; have BK177 := n4_; have GW177 := n5_; have GE177 := n6_; have NB154_177 := n7_; have NB177_154 := n8_; have NB155_177 := n9_; have NB177_155 := n10_; have NB157_177 := n11_; have NB177_157 := n12_; have HB := n13_; clear n0_ n1_ n2_ n3_ n4_ n5_ n6_ n7_ n8_ n9_ n10_ n11_ n12_ n13_; have hHeld : w43.cell? ⟨gb154, 0, none⟩ = some (.slice A1_0 l1_0.length c1_0) ∧ w43.cell? ⟨gb154, 1, none⟩ = some (.slice A1_1 l1_1.length c1_1) ∧ w43.cell? ⟨gb154, 2, none⟩ = some (.int .i64 a1_2) := hS_
                     refine norm_ (a' := ?_) ?_ ?_
                     rotate_left
                     ·simp only [putAll, Act.put, List.setIfInBounds_toArray, List.set_cons_zero, List.set_cons_succ]
                      rfl
                     refine two_ (i := 0) (j := 4) (Ni := some 51) (Nj := some 55) #[true, true, true, false, false, true, true, false, true, true, true, false, true, false] #[false, true, true, false, true, true, true, false, true, true, true, false, true, false] rfl rfl rfl rfl (two_of HT_.out (by kernel_rfl)) (by decide) (by decide) (fun K hK => ?_) (fun K hK => ?_)
                     ·skip
                      refine Kd.R_lit_step Kd.string _ 9 ?hg (N := 51) ?hd (xs := ([] : List ByteArray)) (inner := []) (ok := fun _ => True) (okp := fun _ => True) ?hr ?hp (fun _ hk => hk) trivial (Below.refl _ _) (Nat.le_refl _) (by simp) ?_; (case hd => rfl); (case hg => rfl); (case hr => first | (go_simp; done) | (go_simp; rfl)); (case hp => exact (Reps.none _ _))
                      intro v166 w44 ho45 hb hg_ hnew_; clear hg_ hnew_
                      (first | rw [← Ny165.out] at ho45 | (simp only [Int.reduceToNat] at ho45; rw [← Ny165.out] at ho45))
                      replace HO_27 := am (Kd.R_below (zR HO_27.out) hb)
                      have HO167 := am (Kd.R_lower ho45 (zs_ HB.out))
                      replace BK154 := am (blk_below (zK BK154.out) hb)
                      replace BK155 := am (blk_below (zK BK155.out) hb)
                      replace BK157 := am (blk_below (zK BK157.out) hb)
                      replace BK177 := am (blk_below (zK BK177.out) hb)
                      replace HB := am (below_step (zB HB.out) hb); clear hb ho45
                      refine hK.out _ _ ⟨(blk_cell BK154.out 0).trans rfl, (blk_cell BK154.out 1).trans rfl, (blk_cell BK154.out 2).trans rfl⟩ (fun hHeld => ?_)
                      clear hK K
                      refine norm_ (a' := ?_) ?_ ?_
                      rotate_left
                      ·show Act.put _ (some 51) _ = _
                       simp only [Act.put, List.setIfInBounds_toArray, List.set_cons_zero, List.set_cons_succ, i64_w, i32_w]; rfl
                      exact nm_ (hJ0_12 (v166, gb177) _ ⟨hHeld, (zR HO167.out), (zR HO_27.out), (zK BK154.out), (zK BK155.out), (zK BK157.out), (zK BK177.out), GW177.out, GE177.out, NB154_177.out, NB177_154.out, NB155_177.out, NB177_155.out, NB157_177.out, NB177_157.out, (zB HB.out)⟩)
                     ·skip
                      refine Kd.R_lit_step Kd.bool _ 4 ?hg (N := 55) ?hd (xs := ([] : List Bool)) (inner := []) (ok := fun _ => True) (okp := fun _ => True) ?hr ?hp (fun _ hk => hk) trivial (Below.refl _ _) (Nat.le_refl _) (by simp) ?_; (case hd => rfl); (case hg => rfl); (case hr => first | (go_simp; done) | (go_simp; rfl)); (case hp => exact (Reps.none _ _))
                      intro v172 w44 ho45 hb hg_ hnew_; clear hg_ hnew_
                      (first | rw [← Ny171.out] at ho45 | (simp only [Int.reduceToNat] at ho45; rw [← Ny171.out] at ho45))
                      replace HO_27 := am (Kd.R_below (zR HO_27.out) hb)
                      have HO173 := am (Kd.R_lower ho45 (zs_ HB.out))
                      replace BK154 := am (blk_below (zK BK154.out) hb)
                      replace BK155 := am (blk_below (zK BK155.out) hb)
                      replace BK157 := am (blk_below (zK BK157.out) hb)
                      replace BK177 := am (blk_below (zK BK177.out) hb)
                      replace HB := am (below_step (zB HB.out) hb); clear hb ho45
                      refine hK.out _ _ ⟨(blk_cell BK154.out 0).trans rfl, (blk_cell BK154.out 1).trans rfl, (blk_cell BK154.out 2).trans rfl⟩ (fun hHeld => ?_)
                      clear hK K
                      refine norm_ (a' := ?_) ?_ ?_
                      rotate_left
                      ·show Act.put _ (some 55) _ = _
                       simp only [Act.put, List.setIfInBounds_toArray, List.set_cons_zero, List.set_cons_succ, i64_w, i32_w]; rfl
                      exact nm_ (hJ4_12 (v172, gb177) _ ⟨hHeld, (zR HO173.out), (zR HO_27.out), (zK BK154.out), (zK BK155.out), (zK BK157.out), (zK BK177.out), GW177.out, GE177.out, NB154_177.out, NB177_154.out, NB155_177.out, NB177_155.out, NB157_177.out, NB177_157.out, (zB HB.out)⟩)
                   ·skip
                    rintro v172 w44 ⟨hS_, h0_, h1_, h2_, h3_, h4_, h5_⟩; have n0_ : Aside0 (Kd.R Kd.bool 4 w44 w.heap.size (fun _ => True) v172 y171) := ⟨h0_⟩; have n1_ : Aside0 (Kd.R (Kd.int .i64) 3 w44 w.heap.size (fun _ => True) (.slice Ao16 t158.length co16) t158) := ⟨h1_⟩; have n2_ : Aside0 (w44.heap[gb154]? = some (.cells #[.slice A1_0 l1_0.length c1_0, .slice A1_1 l1_1.length c1_1, .int .i64 a1_2] 35 (0, 0))) := ⟨h2_⟩; have n3_ : Aside0 (w44.heap[gb155]? = some (.cells #[.slice none 0 0, .slice none 0 0, .int .i64 xdd_1] 35 (0, 0))) := ⟨h3_⟩; have n4_ : Aside0 (w44.heap[gb157]? = some (.cells #[.int .i64 ((rd_T54 l0 x16_1).f0), .string ((rd_T54 l0 x16_1).f1)] 54 (0, 0))) := ⟨h4_⟩; have n5_ : Aside0 (Below w.heap.size w w44) := ⟨h5_⟩; clear HO_27; clear BK154; clear BK155; clear BK157; clear HB; clear h0_ h1_ h2_ h3_ h4_ h5_; have HO173 := n0_; have HO_27 := n1_; have BK154 := n2_; have BK155 := n3_; have BK157 := n4_; have HB := n5_; clear n0_ n1_ n2_ n3_ n4_ n5_; have hHeld : w44.cell? ⟨gb154, 0, none⟩ = some (.slice A1_0 l1_0.length c1_0) ∧ w44.cell? ⟨gb154, 1, none⟩ = some (.slice A1_1 l1_1.length c1_1) ∧ w44.cell? ⟨gb154, 2, none⟩ = some (.int .i64 a1_2) := hS_
                    refine norm_ (a' := ?_) ?_ ?_
                    rotate_left
                    ·simp only [putAll, Act.put, List.setIfInBounds_toArray, List.set_cons_zero, List.set_cons_succ]
                     rfl
                    refine two_ (i := 0) (j := 12) (Ni := some 51) (Nj := some 13) #[true, true, true, false, true, true, true, false, true, true, true, false, false, false] #[false, true, true, false, true, true, true, false, true, true, true, false, true, false] rfl rfl rfl rfl (two_of HT_.out (by kernel_rfl)) (by decide) (by decide) (fun K hK => ?_) (fun K hK => ?_)
                    ·skip
                     refine Kd.R_lit_step Kd.string _ 9 ?hg (N := 51) ?hd (xs := ([] : List ByteArray)) (inner := []) (ok := fun _ => True) (okp := fun _ => True) ?hr ?hp (fun _ hk => hk) trivial (Below.refl _ _) (Nat.le_refl _) (by simp) ?_; (case hd => rfl); (case hg => rfl); (case hr => first | (go_simp; done) | (go_simp; rfl)); (case hp => exact (Reps.none _ _))
                     intro v166 w45 ho46 hb hg_ hnew_; clear hg_ hnew_
                     (first | rw [← Ny165.out] at ho46 | (simp only [Int.reduceToNat] at ho46; rw [← Ny165.out] at ho46))
                     replace HO_27 := am (Kd.R_below (zR HO_27.out) hb)
                     replace HO173 := am (Kd.R_below (zR HO173.out) hb)
                     have HO167 := am (Kd.R_lower ho46 (zs_ HB.out))
                     replace BK154 := am (blk_below (zK BK154.out) hb)
                     replace BK155 := am (blk_below (zK BK155.out) hb)
                     replace BK157 := am (blk_below (zK BK157.out) hb)
                     replace HB := am (below_step (zB HB.out) hb); clear hb ho46
                     refine hK.out _ _ ⟨(blk_cell BK154.out 0).trans rfl, (blk_cell BK154.out 1).trans rfl, (blk_cell BK154.out 2).trans rfl⟩ (fun hHeld => ?_)
                     clear hK K
                     refine norm_ (a' := ?_) ?_ ?_
                     rotate_left
                     ·show Act.put _ (some 51) _ = _
                      simp only [Act.put, List.setIfInBounds_toArray, List.set_cons_zero, List.set_cons_succ, i64_w, i32_w]; rfl
                     exact nm_ (hJ0_4 (v166, v172) _ ⟨hHeld, (zR HO167.out), (zR HO173.out), (zR HO_27.out), (zK BK154.out), (zK BK155.out), (zK BK157.out), (zB HB.out)⟩)
                    ·skip
                     refine box_step ?hg (N := 13) ?hd (cs := #[.slice none 0 0, .slice none 0 0, .int .i64 0]) (t := 35) ?hr ?_; (case hd => rfl); (case hg => rfl); (case hr => first | (go_simp; done) | (go_simp; rfl))
                     intro gb177 hg w45 hbox hb
                     replace HO_27 := am (Kd.R_below (zR HO_27.out) hb)
                     replace HO173 := am (Kd.R_below (zR HO173.out) hb)
                     have BK177 := am (hbox)
                     have GW177 := am ((gw_ hg HB.out : w.heap.size ≤ gb177))
                     have GE177 := am ((gw_ hg HB.out : w.heap.size ≤ gb177))
                     replace HB := am (below_step (zB HB.out) hb)
                     have NB154_177 := am ((by rw [hg]; exact Nat.ne_of_lt (blk_lt (zK BK154.out)) : gb154 ≠ gb177))
                     have NB177_154 := am ((by rw [hg]; exact Nat.ne_of_gt (blk_lt (zK BK154.out)) : gb177 ≠ gb154))
                     replace BK154 := am (blk_below (zK BK154.out) hb)
                     have NB155_177 := am ((by rw [hg]; exact Nat.ne_of_lt (blk_lt (zK BK155.out)) : gb155 ≠ gb177))
                     have NB177_155 := am ((by rw [hg]; exact Nat.ne_of_gt (blk_lt (zK BK155.out)) : gb177 ≠ gb155))
                     replace BK155 := am (blk_below (zK BK155.out) hb)
                     have NB157_177 := am ((by rw [hg]; exact Nat.ne_of_lt (blk_lt (zK BK157.out)) : gb157 ≠ gb177))
                     have NB177_157 := am ((by rw [hg]; exact Nat.ne_of_gt (blk_lt (zK BK157.out)) : gb177 ≠ gb157))
                     replace BK157 := am (blk_below (zK BK157.out) hb)
                     clear hb hbox hg
                     refine hK.out _ _ ⟨(blk_cell BK154.out 0).trans rfl, (blk_cell BK154.out 1).trans rfl, (blk_cell BK154.out 2).trans rfl⟩ (fun hHeld => ?_)
                     clear hK K
                     refine norm_ (a' := ?_) ?_ ?_
                     rotate_left
                     ·show Act.put _ (some 13) _ = _
                      simp only [Act.put, List.setIfInBounds_toArray, List.set_cons_zero, List.set_cons_succ, i64_w, i32_w]; rfl
                     exact nm_ (hJ4_12 (v172, gb177) _ ⟨hHeld, (zR HO173.out), (zR HO_27.out), (zK BK154.out), (zK BK155.out), (zK BK157.out), (zK BK177.out), GW177.out, GE177.out, NB154_177.out, NB177_154.out, NB155_177.out, NB177_155.out, NB157_177.out, NB177_157.out, (zB HB.out)⟩)
                  ·skip
                   rintro v166 w44 ⟨hS_, h0_, h1_, h2_, h3_, h4_, h5_⟩; have n0_ : Aside0 (Kd.R Kd.string 9 w44 w.heap.size (fun _ => True) v166 y165) := ⟨h0_⟩; have n1_ : Aside0 (Kd.R (Kd.int .i64) 3 w44 w.heap.size (fun _ => True) (.slice Ao16 t158.length co16) t158) := ⟨h1_⟩; have n2_ : Aside0 (w44.heap[gb154]? = some (.cells #[.slice A1_0 l1_0.length c1_0, .slice A1_1 l1_1.length c1_1, .int .i64 a1_2] 35 (0, 0))) := ⟨h2_⟩; have n3_ : Aside0 (w44.heap[gb155]? = some (.cells #[.slice none 0 0, .slice none 0 0, .int .i64 xdd_1] 35 (0, 0))) := ⟨h3_⟩; have n4_ : Aside0 (w44.heap[gb157]? = some (.cells #[.int .i64 ((rd_T54 l0 x16_1).f0), .string ((rd_T54 l0 x16_1).f1)] 54 (0, 0))) := ⟨h4_⟩; have n5_ : Aside0 (Below w.heap.size w w44) := ⟨h5_⟩; clear HO_27; clear BK154; clear BK155; clear BK157; clear HB; clear h0_ h1_ h2_ h3_ h4_ h5_; have HO167 := n0_; have HO_27 := n1_; have BK154 := n2_; have BK155 := n3_; have BK157 := n4_; have HB := n5_; clear n0_ n1_ n2_ n3_ n4_ n5_; have hHeld : w44.cell? ⟨gb154, 0, none⟩ = some (.slice A1_0 l1_0.length c1_0) ∧ w44.cell? ⟨gb154, 1, none⟩ = some (.slice A1_1 l1_1.length c1_1) ∧ w44.cell? ⟨gb154, 2, none⟩ = some (.int .i64 a1_2) := hS_
                   refine norm_ (a' := ?_) ?_ ?_
                   rotate_left
                   ·simp only [putAll, Act.put, List.setIfInBounds_toArray, List.set_cons_zero, List.set_cons_succ]
                    rfl
                   refine three_ (i := 3) (j := 4) (k := 12) (Ni := some 54) (Nj := some 55) (Nk := some 13) #[true, true, true, true, false, true, true, false, true, true, true, false, false, false] #[true, true, true, false, true, true, true, false, true, true, true, false, false, false] #[true, true, true, false, false, true, true, false, true, true, true, false, true, false] rfl rfl rfl rfl rfl rfl (three_of HT_.out (by kernel_rfl)) (by decide) (by decide) (by decide) (fun K hK => ?_) (fun K hK => ?_) (fun K hK => ?_)
                   ·skip
                    refine Kd.R_append_rows_step Kd.string (w0 := w) w.heap.size (by rfl) (.tmp 51) (.tmp 53) 30 9 (.string ⟨#[]⟩) 16 rfl Try.underlying30 info9 rfl (by decide) (by omega) v166 y165 l1_0 _ _ _ (fun _ => True) (fun _ => False) rfl rfl ?aO ?aR (fun _ _ h => h) (fun _ h => h.elim) ?aF ?aB ?aS ?aL ?_
                    (case aR => exact zC (Kd.C_below HR1_0.out HB.out))
                    (case aB => exact (zB HB.out))
                    (case aF => exact (fun _ _ => trivial))
                    (case aO => exact (zR HO167.out))
                    (case aS => exact (zs_ HB.out))
                    (case aL => have := LMc34.out; omega)
                    intro v169 w45 ho hb hg hat; rw [← Ny168.out] at ho
                    replace HO_27 := am (Kd.R_over' (zR HO_27.out) (Kd.R_typed (zR HO167.out)) (by decide) hg)
                    replace BK154 := am (blk_grown (zK BK154.out) hg (Kd.R_ne HO167.out BK154.out (by decide)))
                    replace BK155 := am (blk_grown (zK BK155.out) hg (Kd.R_ne HO167.out BK155.out (by decide)))
                    replace BK157 := am (blk_grown (zK BK157.out) hg (Kd.R_ne HO167.out BK157.out (by decide)))
                    replace HB := am (hb); have HO170 := am (ho); (try clear HO167); clear ho hb hg hat
                    refine hK.out _ _ ⟨(blk_cell BK154.out 0).trans rfl, (blk_cell BK154.out 1).trans rfl, (blk_cell BK154.out 2).trans rfl⟩ (fun hHeld => ?_)
                    clear hK K
                    refine norm_ (a' := ?_) ?_ ?_
                    rotate_left
                    ·show Act.put _ (some 54) _ = _
                     simp only [Act.put, List.setIfInBounds_toArray, List.set_cons_zero, List.set_cons_succ, i64_w, i32_w]; rfl
                    exact nm_ (hJ0_3 (v166, v169) _ ⟨hHeld, (zR HO170.out), (zR HO_27.out), (zK BK154.out), (zK BK155.out), (zK BK157.out), (zB HB.out)⟩)
                   ·skip
                    refine Kd.R_lit_step Kd.bool _ 4 ?hg (N := 55) ?hd (xs := ([] : List Bool)) (inner := []) (ok := fun _ => True) (okp := fun _ => True) ?hr ?hp (fun _ hk => hk) trivial (Below.refl _ _) (Nat.le_refl _) (by simp) ?_; (case hd => rfl); (case hg => rfl); (case hr => first | (go_simp; done) | (go_simp; rfl)); (case hp => exact (Reps.none _ _))
                    intro v172 w45 ho46 hb hg_ hnew_; clear hg_ hnew_
                    (first | rw [← Ny171.out] at ho46 | (simp only [Int.reduceToNat] at ho46; rw [← Ny171.out] at ho46))
                    replace HO_27 := am (Kd.R_below (zR HO_27.out) hb)
                    replace HO167 := am (Kd.R_below (zR HO167.out) hb)
                    have HO173 := am (Kd.R_lower ho46 (zs_ HB.out))
                    replace BK154 := am (blk_below (zK BK154.out) hb)
                    replace BK155 := am (blk_below (zK BK155.out) hb)
                    replace BK157 := am (blk_below (zK BK157.out) hb)
                    replace HB := am (below_step (zB HB.out) hb); clear hb ho46
                    refine hK.out _ _ ⟨(blk_cell BK154.out 0).trans rfl, (blk_cell BK154.out 1).trans rfl, (blk_cell BK154.out 2).trans rfl⟩ (fun hHeld => ?_)
                    clear hK K
                    refine norm_ (a' := ?_) ?_ ?_
                    rotate_left
                    ·show Act.put _ (some 55) _ = _
                     simp only [Act.put, List.setIfInBounds_toArray, List.set_cons_zero, List.set_cons_succ, i64_w, i32_w]; rfl
                    exact nm_ (hJ0_4 (v166, v172) _ ⟨hHeld, (zR HO167.out), (zR HO173.out), (zR HO_27.out), (zK BK154.out), (zK BK155.out), (zK BK157.out), (zB HB.out)⟩)
                   ·skip
                    refine box_step ?hg (N := 13) ?hd (cs := #[.slice none 0 0, .slice none 0 0, .int .i64 0]) (t := 35) ?hr ?_; (case hd => rfl); (case hg => rfl); (case hr => first | (go_simp; done) | (go_simp; rfl))
                    intro gb177 hg w45 hbox hb
                    replace HO_27 := am (Kd.R_below (zR HO_27.out) hb)
                    replace HO167 := am (Kd.R_below (zR HO167.out) hb)
                    have BK177 := am (hbox)
                    have GW177 := am ((gw_ hg HB.out : w.heap.size ≤ gb177))
                    have GE177 := am ((gw_ hg HB.out : w.heap.size ≤ gb177))
                    replace HB := am (below_step (zB HB.out) hb)
                    have NB154_177 := am ((by rw [hg]; exact Nat.ne_of_lt (blk_lt (zK BK154.out)) : gb154 ≠ gb177))
                    have NB177_154 := am ((by rw [hg]; exact Nat.ne_of_gt (blk_lt (zK BK154.out)) : gb177 ≠ gb154))
                    replace BK154 := am (blk_below (zK BK154.out) hb)
                    have NB155_177 := am ((by rw [hg]; exact Nat.ne_of_lt (blk_lt (zK BK155.out)) : gb155 ≠ gb177))
                    have NB177_155 := am ((by rw [hg]; exact Nat.ne_of_gt (blk_lt (zK BK155.out)) : gb177 ≠ gb155))
                    replace BK155 := am (blk_below (zK BK155.out) hb)
                    have NB157_177 := am ((by rw [hg]; exact Nat.ne_of_lt (blk_lt (zK BK157.out)) : gb157 ≠ gb177))
                    have NB177_157 := am ((by rw [hg]; exact Nat.ne_of_gt (blk_lt (zK BK157.out)) : gb177 ≠ gb157))
                    replace BK157 := am (blk_below (zK BK157.out) hb)
                    clear hb hbox hg
                    refine hK.out _ _ ⟨(blk_cell BK154.out 0).trans rfl, (blk_cell BK154.out 1).trans rfl, (blk_cell BK154.out 2).trans rfl⟩ (fun hHeld => ?_)
                    clear hK K
                    refine norm_ (a' := ?_) ?_ ?_
                    rotate_left
                    ·show Act.put _ (some 13) _ = _
                     simp only [Act.put, List.setIfInBounds_toArray, List.set_cons_zero, List.set_cons_succ, i64_w, i32_w]; rfl
                    exact nm_ (hJ0_12 (v166, gb177) _ ⟨hHeld, (zR HO167.out), (zR HO_27.out), (zK BK154.out), (zK BK155.out), (zK BK157.out), (zK BK177.out), GW177.out, GE177.out, NB154_177.out, NB177_154.out, NB155_177.out, NB177_155.out, NB157_177.out, NB177_157.out, (zB HB.out)⟩)
                 ·skip
                  rintro ⟨v172, gb177⟩ w45 ⟨hS_, h0_, h1_, h2_, h3_, h4_, h5_, h6_, h7_, h8_, h9_, h10_, h11_, h12_, h13_, h14_⟩; have n0_ : Aside0 (Kd.R Kd.bool 4 w45 w.heap.size (fun _ => True) v172 y171) := ⟨h0_⟩; have n1_ : Aside0 (Kd.R (Kd.int .i64) 3 w45 w.heap.size (fun _ => True) (.slice Ao16 t158.length co16) t158) := ⟨h1_⟩; have n2_ : Aside0 (w45.heap[gb154]? = some (.cells #[.slice A1_0 l1_0.length c1_0, .slice A1_1 l1_1.length c1_1, .int .i64 a1_2] 35 (0, 0))) := ⟨h2_⟩; have n3_ : Aside0 (w45.heap[gb155]? = some (.cells #[.slice none 0 0, .slice none 0 0, .int .i64 xdd_1] 35 (0, 0))) := ⟨h3_⟩; have n4_ : Aside0 (w45.heap[gb157]? = some (.cells #[.int .i64 ((rd_T54 l0 x16_1).f0), .string ((rd_T54 l0 x16_1).f1)] 54 (0, 0))) := ⟨h4_⟩; have n5_ : Aside0 (w45.heap[gb177]? = some (.cells #[.slice none 0 0, .slice none 0 0, .int .i64 0] 35 (0, 0))) := ⟨h5_⟩; have n6_ : Aside0 (w.heap.size ≤ gb177) := ⟨h6_⟩; have n7_ : Aside0 (w.heap.size ≤ gb177) := ⟨h7_⟩; have n8_ : Aside0 (gb154 ≠ gb177) := ⟨h8_⟩; have n9_ : Aside0 (gb177 ≠ gb154) := ⟨h9_⟩; have n10_ : Aside0 (gb155 ≠ gb177) := ⟨h10_⟩; have n11_ : Aside0 (gb177 ≠ gb155) := ⟨h11_⟩; have n12_ : Aside0 (gb157 ≠ gb177) := ⟨h12_⟩; have n13_ : Aside0 (gb177 ≠ gb157) := ⟨h13_⟩; have n14_ : Aside0 (Below w.heap.size w w45) := ⟨h14_⟩; clear HO_27; clear BK154; clear BK155; clear BK157; clear HB; clear h0_ h1_ h2_ h3_ h4_ h5_ h6_ h7_ h8_ h9_ h10_ h11_ h12_ h13_ h14_; have HO173 := n0_; have HO_27 := n1_; have BK154 := n2_; have BK155 := n3_; have BK157 := n4_; have BK177 := n5_; have GW177 := n6_; have GE177 := n7_; have NB154_177 := n8_; have NB177_154 := n9_; have NB155_177 := n10_; have NB177_155 := n11_; have NB157_177 := n12_; have NB177_157 := n13_; have HB := n14_; clear n0_ n1_ n2_ n3_ n4_ n5_ n6_ n7_ n8_ n9_ n10_ n11_ n12_ n13_ n14_; have hHeld : w45.cell? ⟨gb154, 0, none⟩ = some (.slice A1_0 l1_0.length c1_0) ∧ w45.cell? ⟨gb154, 1, none⟩ = some (.slice A1_1 l1_1.length c1_1) ∧ w45.cell? ⟨gb154, 2, none⟩ = some (.int .i64 a1_2) := hS_
                  refine norm_ (a' := ?_) ?_ ?_
                  rotate_left
                  ·simp only [putAll, Act.put, List.setIfInBounds_toArray, List.set_cons_zero, List.set_cons_succ]
                   rfl
                  refine one_ (i := 0) (N := some 51) #[true, true, true, false, true, true, true, false, true, true, true, false, true, false] rfl rfl (one_of HT_.out (by kernel_rfl)) (by decide) (fun K hK => ?_)
                  refine Kd.R_lit_step Kd.string _ 9 ?hg (N := 51) ?hd (xs := ([] : List ByteArray)) (inner := []) (ok := fun _ => True) (okp := fun _ => True) ?hr ?hp (fun _ hk => hk) trivial (Below.refl _ _) (Nat.le_refl _) (by simp) ?_; (case hd => rfl); (case hg => rfl); (case hr => first | (go_simp; done) | (go_simp; rfl)); (case hp => exact (Reps.none _ _))
                  intro v166 w46 ho47 hb hg_ hnew_; clear hg_ hnew_
                  (first | rw [← Ny165.out] at ho47 | (simp only [Int.reduceToNat] at ho47; rw [← Ny165.out] at ho47))
                  replace HO_27 := am (Kd.R_below (zR HO_27.out) hb)
                  replace HO173 := am (Kd.R_below (zR HO173.out) hb)
                  have HO167 := am (Kd.R_lower ho47 (zs_ HB.out))
                  replace BK154 := am (blk_below (zK BK154.out) hb)
                  replace BK155 := am (blk_below (zK BK155.out) hb)
                  replace BK157 := am (blk_below (zK BK157.out) hb)
                  replace BK177 := am (blk_below (zK BK177.out) hb)
                  replace HB := am (below_step (zB HB.out) hb); clear hb ho47
                  refine hK.out _ _ ⟨(blk_cell BK154.out 0).trans rfl, (blk_cell BK154.out 1).trans rfl, (blk_cell BK154.out 2).trans rfl⟩ (fun hHeld => ?_)
                  clear hK K
                  refine norm_ (a' := ?_) ?_ ?_
                  rotate_left
                  ·show Act.put _ (some 51) _ = _
                   simp only [Act.put, List.setIfInBounds_toArray, List.set_cons_zero, List.set_cons_succ, i64_w, i32_w]; rfl
                  exact nm_ (hJ0_4_12 (v166, v172, gb177) _ ⟨hHeld, (zR HO167.out), (zR HO173.out), (zR HO_27.out), (zK BK154.out), (zK BK155.out), (zK BK157.out), (zK BK177.out), GW177.out, GE177.out, NB154_177.out, NB177_154.out, NB155_177.out, NB177_155.out, NB157_177.out, NB177_157.out, (zB HB.out)⟩)
                ·skip
                 rintro ⟨v166, gb177⟩ w45 ⟨hS_, h0_, h1_, h2_, h3_, h4_, h5_, h6_, h7_, h8_, h9_, h10_, h11_, h12_, h13_, h14_⟩; have n0_ : Aside0 (Kd.R Kd.string 9 w45 w.heap.size (fun _ => True) v166 y165) := ⟨h0_⟩; have n1_ : Aside0 (Kd.R (Kd.int .i64) 3 w45 w.heap.size (fun _ => True) (.slice Ao16 t158.length co16) t158) := ⟨h1_⟩; have n2_ : Aside0 (w45.heap[gb154]? = some (.cells #[.slice A1_0 l1_0.length c1_0, .slice A1_1 l1_1.length c1_1, .int .i64 a1_2] 35 (0, 0))) := ⟨h2_⟩; have n3_ : Aside0 (w45.heap[gb155]? = some (.cells #[.slice none 0 0, .slice none 0 0, .int .i64 xdd_1] 35 (0, 0))) := ⟨h3_⟩; have n4_ : Aside0 (w45.heap[gb157]? = some (.cells #[.int .i64 ((rd_T54 l0 x16_1).f0), .string ((rd_T54 l0 x16_1).f1)] 54 (0, 0))) := ⟨h4_⟩; have n5_ : Aside0 (w45.heap[gb177]? = some (.cells #[.slice none 0 0, .slice none 0 0, .int .i64 0] 35 (0, 0))) := ⟨h5_⟩; have n6_ : Aside0 (w.heap.size ≤ gb177) := ⟨h6_⟩; have n7_ : Aside0 (w.heap.size ≤ gb177) := ⟨h7_⟩; have n8_ : Aside0 (gb154 ≠ gb177) := ⟨h8_⟩; have n9_ : Aside0 (gb177 ≠ gb154) := ⟨h9_⟩; have n10_ : Aside0 (gb155 ≠ gb177) := ⟨h10_⟩; have n11_ : Aside0 (gb177 ≠ gb155) := ⟨h11_⟩; have n12_ : Aside0 (gb157 ≠ gb177) := ⟨h12_⟩; have n13_ : Aside0 (gb177 ≠ gb157) := ⟨h13_⟩; have n14_ : Aside0 (Below w.heap.size w w45) := ⟨h14_⟩; clear HO_27; clear BK154; clear BK155; clear BK157; clear HB; clear h0_ h1_ h2_ h3_ h4_ h5_ h6_ h7_ h8_ h9_ h10_ h11_ h12_ h13_ h14_; have HO167 := n0_; have HO_27 := n1_; have BK154 := n2_; have BK155 := n3_; have BK157 := n4_; have BK177 := n5_; have GW177 := n6_; have GE177 := n7_; have NB154_177 := n8_; have NB177_154 := n9_; have NB155_177 := n10_; have NB177_155 := n11_; have NB157_177 := n12_; have NB177_157 := n13_; have HB := n14_; clear n0_ n1_ n2_ n3_ n4_ n5_ n6_ n7_ n8_ n9_ n10_ n11_ n12_ n13_ n14_; have hHeld : w45.cell? ⟨gb154, 0, none⟩ = some (.slice A1_0 l1_0.length c1_0) ∧ w45.cell? ⟨gb154, 1, none⟩ = some (.slice A1_1 l1_1.length c1_1) ∧ w45.cell? ⟨gb154, 2, none⟩ = some (.int .i64 a1_2) := hS_
                 refine norm_ (a' := ?_) ?_ ?_
                 rotate_left
                 ·simp only [putAll, Act.put, List.setIfInBounds_toArray, List.set_cons_zero, List.set_cons_succ]
                  rfl
                 refine two_ (i := 3) (j := 4) (Ni := some 54) (Nj := some 55) #[true, true, true, true, false, true, true, false, true, true, true, false, true, false] #[true, true, true, false, true, true, true, false, true, true, true, false, true, false] rfl rfl rfl rfl (two_of HT_.out (by kernel_rfl)) (by decide) (by decide) (fun K hK => ?_) (fun K hK => ?_)
                 ·skip
                  refine Kd.R_append_rows_step Kd.string (w0 := w) w.heap.size (by rfl) (.tmp 51) (.tmp 53) 30 9 (.string ⟨#[]⟩) 16 rfl Try.underlying30 info9 rfl (by decide) (by omega) v166 y165 l1_0 _ _ _ (fun _ => True) (fun _ => False) rfl rfl ?aO ?aR (fun _ _ h => h) (fun _ h => h.elim) ?aF ?aB ?aS ?aL ?_
                  (case aR => exact zC (Kd.C_below HR1_0.out HB.out))
                  (case aB => exact (zB HB.out))
                  (case aF => exact (fun _ _ => trivial))
                  (case aO => exact (zR HO167.out))
                  (case aS => exact (zs_ HB.out))
                  (case aL => have := LMc34.out; omega)
                  intro v169 w46 ho hb hg hat; rw [← Ny168.out] at ho
                  replace HO_27 := am (Kd.R_over' (zR HO_27.out) (Kd.R_typed (zR HO167.out)) (by decide) hg)
                  replace BK154 := am (blk_grown (zK BK154.out) hg (Kd.R_ne HO167.out BK154.out (by decide)))
                  replace BK155 := am (blk_grown (zK BK155.out) hg (Kd.R_ne HO167.out BK155.out (by decide)))
                  replace BK157 := am (blk_grown (zK BK157.out) hg (Kd.R_ne HO167.out BK157.out (by decide)))
                  replace BK177 := am (blk_grown (zK BK177.out) hg (Kd.R_ne HO167.out BK177.out (by decide)))
                  replace HB := am (hb); have HO170 := am (ho); (try clear HO167); clear ho hb hg hat
                  refine hK.out _ _ ⟨(blk_cell BK154.out 0).trans rfl, (blk_cell BK154.out 1).trans rfl, (blk_cell BK154.out 2).trans rfl⟩ (fun hHeld => ?_)
                  clear hK K
                  refine norm_ (a' := ?_) ?_ ?_
                  rotate_left
                  ·show Act.put _ (some 54) _ = _
                   simp only [Act.put, List.setIfInBounds_toArray, List.set_cons_zero, List.set_cons_succ, i64_w, i32_w]; rfl
                  exact nm_ (hJ0_3_12 (v166, v169, gb177) _ ⟨hHeld, (zR HO170.out), (zR HO_27.out), (zK BK154.out), (zK BK155.out), (zK BK157.out), (zK BK177.out), GW177.out, GE177.out, NB154_177.out, NB177_154.out, NB155_177.out, NB177_155.out, NB157_177.out, NB177_157.out, (zB HB.out)⟩)
                 ·skip
                  refine Kd.R_lit_step Kd.bool _ 4 ?hg (N := 55) ?hd (xs := ([] : List Bool)) (inner := []) (ok := fun _ => True) (okp := fun _ => True) ?hr ?hp (fun _ hk => hk) trivial (Below.refl _ _) (Nat.le_refl _) (by simp) ?_; (case hd => rfl); (case hg => rfl); (case hr => first | (go_simp; done) | (go_simp; rfl)); (case hp => exact (Reps.none _ _))
                  intro v172 w46 ho47 hb hg_ hnew_; clear hg_ hnew_
                  (first | rw [← Ny171.out] at ho47 | (simp only [Int.reduceToNat] at ho47; rw [← Ny171.out] at ho47))
                  replace HO_27 := am (Kd.R_below (zR HO_27.out) hb)
                  replace HO167 := am (Kd.R_below (zR HO167.out) hb)
                  have HO173 := am (Kd.R_lower ho47 (zs_ HB.out))
                  replace BK154 := am (blk_below (zK BK154.out) hb)
                  replace BK155 := am (blk_below (zK BK155.out) hb)
                  replace BK157 := am (blk_below (zK BK157.out) hb)
                  replace BK177 := am (blk_below (zK BK177.out) hb)
                  replace HB := am (below_step (zB HB.out) hb); clear hb ho47
                  refine hK.out _ _ ⟨(blk_cell BK154.out 0).trans rfl, (blk_cell BK154.out 1).trans rfl, (blk_cell BK154.out 2).trans rfl⟩ (fun hHeld => ?_)
                  clear hK K
                  refine norm_ (a' := ?_) ?_ ?_
                  rotate_left
                  ·show Act.put _ (some 55) _ = _
                   simp only [Act.put, List.setIfInBounds_toArray, List.set_cons_zero, List.set_cons_succ, i64_w, i32_w]; rfl
                  exact nm_ (hJ0_4_12 (v166, v172, gb177) _ ⟨hHeld, (zR HO167.out), (zR HO173.out), (zR HO_27.out), (zK BK154.out), (zK BK155.out), (zK BK157.out), (zK BK177.out), GW177.out, GE177.out, NB154_177.out, NB177_154.out, NB155_177.out, NB177_155.out, NB157_177.out, NB177_157.out, (zB HB.out)⟩)
               ·skip
                rintro ⟨v166, v172⟩ w46 ⟨hS_, h0_, h1_, h2_, h3_, h4_, h5_, h6_⟩; have n0_ : Aside0 (Kd.R Kd.string 9 w46 w.heap.size (fun _ => True) v166 y165) := ⟨h0_⟩; have n1_ : Aside0 (Kd.R Kd.bool 4 w46 w.heap.size (fun _ => True) v172 y171) := ⟨h1_⟩; have n2_ : Aside0 (Kd.R (Kd.int .i64) 3 w46 w.heap.size (fun _ => True) (.slice Ao16 t158.length co16) t158) := ⟨h2_⟩; have n3_ : Aside0 (w46.heap[gb154]? = some (.cells #[.slice A1_0 l1_0.length c1_0, .slice A1_1 l1_1.length c1_1, .int .i64 a1_2] 35 (0, 0))) := ⟨h3_⟩; have n4_ : Aside0 (w46.heap[gb155]? = some (.cells #[.slice none 0 0, .slice none 0 0, .int .i64 xdd_1] 35 (0, 0))) := ⟨h4_⟩; have n5_ : Aside0 (w46.heap[gb157]? = some (.cells #[.int .i64 ((rd_T54 l0 x16_1).f0), .string ((rd_T54 l0 x16_1).f1)] 54 (0, 0))) := ⟨h5_⟩; have n6_ : Aside0 (Below w.heap.size w w46) := ⟨h6_⟩; clear HO_27; clear BK154; clear BK155; clear BK157; clear HB; clear h0_ h1_ h2_ h3_ h4_ h5_ h6_; have HO167 := n0_; have HO173 := n1_; have HO_27 := n2_; have BK154 := n3_; have BK155 := n4_; have BK157 := n5_; have HB := n6_; clear n0_ n1_ n2_ n3_ n4_ n5_ n6_; have hHeld : w46.cell? ⟨gb154, 0, none⟩ = some (.slice A1_0 l1_0.length c1_0) ∧ w46.cell? ⟨gb154, 1, none⟩ = some (.slice A1_1 l1_1.length c1_1) ∧ w46.cell? ⟨gb154, 2, none⟩ = some (.int .i64 a1_2) := hS_
                refine norm_ (a' := ?_) ?_ ?_
                rotate_left
                ·simp only [putAll, Act.put, List.setIfInBounds_toArray, List.set_cons_zero, List.set_cons_succ]
                 rfl
                refine two_ (i := 3) (j := 12) (Ni := some 54) (Nj := some 13) #[true, true, true, true, true, true, true, false, true, true, true, false, false, false] #[true, true, true, false, true, true, true, false, true, true, true, false, true, false] rfl rfl rfl rfl (two_of HT_.out (by kernel_rfl)) (by decide) (by decide) (fun K hK => ?_) (fun K hK => ?_)
                ·skip
                 refine Kd.R_append_rows_step Kd.string (w0 := w) w.heap.size (by rfl) (.tmp 51) (.tmp 53) 30 9 (.string ⟨#[]⟩) 16 rfl Try.underlying30 info9 rfl (by decide) (by omega) v166 y165 l1_0 _ _ _ (fun _ => True) (fun _ => False) rfl rfl ?aO ?aR (fun _ _ h => h) (fun _ h => h.elim) ?aF ?aB ?aS ?aL ?_
                 (case aR => exact zC (Kd.C_below HR1_0.out HB.out))
                 (case aB => exact (zB HB.out))
                 (case aF => exact (fun _ _ => trivial))
                 (case aO => exact (zR HO167.out))
                 (case aS => exact (zs_ HB.out))
                 (case aL => have := LMc34.out; omega)
                 intro v169 w47 ho hb hg hat; rw [← Ny168.out] at ho
                 replace HO_27 := am (Kd.R_over' (zR HO_27.out) (Kd.R_typed (zR HO167.out)) (by decide) hg)
                 replace BK154 := am (blk_grown (zK BK154.out) hg (Kd.R_ne HO167.out BK154.out (by decide)))
                 replace BK155 := am (blk_grown (zK BK155.out) hg (Kd.R_ne HO167.out BK155.out (by decide)))
                 replace BK157 := am (blk_grown (zK BK157.out) hg (Kd.R_ne HO167.out BK157.out (by decide)))
                 replace HO173 := am (Kd.R_over' (zR HO173.out) (Kd.R_typed (zR HO167.out)) (by decide) hg)
                 replace HB := am (hb); have HO170 := am (ho); (try clear HO167); clear ho hb hg hat
                 refine hK.out _ _ ⟨(blk_cell BK154.out 0).trans rfl, (blk_cell BK154.out 1).trans rfl, (blk_cell BK154.out 2).trans rfl⟩ (fun hHeld => ?_)
                 clear hK K
                 refine norm_ (a' := ?_) ?_ ?_
                 rotate_left
                 ·show Act.put _ (some 54) _ = _
                  simp only [Act.put, List.setIfInBounds_toArray, List.set_cons_zero, List.set_cons_succ, i64_w, i32_w]; rfl
                 exact nm_ (hJ0_3_4 (v166, v169, v172) _ ⟨hHeld, (zR HO170.out), (zR HO173.out), (zR HO_27.out), (zK BK154.out), (zK BK155.out), (zK BK157.out), (zB HB.out)⟩)
                ·skip
                 refine box_step ?hg (N := 13) ?hd (cs := #[.slice none 0 0, .slice none 0 0, .int .i64 0]) (t := 35) ?hr ?_; (case hd => rfl); (case hg => rfl); (case hr => first | (go_simp; done) | (go_simp; rfl))
                 intro gb177 hg w47 hbox hb
                 replace HO_27 := am (Kd.R_below (zR HO_27.out) hb)
                 replace HO167 := am (Kd.R_below (zR HO167.out) hb)
                 replace HO173 := am (Kd.R_below (zR HO173.out) hb)
                 have BK177 := am (hbox)
                 have GW177 := am ((gw_ hg HB.out : w.heap.size ≤ gb177))
                 have GE177 := am ((gw_ hg HB.out : w.heap.size ≤ gb177))
                 replace HB := am (below_step (zB HB.out) hb)
                 have NB154_177 := am ((by rw [hg]; exact Nat.ne_of_lt (blk_lt (zK BK154.out)) : gb154 ≠ gb177))
                 have NB177_154 := am ((by rw [hg]; exact Nat.ne_of_gt (blk_lt (zK BK154.out)) : gb177 ≠ gb154))
                 replace BK154 := am (blk_below (zK BK154.out) hb)
                 have NB155_177 := am ((by rw [hg]; exact Nat.ne_of_lt (blk_lt (zK BK155.out)) : gb155 ≠ gb177))
                 have NB177_155 := am ((by rw [hg]; exact Nat.ne_of_gt (blk_lt (zK BK155.out)) : gb177 ≠ gb155))
                 replace BK155 := am (blk_below (zK BK155.out) hb)
                 have NB157_177 := am ((by rw [hg]; exact Nat.ne_of_lt (blk_lt (zK BK157.out)) : gb157 ≠ gb177))
                 have NB177_157 := am ((by rw [hg]; exact Nat.ne_of_gt (blk_lt (zK BK157.out)) : gb177 ≠ gb157))
                 replace BK157 := am (blk_below (zK BK157.out) hb)
                 clear hb hbox hg
                 refine hK.out _ _ ⟨(blk_cell BK154.out 0).trans rfl, (blk_cell BK154.out 1).trans rfl, (blk_cell BK154.out 2).trans rfl⟩ (fun hHeld => ?_)
                 clear hK K
                 refine norm_ (a' := ?_) ?_ ?_
                 rotate_left
                 ·show Act.put _ (some 13) _ = _
                  simp only [Act.put, List.setIfInBounds_toArray, List.set_cons_zero, List.set_cons_succ, i64_w, i32_w]; rfl
                 exact nm_ (hJ0_4_12 (v166, v172, gb177) _ ⟨hHeld, (zR HO167.out), (zR HO173.out), (zR HO_27.out), (zK BK154.out), (zK BK155.out), (zK BK157.out), (zK BK177.out), GW177.out, GE177.out, NB154_177.out, NB177_154.out, NB155_177.out, NB177_155.out, NB157_177.out, NB177_157.out, (zB HB.out)⟩)
              ·skip
               rintro ⟨v166, v169⟩ w45 ⟨hS_, h0_, h1_, h2_, h3_, h4_, h5_⟩; have n0_ : Aside0 (Kd.R Kd.string 9 w45 w.heap.size (fun _ => True) v169 y168) := ⟨h0_⟩; have n1_ : Aside0 (Kd.R (Kd.int .i64) 3 w45 w.heap.size (fun _ => True) (.slice Ao16 t158.length co16) t158) := ⟨h1_⟩; have n2_ : Aside0 (w45.heap[gb154]? = some (.cells #[.slice A1_0 l1_0.length c1_0, .slice A1_1 l1_1.length c1_1, .int .i64 a1_2] 35 (0, 0))) := ⟨h2_⟩; have n3_ : Aside0 (w45.heap[gb155]? = some (.cells #[.slice none 0 0, .slice none 0 0, .int .i64 xdd_1] 35 (0, 0))) := ⟨h3_⟩; have n4_ : Aside0 (w45.heap[gb157]? = some (.cells #[.int .i64 ((rd_T54 l0 x16_1).f0), .string ((rd_T54 l0 x16_1).f1)] 54 (0, 0))) := ⟨h4_⟩; have n5_ : Aside0 (Below w.heap.size w w45) := ⟨h5_⟩; clear HO_27; clear BK154; clear BK155; clear BK157; clear HB; clear h0_ h1_ h2_ h3_ h4_ h5_; have HO170 := n0_; have HO_27 := n1_; have BK154 := n2_; have BK155 := n3_; have BK157 := n4_; have HB := n5_; clear n0_ n1_ n2_ n3_ n4_ n5_; have hHeld : w45.cell? ⟨gb154, 0, none⟩ = some (.slice A1_0 l1_0.length c1_0) ∧ w45.cell? ⟨gb154, 1, none⟩ = some (.slice A1_1 l1_1.length c1_1) ∧ w45.cell? ⟨gb154, 2, none⟩ = some (.int .i64 a1_2) := hS_
               refine norm_ (a' := ?_) ?_ ?_
               rotate_left
               ·simp only [putAll, Act.put, List.setIfInBounds_toArray, List.set_cons_zero, List.set_cons_succ]
                rfl
               refine two_ (i := 4) (j := 12) (Ni := some 55) (Nj := some 13) #[true, true, true, true, true, true, true, false, true, true, true, false, false, false] #[true, true, true, true, false, true, true, false, true, true, true, false, true, false] rfl rfl rfl rfl (two_of HT_.out (by kernel_rfl)) (by decide) (by decide) (fun K hK => ?_) (fun K hK => ?_)
               ·skip
                refine Kd.R_lit_step Kd.bool _ 4 ?hg (N := 55) ?hd (xs := ([] : List Bool)) (inner := []) (ok := fun _ => True) (okp := fun _ => True) ?hr ?hp (fun _ hk => hk) trivial (Below.refl _ _) (Nat.le_refl _) (by simp) ?_; (case hd => rfl); (case hg => rfl); (case hr => first | (go_simp; done) | (go_simp; rfl)); (case hp => exact (Reps.none _ _))
                intro v172 w46 ho47 hb hg_ hnew_; clear hg_ hnew_
                (first | rw [← Ny171.out] at ho47 | (simp only [Int.reduceToNat] at ho47; rw [← Ny171.out] at ho47))
                replace HO_27 := am (Kd.R_below (zR HO_27.out) hb)
                replace HO170 := am (Kd.R_below (zR HO170.out) hb)
                have HO173 := am (Kd.R_lower ho47 (zs_ HB.out))
                replace BK154 := am (blk_below (zK BK154.out) hb)
                replace BK155 := am (blk_below (zK BK155.out) hb)
                replace BK157 := am (blk_below (zK BK157.out) hb)
                replace HB := am (below_step (zB HB.out) hb); clear hb ho47
                refine hK.out _ _ ⟨(blk_cell BK154.out 0).trans rfl, (blk_cell BK154.out 1).trans rfl, (blk_cell BK154.out 2).trans rfl⟩ (fun hHeld => ?_)
                clear hK K
                refine norm_ (a' := ?_) ?_ ?_
                rotate_left
                ·show Act.put _ (some 55) _ = _
                 simp only [Act.put, List.setIfInBounds_toArray, List.set_cons_zero, List.set_cons_succ, i64_w, i32_w]; rfl
                exact nm_ (hJ0_3_4 (v166, v169, v172) _ ⟨hHeld, (zR HO170.out), (zR HO173.out), (zR HO_27.out), (zK BK154.out), (zK BK155.out), (zK BK157.out), (zB HB.out)⟩)
               ·skip
                refine box_step ?hg (N := 13) ?hd (cs := #[.slice none 0 0, .slice none 0 0, .int .i64 0]) (t := 35) ?hr ?_; (case hd => rfl); (case hg => rfl); (case hr => first | (go_simp; done) | (go_simp; rfl))
                intro gb177 hg w46 hbox hb
                replace HO_27 := am (Kd.R_below (zR HO_27.out) hb)
                replace HO170 := am (Kd.R_below (zR HO170.out) hb)
                have BK177 := am (hbox)
                have GW177 := am ((gw_ hg HB.out : w.heap.size ≤ gb177))
                have GE177 := am ((gw_ hg HB.out : w.heap.size ≤ gb177))
                replace HB := am (below_step (zB HB.out) hb)
                have NB154_177 := am ((by rw [hg]; exact Nat.ne_of_lt (blk_lt (zK BK154.out)) : gb154 ≠ gb177))
                have NB177_154 := am ((by rw [hg]; exact Nat.ne_of_gt (blk_lt (zK BK154.out)) : gb177 ≠ gb154))
                replace BK154 := am (blk_below (zK BK154.out) hb)
                have NB155_177 := am ((by rw [hg]; exact Nat.ne_of_lt (blk_lt (zK BK155.out)) : gb155 ≠ gb177))
                have NB177_155 := am ((by rw [hg]; exact Nat.ne_of_gt (blk_lt (zK BK155.out)) : gb177 ≠ gb155))
                replace BK155 := am (blk_below (zK BK155.out) hb)
                have NB157_177 := am ((by rw [hg]; exact Nat.ne_of_lt (blk_lt (zK BK157.out)) : gb157 ≠ gb177))
                have NB177_157 := am ((by rw [hg]; exact Nat.ne_of_gt (blk_lt (zK BK157.out)) : gb177 ≠ gb157))
                replace BK157 := am (blk_below (zK BK157.out) hb)
                clear hb hbox hg
                refine hK.out _ _ ⟨(blk_cell BK154.out 0).trans rfl, (blk_cell BK154.out 1).trans rfl, (blk_cell BK154.out 2).trans rfl⟩ (fun hHeld => ?_)
                clear hK K
                refine norm_ (a' := ?_) ?_ ?_
                rotate_left
                ·show Act.put _ (some 13) _ = _
                 simp only [Act.put, List.setIfInBounds_toArray, List.set_cons_zero, List.set_cons_succ, i64_w, i32_w]; rfl
                exact nm_ (hJ0_3_12 (v166, v169, gb177) _ ⟨hHeld, (zR HO170.out), (zR HO_27.out), (zK BK154.out), (zK BK155.out), (zK BK157.out), (zK BK177.out), GW177.out, GE177.out, NB154_177.out, NB177_154.out, NB155_177.out, NB177_155.out, NB157_177.out, NB177_157.out, (zB HB.out)⟩)
             ·skip
              rintro ⟨v166, v172, gb177⟩ w47 ⟨hS_, h0_, h1_, h2_, h3_, h4_, h5_, h6_, h7_, h8_, h9_, h10_, h11_, h12_, h13_, h14_, h15_⟩; have n0_ : Aside0 (Kd.R Kd.string 9 w47 w.heap.size (fun _ => True) v166 y165) := ⟨h0_⟩; have n1_ : Aside0 (Kd.R Kd.bool 4 w47 w.heap.size (fun _ => True) v172 y171) := ⟨h1_⟩; have n2_ : Aside0 (Kd.R (Kd.int .i64) 3 w47 w.heap.size (fun _ => True) (.slice Ao16 t158.length co16) t158) := ⟨h2_⟩; have n3_ : Aside0 (w47.heap[gb154]? = some (.cells #[.slice A1_0 l1_0.length c1_0, .slice A1_1 l1_1.length c1_1, .int .i64 a1_2] 35 (0, 0))) := ⟨h3_⟩; have n4_ : Aside0 (w47.heap[gb155]? = some (.cells #[.slice none 0 0, .slice none 0 0, .int .i64 xdd_1] 35 (0, 0))) := ⟨h4_⟩; have n5_ : Aside0 (w47.heap[gb157]? = some (.cells #[.int .i64 ((rd_T54 l0 x16_1).f0), .string ((rd_T54 l0 x16_1).f1)] 54 (0, 0))) := ⟨h5_⟩; have n6_ : Aside0 (w47.heap[gb177]? = some (.cells #[.slice none 0 0, .slice none 0 0, .int .i64 0] 35 (0, 0))) := ⟨h6_⟩; have n7_ : Aside0 (w.heap.size ≤ gb177) := ⟨h7_⟩; have n8_ : Aside0 (w.heap.size ≤ gb177) := ⟨h8_⟩; have n9_ : Aside0 (gb154 ≠ gb177) := ⟨h9_⟩; have n10_ : Aside0 (gb177 ≠ gb154) := ⟨h10_⟩; have n11_ : Aside0 (gb155 ≠ gb177) := ⟨h11_⟩; have n12_ : Aside0 (gb177 ≠ gb155) := ⟨h12_⟩; have n13_ : Aside0 (gb157 ≠ gb177) := ⟨h13_⟩; have n14_ : Aside0 (gb177 ≠ gb157) := ⟨h14_⟩; have n15_ : Aside0 (Below w.heap.size w w47) := ⟨h15_⟩; clear HO_27; clear BK154; clear BK155; clear BK157; clear HB; clear h0_ h1_ h2_ h3_ h4_ h5_ h6_ h7_ h8_ h9_ h10_ h11_ h12_ h13_ h14_ h15_; have HO167 := n0_; have HO173 := n1_; have HO_27 := n2_; have BK154 := n3_; have BK155 := n4_; have BK157 := n5_; have BK177 := n6_; have GW177 := n7_; have GE177 := n8_; have NB154_177 := n9_; have NB177_154 := n10_; have NB155_177 := n11_; have NB177_155 := n12_; have NB157_177 := n13_; have NB177_157 := n14_; have HB := n15_; clear n0_ n1_ n2_ n3_ n4_ n5_ n6_ n7_ n8_ n9_ n10_ n11_ n12_ n13_ n14_ n15_; have hHeld : w47.cell? ⟨gb154, 0, none⟩ = some (.slice A1_0 l1_0.length c1_0) ∧ w47.cell? ⟨gb154, 1, none⟩ = some (.slice A1_1 l1_1.length c1_1) ∧ w47.cell? ⟨gb154, 2, none⟩ = some (.int .i64 a1_2) := hS_
              refine norm_ (a' := ?_) ?_ ?_
              rotate_left
              ·simp only [putAll, Act.put, List.setIfInBounds_toArray, List.set_cons_zero, List.set_cons_succ]
               rfl
              refine one_ (i := 3) (N := some 54) #[true, true, true, true, true, true, true, false, true, true, true, false, true, false] rfl rfl (one_of HT_.out (by kernel_rfl)) (by decide) (fun K hK => ?_)
              refine Kd.R_append_rows_step Kd.string (w0 := w) w.heap.size (by rfl) (.tmp 51) (.tmp 53) 30 9 (.string ⟨#[]⟩) 16 rfl Try.underlying30 info9 rfl (by decide) (by omega) v166 y165 l1_0 _ _ _ (fun _ => True) (fun _ => False) rfl rfl ?aO ?aR (fun _ _ h => h) (fun _ h => h.elim) ?aF ?aB ?aS ?aL ?_
              (case aR => exact zC (Kd.C_below HR1_0.out HB.out))
              (case aB => exact (zB HB.out))
              (case aF => exact (fun _ _ => trivial))
              (case aO => exact (zR HO167.out))
              (case aS => exact (zs_ HB.out))
              (case aL => have := LMc34.out; omega)
              intro v169 w48 ho hb hg hat; rw [← Ny168.out] at ho
              replace HO_27 := am (Kd.R_over' (zR HO_27.out) (Kd.R_typed (zR HO167.out)) (by decide) hg)
              replace BK154 := am (blk_grown (zK BK154.out) hg (Kd.R_ne HO167.out BK154.out (by decide)))
              replace BK155 := am (blk_grown (zK BK155.out) hg (Kd.R_ne HO167.out BK155.out (by decide)))
              replace BK157 := am (blk_grown (zK BK157.out) hg (Kd.R_ne HO167.out BK157.out (by decide)))
              replace HO173 := am (Kd.R_over' (zR HO173.out) (Kd.R_typed (zR HO167.out)) (by decide) hg)
              replace BK177 := am (blk_grown (zK BK177.out) hg (Kd.R_ne HO167.out BK177.out (by decide)))
              replace HB := am (hb); have HO170 := am (ho); (try clear HO167); clear ho hb hg hat
              refine hK.out _ _ ⟨(blk_cell BK154.out 0).trans rfl, (blk_cell BK154.out 1).trans rfl, (blk_cell BK154.out 2).trans rfl⟩ (fun hHeld => ?_)
              clear hK K
              refine norm_ (a' := ?_) ?_ ?_
              rotate_left
              ·show Act.put _ (some 54) _ = _
               simp only [Act.put, List.setIfInBounds_toArray, List.set_cons_zero, List.set_cons_succ, i64_w, i32_w]; rfl
              exact nm_ (hJ0_3_4_12 (v166, v169, v172, gb177) _ ⟨hHeld, (zR HO170.out), (zR HO173.out), (zR HO_27.out), (zK BK154.out), (zK BK155.out), (zK BK157.out), (zK BK177.out), GW177.out, GE177.out, NB154_177.out, NB177_154.out, NB155_177.out, NB177_155.out, NB157_177.out, NB177_157.out, (zB HB.out)⟩)
            ·skip
             rintro ⟨v166, v169, gb177⟩ w46 ⟨hS_, h0_, h1_, h2_, h3_, h4_, h5_, h6_, h7_, h8_, h9_, h10_, h11_, h12_, h13_, h14_⟩; have n0_ : Aside0 (Kd.R Kd.string 9 w46 w.heap.size (fun _ => True) v169 y168) := ⟨h0_⟩; have n1_ : Aside0 (Kd.R (Kd.int .i64) 3 w46 w.heap.size (fun _ => True) (.slice Ao16 t158.length co16) t158) := ⟨h1_⟩; have n2_ : Aside0 (w46.heap[gb154]? = some (.cells #[.slice A1_0 l1_0.length c1_0, .slice A1_1 l1_1.length c1_1, .int .i64 a1_2] 35 (0, 0))) := ⟨h2_⟩; have n3_ : Aside0 (w46.heap[gb155]? = some (.cells #[.slice none 0 0, .slice none 0 0, .int .i64 xdd_1] 35 (0, 0))) := ⟨h3_⟩; have n4_ : Aside0 (w46.heap[gb157]? = some (.cells #[.int .i64 ((rd_T54 l0 x16_1).f0), .string ((rd_T54 l0 x16_1).f1)] 54 (0, 0))) := ⟨h4_⟩; have n5_ : Aside0 (w46.heap[gb177]? = some (.cells #[.slice none 0 0, .slice none 0 0, .int .i64 0] 35 (0, 0))) := ⟨h5_⟩; have n6_ : Aside0 (w.heap.size ≤ gb177) := ⟨h6_⟩; have n7_ : Aside0 (w.heap.size ≤ gb177) := ⟨h7_⟩; have n8_ : Aside0 (gb154 ≠ gb177) := ⟨h8_⟩; have n9_ : Aside0 (gb177 ≠ gb154) := ⟨h9_⟩; have n10_ : Aside0 (gb155 ≠ gb177) := ⟨h10_⟩; have n11_ : Aside0 (gb177 ≠ gb155) := ⟨h11_⟩; have n12_ : Aside0 (gb157 ≠ gb177) := ⟨h12_⟩; have n13_ : Aside0 (gb177 ≠ gb157) := ⟨h13_⟩; have n14_ : Aside0 (Below w.heap.size w w46) := ⟨h14_⟩; clear HO_27; clear BK154; clear BK155; clear BK157; clear HB; clear h0_ h1_ h2_ h3_ h4_ h5_ h6_ h7_ h8_ h9_ h10_ h11_ h12_ h13_ h14_; have HO170 := n0_; have HO_27 := n1_; have BK154 := n2_; have BK155 := n3_; have BK157 := n4_; have BK177 := n5_; have GW177 := n6_; have GE177 := n7_; have NB154_177 := n8_; have NB177_154 := n9_; have NB155_177 := n10_; have NB177_155 := n11_; have NB157_177 := n12_; have NB177_157 := n13_; have HB := n14_; clear n0_ n1_ n2_ n3_ n4_ n5_ n6_ n7_ n8_ n9_ n10_ n11_ n12_ n13_ n14_; have hHeld : w46.cell? ⟨gb154, 0, none⟩ = some (.slice A1_0 l1_0.length c1_0) ∧ w46.cell? ⟨gb154, 1, none⟩ = some (.slice A1_1 l1_1.length c1_1) ∧ w46.cell? ⟨gb154, 2, none⟩ = some (.int .i64 a1_2) := hS_
             refine norm_ (a' := ?_) ?_ ?_
             rotate_left
             ·simp only [putAll, Act.put, List.setIfInBounds_toArray, List.set_cons_zero, List.set_cons_succ]
              rfl
             refine one_ (i := 4) (N := some 55) #[true, true, true, true, true, true, true, false, true, true, true, false, true, false] rfl rfl (one_of HT_.out (by kernel_rfl)) (by decide) (fun K hK => ?_)
             refine Kd.R_lit_step Kd.bool _ 4 ?hg (N := 55) ?hd (xs := ([] : List Bool)) (inner := []) (ok := fun _ => True) (okp := fun _ => True) ?hr ?hp (fun _ hk => hk) trivial (Below.refl _ _) (Nat.le_refl _) (by simp) ?_; (case hd => rfl); (case hg => rfl); (case hr => first | (go_simp; done) | (go_simp; rfl)); (case hp => exact (Reps.none _ _))
             intro v172 w47 ho48 hb hg_ hnew_; clear hg_ hnew_
             (first | rw [← Ny171.out] at ho48 | (simp only [Int.reduceToNat] at ho48; rw [← Ny171.out] at ho48))
             replace HO_27 := am (Kd.R_below (zR HO_27.out) hb)
             replace HO170 := am (Kd.R_below (zR HO170.out) hb)
             have HO173 := am (Kd.R_lower ho48 (zs_ HB.out))
             replace BK154 := am (blk_below (zK BK154.out) hb)
             replace BK155 := am (blk_below (zK BK155.out) hb)
             replace BK157 := am (blk_below (zK BK157.out) hb)
             replace BK177 := am (blk_below (zK BK177.out) hb)
             replace HB := am (below_step (zB HB.out) hb); clear hb ho48
             refine hK.out _ _ ⟨(blk_cell BK154.out 0).trans rfl, (blk_cell BK154.out 1).trans rfl, (blk_cell BK154.out 2).trans rfl⟩ (fun hHeld => ?_)
             clear hK K
             refine norm_ (a' := ?_) ?_ ?_
             rotate_left
             ·show Act.put _ (some 55) _ = _
              simp only [Act.put, List.setIfInBounds_toArray, List.set_cons_zero, List.set_cons_succ, i64_w, i32_w]; rfl
             exact nm_ (hJ0_3_4_12 (v166, v169, v172, gb177) _ ⟨hHeld, (zR HO170.out), (zR HO173.out), (zR HO_27.out), (zK BK154.out), (zK BK155.out), (zK BK157.out), (zK BK177.out), GW177.out, GE177.out, NB154_177.out, NB177_154.out, NB155_177.out, NB177_155.out, NB157_177.out, NB177_157.out, (zB HB.out)⟩)
           ·skip
            rintro ⟨v166, v169, v172⟩ w47 ⟨hS_, h0_, h1_, h2_, h3_, h4_, h5_, h6_⟩; have n0_ : Aside0 (Kd.R Kd.string 9 w47 w.heap.size (fun _ => True) v169 y168) := ⟨h0_⟩; have n1_ : Aside0 (Kd.R Kd.bool 4 w47 w.heap.size (fun _ => True) v172 y171) := ⟨h1_⟩; have n2_ : Aside0 (Kd.R (Kd.int .i64) 3 w47 w.heap.size (fun _ => True) (.slice Ao16 t158.length co16) t158) := ⟨h2_⟩; have n3_ : Aside0 (w47.heap[gb154]? = some (.cells #[.slice A1_0 l1_0.length c1_0, .slice A1_1 l1_1.length c1_1, .int .i64 a1_2] 35 (0, 0))) := ⟨h3_⟩; have n4_ : Aside0 (w47.heap[gb155]? = some (.cells #[.slice none 0 0, .slice none 0 0, .int .i64 xdd_1] 35 (0, 0))) := ⟨h4_⟩; have n5_ : Aside0 (w47.heap[gb157]? = some (.cells #[.int .i64 ((rd_T54 l0 x16_1).f0), .string ((rd_T54 l0 x16_1).f1)] 54 (0, 0))) := ⟨h5_⟩; have n6_ : Aside0 (Below w.heap.size w w47) := ⟨h6_⟩; clear HO_27; clear BK154; clear BK155; clear BK157; clear HB; clear h0_ h1_ h2_ h3_ h4_ h5_ h6_; have HO170 := n0_; have HO173 := n1_; have HO_27 := n2_; have BK154 := n3_; have BK155 := n4_; have BK157 := n5_; have HB := n6_; clear n0_ n1_ n2_ n3_ n4_ n5_ n6_; have hHeld : w47.cell? ⟨gb154, 0, none⟩ = some (.slice A1_0 l1_0.length c1_0) ∧ w47.cell? ⟨gb154, 1, none⟩ = some (.slice A1_1 l1_1.length c1_1) ∧ w47.cell? ⟨gb154, 2, none⟩ = some (.int .i64 a1_2) := hS_
            refine norm_ (a' := ?_) ?_ ?_
            rotate_left
            ·simp only [putAll, Act.put, List.setIfInBounds_toArray, List.set_cons_zero, List.set_cons_succ]
             rfl
            refine two_ (i := 7) (j := 12) (Ni := some 58) (Nj := some 13) #[true, true, true, true, true, true, true, true, true, true, true, false, false, false] #[true, true, true, true, true, true, true, false, true, true, true, false, true, false] rfl rfl rfl rfl (two_of HT_.out (by kernel_rfl)) (by decide) (by decide) (fun K hK => ?_) (fun K hK => ?_)
            ·skip
             refine Kd.R_append_rows_step Kd.bool (w0 := w) w.heap.size (by rfl) (.tmp 55) (.tmp 57) 31 4 (.bool false) 1 rfl Try.underlying31 info4 rfl (by decide) (by omega) v172 y171 l1_1 _ _ _ (fun _ => True) (fun _ => False) rfl rfl ?aO ?aR (fun _ _ h => h) (fun _ h => h.elim) ?aF ?aB ?aS ?aL ?_
             (case aR => exact zC (Kd.C_below HR1_1.out HB.out))
             (case aB => exact (zB HB.out))
             (case aF => exact (fun _ _ => trivial))
             (case aO => exact (zR HO173.out))
             (case aS => exact (zs_ HB.out))
             (case aL => have := LMc35.out; omega)
             intro v175 w48 ho hb hg hat; rw [← Ny174.out] at ho
             replace HO_27 := am (Kd.R_over' (zR HO_27.out) (Kd.R_typed (zR HO173.out)) (by decide) hg)
             replace BK154 := am (blk_grown (zK BK154.out) hg (Kd.R_ne HO173.out BK154.out (by decide)))
             replace BK155 := am (blk_grown (zK BK155.out) hg (Kd.R_ne HO173.out BK155.out (by decide)))
             replace BK157 := am (blk_grown (zK BK157.out) hg (Kd.R_ne HO173.out BK157.out (by decide)))
             replace HO170 := am (Kd.R_over' (zR HO170.out) (Kd.R_typed (zR HO173.out)) (by decide) hg)
             replace HB := am (hb); have HO176 := am (ho); (try clear HO173); clear ho hb hg hat; obtain ⟨Ao49, co49, eo49⟩ := Kd.R_slice HO176.out
             (first | subst eo49 | (injection eo49 with f1_ f2_ f3_; have f4_ := f1_.symm; have f5_ := f3_.symm; clear f1_ f2_ f3_; subst f4_; subst f5_))
             obtain ⟨Ao50, co50, eo50⟩ := Kd.R_slice HO170.out
             (first | subst eo50 | (injection eo50 with f1_ f2_ f3_; have f4_ := f1_.symm; have f5_ := f3_.symm; clear f1_ f2_ f3_; subst f4_; subst f5_))
             refine hK.out _ _ ⟨(blk_cell BK154.out 0).trans rfl, (blk_cell BK154.out 1).trans rfl, (blk_cell BK154.out 2).trans rfl⟩ (fun hHeld => ?_)
             clear hK K
             refine norm_ (a' := ?_) ?_ ?_
             rotate_left
             ·show Act.put _ (some 58) _ = _
              simp only [Act.put, List.setIfInBounds_toArray, List.set_cons_zero, List.set_cons_succ, i64_w, i32_w]; rfl
             refine pu_ (i := 11) (some 62) #[true, true, true, true, true, true, true, true, true, true, true, true, false, false] HT_ ?_
             exact nm_ (hJ0_3_4_7 (v166, .slice Ao50 y168.length co50, v172, .slice Ao49 y174.length co49) _ ⟨hHeld, (zR HO170.out), (zR HO176.out), (zR HO_27.out), (zK BK154.out), (zK BK155.out), (zK BK157.out), (zB HB.out)⟩)
            ·skip
             refine box_step ?hg (N := 13) ?hd (cs := #[.slice none 0 0, .slice none 0 0, .int .i64 0]) (t := 35) ?hr ?_; (case hd => rfl); (case hg => rfl); (case hr => first | (go_simp; done) | (go_simp; rfl))
             intro gb177 hg w48 hbox hb
             replace HO_27 := am (Kd.R_below (zR HO_27.out) hb)
             replace HO170 := am (Kd.R_below (zR HO170.out) hb)
             replace HO173 := am (Kd.R_below (zR HO173.out) hb)
             have BK177 := am (hbox)
             have GW177 := am ((gw_ hg HB.out : w.heap.size ≤ gb177))
             have GE177 := am ((gw_ hg HB.out : w.heap.size ≤ gb177))
             replace HB := am (below_step (zB HB.out) hb)
             have NB154_177 := am ((by rw [hg]; exact Nat.ne_of_lt (blk_lt (zK BK154.out)) : gb154 ≠ gb177))
             have NB177_154 := am ((by rw [hg]; exact Nat.ne_of_gt (blk_lt (zK BK154.out)) : gb177 ≠ gb154))
             replace BK154 := am (blk_below (zK BK154.out) hb)
             have NB155_177 := am ((by rw [hg]; exact Nat.ne_of_lt (blk_lt (zK BK155.out)) : gb155 ≠ gb177))
             have NB177_155 := am ((by rw [hg]; exact Nat.ne_of_gt (blk_lt (zK BK155.out)) : gb177 ≠ gb155))
             replace BK155 := am (blk_below (zK BK155.out) hb)
             have NB157_177 := am ((by rw [hg]; exact Nat.ne_of_lt (blk_lt (zK BK157.out)) : gb157 ≠ gb177))
             have NB177_157 := am ((by rw [hg]; exact Nat.ne_of_gt (blk_lt (zK BK157.out)) : gb177 ≠ gb157))
             replace BK157 := am (blk_below (zK BK157.out) hb)
             clear hb hbox hg
             refine hK.out _ _ ⟨(blk_cell BK154.out 0).trans rfl, (blk_cell BK154.out 1).trans rfl, (blk_cell BK154.out 2).trans rfl⟩ (fun hHeld => ?_)
             clear hK K
             refine norm_ (a' := ?_) ?_ ?_
             rotate_left
             ·show Act.put _ (some 13) _ = _
              simp only [Act.put, List.setIfInBounds_toArray, List.set_cons_zero, List.set_cons_succ, i64_w, i32_w]; rfl
             exact nm_ (hJ0_3_4_12 (v166, v169, v172, gb177) _ ⟨hHeld, (zR HO170.out), (zR HO173.out), (zR HO_27.out), (zK BK154.out), (zK BK155.out), (zK BK157.out), (zK BK177.out), GW177.out, GE177.out, NB154_177.out, NB177_154.out, NB155_177.out, NB177_155.out, NB157_177.out, NB177_157.out, (zB HB.out)⟩)
          ·skip
           rintro ⟨v166, v169, v172, gb177⟩ w48 ⟨hS_, h0_, h1_, h2_, h3_, h4_, h5_, h6_, h7_, h8_, h9_, h10_, h11_, h12_, h13_, h14_, h15_⟩; have n0_ : Aside0 (Kd.R Kd.string 9 w48 w.heap.size (fun _ => True) v169 y168) := ⟨h0_⟩; have n1_ : Aside0 (Kd.R Kd.bool 4 w48 w.heap.size (fun _ => True) v172 y171) := ⟨h1_⟩; have n2_ : Aside0 (Kd.R (Kd.int .i64) 3 w48 w.heap.size (fun _ => True) (.slice Ao16 t158.length co16) t158) := ⟨h2_⟩; have n3_ : Aside0 (w48.heap[gb154]? = some (.cells #[.slice A1_0 l1_0.length c1_0, .slice A1_1 l1_1.length c1_1, .int .i64 a1_2] 35 (0, 0))) := ⟨h3_⟩; have n4_ : Aside0 (w48.heap[gb155]? = some (.cells #[.slice none 0 0, .slice none 0 0, .int .i64 xdd_1] 35 (0, 0))) := ⟨h4_⟩; have n5_ : Aside0 (w48.heap[gb157]? = some (.cells #[.int .i64 ((rd_T54 l0 x16_1).f0), .string ((rd_T54 l0 x16_1).f1)] 54 (0, 0))) := ⟨h5_⟩; have n6_ : Aside0 (w48.heap[gb177]? = some (.cells #[.slice none 0 0, .slice none 0 0, .int .i64 0] 35 (0, 0))) := ⟨h6_⟩; have n7_ : Aside0 (w.heap.size ≤ gb177) := ⟨h7_⟩; have n8_ : Aside0 (w.heap.size ≤ gb177) := ⟨h8_⟩; have n9_ : Aside0 (gb154 ≠ gb177) := ⟨h9_⟩; have n10_ : Aside0 (gb177 ≠ gb154) := ⟨h10_⟩; have n11_ : Aside0 (gb155 ≠ gb177) := ⟨h11_⟩; have n12_ : Aside0 (gb177 ≠ gb155) := ⟨h12_⟩; have n13_ : Aside0 (gb157 ≠ gb177) := ⟨h13_⟩; have n14_ : Aside0 (gb177 ≠ gb157) := ⟨h14_⟩; have n15_ : Aside0 (Below w.heap.size w w48) := ⟨h15_⟩; clear HO_27; clear BK154; clear BK155; clear BK157; clear HB; clear h0_ h1_ h2_ h3_ h4_ h5_ h6_ h7_ h8_ h9_ h10_ h11_ h12_ h13_ h14_ h15_; have HO170 := n0_; have HO173 := n1_; have HO_27 := n2_; have BK154 := n3_; have BK155 := n4_; have BK157 := n5_; have BK177 := n6_; have GW177 := n7_; have GE177 := n8_; have NB154_177 := n9_; have NB177_154 := n10_; have NB155_177 := n11_; have NB177_155 := n12_; have NB157_177 := n13_; have NB177_157 := n14_; have HB := n15_; clear n0_ n1_ n2_ n3_ n4_ n5_ n6_ n7_ n8_ n9_ n10_ n11_ n12_ n13_ n14_ n15_; have hHeld : w48.cell? ⟨gb154, 0, none⟩ = some (.slice A1_0 l1_0.length c1_0) ∧ w48.cell? ⟨gb154, 1, none⟩ = some (.slice A1_1 l1_1.length c1_1) ∧ w48.cell? ⟨gb154, 2, none⟩ = some (.int .i64 a1_2) := hS_
           refine norm_ (a' := ?_) ?_ ?_
           rotate_left
           ·simp only [putAll, Act.put, List.setIfInBounds_toArray, List.set_cons_zero, List.set_cons_succ]
            rfl
           refine one_ (i := 7) (N := some 58) #[true, true, true, true, true, true, true, true, true, true, true, false, true, false] rfl rfl (one_of HT_.out (by kernel_rfl)) (by decide) (fun K hK => ?_)
           refine Kd.R_append_rows_step Kd.bool (w0 := w) w.heap.size (by rfl) (.tmp 55) (.tmp 57) 31 4 (.bool false) 1 rfl Try.underlying31 info4 rfl (by decide) (by omega) v172 y171 l1_1 _ _ _ (fun _ => True) (fun _ => False) rfl rfl ?aO ?aR (fun _ _ h => h) (fun _ h => h.elim) ?aF ?aB ?aS ?aL ?_
           (case aR => exact zC (Kd.C_below HR1_1.out HB.out))
           (case aB => exact (zB HB.out))
           (case aF => exact (fun _ _ => trivial))
           (case aO => exact (zR HO173.out))
           (case aS => exact (zs_ HB.out))
           (case aL => have := LMc35.out; omega)
           intro v175 w49 ho hb hg hat; rw [← Ny174.out] at ho
           replace HO_27 := am (Kd.R_over' (zR HO_27.out) (Kd.R_typed (zR HO173.out)) (by decide) hg)
           replace BK154 := am (blk_grown (zK BK154.out) hg (Kd.R_ne HO173.out BK154.out (by decide)))
           replace BK155 := am (blk_grown (zK BK155.out) hg (Kd.R_ne HO173.out BK155.out (by decide)))
           replace BK157 := am (blk_grown (zK BK157.out) hg (Kd.R_ne HO173.out BK157.out (by decide)))
           replace HO170 := am (Kd.R_over' (zR HO170.out) (Kd.R_typed (zR HO173.out)) (by decide) hg)
           replace BK177 := am (blk_grown (zK BK177.out) hg (Kd.R_ne HO173.out BK177.out (by decide)))
           replace HB := am (hb); have HO176 := am (ho); (try clear HO173); clear ho hb hg hat; obtain ⟨Ao50, co50, eo50⟩ := Kd.R_slice HO176.out
           (first | subst eo50 | (injection eo50 with f1_ f2_ f3_; have f4_ := f1_.symm; have f5_ := f3_.symm; clear f1_ f2_ f3_; subst f4_; subst f5_))
           obtain ⟨Ao51, co51, eo51⟩ := Kd.R_slice HO170.out
           (first | subst eo51 | (injection eo51 with f1_ f2_ f3_; have f4_ := f1_.symm; have f5_ := f3_.symm; clear f1_ f2_ f3_; subst f4_; subst f5_))
           refine hK.out _ _ ⟨(blk_cell BK154.out 0).trans rfl, (blk_cell BK154.out 1).trans rfl, (blk_cell BK154.out 2).trans rfl⟩ (fun hHeld => ?_)
           clear hK K
           refine norm_ (a' := ?_) ?_ ?_
           rotate_left
           ·show Act.put _ (some 58) _ = _
            simp only [Act.put, List.setIfInBounds_toArray, List.set_cons_zero, List.set_cons_succ, i64_w, i32_w]; rfl
           refine pu_ (i := 11) (some 62) #[true, true, true, true, true, true, true, true, true, true, true, true, true, false] HT_ ?_
           exact nm_ (hJ0_3_4_7_12 (v166, .slice Ao51 y168.length co51, v172, .slice Ao50 y174.length co50, gb177) _ ⟨hHeld, (zR HO170.out), (zR HO176.out), (zR HO_27.out), (zK BK154.out), (zK BK155.out), (zK BK157.out), (zK BK177.out), GW177.out, GE177.out, NB154_177.out, NB177_154.out, NB155_177.out, NB177_155.out, NB157_177.out, NB177_157.out, (zB HB.out)⟩)
         ·skip
          rintro ⟨v166, v169, v172, v175⟩ w50 ⟨hS_, h0_, h1_, h2_, h3_, h4_, h5_, h6_⟩; have n0_ : Aside0 (Kd.R Kd.string 9 w50 w.heap.size (fun _ => True) v169 y168) := ⟨h0_⟩; have n1_ : Aside0 (Kd.R Kd.bool 4 w50 w.heap.size (fun _ => True) v175 y174) := ⟨h1_⟩; have n2_ : Aside0 (Kd.R (Kd.int .i64) 3 w50 w.heap.size (fun _ => True) (.slice Ao16 t158.length co16) t158) := ⟨h2_⟩; have n3_ : Aside0 (w50.heap[gb154]? = some (.cells #[.slice A1_0 l1_0.length c1_0, .slice A1_1 l1_1.length c1_1, .int .i64 a1_2] 35 (0, 0))) := ⟨h3_⟩; have n4_ : Aside0 (w50.heap[gb155]? = some (.cells #[.slice none 0 0, .slice none 0 0, .int .i64 xdd_1] 35 (0, 0))) := ⟨h4_⟩; have n5_ : Aside0 (w50.heap[gb157]? = some (.cells #[.int .i64 ((rd_T54 l0 x16_1).f0), .string ((rd_T54 l0 x16_1).f1)] 54 (0, 0))) := ⟨h5_⟩; have n6_ : Aside0 (Below w.heap.size w w50) := ⟨h6_⟩; clear HO_27; clear BK154; clear BK155; clear BK157; clear HB; clear h0_ h1_ h2_ h3_ h4_ h5_ h6_; have HO170 := n0_; have HO176 := n1_; have HO_27 := n2_; have BK154 := n3_; have BK155 := n4_; have BK157 := n5_; have HB := n6_; clear n0_ n1_ n2_ n3_ n4_ n5_ n6_; have hHeld : w50.cell? ⟨gb154, 0, none⟩ = some (.slice A1_0 l1_0.length c1_0) ∧ w50.cell? ⟨gb154, 1, none⟩ = some (.slice A1_1 l1_1.length c1_1) ∧ w50.cell? ⟨gb154, 2, none⟩ = some (.int .i64 a1_2) := hS_; obtain ⟨Ao51, co51, eo51⟩ := Kd.R_slice HO176.out
          (first | subst eo51 | (injection eo51 with f1_ f2_ f3_; have f4_ := f1_.symm; have f5_ := f3_.symm; clear f1_ f2_ f3_; subst f4_; subst f5_))
          obtain ⟨Ao52, co52, eo52⟩ := Kd.R_slice HO170.out
          (first | subst eo52 | (injection eo52 with f1_ f2_ f3_; have f4_ := f1_.symm; have f5_ := f3_.symm; clear f1_ f2_ f3_; subst f4_; subst f5_))
          refine norm_ (a' := ?_) ?_ ?_
          rotate_left
          ·simp only [putAll, Act.put, List.setIfInBounds_toArray, List.set_cons_zero, List.set_cons_succ]
           rfl
          refine one_ (i := 12) (N := some 13) #[true, true, true, true, true, true, true, true, true, true, true, true, true, false] rfl rfl (one_of HT_.out (by kernel_rfl)) (by decide) (fun K hK => ?_)
          refine box_step ?hg (N := 13) ?hd (cs := #[.slice none 0 0, .slice none 0 0, .int .i64 0]) (t := 35) ?hr ?_; (case hd => rfl); (case hg => rfl); (case hr => first | (go_simp; done) | (go_simp; rfl))
          intro gb177 hg w53 hbox hb
          replace HO_27 := am (Kd.R_below (zR HO_27.out) hb)
          replace HO170 := am (Kd.R_below (zR HO170.out) hb)
          replace HO176 := am (Kd.R_below (zR HO176.out) hb)
          have BK177 := am (hbox)
          have GW177 := am ((gw_ hg HB.out : w.heap.size ≤ gb177))
          have GE177 := am ((gw_ hg HB.out : w.heap.size ≤ gb177))
          replace HB := am (below_step (zB HB.out) hb)
          have NB154_177 := am ((by rw [hg]; exact Nat.ne_of_lt (blk_lt (zK BK154.out)) : gb154 ≠ gb177))
          have NB177_154 := am ((by rw [hg]; exact Nat.ne_of_gt (blk_lt (zK BK154.out)) : gb177 ≠ gb154))
          replace BK154 := am (blk_below (zK BK154.out) hb)
          have NB155_177 := am ((by rw [hg]; exact Nat.ne_of_lt (blk_lt (zK BK155.out)) : gb155 ≠ gb177))
          have NB177_155 := am ((by rw [hg]; exact Nat.ne_of_gt (blk_lt (zK BK155.out)) : gb177 ≠ gb155))
          replace BK155 := am (blk_below (zK BK155.out) hb)
          have NB157_177 := am ((by rw [hg]; exact Nat.ne_of_lt (blk_lt (zK BK157.out)) : gb157 ≠ gb177))
          have NB177_157 := am ((by rw [hg]; exact Nat.ne_of_gt (blk_lt (zK BK157.out)) : gb177 ≠ gb157))
          replace BK157 := am (blk_below (zK BK157.out) hb)
          clear hb hbox hg
          refine hK.out _ _ ⟨(blk_cell BK154.out 0).trans rfl, (blk_cell BK154.out 1).trans rfl, (blk_cell BK154.out 2).trans rfl⟩ (fun hHeld => ?_)
          clear hK K
          refine norm_ (a' := ?_) ?_ ?_
          rotate_left
          ·show Act.put _ (some 13) _ = _
           simp only [Act.put, List.setIfInBounds_toArray, List.set_cons_zero, List.set_cons_succ, i64_w, i32_w]; rfl
          exact nm_ (hJ0_3_4_7_12 (v166, .slice Ao52 y168.length co52, v172, .slice Ao51 y174.length co51, gb177) _ ⟨hHeld, (zR HO170.out), (zR HO176.out), (zR HO_27.out), (zK BK154.out), (zK BK155.out), (zK BK157.out), (zK BK177.out), GW177.out, GE177.out, NB154_177.out, NB177_154.out, NB155_177.out, NB177_155.out, NB157_177.out, NB177_157.out, (zB HB.out)⟩)
        rintro ⟨v166, v169, v172, v175, gb177⟩ w51 ⟨hS_, h0_, h1_, h2_, h3_, h4_, h5_, h6_, h7_, h8_, h9_, h10_, h11_, h12_, h13_, h14_, h15_⟩; have n0_ : Aside0 (Kd.R Kd.string 9 w51 w.heap.size (fun _ => True) v169 y168) := ⟨h0_⟩; have n1_ : Aside0 (Kd.R Kd.bool 4 w51 w.heap.size (fun _ => True) v175 y174) := ⟨h1_⟩; have n2_ : Aside0 (Kd.R (Kd.int .i64) 3 w51 w.heap.size (fun _ => True) (.slice Ao16 t158.length co16) t158) := ⟨h2_⟩; have n3_ : Aside0 (w51.heap[gb154]? = some (.cells #[.slice A1_0 l1_0.length c1_0, .slice A1_1 l1_1.length c1_1, .int .i64 a1_2] 35 (0, 0))) := ⟨h3_⟩; have n4_ : Aside0 (w51.heap[gb155]? = some (.cells #[.slice none 0 0, .slice none 0 0, .int .i64 xdd_1] 35 (0, 0))) := ⟨h4_⟩; have n5_ : Aside0 (w51.heap[gb157]? = some (.cells #[.int .i64 ((rd_T54 l0 x16_1).f0), .string ((rd_T54 l0 x16_1).f1)] 54 (0, 0))) := ⟨h5_⟩; have n6_ : Aside0 (w51.heap[gb177]? = some (.cells #[.slice none 0 0, .slice none 0 0, .int .i64 0] 35 (0, 0))) := ⟨h6_⟩; have n7_ : Aside0 (w.heap.size ≤ gb177) := ⟨h7_⟩; have n8_ : Aside0 (w.heap.size ≤ gb177) := ⟨h8_⟩; have n9_ : Aside0 (gb154 ≠ gb177) := ⟨h9_⟩; have n10_ : Aside0 (gb177 ≠ gb154) := ⟨h10_⟩; have n11_ : Aside0 (gb155 ≠ gb177) := ⟨h11_⟩; have n12_ : Aside0 (gb177 ≠ gb155) := ⟨h12_⟩; have n13_ : Aside0 (gb157 ≠ gb177) := ⟨h13_⟩; have n14_ : Aside0 (gb177 ≠ gb157) := ⟨h14_⟩; have n15_ : Aside0 (Below w.heap.size w w51) := ⟨h15_⟩; clear HO_27; clear BK154; clear BK155; clear BK157; clear HB; clear h0_ h1_ h2_ h3_ h4_ h5_ h6_ h7_ h8_ h9_ h10_ h11_ h12_ h13_ h14_ h15_; have HO170 := n0_; have HO176 := n1_; have HO_27 := n2_; have BK154 := n3_; have BK155 := n4_; have BK157 := n5_; have BK177 := n6_; have GW177 := n7_; have GE177 := n8_; have NB154_177 := n9_; have NB177_154 := n10_; have NB155_177 := n11_; have NB177_155 := n12_; have NB157_177 := n13_; have NB177_157 := n14_; have HB := n15_; clear n0_ n1_ n2_ n3_ n4_ n5_ n6_ n7_ n8_ n9_ n10_ n11_ n12_ n13_ n14_ n15_; have hHeld : w51.cell? ⟨gb154, 0, none⟩ = some (.slice A1_0 l1_0.length c1_0) ∧ w51.cell? ⟨gb154, 1, none⟩ = some (.slice A1_1 l1_1.length c1_1) ∧ w51.cell? ⟨gb154, 2, none⟩ = some (.int .i64 a1_2) := hS_; obtain ⟨Ao52, co52, eo52⟩ := Kd.R_slice HO176.out
        (first | subst eo52 | (injection eo52 with f1_ f2_ f3_; have f4_ := f1_.symm; have f5_ := f3_.symm; clear f1_ f2_ f3_; subst f4_; subst f5_))
        obtain ⟨Ao53, co53, eo53⟩ := Kd.R_slice HO170.out
        (first | subst eo53 | (injection eo53 with f1_ f2_ f3_; have f4_ := f1_.symm; have f5_ := f3_.symm; clear f1_ f2_ f3_; subst f4_; subst f5_))
        refine norm_ (a' := ?_) ?_ ?_
        rotate_left
        ·simp only [putAll, Act.put, List.setIfInBounds_toArray, List.set_cons_zero, List.set_cons_succ]
         rfl
        refine one_ (i := 13) (N := none) #[true, true, true, true, true, true, true, true, true, true, true, true, true, true] rfl rfl (one_of HT_.out (by kernel_rfl)) (by decide) (fun K hK => ?_)
        have hs54 : w51.cell? ⟨gb177, 0, none⟩ = some (.slice none 0 0) := (blk_cell BK177.out 0).trans rfl; have hfs54 := blk_frozen BK177.out 0; have hns54_0 := NB154_177.out; have hns54_1 := NB155_177.out; have hns54_2 := NB157_177.out; have hms54_0 := NB177_154.out; have hms54_1 := NB177_155.out; have hms54_2 := NB177_157.out; have hs55 : w51.cell? ⟨gb177, 1, none⟩ = some (.slice none 0 0) := (blk_cell BK177.out 1).trans rfl; have hfs55 := blk_frozen BK177.out 1; have hns55_0 := NB154_177.out; have hns55_1 := NB155_177.out; have hns55_2 := NB157_177.out; have hms55_0 := NB177_154.out; have hms55_1 := NB177_155.out; have hms55_2 := NB177_157.out; have hs56 : w51.cell? ⟨gb177, 2, none⟩ = some (.int .i64 0) := (blk_cell BK177.out 2).trans rfl; have hfs56 := blk_frozen BK177.out 2; have hns56_0 := NB154_177.out; have hns56_1 := NB155_177.out; have hns56_2 := NB157_177.out; have hms56_0 := NB177_154.out; have hms56_1 := NB177_155.out; have hms56_2 := NB177_157.out
        refine skip_ (w1 := ?_) (by rfl) rfl ?_ ?_
        rotate_left
        ·go_simp; rfl
        refine hK.out _ _ ⟨((cell_far (p := ⟨gb177, _, none⟩) NB154_177.out _).trans (((cell_far (p := ⟨gb177, _, none⟩) NB154_177.out _).trans (((cell_far (p := ⟨gb177, _, none⟩) NB154_177.out _).trans (hHeld.1)))))), ((cell_far (p := ⟨gb177, _, none⟩) NB154_177.out _).trans (((cell_far (p := ⟨gb177, _, none⟩) NB154_177.out _).trans (((cell_far (p := ⟨gb177, _, none⟩) NB154_177.out _).trans (hHeld.2.1)))))), ((cell_far (p := ⟨gb177, _, none⟩) NB154_177.out _).trans (((cell_far (p := ⟨gb177, _, none⟩) NB154_177.out _).trans (((cell_far (p := ⟨gb177, _, none⟩) NB154_177.out _).trans (hHeld.2.2))))))⟩ (fun hHeld => ?_)
        clear hK K
        refine done_ (done_of HT_.out (by kernel_rfl)) ?_
        have n0_ : Aside0 (Kd.R (Kd.int .i64) 3 (((w51.setCell ⟨gb177, 0, none⟩ (.slice Ao53 y168.length co53)).setCell ⟨gb177, 1, none⟩ (.slice Ao52 y174.length co52)).setCell ⟨gb177, 2, none⟩ (.int .i64 (wrap64 (a1_2 + 1)))) w.heap.size (fun _ => True) (.slice Ao16 t158.length co16) t158) := ⟨zR (Kd.R_mono (Kd.R_far (p := ⟨gb177, 2, none⟩) (Kd.R_far (p := ⟨gb177, 1, none⟩) (Kd.R_far (p := ⟨gb177, 0, none⟩) (Kd.R_types HO_27.out BK177.out (by decide)) (fun _ hk => hk.2) (.slice Ao53 y168.length co53)) (fun _ hk => hk.2) (.slice Ao52 y174.length co52)) (fun _ hk => hk.2) (.int .i64 (wrap64 (a1_2 + 1)))) (fun _ hk => trivial))⟩
        have n1_ : Aside0 (Kd.R Kd.string 9 (((w51.setCell ⟨gb177, 0, none⟩ (.slice Ao53 y168.length co53)).setCell ⟨gb177, 1, none⟩ (.slice Ao52 y174.length co52)).setCell ⟨gb177, 2, none⟩ (.int .i64 (wrap64 (a1_2 + 1)))) w.heap.size (fun _ => True) (.slice Ao53 y168.length co53) y168) := ⟨zR (Kd.R_mono (Kd.R_far (p := ⟨gb177, 2, none⟩) (Kd.R_far (p := ⟨gb177, 1, none⟩) (Kd.R_far (p := ⟨gb177, 0, none⟩) (Kd.R_types HO170.out BK177.out (by decide)) (fun _ hk => hk.2) (.slice Ao53 y168.length co53)) (fun _ hk => hk.2) (.slice Ao52 y174.length co52)) (fun _ hk => hk.2) (.int .i64 (wrap64 (a1_2 + 1)))) (fun _ hk => trivial))⟩
        have n2_ : Aside0 (Kd.R Kd.bool 4 (((w51.setCell ⟨gb177, 0, none⟩ (.slice Ao53 y168.length co53)).setCell ⟨gb177, 1, none⟩ (.slice Ao52 y174.length co52)).setCell ⟨gb177, 2, none⟩ (.int .i64 (wrap64 (a1_2 + 1)))) w.heap.size (fun _ => True) (.slice Ao52 y174.length co52) y174) := ⟨zR (Kd.R_mono (Kd.R_far (p := ⟨gb177, 2, none⟩) (Kd.R_far (p := ⟨gb177, 1, none⟩) (Kd.R_far (p := ⟨gb177, 0, none⟩) (Kd.R_types HO176.out BK177.out (by decide)) (fun _ hk => hk.2) (.slice Ao53 y168.length co53)) (fun _ hk => hk.2) (.slice Ao52 y174.length co52)) (fun _ hk => hk.2) (.int .i64 (wrap64 (a1_2 + 1)))) (fun _ hk => trivial))⟩
        have n3_ : Aside0 ((((w51.setCell ⟨gb177, 0, none⟩ (.slice Ao53 y168.length co53)).setCell ⟨gb177, 1, none⟩ (.slice Ao52 y174.length co52)).setCell ⟨gb177, 2, none⟩ (.int .i64 (wrap64 (a1_2 + 1)))).heap[gb154]? = some (.cells #[.slice A1_0 l1_0.length c1_0, .slice A1_1 l1_1.length c1_1, .int .i64 a1_2] 35 (0, 0))) := ⟨by (with_reducible repeat (first | apply blk_drewN | apply blk_drew | apply blk_alloc)); refine blk_far ?_ NB154_177.out _; (with_reducible repeat (first | apply blk_drewN | apply blk_drew | apply blk_alloc)); refine blk_far ?_ NB154_177.out _; (with_reducible repeat (first | apply blk_drewN | apply blk_drew | apply blk_alloc)); refine blk_far ?_ NB154_177.out _; (with_reducible repeat (first | apply blk_drewN | apply blk_drew | apply blk_alloc)); exact BK154.out⟩
        have n4_ : Aside0 ((((w51.setCell ⟨gb177, 0, none⟩ (.slice Ao53 y168.length co53)).setCell ⟨gb177, 1, none⟩ (.slice Ao52 y174.length co52)).setCell ⟨gb177, 2, none⟩ (.int .i64 (wrap64 (a1_2 + 1)))).heap[gb155]? = some (.cells #[.slice none 0 0, .slice none 0 0, .int .i64 xdd_1] 35 (0, 0))) := ⟨by (with_reducible repeat (first | apply blk_drewN | apply blk_drew | apply blk_alloc)); refine blk_far ?_ NB155_177.out _; (with_reducible repeat (first | apply blk_drewN | apply blk_drew | apply blk_alloc)); refine blk_far ?_ NB155_177.out _; (with_reducible repeat (first | apply blk_drewN | apply blk_drew | apply blk_alloc)); refine blk_far ?_ NB155_177.out _; (with_reducible repeat (first | apply blk_drewN | apply blk_drew | apply blk_alloc)); exact BK155.out⟩
        have n5_ : Aside0 ((((w51.setCell ⟨gb177, 0, none⟩ (.slice Ao53 y168.length co53)).setCell ⟨gb177, 1, none⟩ (.slice Ao52 y174.length co52)).setCell ⟨gb177, 2, none⟩ (.int .i64 (wrap64 (a1_2 + 1)))).heap[gb157]? = some (.cells #[.int .i64 ((rd_T54 l0 x16_1).f0), .string ((rd_T54 l0 x16_1).f1)] 54 (0, 0))) := ⟨by (with_reducible repeat (first | apply blk_drewN | apply blk_drew | apply blk_alloc)); refine blk_far ?_ NB157_177.out _; (with_reducible repeat (first | apply blk_drewN | apply blk_drew | apply blk_alloc)); refine blk_far ?_ NB157_177.out _; (with_reducible repeat (first | apply blk_drewN | apply blk_drew | apply blk_alloc)); refine blk_far ?_ NB157_177.out _; (with_reducible repeat (first | apply blk_drewN | apply blk_drew | apply blk_alloc)); exact BK157.out⟩
        have n6_ : Aside0 ((((w51.setCell ⟨gb177, 0, none⟩ (.slice Ao53 y168.length co53)).setCell ⟨gb177, 1, none⟩ (.slice Ao52 y174.length co52)).setCell ⟨gb177, 2, none⟩ (.int .i64 (wrap64 (a1_2 + 1)))).heap[gb177]? = some (.cells #[.slice Ao53 y168.length co53, .slice Ao52 y174.length co52, .int .i64 (wrap64 (a1_2 + 1))] 35 (0, 0))) := ⟨by (with_reducible repeat (first | apply blk_drewN | apply blk_drew | apply blk_alloc)); refine blk_put (cs := #[.slice Ao53 y168.length co53, .slice Ao52 y174.length co52, .int .i64 0]) ?_ 2 _ rfl; (with_reducible repeat (first | apply blk_drewN | apply blk_drew | apply blk_alloc)); refine blk_put (cs := #[.slice Ao53 y168.length co53, .slice none 0 0, .int .i64 0]) ?_ 1 _ rfl; (with_reducible repeat (first | apply blk_drewN | apply blk_drew | apply blk_alloc)); refine blk_put (cs := #[.slice none 0 0, .slice none 0 0, .int .i64 0]) ?_ 0 _ rfl; (with_reducible repeat (first | apply blk_drewN | apply blk_drew | apply blk_alloc)); exact BK177.out⟩
        have n7_ : Aside0 (Below w.heap.size w (((w51.setCell ⟨gb177, 0, none⟩ (.slice Ao53 y168.length co53)).setCell ⟨gb177, 1, none⟩ (.slice Ao52 y174.length co52)).setCell ⟨gb177, 2, none⟩ (.int .i64 (wrap64 (a1_2 + 1))))) := ⟨by repeat (first | (with_reducible first | exact HB.out | apply below_alloc | apply pw_below_drewN | apply below_drew1 | refine below_set ?_ GE154.out | refine below_set ?_ GE155.out | refine below_set ?_ GE157.out | refine below_set ?_ GE177.out) | exact HB.out)⟩; (try clear HO_27); (try clear HO170); (try clear HO176); (try clear BK154); (try clear BK155); (try clear BK157); (try clear BK177); (try clear HB); generalize (((w51.setCell ⟨gb177, 0, none⟩ (.slice Ao53 y168.length co53)).setCell ⟨gb177, 1, none⟩ (.slice Ao52 y174.length co52)).setCell ⟨gb177, 2, none⟩ (.int .i64 (wrap64 (a1_2 + 1)))) = w57 at n0_ n1_ n2_ n3_ n4_ n5_ n6_ n7_ ⊢; have HO_27 := n0_; have HO170 := n1_; have HO176 := n2_; have BK154 := n3_; have BK155 := n4_; have BK157 := n5_; have BK177 := n6_; have HB := n7_; clear n0_ n1_ n2_ n3_ n4_ n5_ n6_ n7_; have hnb58 := NB177_154.out; have hnc58 := NB154_177.out; have hnb59 := NB177_155.out; have hnc59 := NB155_177.out; have hnb60 := NB177_157.out; have hnc60 := NB157_177.out; have hcz61_0 : w57.cell? ⟨gb177, 0, none⟩ = some (.slice Ao53 y168.length co53) := (blk_cell BK177.out 0).trans rfl; have hcz61_1 : w57.cell? ⟨gb177, 1, none⟩ = some (.slice Ao52 y174.length co52) := (blk_cell BK177.out 1).trans rfl; have hcz61_2 : w57.cell? ⟨gb177, 2, none⟩ = some (.int .i64 (wrap64 (a1_2 + 1))) := (blk_cell BK177.out 2).trans rfl; have hfz61_0 := blk_frozen BK177.out 0; have hfz61_1 := blk_frozen BK177.out 1; have hfz61_2 := blk_frozen BK177.out 2; have p38 : 0 ≤ (x8_2 : Int) := od_; have q38 : (x8_2 : Int) < ((y168.length : Int) : Int) := od_; obtain ⟨go38, co38, eo38, gb38, gl38, cl38, HG38⟩ := Kd.R_form HO170.out (by omega)
        (first | cases eo38 | (injection eo38 with ea_ en_ ec_; (first | subst ea_ | (injection ea_ with ea_; subst ea_)); subst ec_; clear en_))
        have GB38 := am gb38; have GG38 := am HG38; clear gb38 gl38 HG38; obtain ⟨hx38_0, hf38_0⟩ := Kd.R_celln (⟨#[]⟩ : ByteArray) HO170.out (x8_2 : Int) p38 q38; replace p38 := eq_true p38; replace q38 := eq_true q38; obtain ⟨hy62_, hz62_⟩ := Kd.R_celln (⟨#[]⟩ : ByteArray) HO170.out (x8_2 : Int) (od_) (od_); have HP62 := Kd.R_putg HO170.out (x8_2 : Int) x10_2
        try go_wp2_with (first | ((with_reducible refine gate_store (t := 9) (p := 67) rfl ?_); refine store_event (t := 9) (p := 67) (v := ?vo_w63) (w1 := (w57.setCell ⟨go38, (x8_2 : Int).toNat, none⟩ (.string x10_2))) ?hg ?ho ?hn ?hr ?_; (case ho => rfl); (case hg => rfl); (case hn => rfl); (case hr => first | (go_simp; done) | (go_simp; rfl)); intro w63 hw; have hg : w57.grownBy w63 (some go38) := (by rw [hw]; exact HP62.2); have hp_ : Kd.R Kd.string 9 w63 w.heap.size (fun _ => True) (.slice (some ⟨go38, 0, none⟩) y168.length co53) y178 := (by rw [hw, Ny178.out]; exact HP62.1); clear HP62; replace HO_27 := am (Kd.R_over' (v := (.slice (some ⟨go38, 0, none⟩) y168.length co53)) (zR HO_27.out) (Kd.R_typed HO170.out) (by decide) hg); replace BK154 := am (blk_grown (zK BK154.out) hg (Kd.R_ne HO170.out BK154.out (by decide))); replace BK155 := am (blk_grown (zK BK155.out) hg (Kd.R_ne HO170.out BK155.out (by decide))); replace BK157 := am (blk_grown (zK BK157.out) hg (Kd.R_ne HO170.out BK157.out (by decide))); replace HO176 := am (Kd.R_over' (v := (.slice (some ⟨go38, 0, none⟩) y168.length co53)) (zR HO176.out) (Kd.R_typed HO170.out) (by decide) hg); replace BK177 := am (blk_grown (zK BK177.out) hg (Kd.R_ne HO170.out BK177.out (by decide))); replace HO170 := am (hp_); replace HB := am ((by rw [hw]; exact below_set (HB.out) GB38.out : Below w.heap.size w w63)); clear hg hw hp_; have hcz64_0 : w63.cell? ⟨gb177, 0, none⟩ = some (.slice (some ⟨go38, 0, none⟩) y168.length co53) := (blk_cell BK177.out 0).trans rfl; have hcz64_1 : w63.cell? ⟨gb177, 1, none⟩ = some (.slice Ao52 y174.length co52) := (blk_cell BK177.out 1).trans rfl; have hcz64_2 : w63.cell? ⟨gb177, 2, none⟩ = some (.int .i64 (wrap64 (a1_2 + 1))) := (blk_cell BK177.out 2).trans rfl; have hfz64_0 := blk_frozen BK177.out 0; have hfz64_1 := blk_frozen BK177.out 1; have hfz64_2 := blk_frozen BK177.out 2; have p40 : 0 ≤ (x8_2 : Int) := od_; have q40 : (x8_2 : Int) < ((y174.length : Int) : Int) := od_; obtain ⟨go40, co40, eo40, gb40, gl40, cl40, HG40⟩ := Kd.R_form HO176.out (by omega); (first | cases eo40 | (injection eo40 with ea_ en_ ec_; (first | subst ea_ | (injection ea_ with ea_; subst ea_)); subst ec_; clear en_)); have GB40 := am gb40; have GG40 := am HG40; clear gb40 gl40 HG40; obtain ⟨hx40_0, hf40_0⟩ := Kd.R_celln false HO176.out (x8_2 : Int) p40 q40; replace p40 := eq_true p40; replace q40 := eq_true q40; obtain ⟨hy65_, hz65_⟩ := Kd.R_celln false HO176.out (x8_2 : Int) (od_) (od_); have HP65 := Kd.R_putg HO176.out (x8_2 : Int) true) | ((with_reducible refine gate_store (t := 4) (p := 71) rfl ?_); refine store_event (t := 4) (p := 71) (v := ?vo_w66) (w1 := (w63.setCell ⟨go40, (x8_2 : Int).toNat, none⟩ (.bool true))) ?hg ?ho ?hn ?hr ?_; (case ho => rfl); (case hg => rfl); (case hn => rfl); (case hr => first | (go_simp; done) | (go_simp; rfl)); intro w66 hw; have hg : w63.grownBy w66 (some go40) := (by rw [hw]; exact HP65.2); have hp_ : Kd.R Kd.bool 4 w66 w.heap.size (fun _ => True) (.slice (some ⟨go40, 0, none⟩) y174.length co52) y179 := (by rw [hw, Ny179.out]; exact HP65.1); clear HP65; replace HO_27 := am (Kd.R_over' (v := (.slice (some ⟨go40, 0, none⟩) y174.length co52)) (zR HO_27.out) (Kd.R_typed HO176.out) (by decide) hg); replace BK154 := am (blk_grown (zK BK154.out) hg (Kd.R_ne HO176.out BK154.out (by decide))); replace BK155 := am (blk_grown (zK BK155.out) hg (Kd.R_ne HO176.out BK155.out (by decide))); replace BK157 := am (blk_grown (zK BK157.out) hg (Kd.R_ne HO176.out BK157.out (by decide))); replace HO170 := am (Kd.R_over' (v := (.slice (some ⟨go40, 0, none⟩) y174.length co52)) (zR HO170.out) (Kd.R_typed HO176.out) (by decide) hg); replace BK177 := am (blk_grown (zK BK177.out) hg (Kd.R_ne HO176.out BK177.out (by decide))); replace HO176 := am (hp_); replace HB := am ((by rw [hw]; exact below_set (HB.out) GB40.out : Below w.heap.size w w66)); clear hg hw hp_; have hcz67_0 : w66.cell? ⟨gb177, 0, none⟩ = some (.slice (some ⟨go38, 0, none⟩) y168.length co53) := (blk_cell BK177.out 0).trans rfl; have hcz67_1 : w66.cell? ⟨gb177, 1, none⟩ = some (.slice (some ⟨go40, 0, none⟩) y174.length co52) := (blk_cell BK177.out 1).trans rfl; have hcz67_2 : w66.cell? ⟨gb177, 2, none⟩ = some (.int .i64 (wrap64 (a1_2 + 1))) := (blk_cell BK177.out 2).trans rfl; have hfz67_0 := blk_frozen BK177.out 0; have hfz67_1 := blk_frozen BK177.out 1; have hfz67_2 := blk_frozen BK177.out 2; have hnb68 := NB155_154.out; have hnc68 := NB154_155.out; have hnb69 := NB155_157.out; have hnc69 := NB157_155.out; have hcz70_0 : w66.cell? ⟨gb155, 0, none⟩ = some (.slice none 0 0) := (blk_cell BK155.out 0).trans rfl; have hcz70_1 : w66.cell? ⟨gb155, 1, none⟩ = some (.slice none 0 0) := (blk_cell BK155.out 1).trans rfl; have hcz70_2 : w66.cell? ⟨gb155, 2, none⟩ = some (.int .i64 xdd_1) := (blk_cell BK155.out 2).trans rfl; have hfz70_0 := blk_frozen BK155.out 0; have hfz70_1 := blk_frozen BK155.out 1; have hfz70_2 := blk_frozen BK155.out 2))
        refine bodyPost_ret (results_ct rfl _ _ gb155 35 #[.slice (some ⟨go38, 0, none⟩) y168.length co53, .slice (some ⟨go40, 0, none⟩) y174.length co52, .int .i64 (wrap64 (a1_2 + 1))] (0, 0) _ rfl (by (with_reducible repeat (first | apply blk_drewN | apply blk_drew | apply blk_alloc)); refine blk_put (cs := #[.slice (some ⟨go38, 0, none⟩) y168.length co53, .slice (some ⟨go40, 0, none⟩) y174.length co52, .int .i64 xdd_1]) ?_ 2 _ rfl; (with_reducible repeat (first | apply blk_drewN | apply blk_drew | apply blk_alloc)); refine blk_put (cs := #[.slice (some ⟨go38, 0, none⟩) y168.length co53, .slice none 0 0, .int .i64 xdd_1]) ?_ 1 _ rfl; (with_reducible repeat (first | apply blk_drewN | apply blk_drew | apply blk_alloc)); refine blk_put (cs := #[.slice none 0 0, .slice none 0 0, .int .i64 xdd_1]) ?_ 0 _ rfl; (with_reducible repeat (first | apply blk_drewN | apply blk_drew | apply blk_alloc)); exact BK155.out) Try.underlying35 rfl (by kernel_rfl)) rfl ?_
        exact ⟨_, _, by first | rfl | (simp [errW_none, errW_some] <;> rfl) | (simp [*, errW_none, errW_some] <;> rfl), zR (Kd.R_mono (Kd.R_far (p := ⟨gb155, 2, none⟩) (Kd.R_far (p := ⟨gb155, 1, none⟩) (Kd.R_far (p := ⟨gb155, 0, none⟩) (Kd.R_types HO170.out BK155.out (by decide)) (fun _ hk => hk.2) (.slice (some ⟨go38, 0, none⟩) y168.length co53)) (fun _ hk => hk.2) (.slice (some ⟨go40, 0, none⟩) y174.length co52)) (fun _ hk => hk.2) (.int .i64 (wrap64 (a1_2 + 1)))) (fun _ hk => trivial)), zR (Kd.R_mono (Kd.R_far (p := ⟨gb155, 2, none⟩) (Kd.R_far (p := ⟨gb155, 1, none⟩) (Kd.R_far (p := ⟨gb155, 0, none⟩) (Kd.R_types HO176.out BK155.out (by decide)) (fun _ hk => hk.2) (.slice (some ⟨go38, 0, none⟩) y168.length co53)) (fun _ hk => hk.2) (.slice (some ⟨go40, 0, none⟩) y174.length co52)) (fun _ hk => hk.2) (.int .i64 (wrap64 (a1_2 + 1)))) (fun _ hk => trivial)), by repeat (first | (with_reducible first | exact HB.out | apply below_alloc | apply pw_below_drewN | apply below_drew1 | refine below_set ?_ GE154.out | refine below_set ?_ GE155.out | refine below_set ?_ GE157.out | refine below_set ?_ GE177.out) | exact HB.out)⟩
       ·rw [if_neg c33] at H; have c33b0 : (x9_2 == 1) = false := beq_eq_false_iff_ne.mpr c33; have c33b1 : (x9_2 != 1) = true := bne_iff_ne.mpr c33; have H' := am H; clear H
        go_wp2
        go_roundg k2
        case measure => have := HK1.out; have := HK2.out; omega
        case rel => exact ⟨(wrap64 (x16_1 + 1)), (xdd_1), rfl, H', ⟨by have := HK1.out; have := HK2.out; omega⟩, ⟨zK BK154.out⟩, ⟨zK BK155.out⟩, ⟨zB HB.out⟩⟩
   ·rw [if_neg c5] at H; have c5b0 := decide_eq_false c5; clear c5
    simp only [Option.some.injEq, Prod.mk.injEq] at H
    obtain ⟨rfl, rfl, rfl, rfl⟩ := H; have hnb71 := NB155_154.out; have hnc71 := NB154_155.out; have hcz72_0 : wr.cell? ⟨gb155, 0, none⟩ = some (.slice none 0 0) := (blk_cell BK155.out 0).trans rfl; have hcz72_1 : wr.cell? ⟨gb155, 1, none⟩ = some (.slice none 0 0) := (blk_cell BK155.out 1).trans rfl; have hcz72_2 : wr.cell? ⟨gb155, 2, none⟩ = some (.int .i64 xdd_1) := (blk_cell BK155.out 2).trans rfl; have hfz72_0 := blk_frozen BK155.out 0; have hfz72_1 := blk_frozen BK155.out 1; have hfz72_2 := blk_frozen BK155.out 2
    go_wp2
    refine bodyPost_ret (results_ct rfl _ _ gb155 35 #[.slice none 0 0, .slice none 0 0, .int .i64 0] (0, 0) _ rfl (by (with_reducible repeat (first | apply blk_drewN | apply blk_drew | apply blk_alloc)); refine blk_put (cs := #[.slice none 0 0, .slice none 0 0, .int .i64 xdd_1]) ?_ 2 _ rfl; (with_reducible repeat (first | apply blk_drewN | apply blk_drew | apply blk_alloc)); refine blk_put (cs := #[.slice none 0 0, .slice none 0 0, .int .i64 xdd_1]) ?_ 1 _ rfl; (with_reducible repeat (first | apply blk_drewN | apply blk_drew | apply blk_alloc)); refine blk_put (cs := #[.slice none 0 0, .slice none 0 0, .int .i64 xdd_1]) ?_ 0 _ rfl; (with_reducible repeat (first | apply blk_drewN | apply blk_drew | apply blk_alloc)); exact BK155.out) Try.underlying35 rfl (by kernel_rfl)) rfl ?_
    exact ⟨_, _, by first | rfl | (simp [errW_none, errW_some] <;> rfl) | (simp [*, errW_none, errW_some] <;> rfl), by first | apply Kd.R_nil | apply Kd.N_nil | apply Kd.V_nil | apply Kd.Q_nil | apply Kd.S_nil, by first | apply Kd.R_nil | apply Kd.N_nil | apply Kd.V_nil | apply Kd.Q_nil | apply Kd.S_nil, by repeat (first | (with_reducible first | exact HB.out | apply below_alloc | apply pw_below_drewN | apply below_drew1 | refine below_set ?_ GE154.out | refine below_set ?_ GE155.out) | exact HB.out)⟩

end Go.Proofs.Ytimajkahadhhhaa.PFnExactStepPeel
