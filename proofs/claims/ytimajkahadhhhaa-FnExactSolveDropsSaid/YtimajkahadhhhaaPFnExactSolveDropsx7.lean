/- A law's functions as plain Lean functions, each with the walk that shows that the code computes it: written by this session's program wip/tools/ppmake.py. -/
import Derived.Test.YtimajkahadhhhaaKZ
import Derived.Test.YtimajkahadhhhaaPFnExactSolveDropsx0
import Derived.Test.YtimajkahadhhhaaPFnExactSolveDropsx2
import Derived.Test.YtimajkahadhhhaaPFnExactSolveDropsx3
import Derived.Test.YtimajkahadhhhaaPFnExactSolveDropsx6
namespace Go.Proofs.Ytimajkahadhhhaa.PFnExactSolveDrops
open Go.RowKit Go.Proofs.YtimajkahadhhhaaW.PrintWords Go.Proofs.YtimajkahadhhhaaW.PrintLast Go.Proofs.YtimajkahadhhhaaW.PrintMore
attribute [local go_sem] max2_int min2_int max_two min_two max_three min_three max_four min_four   -- for this text's walks alone
set_option linter.unusedVariables false
set_option linter.unusedSimpArgs false

/-! ### spec_l9First: function 46 -/
def spec_l9First.l0 : Nat → Int → List ByteArray → List (S54) → Int → Int → List (List Int) → Option ((List (List Int)) × List ByteArray)
 | 0, _, _, _, _, _, _ => none
 | k + 1, x1, x7, x12, x13, x14, xaa => if x14 < x13 then (if 0 ≤ x14 then (if x14 < (x12.length : Int) then ((spec_l2Own.f k xaa).bind fun t188 => ((spec_l9Row.f k ((rd_T54 x12 x14).f0) x1).bind fun t192 => (if t188.length < 5864062014805 then ((some (t188 ++ [t192] : List (List Int))).bind fun y195 => ((spec_l2Rank.f k y195).bind fun t198 => (if t198 = (y195.length : Int) then (if x7.length < 8796093022208 then (spec_l9First.l0 k x1 (x7 ++ [(rd_T54 x12 x14).f1]) x12 x13 (wrap64 (x14 + 1)) y195) else (none)) else (spec_l9First.l0 k x1 x7 x12 x13 (wrap64 (x14 + 1)) xaa)))) else (none)))) else (none)) else (none)) else (some (xaa, x7))
def spec_l9First.f (k : Nat) (l0 : List (S54)) (a1 : Int) : Option ((List (List Int)) × List ByteArray) := spec_l9First.l0 k a1 ([] : List ByteArray) l0 (l0.length : Int) 0 ([] : List (List Int))
theorem spec_l9First.mono_l : ∀ k, (∀ y0 y1 y2 y3 y4 y5, LeO (spec_l9First.l0 k y0 y1 y2 y3 y4 y5) (spec_l9First.l0 (k + 1) y0 y1 y2 y3 y4 y5))
 | 0 => fun _ _ _ _ _ _ r h => by simp [spec_l9First.l0] at h
 | k + 1 => by
  have ih0 := spec_l9First.mono_l k
  ·intro y0 y1 y2 y3 y4 y5
   unfold spec_l9First.l0
   repeat' first
   | (with_reducible exact ih0 _ _ _ _ _ _)
   | (with_reducible exact spec_l2Own.mono _ _)
   | (with_reducible exact spec_l2Rank.mono _ _)
   | (with_reducible exact spec_l9Row.mono _ _ _)
   | (with_reducible exact LeO.refl _)
   | (with_reducible exact LeO.none _)
   | (with_reducible refine LeO.ite ?_ ?_)
   | (with_reducible refine LeO.bind ?_ (fun _ => ?_))
   | exact ih0 _ _ _ _ _ _
   | exact spec_l2Own.mono _ _
   | exact spec_l2Rank.mono _ _
   | exact spec_l9Row.mono _ _ _
   | exact LeO.none _
   | refine LeO.ite ?_ ?_
   | refine LeO.bind ?_ (fun _ => ?_)
theorem spec_l9First.mono : ∀ a0 a1 k, LeO (spec_l9First.f k a0 a1) (spec_l9First.f (k + 1) a0 a1) := by
 intro a0 a1 k; have ih0 := spec_l9First.mono_l k
 unfold spec_l9First.f
 repeat' first | apply LeO.refl | apply LeO.none | apply LeO.ite | apply ih0 | apply spec_l2Own.mono | apply spec_l2Rank.mono | apply spec_l9Row.mono | (refine LeO.bind ?_ (fun _ => ?_))
def spec_l9First.T7 : Bool × List (List Nat × List Nat) := (true, [([], []), ([0], [0]), ([], []), ([2], [2]), ([], []), ([3, 4], [3, 4]), ([5], [5]), ([1, 6, 5], [1, 6]), ([0, 1, 2, 3, 4, 5, 6, 7], []), ([8, 7, 7, 0, 1, 2, 3, 4, 5, 6, 7], [7, 8])])
def spec_l9First.B7 : List Nat := [0, 1, 0, 4, 0, 28, 60, 127, 255, 511]
theorem spec_l9First.tab7 : rtab .any (opsOf Try.f46 7) = spec_l9First.T7 := by kernel_rfl
theorem spec_l9First.bits7 : waitsOk spec_l9First.T7.2 spec_l9First.B7 = true := by kernel_rfl
set_option maxHeartbeats 8000000 in
set_option maxRecDepth 100000 in
theorem spec_l9First.calls (k : Nat) (A0 : Option Addr) (c0 : Nat) (l0 : List (S54)) (a1 : Int) (r1 : List (List Int)) (r2 : List ByteArray) (w : World) (hr0 : Kd.C k54 w A0 l0.length l0) (hc0 : l0.length ≤ c0) (h : spec_l9First.f k l0 a1 = some (r1, r2)) :
  Calls Try.prog 46 #[.slice A0 l0.length c0, .int .i64 a1] w fun e w' => ∃ v0_ v1_ : Value, e = .returned (.tuple #[.agg #[v0_], v1_]) ∧ Kd.S (Kd.slice 5 (Kd.int .u8)) 75 w' w.heap.size (fun _ => True) v0_ r1 ∧ Kd.R Kd.string 9 w' w.heap.size (fun _ => True) v1_ r2 ∧ Below w.heap.size w w' := by
 have hu71 := Try.underlying71; have hu54 := Try.underlying54; have HR0 := am hr0; have HC0 := am hc0; clear hr0 hc0; have HB := am (Below.refl w.heap.size w); have H : (spec_l9First.l0 k a1 ([] : List ByteArray) l0 (l0.length : Int) 0 ([] : List (List Int))) = some (r1, r2) := h; clear h; have H' := am H; clear H
 go_enter Try.func46, Try.ntmps46
 go_wp2_with (first | ((with_reducible refine gate_dst (N := 4) rfl ?_); refine box_event ?hg (N := 4) ?hd (cs := #[.slice none 0 0]) (t := 71) ?hr ?_; (case hd => rfl); (case hg => rfl); (case hr => first | (go_simp; done) | (go_simp; rfl)); intro gb184 hg w3 hbox hb; have BK184 := am (hbox); have GW184 := am ((gw_ hg HB.out : w.heap.size ≤ gb184)); have GE184 := am ((gw_ hg HB.out : w.heap.size ≤ gb184)); replace HB := am (below_step (zB HB.out) hb); clear hb hbox hg) | ((with_reducible refine gate_dst (N := 6) rfl ?_); refine box_event ?hg (N := 6) ?hd (cs := #[.slice none 0 0]) (t := 71) ?hr ?_; (case hd => rfl); (case hg => rfl); (case hr => first | (go_simp; done) | (go_simp; rfl)); intro gb185 hg w4 hbox hb; have BK185 := am (hbox); have GW185 := am ((gw_ hg HB.out : w.heap.size ≤ gb185)); have GE185 := am ((gw_ hg HB.out : w.heap.size ≤ gb185)); replace HB := am (below_step (zB HB.out) hb); have NB184_185 := am ((by rw [hg]; exact Nat.ne_of_lt (blk_lt (zK BK184.out)) : gb184 ≠ gb185)); have NB185_184 := am ((by rw [hg]; exact Nat.ne_of_gt (blk_lt (zK BK184.out)) : gb185 ≠ gb184)); replace BK184 := am (blk_below (zK BK184.out) hb); clear hb hbox hg; have hnb5 := NB185_184.out; have hnc5 := NB184_185.out; have hcz6_0 : w4.cell? ⟨gb185, 0, none⟩ = some (.slice none 0 0) := (blk_cell BK185.out 0).trans rfl; have hfz6_0 := blk_frozen BK185.out 0))
 go_loopg [7, 14] k (fun kq v7 v14 w' => ∃ (x7_1 : List ByteArray) (x14_1 : Int) (xaa_1 : List (List Int)) (uaa : Value), v14 = .int .i64 x14_1 ∧ Aside0 (spec_l9First.l0 kq a1 x7_1 l0 (l0.length : Int) x14_1 xaa_1 = some (r1, r2)) ∧ Aside0 (kq ≤ k) ∧ Aside0 (Kd.R Kd.string 9 w' w.heap.size (fun _ => True) v7 x7_1) ∧ Aside0 (Kd.S (Kd.slice 5 (Kd.int .u8)) 75 w' w.heap.size (fun _ => True) uaa xaa_1) ∧ Aside0 (w'.heap[gb184]? = some (.cells #[(.slice none 0 0)] 71 (0, 0))) ∧ Aside0 (w'.heap[gb185]? = some (.cells #[uaa] 71 (0, 0))) ∧ Aside0 (Below w.heap.size w w'))
 case atStart => exact ⟨(([] : List ByteArray)), (0), (([] : List (List Int))), (.slice none 0 0), rf_, H', ⟨Nat.le_refl _⟩, ⟨by first | apply Kd.R_nil | apply Kd.N_nil | apply Kd.V_nil | apply Kd.Q_nil | apply Kd.S_nil⟩, ⟨by first | exact Kd.S_nil _ _ _ _ _ | exact Kd.N_nil _ _ _ _ _ | exact Kd.V_nil _ _ _ _ _ | exact Kd.Q_nil _ _ _ _ _ | exact Kd.R_nil _ _ _ _ _⟩, ⟨by (with_reducible repeat (first | apply blk_drewN | apply blk_drew | apply blk_alloc)); refine blk_far ?_ NB184_185.out _; (with_reducible repeat (first | apply blk_drewN | apply blk_drew | apply blk_alloc)); exact BK184.out⟩, ⟨by (with_reducible repeat (first | apply blk_drewN | apply blk_drew | apply blk_alloc)); refine blk_put (cs := #[.slice none 0 0]) ?_ 0 _ rfl; (with_reducible repeat (first | apply blk_drewN | apply blk_drew | apply blk_alloc)); exact BK185.out⟩, ⟨by repeat (first | (with_reducible first | exact HB.out | apply below_alloc | apply pw_below_drewN | apply below_drew1 | refine below_set ?_ GE184.out | refine below_set ?_ GE185.out) | exact HB.out)⟩⟩
 case round =>
  clear H'; (try clear hfz6_0); obtain ⟨x7_1, x14_1, xaa_1, uaa, rfl, HA, HK1, HO_7, HO_aa, BK184, BK185, HB⟩ := hrel
  cases gk with
  | zero => exact absurd HA.out (by simp [spec_l9First.l0])
  | succ k1 =>
   have H := HA.out; clear HA
   simp only [spec_l9First.l0] at H
   by_cases c7 : x14_1 < (l0.length : Int)
   ·rw [if_pos c7] at H; have c7b0 := decide_eq_true c7; clear c7
    obtain ⟨c8, H⟩ := it_ H; have c8b0 := decide_eq_true c8; clear c8
    obtain ⟨c9, H⟩ := it_ H; have c9b0 := decide_eq_true c9; clear c9; obtain ⟨t188, A10, H⟩ := bi_ H; obtain ⟨t192, A11, H⟩ := bi_ H
    obtain ⟨c12, H⟩ := it_ H; have LMc12 := am c12; clear c12; obtain ⟨y195, hy195⟩ : ∃ y_ : List (List Int), y_ = (t188 ++ [t192]) := ⟨_, rfl⟩
    replace H : ((spec_l2Rank.f k1 y195).bind fun t198 => (if t198 = (y195.length : Int) then (if x7_1.length < 8796093022208 then (spec_l9First.l0 k1 a1 (x7_1 ++ [(rd_T54 l0 x14_1).f1]) l0 (l0.length : Int) (wrap64 (x14_1 + 1)) y195) else (none)) else (spec_l9First.l0 k1 a1 x7_1 l0 (l0.length : Int) (wrap64 (x14_1 + 1)) xaa_1))) = some (r1, r2) := by first | (rw [hy195]; exact H) | (have H2_ := (Option.bind_some _ _).symm.trans H; first | exact H2_ | (rw [hy195]; exact H2_)) | exact H
    have Ny195 := am hy195; clear hy195; obtain ⟨t198, A13, H⟩ := bi_ H
    by_cases c14 : t198 = (y195.length : Int)
    ·rw [if_pos c14] at H; have c14b0 : (t198 == (y195.length : Int)) = true := beq_iff_eq.mpr c14; have c14b1 : (t198 != (y195.length : Int)) = false := bne_eq_false_iff_eq.mpr c14; clear c14
     obtain ⟨c15, H⟩ := it_ H; have LMc15 := am c15; clear c15; obtain ⟨y199, hy199⟩ : ∃ y_ : List ByteArray, y_ = (x7_1 ++ [(rd_T54 l0 x14_1).f1]) := ⟨_, rfl⟩
     replace H : (spec_l9First.l0 k1 a1 y199 l0 (l0.length : Int) (wrap64 (x14_1 + 1)) y195) = some (r1, r2) := by first | (rw [hy199]; exact H) | (have H2_ := (Option.bind_some _ _).symm.trans H; first | exact H2_ | (rw [hy199]; exact H2_)) | exact H
     have Ny199 := am hy199; clear hy199; have H' := am H; clear H; have p186 : 0 ≤ (x14_1 : Int) := od_; have q186 : x14_1 < (l0.length : Int) := od_; obtain ⟨ad186, e186, hx186_0, hx186_1⟩ := at_T54 HR0.out x14_1 p186 q186; cases e186; replace hx186_0 := (HB.out.cell (World.block_lt_of_cell? w _ hx186_0)).trans hx186_0; replace hx186_1 := (HB.out.cell (World.block_lt_of_cell? w _ hx186_1)).trans hx186_1; replace p186 := eq_true p186; replace q186 := eq_true q186
     try go_wp2_with (first | ((with_reducible refine gate_dst (N := 9) rfl ?_); refine box_event ?hg (N := 9) ?hd (cs := #[.int .i64 0, .string (⟨#[]⟩ : ByteArray)]) (t := 54) ?hr ?_; (case hd => rfl); (case hg => rfl); (case hr => first | (go_simp; done) | (go_simp; rfl)); intro gb187 hg w16 hbox hb; replace HO_7 := am (Kd.R_below (zR HO_7.out) hb); replace HO_aa := am (Kd.S_below (zS HO_aa.out) hb); have BK187 := am (hbox); have GW187 := am ((gw_ hg HB.out : w.heap.size ≤ gb187)); have GE187 := am ((gw_ hg HB.out : w.heap.size ≤ gb187)); replace HB := am (below_step (by repeat (first | (with_reducible first | exact HB.out | apply below_alloc | apply pw_below_drewN | apply below_drew1 | refine below_set ?_ GE184.out | refine below_set ?_ GE185.out) | exact HB.out)) hb); have NB184_187 := am ((by rw [hg]; exact Nat.ne_of_lt (blk_lt (zK BK184.out)) : gb184 ≠ gb187)); have NB187_184 := am ((by rw [hg]; exact Nat.ne_of_gt (blk_lt (zK BK184.out)) : gb187 ≠ gb184)); replace BK184 := am (blk_below (zK BK184.out) hb); have NB185_187 := am ((by rw [hg]; exact Nat.ne_of_lt (blk_lt (zK BK185.out)) : gb185 ≠ gb187)); have NB187_185 := am ((by rw [hg]; exact Nat.ne_of_gt (blk_lt (zK BK185.out)) : gb187 ≠ gb185)); replace BK185 := am (blk_below (zK BK185.out) hb); clear hb hbox hg; have hnb17 := NB187_184.out; have hnc17 := NB184_187.out; have hnb18 := NB187_185.out; have hnc18 := NB185_187.out; have hcz19_0 : w16.cell? ⟨gb187, 0, none⟩ = some (.int .i64 0) := (blk_cell BK187.out 0).trans rfl; have hcz19_1 : w16.cell? ⟨gb187, 1, none⟩ = some (.string (⟨#[]⟩ : ByteArray)) := (blk_cell BK187.out 1).trans rfl; have hfz19_0 := blk_frozen BK187.out 0; have hfz19_1 := blk_frozen BK187.out 1; have hnb20 := NB185_184.out; have hnc20 := NB184_185.out; have hcz21_0 : w16.cell? ⟨gb185, 0, none⟩ = some (uaa) := (blk_cell BK185.out 0).trans rfl; have hfz21_0 := blk_frozen BK185.out 0; obtain ⟨Ao22, co22, eo22⟩ := Kd.S_slice HO_aa.out; subst eo22) | ((with_reducible refine gate_callee (f := 76) rfl ?_); refine goL_ (some 19) Try.func76 #[.agg #[.slice Ao22 xaa_1.length co22]] ?_; (with_reducible refine (spec_l2Own.calls k1 _ _ xaa_1 t188 _ ?side1 ?side2 A10.out).mono ?_); (case side1 => refine (Kd.S_reads' (e := 75) (base := w.heap.size) (ok := fun k_ => True) (n := xaa_1.length) (c := co22) ?_).2.2; exact (zS (Kd.S_mono (Kd.S_far (p := ⟨gb187, 1, none⟩) (Kd.S_far (p := ⟨gb187, 0, none⟩) (Kd.S_types HO_aa.out BK187.out (by decide)) (fun _ hk => hk.2) (.int .i64 ((rd_T54 l0 x14_1).f0))) (fun _ hk => hk.2) (.string ((rd_T54 l0 x14_1).f1))) (fun _ h_ => h_.1)))); (case side2 => exact (Kd.S_reads' HO_aa.out).2.1); rintro e w23 ⟨v189, rfl, ho0, hb⟩; refine ⟨_, rfl, ?_⟩; replace HO_7 := am (Kd.R_below (zR (Kd.R_mono (Kd.R_far (p := ⟨gb187, 1, none⟩) (Kd.R_far (p := ⟨gb187, 0, none⟩) (Kd.R_types HO_7.out BK187.out (by decide)) (fun _ hk => hk.2) (.int .i64 ((rd_T54 l0 x14_1).f0))) (fun _ hk => hk.2) (.string ((rd_T54 l0 x14_1).f1))) (fun _ h_ => h_.1))) hb); have HO190 := am (Kd.S_lower (Kd.S_new' ho0 (Kd.S_lt (zS (Kd.S_mono (Kd.S_far (p := ⟨gb187, 1, none⟩) (Kd.S_far (p := ⟨gb187, 0, none⟩) (Kd.S_types HO_aa.out BK187.out (by decide)) (fun _ hk => hk.2) (.int .i64 ((rd_T54 l0 x14_1).f0))) (fun _ hk => hk.2) (.string ((rd_T54 l0 x14_1).f1))) (fun _ h_ => h_.1))))) (zs_ HB.out)); replace HO_aa := am (Kd.S_elder' (zS (Kd.S_mono (Kd.S_far (p := ⟨gb187, 1, none⟩) (Kd.S_far (p := ⟨gb187, 0, none⟩) (Kd.S_types HO_aa.out BK187.out (by decide)) (fun _ hk => hk.2) (.int .i64 ((rd_T54 l0 x14_1).f0))) (fun _ hk => hk.2) (.string ((rd_T54 l0 x14_1).f1))) (fun _ h_ => h_.1))) (Kd.S_base ho0) hb); replace BK184 := am (blk_below (g := gb184) (o := .cells #[.slice none 0 0] 71 (0, 0)) (by (with_reducible repeat (first | apply blk_drewN | apply blk_drew | apply blk_alloc)); refine blk_far ?_ NB184_187.out _; (with_reducible repeat (first | apply blk_drewN | apply blk_drew | apply blk_alloc)); refine blk_far ?_ NB184_187.out _; (with_reducible repeat (first | apply blk_drewN | apply blk_drew | apply blk_alloc)); exact BK184.out) hb); replace BK185 := am (blk_below (g := gb185) (o := .cells #[.slice Ao22 xaa_1.length co22] 71 (0, 0)) (by (with_reducible repeat (first | apply blk_drewN | apply blk_drew | apply blk_alloc)); refine blk_far ?_ NB185_187.out _; (with_reducible repeat (first | apply blk_drewN | apply blk_drew | apply blk_alloc)); refine blk_far ?_ NB185_187.out _; (with_reducible repeat (first | apply blk_drewN | apply blk_drew | apply blk_alloc)); exact BK185.out) hb); replace BK187 := am (blk_below (g := gb187) (o := .cells #[.int .i64 ((rd_T54 l0 x14_1).f0), .string ((rd_T54 l0 x14_1).f1)] 54 (0, 0)) (by (with_reducible repeat (first | apply blk_drewN | apply blk_drew | apply blk_alloc)); refine blk_put (cs := #[.int .i64 ((rd_T54 l0 x14_1).f0), .string (⟨#[]⟩ : ByteArray)]) ?_ 1 _ rfl; (with_reducible repeat (first | apply blk_drewN | apply blk_drew | apply blk_alloc)); refine blk_put (cs := #[.int .i64 0, .string (⟨#[]⟩ : ByteArray)]) ?_ 0 _ rfl; (with_reducible repeat (first | apply blk_drewN | apply blk_drew | apply blk_alloc)); exact BK187.out) hb); replace HB := am (below_step (by repeat (first | (with_reducible first | exact HB.out | apply below_alloc | apply pw_below_drewN | apply below_drew1 | refine below_set ?_ GE184.out | refine below_set ?_ GE185.out | refine below_set ?_ GE187.out) | exact HB.out)) hb); (try clear hb); (try clear ho0)) | ((with_reducible refine gate_dst (N := 10) rfl ?_); refine box_event ?hg (N := 10) ?hd (cs := #[.slice none 0 0]) (t := 71) ?hr ?_; (case hd => rfl); (case hg => rfl); (case hr => first | (go_simp; done) | (go_simp; rfl)); intro gb191 hg w24 hbox hb; replace HO_7 := am (Kd.R_below (zR HO_7.out) hb); replace HO_aa := am (Kd.S_below (zS HO_aa.out) hb); replace HO190 := am (Kd.S_below (zS HO190.out) hb); have BK191 := am (hbox); have GW191 := am ((gw_ hg HB.out : w.heap.size ≤ gb191)); have GE191 := am ((gw_ hg HB.out : w.heap.size ≤ gb191)); replace HB := am (below_step (by repeat (first | (with_reducible first | exact HB.out | apply below_alloc | apply pw_below_drewN | apply below_drew1 | refine below_set ?_ GE184.out | refine below_set ?_ GE185.out | refine below_set ?_ GE187.out) | exact HB.out)) hb); have NB184_191 := am ((by rw [hg]; exact Nat.ne_of_lt (blk_lt (zK BK184.out)) : gb184 ≠ gb191)); have NB191_184 := am ((by rw [hg]; exact Nat.ne_of_gt (blk_lt (zK BK184.out)) : gb191 ≠ gb184)); replace BK184 := am (blk_below (zK BK184.out) hb); have NB185_191 := am ((by rw [hg]; exact Nat.ne_of_lt (blk_lt (zK BK185.out)) : gb185 ≠ gb191)); have NB191_185 := am ((by rw [hg]; exact Nat.ne_of_gt (blk_lt (zK BK185.out)) : gb191 ≠ gb185)); replace BK185 := am (blk_below (zK BK185.out) hb); have NB187_191 := am ((by rw [hg]; exact Nat.ne_of_lt (blk_lt (zK BK187.out)) : gb187 ≠ gb191)); have NB191_187 := am ((by rw [hg]; exact Nat.ne_of_gt (blk_lt (zK BK187.out)) : gb191 ≠ gb187)); replace BK187 := am (blk_below (zK BK187.out) hb); clear hb hbox hg; obtain ⟨Ao25, co25, eo25⟩ := Kd.S_slice HO190.out; subst eo25; have hnb26 := NB191_184.out; have hnc26 := NB184_191.out; have hnb27 := NB191_185.out; have hnc27 := NB185_191.out; have hnb28 := NB191_187.out; have hnc28 := NB187_191.out; have hcz29_0 : w24.cell? ⟨gb191, 0, none⟩ = some (.slice none 0 0) := (blk_cell BK191.out 0).trans rfl; have hfz29_0 := blk_frozen BK191.out 0))
     have n0_ : Aside0 (Kd.R Kd.string 9 (w24.setCell ⟨gb191, 0, none⟩ (.slice Ao25 t188.length co25)) w.heap.size (fun _ => True) u7 x7_1) := ⟨zR (Kd.R_mono (Kd.R_far (p := ⟨gb191, 0, none⟩) (Kd.R_types HO_7.out BK191.out (by decide)) (fun _ hk => hk.2) (.slice Ao25 t188.length co25)) (fun _ hk => trivial))⟩
     have n1_ : Aside0 (Kd.S (Kd.slice 5 (Kd.int .u8)) 75 (w24.setCell ⟨gb191, 0, none⟩ (.slice Ao25 t188.length co25)) w.heap.size (fun k_ => some k_ ≠ (.slice Ao25 t188.length co25 : Value).ownBlock) (.slice Ao22 xaa_1.length co22) xaa_1) := ⟨zS (Kd.S_mono (Kd.S_far (p := ⟨gb191, 0, none⟩) (Kd.S_types HO_aa.out BK191.out (by decide)) (fun _ hk => hk.2) (.slice Ao25 t188.length co25)) (fun _ hk => hk.1.2))⟩
     have n2_ : Aside0 (Kd.S (Kd.slice 5 (Kd.int .u8)) 75 (w24.setCell ⟨gb191, 0, none⟩ (.slice Ao25 t188.length co25)) w.heap.size (fun k_ => some k_ ≠ (.slice Ao22 xaa_1.length co22 : Value).ownBlock) (.slice Ao25 t188.length co25) t188) := ⟨zS (Kd.S_mono (Kd.S_far (p := ⟨gb191, 0, none⟩) (Kd.S_types HO190.out BK191.out (by decide)) (fun _ hk => hk.2) (.slice Ao25 t188.length co25)) (fun _ hk => hk.1.2))⟩
     have n3_ : Aside0 ((w24.setCell ⟨gb191, 0, none⟩ (.slice Ao25 t188.length co25)).heap[gb184]? = some (.cells #[.slice none 0 0] 71 (0, 0))) := ⟨by (with_reducible repeat (first | apply blk_drewN | apply blk_drew | apply blk_alloc)); refine blk_far ?_ NB184_191.out _; (with_reducible repeat (first | apply blk_drewN | apply blk_drew | apply blk_alloc)); exact BK184.out⟩
     have n4_ : Aside0 ((w24.setCell ⟨gb191, 0, none⟩ (.slice Ao25 t188.length co25)).heap[gb185]? = some (.cells #[.slice Ao22 xaa_1.length co22] 71 (0, 0))) := ⟨by (with_reducible repeat (first | apply blk_drewN | apply blk_drew | apply blk_alloc)); refine blk_far ?_ NB185_191.out _; (with_reducible repeat (first | apply blk_drewN | apply blk_drew | apply blk_alloc)); exact BK185.out⟩
     have n5_ : Aside0 ((w24.setCell ⟨gb191, 0, none⟩ (.slice Ao25 t188.length co25)).heap[gb187]? = some (.cells #[.int .i64 ((rd_T54 l0 x14_1).f0), .string ((rd_T54 l0 x14_1).f1)] 54 (0, 0))) := ⟨by (with_reducible repeat (first | apply blk_drewN | apply blk_drew | apply blk_alloc)); refine blk_far ?_ NB187_191.out _; (with_reducible repeat (first | apply blk_drewN | apply blk_drew | apply blk_alloc)); exact BK187.out⟩
     have n6_ : Aside0 ((w24.setCell ⟨gb191, 0, none⟩ (.slice Ao25 t188.length co25)).heap[gb191]? = some (.cells #[.slice Ao25 t188.length co25] 71 (0, 0))) := ⟨by (with_reducible repeat (first | apply blk_drewN | apply blk_drew | apply blk_alloc)); refine blk_put (cs := #[.slice none 0 0]) ?_ 0 _ rfl; (with_reducible repeat (first | apply blk_drewN | apply blk_drew | apply blk_alloc)); exact BK191.out⟩
     have n7_ : Aside0 (Below w.heap.size w (w24.setCell ⟨gb191, 0, none⟩ (.slice Ao25 t188.length co25))) := ⟨by repeat (first | (with_reducible first | exact HB.out | apply below_alloc | apply pw_below_drewN | apply below_drew1 | refine below_set ?_ GE184.out | refine below_set ?_ GE185.out | refine below_set ?_ GE187.out | refine below_set ?_ GE191.out) | exact HB.out)⟩; (try clear HO_7); (try clear HO_aa); (try clear HO190); (try clear BK184); (try clear BK185); (try clear BK187); (try clear BK191); (try clear HB); generalize (w24.setCell ⟨gb191, 0, none⟩ (.slice Ao25 t188.length co25)) = w30 at n0_ n1_ n2_ n3_ n4_ n5_ n6_ n7_ ⊢; have HO_7 := n0_; have HO_aa := n1_; have HO190 := n2_; have BK184 := n3_; have BK185 := n4_; have BK187 := n5_; have BK191 := n6_; have HB := n7_; clear n0_ n1_ n2_ n3_ n4_ n5_ n6_ n7_; replace HO_7 := am (Kd.R_drew HO_7.out); replace HO_aa := am (Kd.S_drew HO_aa.out); replace HO190 := am (Kd.S_drew HO190.out); replace BK184 := am (blk_drew BK184.out); replace BK185 := am (blk_drew BK185.out); replace BK187 := am (blk_drew BK187.out); replace BK191 := am (blk_drew BK191.out); replace HB := am (below_drew1 HB.out)
     refine start_ (n := 10) (S := fun w' => w'.cell? ⟨gb191, 0, none⟩ = some (.slice Ao25 t188.length co25) ∧ w'.cell? ⟨gb187, 0, none⟩ = some (.int .i64 ((rd_T54 l0 x14_1).f0)) ∧ w'.cell? ⟨gb187, 1, none⟩ = some (.string ((rd_T54 l0 x14_1).f1))) (ds := [9]) #[false, false, false, false, false, false, false, false, false, false] (by kernel_rfl) rfl rfl ⟨(blk_cell BK191.out 0).trans rfl, (blk_cell BK187.out 0).trans rfl, (blk_cell BK187.out 1).trans rfl⟩ (fun hHeld => ?_); refine with_tabW spec_l9First.tab7 spec_l9First.bits7 (fun HT_ HW_ => ?_)
     generalize w30.drew = w31 at HO_7 HO_aa HO190 BK184 BK185 BK187 BK191 HB hHeld ⊢
     refine pu_ (i := 0) (some 20) #[true, false, false, false, false, false, false, false, false, false] HT_ ?_
     refine pu_ (i := 2) (some 22) #[true, false, true, false, false, false, false, false, false, false] HT_ ?_
     refine pu_ (i := 4) (some 24) #[true, false, true, false, true, false, false, false, false, false] HT_ ?_
     refine ta_ (i := 1) (some 21) #[true, true, true, false, true, false, false, false, false, false] HT_ HW_ hHeld ?_
     refine ta_ (i := 3) (some 23) #[true, true, true, true, true, false, false, false, false, false] HT_ HW_ hHeld ?_
     refine one_ (i := 5) (N := some 25) #[true, true, true, true, true, true, false, false, false, false] rfl rfl (one_of HT_.out (by kernel_rfl)) (by decide) (fun K hK => ?_)
     refine goR_ Try.func77 #[.int .i64 ((rd_T54 l0 x14_1).f0), .int .i64 a1] ?_
     with_reducible refine (spec_l9Row.calls k1 ((rd_T54 l0 x14_1).f0) a1 t192 _ A11.out).mono ?_
     rintro e w32 ⟨v193, rfl, ho0, hb⟩
     refine ⟨_, rfl, ?_⟩
     replace HO_7 := am (Kd.R_below (zR HO_7.out) hb)
     replace HO_aa := am (Kd.S_elder' (zS HO_aa.out) (Kd.R_base ho0) hb)
     replace HO190 := am (Kd.S_elder' (zS HO190.out) (Kd.R_base ho0) hb)
     have HO194 := am (Kd.R_lower ho0 (zs_ HB.out))
     replace BK184 := am (blk_below (zK BK184.out) hb)
     replace BK185 := am (blk_below (zK BK185.out) hb)
     replace BK187 := am (blk_below (zK BK187.out) hb)
     replace BK191 := am (blk_below (zK BK191.out) hb)
     replace HB := am (below_step (zB HB.out) hb); (try clear hb); (try clear ho0); obtain ⟨Ao34, co34, eo34⟩ := Kd.R_slice HO194.out
     (first | subst eo34 | (injection eo34 with f1_ f2_ f3_; have f4_ := f1_.symm; have f5_ := f3_.symm; clear f1_ f2_ f3_; subst f4_; subst f5_))
     refine hK.out _ _ ⟨(blk_cell BK191.out 0).trans rfl, (blk_cell BK187.out 0).trans rfl, (blk_cell BK187.out 1).trans rfl⟩ (fun hHeld => ?_)
     clear hK K
     refine norm_ (a' := ?_) ?_ ?_
     rotate_left
     ·show Act.put _ (some 25) _ = _
      simp only [Act.put, List.setIfInBounds_toArray, List.set_cons_zero, List.set_cons_succ, i64_w, i32_w]; rfl
     refine one_ (i := 6) (N := some 26) #[true, true, true, true, true, true, true, false, false, false] rfl rfl (one_of HT_.out (by kernel_rfl)) (by decide) (fun K hK => ?_)
     refine value_ (w1 := ?_) (v := ?_) (by rfl) rfl ?_ ?_
     rotate_left 2
     ·go_simp
      constructor
      ·rfl
      ·rfl
     refine hK.out _ _ ⟨(blk_cell (blk_alloc BK191.out _) 0).trans rfl, (blk_cell (blk_alloc BK187.out _) 0).trans rfl, (blk_cell (blk_alloc BK187.out _) 1).trans rfl⟩ (fun hHeld => ?_)
     clear hK K
     refine norm_ (a' := ?_) ?_ ?_
     rotate_left
     ·show Act.put _ (some 26) _ = _
      simp only [Act.put, List.setIfInBounds_toArray, List.set_cons_zero, List.set_cons_succ, i64_w, i32_w]; rfl
     refine one_ (i := 7) (N := some 27) #[true, true, true, true, true, true, true, true, false, false] rfl rfl (one_of HT_.out (by kernel_rfl)) (by decide) (fun K hK => ?_)
     refine Kd.S_append_step (Kd.slice 5 (Kd.int .u8)) (w0 := w) w.heap.size (by rfl) (.tmp 21) (.tmp 26) 69 75 (.slice none 0 0) 24 rfl Try.underlying69 info75 rfl (by decide) (by omega) (.slice Ao25 t188.length co25) t188 t192 [.slice Ao34 t192.length co34] (fun k_ => some k_ ≠ (.slice Ao22 xaa_1.length co22 : Value).ownBlock) (fun k_ => some k_ = (.slice Ao34 t192.length co34 : Value).ownBlock) rfl rfl ?aP (fun k_ hk_ => ((Kd.R_mono (ok' := fun k_ => ((fun k_ => some k_ ≠ (.slice Ao22 xaa_1.length co22 : Value).ownBlock)) k_ ∧ some k_ ≠ (.slice Ao25 t188.length co25 : Value).ownBlock) (Kd.R_apart' (Kd.R_apart' (HO194.out) (Kd.S_typed HO_aa.out) (by decide)) (Kd.S_typed HO190.out) (by decide)) (fun k_ hk => ⟨hk.1.2, hk.2⟩))).1 k_ hk_.symm) ?aF ?aO ?aB ?aS ?aL ?_
     (case aP => exact Kd.M_row (Kd.R_mono (Kd.R_tight rfl (Kd.R_mono (ok' := fun k_ => ((fun k_ => some k_ ≠ (.slice Ao22 xaa_1.length co22 : Value).ownBlock)) k_ ∧ some k_ ≠ (.slice Ao25 t188.length co25 : Value).ownBlock) (Kd.R_apart' (Kd.R_apart' (HO194.out) (Kd.S_typed HO_aa.out) (by decide)) (Kd.S_typed HO190.out) (by decide)) (fun k_ hk => ⟨hk.1.2, hk.2⟩))) (fun _ h_ => h_)))
     (case aB => exact (zB HB.out))
     (case aF => exact (fun k_ hk => Kd.fresh' (Kd.S_lt (zS HO_aa.out)) k_ hk))
     (case aO => exact (zS (Kd.S_mono HO190.out (fun k_ hk => ⟨hk.1, fun e_ => hk.2 e_⟩))))
     (case aS => exact (zs_ HB.out))
     (case aL => have := LMc12.out; omega)
     intro v196 w33 ho hb hg hat; rw [← Ny195.out] at ho
     replace HO_7 := am (Kd.R_over' (zR HO_7.out) (Kd.S_typed (zS HO190.out)) (by decide) hg)
     replace HO_aa := am (Kd.S_after (ok := (fun k_ => some k_ ≠ (.slice Ao34 t192.length co34 : Value).ownBlock)) (zS (Kd.S_mono HO_aa.out (fun _ hk => ⟨hk.2, hk.1⟩))) hg hat)
     replace BK184 := am (blk_grown (zK BK184.out) hg (Kd.S_ne HO190.out BK184.out (by decide)))
     replace BK185 := am (blk_grown (zK BK185.out) hg (Kd.S_ne HO190.out BK185.out (by decide)))
     replace BK187 := am (blk_grown (zK BK187.out) hg (Kd.S_ne HO190.out BK187.out (by decide)))
     replace BK191 := am (blk_grown (zK BK191.out) hg (Kd.S_ne HO190.out BK191.out (by decide)))
     replace HB := am (hb); have HO197 := am (ho); (try clear HO190); (try clear HO194); clear ho hb hg hat; obtain ⟨Ao35, co35, eo35⟩ := Kd.S_slice HO197.out
     (first | subst eo35 | (injection eo35 with f1_ f2_ f3_; have f4_ := f1_.symm; have f5_ := f3_.symm; clear f1_ f2_ f3_; subst f4_; subst f5_))
     refine hK.out _ _ ⟨(blk_cell BK191.out 0).trans rfl, (blk_cell BK187.out 0).trans rfl, (blk_cell BK187.out 1).trans rfl⟩ (fun hHeld => ?_)
     clear hK K
     refine norm_ (a' := ?_) ?_ ?_
     rotate_left
     ·show Act.put _ (some 27) _ = _
      simp only [Act.put, List.setIfInBounds_toArray, List.set_cons_zero, List.set_cons_succ, i64_w, i32_w]; rfl
     refine pu_ (i := 8) (some 28) #[true, true, true, true, true, true, true, true, true, false] HT_ ?_
     refine last_ (i := 9) (N := none) #[true, true, true, true, true, true, true, true, true, true] rfl rfl (one_of HT_.out (by kernel_rfl)) (by decide) (fun K hK => ?_)
     have hs36 : w33.cell? ⟨gb191, 0, none⟩ = some (.slice Ao25 t188.length co25) := (blk_cell BK191.out 0).trans rfl; have hfs36 := blk_frozen BK191.out 0; have hns36_0 := NB184_191.out; have hns36_1 := NB185_191.out; have hns36_2 := NB187_191.out; have hms36_0 := NB191_184.out; have hms36_1 := NB191_185.out; have hms36_2 := NB191_187.out
     refine skip_ (w1 := ?_) (by rfl) rfl ?_ ?_
     rotate_left
     ·go_simp; rfl
     refine hK.out _ _ ?_
     clear hK K
     refine done_ (done_of HT_.out (by kernel_rfl)) ?_
     try go_wp2
     have n0_ : Aside0 (Kd.R Kd.string 9 (w33.setCell ⟨gb191, 0, none⟩ (.slice Ao35 y195.length co35)) w.heap.size (fun _ => True) u7 x7_1) := ⟨zR (Kd.R_mono (Kd.R_far (p := ⟨gb191, 0, none⟩) (Kd.R_types HO_7.out BK191.out (by decide)) (fun _ hk => hk.2) (.slice Ao35 y195.length co35)) (fun _ hk => trivial))⟩
     have n1_ : Aside0 (Kd.S (Kd.slice 5 (Kd.int .u8)) 75 (w33.setCell ⟨gb191, 0, none⟩ (.slice Ao35 y195.length co35)) w.heap.size (fun k_ => some k_ ≠ (.slice Ao35 y195.length co35 : Value).ownBlock) (.slice Ao22 xaa_1.length co22) xaa_1) := ⟨zS (Kd.S_mono (Kd.S_far (p := ⟨gb191, 0, none⟩) (Kd.S_types HO_aa.out BK191.out (by decide)) (fun _ hk => hk.2) (.slice Ao35 y195.length co35)) (fun _ hk => hk.1.2))⟩
     have n2_ : Aside0 (Kd.S (Kd.slice 5 (Kd.int .u8)) 75 (w33.setCell ⟨gb191, 0, none⟩ (.slice Ao35 y195.length co35)) w.heap.size (fun k_ => some k_ ≠ (.slice Ao22 xaa_1.length co22 : Value).ownBlock) (.slice Ao35 y195.length co35) y195) := ⟨zS (Kd.S_mono (Kd.S_far (p := ⟨gb191, 0, none⟩) (Kd.S_types HO197.out BK191.out (by decide)) (fun _ hk => hk.2) (.slice Ao35 y195.length co35)) (fun _ hk => hk.1))⟩
     have n3_ : Aside0 ((w33.setCell ⟨gb191, 0, none⟩ (.slice Ao35 y195.length co35)).heap[gb184]? = some (.cells #[.slice none 0 0] 71 (0, 0))) := ⟨by (with_reducible repeat (first | apply blk_drewN | apply blk_drew | apply blk_alloc)); refine blk_far ?_ NB184_191.out _; (with_reducible repeat (first | apply blk_drewN | apply blk_drew | apply blk_alloc)); exact BK184.out⟩
     have n4_ : Aside0 ((w33.setCell ⟨gb191, 0, none⟩ (.slice Ao35 y195.length co35)).heap[gb185]? = some (.cells #[.slice Ao22 xaa_1.length co22] 71 (0, 0))) := ⟨by (with_reducible repeat (first | apply blk_drewN | apply blk_drew | apply blk_alloc)); refine blk_far ?_ NB185_191.out _; (with_reducible repeat (first | apply blk_drewN | apply blk_drew | apply blk_alloc)); exact BK185.out⟩
     have n5_ : Aside0 ((w33.setCell ⟨gb191, 0, none⟩ (.slice Ao35 y195.length co35)).heap[gb187]? = some (.cells #[.int .i64 ((rd_T54 l0 x14_1).f0), .string ((rd_T54 l0 x14_1).f1)] 54 (0, 0))) := ⟨by (with_reducible repeat (first | apply blk_drewN | apply blk_drew | apply blk_alloc)); refine blk_far ?_ NB187_191.out _; (with_reducible repeat (first | apply blk_drewN | apply blk_drew | apply blk_alloc)); exact BK187.out⟩
     have n6_ : Aside0 ((w33.setCell ⟨gb191, 0, none⟩ (.slice Ao35 y195.length co35)).heap[gb191]? = some (.cells #[.slice Ao35 y195.length co35] 71 (0, 0))) := ⟨by (with_reducible repeat (first | apply blk_drewN | apply blk_drew | apply blk_alloc)); refine blk_put (cs := #[.slice Ao25 t188.length co25]) ?_ 0 _ rfl; (with_reducible repeat (first | apply blk_drewN | apply blk_drew | apply blk_alloc)); exact BK191.out⟩
     have n7_ : Aside0 (Below w.heap.size w (w33.setCell ⟨gb191, 0, none⟩ (.slice Ao35 y195.length co35))) := ⟨by repeat (first | (with_reducible first | exact HB.out | apply below_alloc | apply pw_below_drewN | apply below_drew1 | refine below_set ?_ GE184.out | refine below_set ?_ GE185.out | refine below_set ?_ GE187.out | refine below_set ?_ GE191.out) | exact HB.out)⟩; (try clear HO_7); (try clear HO_aa); (try clear HO197); (try clear BK184); (try clear BK185); (try clear BK187); (try clear BK191); (try clear HB); generalize (w33.setCell ⟨gb191, 0, none⟩ (.slice Ao35 y195.length co35)) = w37 at n0_ n1_ n2_ n3_ n4_ n5_ n6_ n7_ ⊢; have HO_7 := n0_; have HO_aa := n1_; have HO197 := n2_; have BK184 := n3_; have BK185 := n4_; have BK187 := n5_; have BK191 := n6_; have HB := n7_; clear n0_ n1_ n2_ n3_ n4_ n5_ n6_ n7_; replace HO_7 := am (Kd.R_drew HO_7.out); replace HO_aa := am (Kd.S_drew HO_aa.out); replace HO197 := am (Kd.S_drew HO197.out); replace BK184 := am (blk_drew BK184.out); replace BK185 := am (blk_drew BK185.out); replace BK187 := am (blk_drew BK187.out); replace BK191 := am (blk_drew BK191.out); replace HB := am (below_drew1 HB.out)
     refine start_ (n := 6) (S := fun w' => w'.cell? ⟨gb191, 0, none⟩ = some (.slice Ao35 y195.length co35)) (ds := []) #[false, false, false, false, false, false] (by kernel_rfl) rfl rfl ((blk_cell BK191.out 0).trans rfl) (fun hHeld => ?_)
     generalize w37.drew = w38 at HO_7 HO_aa HO197 BK184 BK185 BK187 BK191 HB hHeld ⊢
     refine pure_ (i := 2) (N := some 31) (v := ?_) (a' := ?_) #[false, false, true, false, false, false] rfl rfl (by kernel_rfl) (fun _ _ _ h => h) (Or.inl ⟨by rfl, ?_⟩) ?_ ?_
     rotate_left
     ·intro w'; go_simp; with_reducible rfl
     rotate_left
     ·simp only [Act.put, List.setIfInBounds_toArray, List.set_cons_zero, List.set_cons_succ, i64_w, i32_w]; rfl
     refine take_ (i := 0) (N := some 29) (v := ?_) (a' := ?_) #[true, false, true, false, false, false] rfl rfl (by kernel_rfl) (fun _ _ _ h => h) (Or.inl ⟨by rfl, ?_⟩) hHeld ?_ ?_
     rotate_left
     ·intro w' s0; go_simp; with_reducible rfl
     rotate_left
     ·simp only [Act.put, List.setIfInBounds_toArray, List.set_cons_zero, List.set_cons_succ, i64_w, i32_w]; rfl
     refine take_ (i := 3) (N := some 32) (v := ?_) (a' := ?_) #[true, false, true, true, false, false] rfl rfl (by kernel_rfl) (fun _ _ _ h => h) (Or.inl ⟨by rfl, ?_⟩) hHeld ?_ ?_
     rotate_left
     ·intro w' s0; go_simp; with_reducible rfl
     rotate_left
     ·simp only [Act.put, List.setIfInBounds_toArray, List.set_cons_zero, List.set_cons_succ, i64_w, i32_w]; rfl
     refine pure_ (i := 4) (N := some 33) (v := ?_) (a' := ?_) #[true, false, true, true, true, false] rfl rfl (by kernel_rfl) (fun _ _ _ h => h) (Or.inl ⟨by rfl, ?_⟩) ?_ ?_
     rotate_left
     ·intro w'; go_simp; with_reducible rfl
     rotate_left
     ·simp only [Act.put, List.setIfInBounds_toArray, List.set_cons_zero, List.set_cons_succ, i64_w, i32_w]; rfl
     refine one_ (i := 1) (N := some 30) #[true, true, true, true, true, false] rfl rfl (by kernel_rfl) (by decide) (fun K hK => ?_)
     refine goR_ Try.func78 #[.agg #[.slice Ao35 y195.length co35]] ?_
     with_reducible refine (spec_l2Rank.calls k1 _ _ y195 t198 _ ?side1 ?side2 A13.out).mono ?_
     (case side1 => exact zC ((Kd.S_reads' HO197.out).2.2))
     (case side2 => exact (Kd.S_reads' HO197.out).2.1)
     rintro e w39 ⟨rfl, hb⟩
     refine ⟨_, rfl, ?_⟩
     replace HO_7 := am (Kd.R_below (zR HO_7.out) hb)
     replace HO_aa := am (Kd.S_below (zS HO_aa.out) hb)
     replace HO197 := am (Kd.S_below (zS HO197.out) hb)
     replace BK184 := am (blk_below (zK BK184.out) hb)
     replace BK185 := am (blk_below (zK BK185.out) hb)
     replace BK187 := am (blk_below (zK BK187.out) hb)
     replace BK191 := am (blk_below (zK BK191.out) hb)
     replace HB := am (below_step (zB HB.out) hb); (try clear hb); (try clear hb2); (try clear hk); (try clear hi)
     refine hK.out _ _ ((blk_cell BK191.out 0).trans rfl) (fun hHeld => ?_)
     clear hK K
     refine norm_ (a' := ?_) ?_ ?_
     rotate_left
     ·show Act.put _ (some 30) _ = _
      simp only [Act.put, List.setIfInBounds_toArray, List.set_cons_zero, List.set_cons_succ, i64_w, i32_w]; rfl
     refine pure_ (i := 5) (N := some 34) (v := ?_) (a' := ?_) #[true, true, true, true, true, true] rfl rfl (by kernel_rfl) (fun _ _ _ h => h) (Or.inl ⟨by rfl, ?_⟩) ?_ ?_
     rotate_left
     ·intro w'; go_simp; with_reducible rfl
     rotate_left
     ·simp only [Act.put, List.setIfInBounds_toArray, List.set_cons_zero, List.set_cons_succ, i64_w, i32_w]; rfl
     refine done_ (by kernel_rfl) ?_
     have hcz40_0 : w39.cell? ⟨gb191, 0, none⟩ = some (.slice Ao35 y195.length co35) := (blk_cell BK191.out 0).trans rfl; have hfz40_0 := blk_frozen BK191.out 0; have hcz41_0 : w39.cell? ⟨gb185, 0, none⟩ = some (.slice Ao22 xaa_1.length co22) := (blk_cell BK185.out 0).trans rfl; have hfz41_0 := blk_frozen BK185.out 0; have hcz42_0 : w39.cell? ⟨gb187, 0, none⟩ = some (.int .i64 ((rd_T54 l0 x14_1).f0)) := (blk_cell BK187.out 0).trans rfl; have hcz42_1 : w39.cell? ⟨gb187, 1, none⟩ = some (.string ((rd_T54 l0 x14_1).f1)) := (blk_cell BK187.out 1).trans rfl; have hfz42_0 := blk_frozen BK187.out 0; have hfz42_1 := blk_frozen BK187.out 1
     try go_wp2_with (first | ((with_reducible refine gate_builtin (b := .append) (xs := #[.tmp 36, .tmp 39]) rfl ?_); at_builtin; refine Kd.R_append Kd.string (w0 := w) w.heap.size rfl (.tmp 36) (.tmp 39) 30 9 (.string ⟨#[]⟩) 16 rfl Try.underlying30 info9 rfl (by decide) (by omega) u7 x7_1 ((rd_T54 l0 x14_1).f1) [.string ((rd_T54 l0 x14_1).f1)] (fun _ => True) (fun _ => False) rfl (by first | (go_simp; done) | (go_simp; rfl)) ?aP (fun _ hk => hk.elim) ?aF ?aO ?aB ?aS ?aL ?_; (case aP => exact rfl); (case aB => exact (by repeat (first | (with_reducible first | exact HB.out | apply below_alloc | apply pw_below_drewN | apply below_drew1 | refine below_set ?_ GE184.out | refine below_set ?_ GE185.out | refine below_set ?_ GE187.out | refine below_set ?_ GE191.out) | exact HB.out))); (case aF => exact (fun _ _ => trivial)); (case aO => exact (by (with_reducible repeat (first | apply Kd.R_alloc | apply Kd.R_drewN | apply Kd.R_drew)); exact Kd.R_mono (Kd.R_far (p := ⟨gb185, 0, none⟩) (Kd.R_types HO_7.out BK185.out (by decide)) (fun _ hk => hk.2) (.slice Ao35 y195.length co35)) (fun _ hk => trivial))); (case aS => exact (below_size (by repeat (first | (with_reducible first | exact HB.out | apply below_alloc | apply pw_below_drewN | apply below_drew1 | refine below_set ?_ GE184.out | refine below_set ?_ GE185.out | refine below_set ?_ GE187.out | refine below_set ?_ GE191.out) | exact HB.out)))); (case aL => have := LMc15.out; omega); intro v200 w43 ho hb hg hat; rw [← Ny199.out] at ho; have n0_ := Aside0.mk (Kd.S_over' (by (with_reducible repeat (first | apply Kd.S_alloc | apply Kd.S_drewN | apply Kd.S_drew)); exact (Kd.S_mono (Kd.S_far (p := ⟨gb185, 0, none⟩) (Kd.S_types HO_aa.out BK185.out (by decide)) (fun _ hk => hk.2) (.slice Ao35 y195.length co35)) (fun _ h_ => h_.1))) (Kd.R_typed (by (with_reducible repeat (first | apply Kd.R_alloc | apply Kd.R_drewN | apply Kd.R_drew)); exact (Kd.R_mono (Kd.R_far (p := ⟨gb185, 0, none⟩) (Kd.R_types HO_7.out BK185.out (by decide)) (fun _ hk => hk.2) (.slice Ao35 y195.length co35)) (fun _ h_ => h_.1)))) (by decide) hg); have n1_ := Aside0.mk (blk_grown (g := gb184) (o := .cells #[.slice none 0 0] 71 (0, 0)) (by (with_reducible repeat (first | apply blk_drewN | apply blk_drew | apply blk_alloc)); refine blk_far ?_ NB184_185.out _; (with_reducible repeat (first | apply blk_drewN | apply blk_drew | apply blk_alloc)); exact BK184.out) hg (Kd.R_ne HO_7.out BK184.out (by decide))); have n2_ := Aside0.mk (blk_grown (g := gb185) (o := .cells #[.slice Ao35 y195.length co35] 71 (0, 0)) (by (with_reducible repeat (first | apply blk_drewN | apply blk_drew | apply blk_alloc)); refine blk_put (cs := #[.slice Ao22 xaa_1.length co22]) ?_ 0 _ rfl; (with_reducible repeat (first | apply blk_drewN | apply blk_drew | apply blk_alloc)); exact BK185.out) hg (Kd.R_ne HO_7.out BK185.out (by decide))); have n3_ := Aside0.mk (blk_grown (g := gb187) (o := .cells #[.int .i64 ((rd_T54 l0 x14_1).f0), .string ((rd_T54 l0 x14_1).f1)] 54 (0, 0)) (by (with_reducible repeat (first | apply blk_drewN | apply blk_drew | apply blk_alloc)); refine blk_far ?_ NB187_185.out _; (with_reducible repeat (first | apply blk_drewN | apply blk_drew | apply blk_alloc)); exact BK187.out) hg (Kd.R_ne HO_7.out BK187.out (by decide))); have n4_ := Aside0.mk (blk_grown (g := gb191) (o := .cells #[.slice Ao35 y195.length co35] 71 (0, 0)) (by (with_reducible repeat (first | apply blk_drewN | apply blk_drew | apply blk_alloc)); refine blk_far ?_ NB191_185.out _; (with_reducible repeat (first | apply blk_drewN | apply blk_drew | apply blk_alloc)); exact BK191.out) hg (Kd.R_ne HO_7.out BK191.out (by decide))); have n5_ := Aside0.mk (Kd.S_over' (by (with_reducible repeat (first | apply Kd.S_alloc | apply Kd.S_drewN | apply Kd.S_drew)); exact (Kd.S_mono (Kd.S_far (p := ⟨gb185, 0, none⟩) (Kd.S_types HO197.out BK185.out (by decide)) (fun _ hk => hk.2) (.slice Ao35 y195.length co35)) (fun _ h_ => h_.1))) (Kd.R_typed (by (with_reducible repeat (first | apply Kd.R_alloc | apply Kd.R_drewN | apply Kd.R_drew)); exact (Kd.R_mono (Kd.R_far (p := ⟨gb185, 0, none⟩) (Kd.R_types HO_7.out BK185.out (by decide)) (fun _ hk => hk.2) (.slice Ao35 y195.length co35)) (fun _ h_ => h_.1)))) (by decide) hg); have n6_ := Aside0.mk (hb); have n7_ := Aside0.mk (ho); clear HO_aa; clear BK184; clear BK185; clear BK187; clear BK191; clear HO197; clear HB; clear HO_7; have HO_aa := n0_; have BK184 := n1_; have BK185 := n2_; have BK187 := n3_; have BK191 := n4_; have HO197 := n5_; have HB := n6_; have HO201 := n7_; clear n0_ n1_ n2_ n3_ n4_ n5_ n6_ n7_; clear ho hb hg hat))
     go_roundg k1
     case measure => have := HK1.out; omega
     case rel => exact ⟨(y199), (wrap64 (x14_1 + 1)), (y195), (.slice Ao35 y195.length co35), rfl, H', ⟨by have := HK1.out; omega⟩, ⟨zR HO201.out⟩, ⟨zS (Kd.S_mono HO197.out (fun _ hk => trivial))⟩, ⟨zK BK184.out⟩, ⟨zK BK185.out⟩, ⟨zB HB.out⟩⟩
    ·rw [if_neg c14] at H; have c14b0 : (t198 == (y195.length : Int)) = false := beq_eq_false_iff_ne.mpr c14; have c14b1 : (t198 != (y195.length : Int)) = true := bne_iff_ne.mpr c14; have H' := am H; clear H; have p186 : 0 ≤ (x14_1 : Int) := od_; have q186 : x14_1 < (l0.length : Int) := od_; obtain ⟨ad186, e186, hx186_0, hx186_1⟩ := at_T54 HR0.out x14_1 p186 q186; cases e186; replace hx186_0 := (HB.out.cell (World.block_lt_of_cell? w _ hx186_0)).trans hx186_0; replace hx186_1 := (HB.out.cell (World.block_lt_of_cell? w _ hx186_1)).trans hx186_1; replace p186 := eq_true p186; replace q186 := eq_true q186
     try go_wp2_with (first | ((with_reducible refine gate_dst (N := 9) rfl ?_); refine box_event ?hg (N := 9) ?hd (cs := #[.int .i64 0, .string (⟨#[]⟩ : ByteArray)]) (t := 54) ?hr ?_; (case hd => rfl); (case hg => rfl); (case hr => first | (go_simp; done) | (go_simp; rfl)); intro gb187 hg w44 hbox hb; replace HO_7 := am (Kd.R_below (zR HO_7.out) hb); replace HO_aa := am (Kd.S_below (zS HO_aa.out) hb); have BK187 := am (hbox); have GW187 := am ((gw_ hg HB.out : w.heap.size ≤ gb187)); have GE187 := am ((gw_ hg HB.out : w.heap.size ≤ gb187)); replace HB := am (below_step (by repeat (first | (with_reducible first | exact HB.out | apply below_alloc | apply pw_below_drewN | apply below_drew1 | refine below_set ?_ GE184.out | refine below_set ?_ GE185.out) | exact HB.out)) hb); have NB184_187 := am ((by rw [hg]; exact Nat.ne_of_lt (blk_lt (zK BK184.out)) : gb184 ≠ gb187)); have NB187_184 := am ((by rw [hg]; exact Nat.ne_of_gt (blk_lt (zK BK184.out)) : gb187 ≠ gb184)); replace BK184 := am (blk_below (zK BK184.out) hb); have NB185_187 := am ((by rw [hg]; exact Nat.ne_of_lt (blk_lt (zK BK185.out)) : gb185 ≠ gb187)); have NB187_185 := am ((by rw [hg]; exact Nat.ne_of_gt (blk_lt (zK BK185.out)) : gb187 ≠ gb185)); replace BK185 := am (blk_below (zK BK185.out) hb); clear hb hbox hg; have hnb45 := NB187_184.out; have hnc45 := NB184_187.out; have hnb46 := NB187_185.out; have hnc46 := NB185_187.out; have hcz47_0 : w44.cell? ⟨gb187, 0, none⟩ = some (.int .i64 0) := (blk_cell BK187.out 0).trans rfl; have hcz47_1 : w44.cell? ⟨gb187, 1, none⟩ = some (.string (⟨#[]⟩ : ByteArray)) := (blk_cell BK187.out 1).trans rfl; have hfz47_0 := blk_frozen BK187.out 0; have hfz47_1 := blk_frozen BK187.out 1; have hnb48 := NB185_184.out; have hnc48 := NB184_185.out; have hcz49_0 : w44.cell? ⟨gb185, 0, none⟩ = some (uaa) := (blk_cell BK185.out 0).trans rfl; have hfz49_0 := blk_frozen BK185.out 0; obtain ⟨Ao50, co50, eo50⟩ := Kd.S_slice HO_aa.out; subst eo50) | ((with_reducible refine gate_callee (f := 76) rfl ?_); refine goL_ (some 19) Try.func76 #[.agg #[.slice Ao50 xaa_1.length co50]] ?_; (with_reducible refine (spec_l2Own.calls k1 _ _ xaa_1 t188 _ ?side1 ?side2 A10.out).mono ?_); (case side1 => refine (Kd.S_reads' (e := 75) (base := w.heap.size) (ok := fun k_ => True) (n := xaa_1.length) (c := co50) ?_).2.2; exact (zS (Kd.S_mono (Kd.S_far (p := ⟨gb187, 1, none⟩) (Kd.S_far (p := ⟨gb187, 0, none⟩) (Kd.S_types HO_aa.out BK187.out (by decide)) (fun _ hk => hk.2) (.int .i64 ((rd_T54 l0 x14_1).f0))) (fun _ hk => hk.2) (.string ((rd_T54 l0 x14_1).f1))) (fun _ h_ => h_.1)))); (case side2 => exact (Kd.S_reads' HO_aa.out).2.1); rintro e w51 ⟨v189, rfl, ho0, hb⟩; refine ⟨_, rfl, ?_⟩; replace HO_7 := am (Kd.R_below (zR (Kd.R_mono (Kd.R_far (p := ⟨gb187, 1, none⟩) (Kd.R_far (p := ⟨gb187, 0, none⟩) (Kd.R_types HO_7.out BK187.out (by decide)) (fun _ hk => hk.2) (.int .i64 ((rd_T54 l0 x14_1).f0))) (fun _ hk => hk.2) (.string ((rd_T54 l0 x14_1).f1))) (fun _ h_ => h_.1))) hb); have HO190 := am (Kd.S_lower (Kd.S_new' ho0 (Kd.S_lt (zS (Kd.S_mono (Kd.S_far (p := ⟨gb187, 1, none⟩) (Kd.S_far (p := ⟨gb187, 0, none⟩) (Kd.S_types HO_aa.out BK187.out (by decide)) (fun _ hk => hk.2) (.int .i64 ((rd_T54 l0 x14_1).f0))) (fun _ hk => hk.2) (.string ((rd_T54 l0 x14_1).f1))) (fun _ h_ => h_.1))))) (zs_ HB.out)); replace HO_aa := am (Kd.S_elder' (zS (Kd.S_mono (Kd.S_far (p := ⟨gb187, 1, none⟩) (Kd.S_far (p := ⟨gb187, 0, none⟩) (Kd.S_types HO_aa.out BK187.out (by decide)) (fun _ hk => hk.2) (.int .i64 ((rd_T54 l0 x14_1).f0))) (fun _ hk => hk.2) (.string ((rd_T54 l0 x14_1).f1))) (fun _ h_ => h_.1))) (Kd.S_base ho0) hb); replace BK184 := am (blk_below (g := gb184) (o := .cells #[.slice none 0 0] 71 (0, 0)) (by (with_reducible repeat (first | apply blk_drewN | apply blk_drew | apply blk_alloc)); refine blk_far ?_ NB184_187.out _; (with_reducible repeat (first | apply blk_drewN | apply blk_drew | apply blk_alloc)); refine blk_far ?_ NB184_187.out _; (with_reducible repeat (first | apply blk_drewN | apply blk_drew | apply blk_alloc)); exact BK184.out) hb); replace BK185 := am (blk_below (g := gb185) (o := .cells #[.slice Ao50 xaa_1.length co50] 71 (0, 0)) (by (with_reducible repeat (first | apply blk_drewN | apply blk_drew | apply blk_alloc)); refine blk_far ?_ NB185_187.out _; (with_reducible repeat (first | apply blk_drewN | apply blk_drew | apply blk_alloc)); refine blk_far ?_ NB185_187.out _; (with_reducible repeat (first | apply blk_drewN | apply blk_drew | apply blk_alloc)); exact BK185.out) hb); replace BK187 := am (blk_below (g := gb187) (o := .cells #[.int .i64 ((rd_T54 l0 x14_1).f0), .string ((rd_T54 l0 x14_1).f1)] 54 (0, 0)) (by (with_reducible repeat (first | apply blk_drewN | apply blk_drew | apply blk_alloc)); refine blk_put (cs := #[.int .i64 ((rd_T54 l0 x14_1).f0), .string (⟨#[]⟩ : ByteArray)]) ?_ 1 _ rfl; (with_reducible repeat (first | apply blk_drewN | apply blk_drew | apply blk_alloc)); refine blk_put (cs := #[.int .i64 0, .string (⟨#[]⟩ : ByteArray)]) ?_ 0 _ rfl; (with_reducible repeat (first | apply blk_drewN | apply blk_drew | apply blk_alloc)); exact BK187.out) hb); replace HB := am (below_step (by repeat (first | (with_reducible first | exact HB.out | apply below_alloc | apply pw_below_drewN | apply below_drew1 | refine below_set ?_ GE184.out | refine below_set ?_ GE185.out | refine below_set ?_ GE187.out) | exact HB.out)) hb); (try clear hb); (try clear ho0)) | ((with_reducible refine gate_dst (N := 10) rfl ?_); refine box_event ?hg (N := 10) ?hd (cs := #[.slice none 0 0]) (t := 71) ?hr ?_; (case hd => rfl); (case hg => rfl); (case hr => first | (go_simp; done) | (go_simp; rfl)); intro gb191 hg w52 hbox hb; replace HO_7 := am (Kd.R_below (zR HO_7.out) hb); replace HO_aa := am (Kd.S_below (zS HO_aa.out) hb); replace HO190 := am (Kd.S_below (zS HO190.out) hb); have BK191 := am (hbox); have GW191 := am ((gw_ hg HB.out : w.heap.size ≤ gb191)); have GE191 := am ((gw_ hg HB.out : w.heap.size ≤ gb191)); replace HB := am (below_step (by repeat (first | (with_reducible first | exact HB.out | apply below_alloc | apply pw_below_drewN | apply below_drew1 | refine below_set ?_ GE184.out | refine below_set ?_ GE185.out | refine below_set ?_ GE187.out) | exact HB.out)) hb); have NB184_191 := am ((by rw [hg]; exact Nat.ne_of_lt (blk_lt (zK BK184.out)) : gb184 ≠ gb191)); have NB191_184 := am ((by rw [hg]; exact Nat.ne_of_gt (blk_lt (zK BK184.out)) : gb191 ≠ gb184)); replace BK184 := am (blk_below (zK BK184.out) hb); have NB185_191 := am ((by rw [hg]; exact Nat.ne_of_lt (blk_lt (zK BK185.out)) : gb185 ≠ gb191)); have NB191_185 := am ((by rw [hg]; exact Nat.ne_of_gt (blk_lt (zK BK185.out)) : gb191 ≠ gb185)); replace BK185 := am (blk_below (zK BK185.out) hb); have NB187_191 := am ((by rw [hg]; exact Nat.ne_of_lt (blk_lt (zK BK187.out)) : gb187 ≠ gb191)); have NB191_187 := am ((by rw [hg]; exact Nat.ne_of_gt (blk_lt (zK BK187.out)) : gb191 ≠ gb187)); replace BK187 := am (blk_below (zK BK187.out) hb); clear hb hbox hg; obtain ⟨Ao53, co53, eo53⟩ := Kd.S_slice HO190.out; subst eo53; have hnb54 := NB191_184.out; have hnc54 := NB184_191.out; have hnb55 := NB191_185.out; have hnc55 := NB185_191.out; have hnb56 := NB191_187.out; have hnc56 := NB187_191.out; have hcz57_0 : w52.cell? ⟨gb191, 0, none⟩ = some (.slice none 0 0) := (blk_cell BK191.out 0).trans rfl; have hfz57_0 := blk_frozen BK191.out 0))
     have n0_ : Aside0 (Kd.R Kd.string 9 (w52.setCell ⟨gb191, 0, none⟩ (.slice Ao53 t188.length co53)) w.heap.size (fun _ => True) u7 x7_1) := ⟨zR (Kd.R_mono (Kd.R_far (p := ⟨gb191, 0, none⟩) (Kd.R_types HO_7.out BK191.out (by decide)) (fun _ hk => hk.2) (.slice Ao53 t188.length co53)) (fun _ hk => trivial))⟩
     have n1_ : Aside0 (Kd.S (Kd.slice 5 (Kd.int .u8)) 75 (w52.setCell ⟨gb191, 0, none⟩ (.slice Ao53 t188.length co53)) w.heap.size (fun k_ => some k_ ≠ (.slice Ao53 t188.length co53 : Value).ownBlock) (.slice Ao50 xaa_1.length co50) xaa_1) := ⟨zS (Kd.S_mono (Kd.S_far (p := ⟨gb191, 0, none⟩) (Kd.S_types HO_aa.out BK191.out (by decide)) (fun _ hk => hk.2) (.slice Ao53 t188.length co53)) (fun _ hk => hk.1.2))⟩
     have n2_ : Aside0 (Kd.S (Kd.slice 5 (Kd.int .u8)) 75 (w52.setCell ⟨gb191, 0, none⟩ (.slice Ao53 t188.length co53)) w.heap.size (fun k_ => some k_ ≠ (.slice Ao50 xaa_1.length co50 : Value).ownBlock) (.slice Ao53 t188.length co53) t188) := ⟨zS (Kd.S_mono (Kd.S_far (p := ⟨gb191, 0, none⟩) (Kd.S_types HO190.out BK191.out (by decide)) (fun _ hk => hk.2) (.slice Ao53 t188.length co53)) (fun _ hk => hk.1.2))⟩
     have n3_ : Aside0 ((w52.setCell ⟨gb191, 0, none⟩ (.slice Ao53 t188.length co53)).heap[gb184]? = some (.cells #[.slice none 0 0] 71 (0, 0))) := ⟨by (with_reducible repeat (first | apply blk_drewN | apply blk_drew | apply blk_alloc)); refine blk_far ?_ NB184_191.out _; (with_reducible repeat (first | apply blk_drewN | apply blk_drew | apply blk_alloc)); exact BK184.out⟩
     have n4_ : Aside0 ((w52.setCell ⟨gb191, 0, none⟩ (.slice Ao53 t188.length co53)).heap[gb185]? = some (.cells #[.slice Ao50 xaa_1.length co50] 71 (0, 0))) := ⟨by (with_reducible repeat (first | apply blk_drewN | apply blk_drew | apply blk_alloc)); refine blk_far ?_ NB185_191.out _; (with_reducible repeat (first | apply blk_drewN | apply blk_drew | apply blk_alloc)); exact BK185.out⟩
     have n5_ : Aside0 ((w52.setCell ⟨gb191, 0, none⟩ (.slice Ao53 t188.length co53)).heap[gb187]? = some (.cells #[.int .i64 ((rd_T54 l0 x14_1).f0), .string ((rd_T54 l0 x14_1).f1)] 54 (0, 0))) := ⟨by (with_reducible repeat (first | apply blk_drewN | apply blk_drew | apply blk_alloc)); refine blk_far ?_ NB187_191.out _; (with_reducible repeat (first | apply blk_drewN | apply blk_drew | apply blk_alloc)); exact BK187.out⟩
     have n6_ : Aside0 ((w52.setCell ⟨gb191, 0, none⟩ (.slice Ao53 t188.length co53)).heap[gb191]? = some (.cells #[.slice Ao53 t188.length co53] 71 (0, 0))) := ⟨by (with_reducible repeat (first | apply blk_drewN | apply blk_drew | apply blk_alloc)); refine blk_put (cs := #[.slice none 0 0]) ?_ 0 _ rfl; (with_reducible repeat (first | apply blk_drewN | apply blk_drew | apply blk_alloc)); exact BK191.out⟩
     have n7_ : Aside0 (Below w.heap.size w (w52.setCell ⟨gb191, 0, none⟩ (.slice Ao53 t188.length co53))) := ⟨by repeat (first | (with_reducible first | exact HB.out | apply below_alloc | apply pw_below_drewN | apply below_drew1 | refine below_set ?_ GE184.out | refine below_set ?_ GE185.out | refine below_set ?_ GE187.out | refine below_set ?_ GE191.out) | exact HB.out)⟩; (try clear HO_7); (try clear HO_aa); (try clear HO190); (try clear BK184); (try clear BK185); (try clear BK187); (try clear BK191); (try clear HB); generalize (w52.setCell ⟨gb191, 0, none⟩ (.slice Ao53 t188.length co53)) = w58 at n0_ n1_ n2_ n3_ n4_ n5_ n6_ n7_ ⊢; have HO_7 := n0_; have HO_aa := n1_; have HO190 := n2_; have BK184 := n3_; have BK185 := n4_; have BK187 := n5_; have BK191 := n6_; have HB := n7_; clear n0_ n1_ n2_ n3_ n4_ n5_ n6_ n7_; replace HO_7 := am (Kd.R_drew HO_7.out); replace HO_aa := am (Kd.S_drew HO_aa.out); replace HO190 := am (Kd.S_drew HO190.out); replace BK184 := am (blk_drew BK184.out); replace BK185 := am (blk_drew BK185.out); replace BK187 := am (blk_drew BK187.out); replace BK191 := am (blk_drew BK191.out); replace HB := am (below_drew1 HB.out)
     refine start_ (n := 10) (S := fun w' => w'.cell? ⟨gb191, 0, none⟩ = some (.slice Ao53 t188.length co53) ∧ w'.cell? ⟨gb187, 0, none⟩ = some (.int .i64 ((rd_T54 l0 x14_1).f0)) ∧ w'.cell? ⟨gb187, 1, none⟩ = some (.string ((rd_T54 l0 x14_1).f1))) (ds := [9]) #[false, false, false, false, false, false, false, false, false, false] (by kernel_rfl) rfl rfl ⟨(blk_cell BK191.out 0).trans rfl, (blk_cell BK187.out 0).trans rfl, (blk_cell BK187.out 1).trans rfl⟩ (fun hHeld => ?_); refine with_tabW spec_l9First.tab7 spec_l9First.bits7 (fun HT_ HW_ => ?_)
     generalize w58.drew = w59 at HO_7 HO_aa HO190 BK184 BK185 BK187 BK191 HB hHeld ⊢
     refine pu_ (i := 0) (some 20) #[true, false, false, false, false, false, false, false, false, false] HT_ ?_
     refine pu_ (i := 2) (some 22) #[true, false, true, false, false, false, false, false, false, false] HT_ ?_
     refine pu_ (i := 4) (some 24) #[true, false, true, false, true, false, false, false, false, false] HT_ ?_
     refine ta_ (i := 1) (some 21) #[true, true, true, false, true, false, false, false, false, false] HT_ HW_ hHeld ?_
     refine ta_ (i := 3) (some 23) #[true, true, true, true, true, false, false, false, false, false] HT_ HW_ hHeld ?_
     refine one_ (i := 5) (N := some 25) #[true, true, true, true, true, true, false, false, false, false] rfl rfl (one_of HT_.out (by kernel_rfl)) (by decide) (fun K hK => ?_)
     refine goR_ Try.func77 #[.int .i64 ((rd_T54 l0 x14_1).f0), .int .i64 a1] ?_
     with_reducible refine (spec_l9Row.calls k1 ((rd_T54 l0 x14_1).f0) a1 t192 _ A11.out).mono ?_
     rintro e w60 ⟨v193, rfl, ho0, hb⟩
     refine ⟨_, rfl, ?_⟩
     replace HO_7 := am (Kd.R_below (zR HO_7.out) hb)
     replace HO_aa := am (Kd.S_elder' (zS HO_aa.out) (Kd.R_base ho0) hb)
     replace HO190 := am (Kd.S_elder' (zS HO190.out) (Kd.R_base ho0) hb)
     have HO194 := am (Kd.R_lower ho0 (zs_ HB.out))
     replace BK184 := am (blk_below (zK BK184.out) hb)
     replace BK185 := am (blk_below (zK BK185.out) hb)
     replace BK187 := am (blk_below (zK BK187.out) hb)
     replace BK191 := am (blk_below (zK BK191.out) hb)
     replace HB := am (below_step (zB HB.out) hb); (try clear hb); (try clear ho0); obtain ⟨Ao62, co62, eo62⟩ := Kd.R_slice HO194.out
     (first | subst eo62 | (injection eo62 with f1_ f2_ f3_; have f4_ := f1_.symm; have f5_ := f3_.symm; clear f1_ f2_ f3_; subst f4_; subst f5_))
     refine hK.out _ _ ⟨(blk_cell BK191.out 0).trans rfl, (blk_cell BK187.out 0).trans rfl, (blk_cell BK187.out 1).trans rfl⟩ (fun hHeld => ?_)
     clear hK K
     refine norm_ (a' := ?_) ?_ ?_
     rotate_left
     ·show Act.put _ (some 25) _ = _
      simp only [Act.put, List.setIfInBounds_toArray, List.set_cons_zero, List.set_cons_succ, i64_w, i32_w]; rfl
     refine one_ (i := 6) (N := some 26) #[true, true, true, true, true, true, true, false, false, false] rfl rfl (one_of HT_.out (by kernel_rfl)) (by decide) (fun K hK => ?_)
     refine value_ (w1 := ?_) (v := ?_) (by rfl) rfl ?_ ?_
     rotate_left 2
     ·go_simp
      constructor
      ·rfl
      ·rfl
     refine hK.out _ _ ⟨(blk_cell (blk_alloc BK191.out _) 0).trans rfl, (blk_cell (blk_alloc BK187.out _) 0).trans rfl, (blk_cell (blk_alloc BK187.out _) 1).trans rfl⟩ (fun hHeld => ?_)
     clear hK K
     refine norm_ (a' := ?_) ?_ ?_
     rotate_left
     ·show Act.put _ (some 26) _ = _
      simp only [Act.put, List.setIfInBounds_toArray, List.set_cons_zero, List.set_cons_succ, i64_w, i32_w]; rfl
     refine one_ (i := 7) (N := some 27) #[true, true, true, true, true, true, true, true, false, false] rfl rfl (one_of HT_.out (by kernel_rfl)) (by decide) (fun K hK => ?_)
     refine Kd.S_append_step (Kd.slice 5 (Kd.int .u8)) (w0 := w) w.heap.size (by rfl) (.tmp 21) (.tmp 26) 69 75 (.slice none 0 0) 24 rfl Try.underlying69 info75 rfl (by decide) (by omega) (.slice Ao53 t188.length co53) t188 t192 [.slice Ao62 t192.length co62] (fun k_ => some k_ ≠ (.slice Ao50 xaa_1.length co50 : Value).ownBlock) (fun k_ => some k_ = (.slice Ao62 t192.length co62 : Value).ownBlock) rfl rfl ?aP (fun k_ hk_ => ((Kd.R_mono (ok' := fun k_ => ((fun k_ => some k_ ≠ (.slice Ao50 xaa_1.length co50 : Value).ownBlock)) k_ ∧ some k_ ≠ (.slice Ao53 t188.length co53 : Value).ownBlock) (Kd.R_apart' (Kd.R_apart' (HO194.out) (Kd.S_typed HO_aa.out) (by decide)) (Kd.S_typed HO190.out) (by decide)) (fun k_ hk => ⟨hk.1.2, hk.2⟩))).1 k_ hk_.symm) ?aF ?aO ?aB ?aS ?aL ?_
     (case aP => exact Kd.M_row (Kd.R_mono (Kd.R_tight rfl (Kd.R_mono (ok' := fun k_ => ((fun k_ => some k_ ≠ (.slice Ao50 xaa_1.length co50 : Value).ownBlock)) k_ ∧ some k_ ≠ (.slice Ao53 t188.length co53 : Value).ownBlock) (Kd.R_apart' (Kd.R_apart' (HO194.out) (Kd.S_typed HO_aa.out) (by decide)) (Kd.S_typed HO190.out) (by decide)) (fun k_ hk => ⟨hk.1.2, hk.2⟩))) (fun _ h_ => h_)))
     (case aB => exact (zB HB.out))
     (case aF => exact (fun k_ hk => Kd.fresh' (Kd.S_lt (zS HO_aa.out)) k_ hk))
     (case aO => exact (zS (Kd.S_mono HO190.out (fun k_ hk => ⟨hk.1, fun e_ => hk.2 e_⟩))))
     (case aS => exact (zs_ HB.out))
     (case aL => have := LMc12.out; omega)
     intro v196 w61 ho hb hg hat; rw [← Ny195.out] at ho
     replace HO_7 := am (Kd.R_over' (zR HO_7.out) (Kd.S_typed (zS HO190.out)) (by decide) hg)
     replace HO_aa := am (Kd.S_after (ok := (fun k_ => some k_ ≠ (.slice Ao62 t192.length co62 : Value).ownBlock)) (zS (Kd.S_mono HO_aa.out (fun _ hk => ⟨hk.2, hk.1⟩))) hg hat)
     replace BK184 := am (blk_grown (zK BK184.out) hg (Kd.S_ne HO190.out BK184.out (by decide)))
     replace BK185 := am (blk_grown (zK BK185.out) hg (Kd.S_ne HO190.out BK185.out (by decide)))
     replace BK187 := am (blk_grown (zK BK187.out) hg (Kd.S_ne HO190.out BK187.out (by decide)))
     replace BK191 := am (blk_grown (zK BK191.out) hg (Kd.S_ne HO190.out BK191.out (by decide)))
     replace HB := am (hb); have HO197 := am (ho); (try clear HO190); (try clear HO194); clear ho hb hg hat; obtain ⟨Ao63, co63, eo63⟩ := Kd.S_slice HO197.out
     (first | subst eo63 | (injection eo63 with f1_ f2_ f3_; have f4_ := f1_.symm; have f5_ := f3_.symm; clear f1_ f2_ f3_; subst f4_; subst f5_))
     refine hK.out _ _ ⟨(blk_cell BK191.out 0).trans rfl, (blk_cell BK187.out 0).trans rfl, (blk_cell BK187.out 1).trans rfl⟩ (fun hHeld => ?_)
     clear hK K
     refine norm_ (a' := ?_) ?_ ?_
     rotate_left
     ·show Act.put _ (some 27) _ = _
      simp only [Act.put, List.setIfInBounds_toArray, List.set_cons_zero, List.set_cons_succ, i64_w, i32_w]; rfl
     refine pu_ (i := 8) (some 28) #[true, true, true, true, true, true, true, true, true, false] HT_ ?_
     refine last_ (i := 9) (N := none) #[true, true, true, true, true, true, true, true, true, true] rfl rfl (one_of HT_.out (by kernel_rfl)) (by decide) (fun K hK => ?_)
     have hs64 : w61.cell? ⟨gb191, 0, none⟩ = some (.slice Ao53 t188.length co53) := (blk_cell BK191.out 0).trans rfl; have hfs64 := blk_frozen BK191.out 0; have hns64_0 := NB184_191.out; have hns64_1 := NB185_191.out; have hns64_2 := NB187_191.out; have hms64_0 := NB191_184.out; have hms64_1 := NB191_185.out; have hms64_2 := NB191_187.out
     refine skip_ (w1 := ?_) (by rfl) rfl ?_ ?_
     rotate_left
     ·go_simp; rfl
     refine hK.out _ _ ?_
     clear hK K
     refine done_ (done_of HT_.out (by kernel_rfl)) ?_
     try go_wp2
     have n0_ : Aside0 (Kd.R Kd.string 9 (w61.setCell ⟨gb191, 0, none⟩ (.slice Ao63 y195.length co63)) w.heap.size (fun _ => True) u7 x7_1) := ⟨zR (Kd.R_mono (Kd.R_far (p := ⟨gb191, 0, none⟩) (Kd.R_types HO_7.out BK191.out (by decide)) (fun _ hk => hk.2) (.slice Ao63 y195.length co63)) (fun _ hk => trivial))⟩
     have n1_ : Aside0 (Kd.S (Kd.slice 5 (Kd.int .u8)) 75 (w61.setCell ⟨gb191, 0, none⟩ (.slice Ao63 y195.length co63)) w.heap.size (fun k_ => some k_ ≠ (.slice Ao63 y195.length co63 : Value).ownBlock) (.slice Ao50 xaa_1.length co50) xaa_1) := ⟨zS (Kd.S_mono (Kd.S_far (p := ⟨gb191, 0, none⟩) (Kd.S_types HO_aa.out BK191.out (by decide)) (fun _ hk => hk.2) (.slice Ao63 y195.length co63)) (fun _ hk => hk.1.2))⟩
     have n2_ : Aside0 (Kd.S (Kd.slice 5 (Kd.int .u8)) 75 (w61.setCell ⟨gb191, 0, none⟩ (.slice Ao63 y195.length co63)) w.heap.size (fun k_ => some k_ ≠ (.slice Ao50 xaa_1.length co50 : Value).ownBlock) (.slice Ao63 y195.length co63) y195) := ⟨zS (Kd.S_mono (Kd.S_far (p := ⟨gb191, 0, none⟩) (Kd.S_types HO197.out BK191.out (by decide)) (fun _ hk => hk.2) (.slice Ao63 y195.length co63)) (fun _ hk => hk.1))⟩
     have n3_ : Aside0 ((w61.setCell ⟨gb191, 0, none⟩ (.slice Ao63 y195.length co63)).heap[gb184]? = some (.cells #[.slice none 0 0] 71 (0, 0))) := ⟨by (with_reducible repeat (first | apply blk_drewN | apply blk_drew | apply blk_alloc)); refine blk_far ?_ NB184_191.out _; (with_reducible repeat (first | apply blk_drewN | apply blk_drew | apply blk_alloc)); exact BK184.out⟩
     have n4_ : Aside0 ((w61.setCell ⟨gb191, 0, none⟩ (.slice Ao63 y195.length co63)).heap[gb185]? = some (.cells #[.slice Ao50 xaa_1.length co50] 71 (0, 0))) := ⟨by (with_reducible repeat (first | apply blk_drewN | apply blk_drew | apply blk_alloc)); refine blk_far ?_ NB185_191.out _; (with_reducible repeat (first | apply blk_drewN | apply blk_drew | apply blk_alloc)); exact BK185.out⟩
     have n5_ : Aside0 ((w61.setCell ⟨gb191, 0, none⟩ (.slice Ao63 y195.length co63)).heap[gb187]? = some (.cells #[.int .i64 ((rd_T54 l0 x14_1).f0), .string ((rd_T54 l0 x14_1).f1)] 54 (0, 0))) := ⟨by (with_reducible repeat (first | apply blk_drewN | apply blk_drew | apply blk_alloc)); refine blk_far ?_ NB187_191.out _; (with_reducible repeat (first | apply blk_drewN | apply blk_drew | apply blk_alloc)); exact BK187.out⟩
     have n6_ : Aside0 ((w61.setCell ⟨gb191, 0, none⟩ (.slice Ao63 y195.length co63)).heap[gb191]? = some (.cells #[.slice Ao63 y195.length co63] 71 (0, 0))) := ⟨by (with_reducible repeat (first | apply blk_drewN | apply blk_drew | apply blk_alloc)); refine blk_put (cs := #[.slice Ao53 t188.length co53]) ?_ 0 _ rfl; (with_reducible repeat (first | apply blk_drewN | apply blk_drew | apply blk_alloc)); exact BK191.out⟩
     have n7_ : Aside0 (Below w.heap.size w (w61.setCell ⟨gb191, 0, none⟩ (.slice Ao63 y195.length co63))) := ⟨by repeat (first | (with_reducible first | exact HB.out | apply below_alloc | apply pw_below_drewN | apply below_drew1 | refine below_set ?_ GE184.out | refine below_set ?_ GE185.out | refine below_set ?_ GE187.out | refine below_set ?_ GE191.out) | exact HB.out)⟩; (try clear HO_7); (try clear HO_aa); (try clear HO197); (try clear BK184); (try clear BK185); (try clear BK187); (try clear BK191); (try clear HB); generalize (w61.setCell ⟨gb191, 0, none⟩ (.slice Ao63 y195.length co63)) = w65 at n0_ n1_ n2_ n3_ n4_ n5_ n6_ n7_ ⊢; have HO_7 := n0_; have HO_aa := n1_; have HO197 := n2_; have BK184 := n3_; have BK185 := n4_; have BK187 := n5_; have BK191 := n6_; have HB := n7_; clear n0_ n1_ n2_ n3_ n4_ n5_ n6_ n7_; replace HO_7 := am (Kd.R_drew HO_7.out); replace HO_aa := am (Kd.S_drew HO_aa.out); replace HO197 := am (Kd.S_drew HO197.out); replace BK184 := am (blk_drew BK184.out); replace BK185 := am (blk_drew BK185.out); replace BK187 := am (blk_drew BK187.out); replace BK191 := am (blk_drew BK191.out); replace HB := am (below_drew1 HB.out)
     refine start_ (n := 6) (S := fun w' => w'.cell? ⟨gb191, 0, none⟩ = some (.slice Ao63 y195.length co63)) (ds := []) #[false, false, false, false, false, false] (by kernel_rfl) rfl rfl ((blk_cell BK191.out 0).trans rfl) (fun hHeld => ?_)
     generalize w65.drew = w66 at HO_7 HO_aa HO197 BK184 BK185 BK187 BK191 HB hHeld ⊢
     refine pure_ (i := 2) (N := some 31) (v := ?_) (a' := ?_) #[false, false, true, false, false, false] rfl rfl (by kernel_rfl) (fun _ _ _ h => h) (Or.inl ⟨by rfl, ?_⟩) ?_ ?_
     rotate_left
     ·intro w'; go_simp; with_reducible rfl
     rotate_left
     ·simp only [Act.put, List.setIfInBounds_toArray, List.set_cons_zero, List.set_cons_succ, i64_w, i32_w]; rfl
     refine take_ (i := 0) (N := some 29) (v := ?_) (a' := ?_) #[true, false, true, false, false, false] rfl rfl (by kernel_rfl) (fun _ _ _ h => h) (Or.inl ⟨by rfl, ?_⟩) hHeld ?_ ?_
     rotate_left
     ·intro w' s0; go_simp; with_reducible rfl
     rotate_left
     ·simp only [Act.put, List.setIfInBounds_toArray, List.set_cons_zero, List.set_cons_succ, i64_w, i32_w]; rfl
     refine take_ (i := 3) (N := some 32) (v := ?_) (a' := ?_) #[true, false, true, true, false, false] rfl rfl (by kernel_rfl) (fun _ _ _ h => h) (Or.inl ⟨by rfl, ?_⟩) hHeld ?_ ?_
     rotate_left
     ·intro w' s0; go_simp; with_reducible rfl
     rotate_left
     ·simp only [Act.put, List.setIfInBounds_toArray, List.set_cons_zero, List.set_cons_succ, i64_w, i32_w]; rfl
     refine pure_ (i := 4) (N := some 33) (v := ?_) (a' := ?_) #[true, false, true, true, true, false] rfl rfl (by kernel_rfl) (fun _ _ _ h => h) (Or.inl ⟨by rfl, ?_⟩) ?_ ?_
     rotate_left
     ·intro w'; go_simp; with_reducible rfl
     rotate_left
     ·simp only [Act.put, List.setIfInBounds_toArray, List.set_cons_zero, List.set_cons_succ, i64_w, i32_w]; rfl
     refine one_ (i := 1) (N := some 30) #[true, true, true, true, true, false] rfl rfl (by kernel_rfl) (by decide) (fun K hK => ?_)
     refine goR_ Try.func78 #[.agg #[.slice Ao63 y195.length co63]] ?_
     with_reducible refine (spec_l2Rank.calls k1 _ _ y195 t198 _ ?side1 ?side2 A13.out).mono ?_
     (case side1 => exact zC ((Kd.S_reads' HO197.out).2.2))
     (case side2 => exact (Kd.S_reads' HO197.out).2.1)
     rintro e w67 ⟨rfl, hb⟩
     refine ⟨_, rfl, ?_⟩
     replace HO_7 := am (Kd.R_below (zR HO_7.out) hb)
     replace HO_aa := am (Kd.S_below (zS HO_aa.out) hb)
     replace HO197 := am (Kd.S_below (zS HO197.out) hb)
     replace BK184 := am (blk_below (zK BK184.out) hb)
     replace BK185 := am (blk_below (zK BK185.out) hb)
     replace BK187 := am (blk_below (zK BK187.out) hb)
     replace BK191 := am (blk_below (zK BK191.out) hb)
     replace HB := am (below_step (zB HB.out) hb); (try clear hb); (try clear hb2); (try clear hk); (try clear hi)
     refine hK.out _ _ ((blk_cell BK191.out 0).trans rfl) (fun hHeld => ?_)
     clear hK K
     refine norm_ (a' := ?_) ?_ ?_
     rotate_left
     ·show Act.put _ (some 30) _ = _
      simp only [Act.put, List.setIfInBounds_toArray, List.set_cons_zero, List.set_cons_succ, i64_w, i32_w]; rfl
     refine pure_ (i := 5) (N := some 34) (v := ?_) (a' := ?_) #[true, true, true, true, true, true] rfl rfl (by kernel_rfl) (fun _ _ _ h => h) (Or.inl ⟨by rfl, ?_⟩) ?_ ?_
     rotate_left
     ·intro w'; go_simp; with_reducible rfl
     rotate_left
     ·simp only [Act.put, List.setIfInBounds_toArray, List.set_cons_zero, List.set_cons_succ, i64_w, i32_w]; rfl
     refine done_ (by kernel_rfl) ?_
     try go_wp2
     go_roundg k1
     case measure => have := HK1.out; omega
     case rel => exact ⟨(x7_1), (wrap64 (x14_1 + 1)), (xaa_1), (.slice Ao50 xaa_1.length co50), rfl, H', ⟨by have := HK1.out; omega⟩, ⟨zR HO_7.out⟩, ⟨zS (Kd.S_mono HO_aa.out (fun _ hk => trivial))⟩, ⟨zK BK184.out⟩, ⟨zK BK185.out⟩, ⟨zB HB.out⟩⟩
   ·rw [if_neg c7] at H; have c7b0 := decide_eq_false c7; clear c7
    simp only [Option.some.injEq, Prod.mk.injEq] at H
    obtain ⟨rfl, rfl⟩ := H; have hnb68 := NB185_184.out; have hnc68 := NB184_185.out; have hcz69_0 : wr.cell? ⟨gb185, 0, none⟩ = some (uaa) := (blk_cell BK185.out 0).trans rfl; have hfz69_0 := blk_frozen BK185.out 0; obtain ⟨Ao70, co70, eo70⟩ := Kd.S_slice HO_aa.out
    subst eo70
    have hcz71_0 : wr.cell? ⟨gb184, 0, none⟩ = some (.slice none 0 0) := (blk_cell BK184.out 0).trans rfl; have hfz71_0 := blk_frozen BK184.out 0
    go_wp2
    refine bodyPost_ret (results_ct rfl _ _ gb184 71 #[.slice Ao70 xaa_1.length co70] (0, 0) _ rfl (by (with_reducible repeat (first | apply blk_drewN | apply blk_drew | apply blk_alloc)); refine blk_put (cs := #[.slice none 0 0]) ?_ 0 _ rfl; (with_reducible repeat (first | apply blk_drewN | apply blk_drew | apply blk_alloc)); exact BK184.out) Try.underlying71 rfl (by kernel_rfl)) rfl ?_
    exact ⟨_, _, by first | rfl | (simp [errW_none, errW_some] <;> rfl) | (simp [*, errW_none, errW_some] <;> rfl), zS (Kd.S_mono (Kd.S_far (p := ⟨gb184, 0, none⟩) (Kd.S_types HO_aa.out BK184.out (by decide)) (fun _ hk => hk.2) (.slice Ao70 xaa_1.length co70)) (fun _ hk => trivial)), zR (Kd.R_mono (Kd.R_far (p := ⟨gb184, 0, none⟩) (Kd.R_types HO_7.out BK184.out (by decide)) (fun _ hk => hk.2) (.slice Ao70 xaa_1.length co70)) (fun _ hk => trivial)), by repeat (first | (with_reducible first | exact HB.out | apply below_alloc | apply pw_below_drewN | apply below_drew1 | refine below_set ?_ GE184.out | refine below_set ?_ GE185.out) | exact HB.out)⟩

end Go.Proofs.Ytimajkahadhhhaa.PFnExactSolveDrops
