/- A law's functions as plain Lean functions, each with the walk that shows that the code computes it: written by this session's program wip/tools/ppmake.py. -/
import Derived.Test.YtimajkahadhhhaaKZ
import Derived.Test.YtimajkahadhhhaaPFnExactSolveDropsx0
import Derived.Test.YtimajkahadhhhaaPFnExactSolveDropsx11
import Derived.Test.YtimajkahadhhhaaPFnExactSolveDropsx12
import Derived.Test.YtimajkahadhhhaaPFnExactSolveDropsx14
import Derived.Test.YtimajkahadhhhaaPFnExactSolveDropsx15
namespace Go.Proofs.Ytimajkahadhhhaa.PFnExactSolveDrops
open Go.RowKit Go.Proofs.YtimajkahadhhhaaW.PrintWords Go.Proofs.YtimajkahadhhhaaW.PrintLast Go.Proofs.YtimajkahadhhhaaW.PrintMore
attribute [local go_sem] max2_int min2_int max_two min_two max_three min_three max_four min_four   -- for this text's walks alone
set_option linter.unusedVariables false
set_option linter.unusedSimpArgs false

/-! ### impl_SolveDrops: function 24 -/
mutual
def impl_SolveDrops.j0 : Nat → List (S54) → Int → Bool → Option (List ByteArray × Bool)
 | 0, _, _, _ => none
 | k + 1, x0, x1, x20 => if x20 = true then (some (([] : List ByteArray), false)) else (impl_SolveDrops.l0 k x1 (([] : List (List Int))) (([] : List ByteArray)) x0 (x0.length : Int) 0)
def impl_SolveDrops.l0 : Nat → Int → List (List Int) → List ByteArray → List (S54) → Int → Int → Option (List ByteArray × Bool)
 | 0, _, _, _, _, _, _ => none
 | k + 1, x1, x6, x7, x23, x24, x25 => if x25 < x24 then (if 0 ≤ x25 then (if x25 < (x23.length : Int) then ((slices_Clone_rows.f x6).bind fun t360 => ((impl_rowOf.f k ((rd_T54 x23 x25).f0) x1).bind fun t363 => (if t360.length < 5864062014805 then ((some (t360 ++ [t363] : List (List Int))).bind fun y366 => ((impl_rankOf.f k y366).bind fun t369 => (if t369 = (y366.length : Int) then (if x7.length < 8796093022208 then (impl_SolveDrops.l0 k x1 y366 (x7 ++ [(rd_T54 x23 x25).f1]) x23 x24 (wrap64 (x25 + 1))) else (none)) else (impl_SolveDrops.l0 k x1 x6 x7 x23 x24 (wrap64 (x25 + 1)))))) else (none)))) else (none)) else (none)) else (if (x6.length : Int) < x1 then (some (([] : List ByteArray), false)) else ((impl_inverseOf.f k x6).bind fun bt373 => ((impl_combined.f k bt373.1 x7).bind fun t377 => (some (t377, true)))))
end
def impl_SolveDrops.f (k : Nat) (l0 : List (S54)) (a1 : Int) : Option (List ByteArray × Bool) := (impl_areDrops.f k l0).bind fun t350 => (if t350 = true then ((impl_areBlocks.f a1).bind fun t351 => (impl_SolveDrops.j0 k l0 a1 (!t351))) else (impl_SolveDrops.j0 k l0 a1 true))
theorem impl_SolveDrops.mono_l : ∀ k, (∀ y0 y1 y2, LeO (impl_SolveDrops.j0 k y0 y1 y2) (impl_SolveDrops.j0 (k + 1) y0 y1 y2)) ∧ (∀ y0 y1 y2 y3 y4 y5, LeO (impl_SolveDrops.l0 k y0 y1 y2 y3 y4 y5) (impl_SolveDrops.l0 (k + 1) y0 y1 y2 y3 y4 y5))
 | 0 => ⟨fun _ _ _ r h => by simp [impl_SolveDrops.j0] at h, fun _ _ _ _ _ _ r h => by simp [impl_SolveDrops.l0] at h⟩
 | k + 1 => by
  obtain ⟨ih0, ih1⟩ := impl_SolveDrops.mono_l k
  refine ⟨?_, ?_⟩
  ·intro y0 y1 y2
   unfold impl_SolveDrops.j0
   repeat' first | apply LeO.refl | apply LeO.none | apply LeO.ite | apply ih0 | apply ih1 | apply impl_areDrops.mono | apply impl_combined.mono | apply impl_inverseOf.mono | apply impl_rankOf.mono | apply impl_rowOf.mono | (refine LeO.bind ?_ (fun _ => ?_))
  ·intro y0 y1 y2 y3 y4 y5
   unfold impl_SolveDrops.l0
   repeat' first
   | (with_reducible exact ih0 _ _ _)
   | (with_reducible exact ih1 _ _ _ _ _ _)
   | (with_reducible exact impl_areDrops.mono _ _)
   | (with_reducible exact impl_combined.mono _ _ _)
   | (with_reducible exact impl_inverseOf.mono _ _)
   | (with_reducible exact impl_rankOf.mono _ _)
   | (with_reducible exact impl_rowOf.mono _ _ _)
   | (with_reducible exact LeO.refl _)
   | (with_reducible exact LeO.none _)
   | (with_reducible refine LeO.ite ?_ ?_)
   | (with_reducible refine LeO.bind ?_ (fun _ => ?_))
   | exact ih0 _ _ _
   | exact ih1 _ _ _ _ _ _
   | exact impl_areDrops.mono _ _
   | exact impl_combined.mono _ _ _
   | exact impl_inverseOf.mono _ _
   | exact impl_rankOf.mono _ _
   | exact impl_rowOf.mono _ _ _
   | exact LeO.none _
   | refine LeO.ite ?_ ?_
   | refine LeO.bind ?_ (fun _ => ?_)
theorem impl_SolveDrops.mono : ∀ a0 a1 k, LeO (impl_SolveDrops.f k a0 a1) (impl_SolveDrops.f (k + 1) a0 a1) := by
 intro a0 a1 k; obtain ⟨ih0, ih1⟩ := impl_SolveDrops.mono_l k
 unfold impl_SolveDrops.f
 repeat' first | apply LeO.refl | apply LeO.none | apply LeO.ite | apply ih0 | apply ih1 | apply impl_areDrops.mono | apply impl_combined.mono | apply impl_inverseOf.mono | apply impl_rankOf.mono | apply impl_rowOf.mono | (refine LeO.bind ?_ (fun _ => ?_))
def impl_SolveDrops.T7 : Bool × List (List Nat × List Nat) := (true, [([], []), ([0], [0]), ([], []), ([2], [2]), ([], []), ([3, 4, 1], [3, 4]), ([5], [5]), ([1, 6, 5], [1, 6]), ([7, 7, 0, 1, 2, 3, 4, 5, 6, 7], [7])])
def impl_SolveDrops.B7 : List Nat := [0, 1, 0, 4, 0, 31, 63, 127, 255]
theorem impl_SolveDrops.tab7 : rtab .any (opsOf Try.f24 7) = impl_SolveDrops.T7 := by kernel_rfl
theorem impl_SolveDrops.bits7 : waitsOk impl_SolveDrops.T7.2 impl_SolveDrops.B7 = true := by kernel_rfl
set_option maxHeartbeats 8000000 in
set_option maxRecDepth 100000 in
theorem impl_SolveDrops.calls (k : Nat) (A0 : Option Addr) (c0 : Nat) (l0 : List (S54)) (a1 : Int) (r1 : List ByteArray) (r2 : Bool) (w : World) (hr0 : Kd.C k54 w A0 l0.length l0) (hc0 : l0.length ≤ c0) (h : impl_SolveDrops.f k l0 a1 = some (r1, r2)) :
  Calls Try.prog 24 #[.slice A0 l0.length c0, .int .i64 a1] w fun e w' => ∃ v0_ : Value, e = .returned (.tuple #[v0_, .bool r2]) ∧ Kd.R Kd.string 9 w' w.heap.size (fun _ => True) v0_ r1 ∧ Below w.heap.size w w' := by
 have hu54 := Try.underlying54; have HR0 := am hr0; have HC0 := am hc0; clear hr0 hc0; have HB := am (Below.refl w.heap.size w); have H : ((impl_areDrops.f k l0).bind fun t350 => (if t350 = true then ((impl_areBlocks.f a1).bind fun t351 => (impl_SolveDrops.j0 k l0 a1 (!t351))) else (impl_SolveDrops.j0 k l0 a1 true))) = some (r1, r2) := h; clear h; have HC3 := am H; clear H
 go_enter Try.func24, Try.ntmps24
 go_upto_region 1 with (fail)
 go_cut [20] (fun v20 wc => ∃ (kq : Nat) (x20_2 : Bool), v20 = .bool x20_2 ∧ Aside0 (impl_SolveDrops.j0 kq l0 a1 x20_2 = some (r1, r2)) ∧ Aside0 (kq ≤ k) ∧ Aside0 (Below w.heap.size w wc))
 case first =>
  have H := HC3.out; clear HC3; obtain ⟨t350, A4, H⟩ := bi_ H
  by_cases c5 : t350 = true
  ·subst c5
   have H1 : ((impl_areBlocks.f a1).bind fun t351 => (impl_SolveDrops.j0 k l0 a1 (!t351))) = some (r1, r2) := by rw [if_pos rfl] at H; exact H
   clear H; have H := H1; clear H1; obtain ⟨t351, A6, H⟩ := bi_ H; have H' := am H; clear H
   go_wp2_with (first | ((with_reducible refine gate_callee (f := 47) rfl ?_); refine goL_ (some 14) Try.func47 #[.slice A0 l0.length c0] ?_; (with_reducible refine (impl_areDrops.calls k _ _ l0 true _ ?side1 ?side2 A4.out).mono ?_); (case side1 => exact zC (Kd.C_below HR0.out HB.out)); (case side2 => exact HC0.out); rintro e w7 ⟨rfl, hb⟩; refine ⟨_, rfl, ?_⟩; replace HB := am (below_step (zB HB.out) hb); (try clear hb); (try clear hb2); (try clear hk); (try clear hi)) | (go_at_call 48; (with_reducible refine (impl_areBlocks.calls a1 t351 _ A6.out).mono ?_); rintro e w' ⟨rfl, ⟨nd, rfl⟩⟩))
   go_meet
   case rel => exact ⟨_, (!t351), rfl, H', ⟨by first | omega | exact Nat.le_refl _⟩, ⟨zB HB.out⟩⟩
  ·replace c5 := Bool.eq_false_iff.mpr c5
   subst c5
   have H1 : (impl_SolveDrops.j0 k l0 a1 true) = some (r1, r2) := by rw [if_neg (show ¬ (false = true) by decide)] at H; exact H
   clear H; have H := H1; clear H1; have H' := am H; clear H
   go_wp2_with (first | ((with_reducible refine gate_callee (f := 47) rfl ?_); refine goL_ (some 14) Try.func47 #[.slice A0 l0.length c0] ?_; (with_reducible refine (impl_areDrops.calls k _ _ l0 false _ ?side1 ?side2 A4.out).mono ?_); (case side1 => exact zC (Kd.C_below HR0.out HB.out)); (case side2 => exact HC0.out); rintro e w8 ⟨rfl, hb⟩; refine ⟨_, rfl, ?_⟩; replace HB := am (below_step (zB HB.out) hb); (try clear hb); (try clear hb2); (try clear hk); (try clear hi)))
   go_meet
   case rel => exact ⟨_, (true), rfl, H', ⟨by first | omega | exact Nat.le_refl _⟩, ⟨zB HB.out⟩⟩
 case rest =>
  clear HC3; obtain ⟨kq, x20_2, rfl, HA, HJ2, HB⟩ := hcut
  cases kq with
  | zero => exact absurd HA.out (by simp [impl_SolveDrops.j0])
  | succ kj2 =>
   have H := HA.out; clear HA
   simp only [impl_SolveDrops.j0] at H
   by_cases c9 : x20_2 = true
   ·subst c9
    have H1 : (some (([] : List ByteArray), false)) = some (r1, r2) := by rw [if_pos rfl] at H; exact H
    clear H; have H := H1; clear H1
    simp only [Option.some.injEq, Prod.mk.injEq] at H
    obtain ⟨rfl, rfl⟩ := H
    go_wp2
    go_ret2
    exact ⟨_, rfl, by first | apply Kd.R_nil | apply Kd.N_nil | apply Kd.V_nil | apply Kd.Q_nil | apply Kd.S_nil, zB HB.out⟩
   ·replace c9 := Bool.eq_false_iff.mpr c9
    subst c9
    have H1 : (impl_SolveDrops.l0 kj2 a1 (([] : List (List Int))) (([] : List ByteArray)) l0 (l0.length : Int) 0) = some (r1, r2) := by rw [if_neg (show ¬ (false = true) by decide)] at H; exact H
    clear H; have H := H1; clear H1; obtain ⟨y352, hy352⟩ : ∃ y_ : List (List Int), y_ = (([] : List (List Int))) := ⟨_, rfl⟩
    replace H : (impl_SolveDrops.l0 kj2 a1 y352 (([] : List ByteArray)) l0 (l0.length : Int) 0) = some (r1, r2) := by first | (rw [hy352]; exact H) | (have H2_ := (Option.bind_some _ _).symm.trans H; first | exact H2_ | (rw [hy352]; exact H2_)) | exact H
    have Ny352 := am hy352; clear hy352; obtain ⟨y355, hy355⟩ : ∃ y_ : List ByteArray, y_ = (([] : List ByteArray)) := ⟨_, rfl⟩
    replace H : (impl_SolveDrops.l0 kj2 a1 y352 y355 l0 (l0.length : Int) 0) = some (r1, r2) := by first | (rw [hy355]; exact H) | (have H2_ := (Option.bind_some _ _).symm.trans H; first | exact H2_ | (rw [hy355]; exact H2_)) | exact H
    have Ny355 := am hy355; clear hy355; have H' := am H; clear H
    go_wp2_with (first | ((with_reducible refine gate_dst (N := 21) rfl ?_); refine Kd.N_lit (Kd.slice 5 (Kd.int .u8)) _ 75 ?hg (N' := 21) ?hd (xs := ([] : List (List Int))) (inner := []) (ok := (fun _ => True)) (okp := (fun _ => True)) ?hr ?hp (fun _ hk => hk) ((show ∀ k_, wc.heap.size ≤ k_ → (fun _ => True) k_ from fun k_ hk => trivial) _ (Nat.le_refl _)) (Below.refl _ _) (Nat.le_refl _) (by simp) ?_; (case hd => rfl); (case hg => rfl); (case hr => first | (go_simp; done) | (go_simp; rfl)); (case hp => exact (Reps.none _ _)); intro v353 w10 ho11 hb hg_ hnew_; clear hg_ hnew_; (first | rw [← Ny352.out] at ho11 | (simp only [Int.reduceToNat] at ho11; rw [← Ny352.out] at ho11)); have HO354 := am (Kd.N_lower ho11 (zs_ HB.out)); replace HB := am (below_step (zB HB.out) hb); clear hb ho11) | ((with_reducible refine gate_dst (N := 22) rfl ?_); refine Kd.R_lit Kd.string _ 9 ?hg (N := 22) ?hd (xs := ([] : List ByteArray)) (inner := []) (ok := fun _ => True) (okp := fun _ => True) ?hr ?hp (fun _ hk => hk) trivial (Below.refl _ _) (Nat.le_refl _) (by simp) ?_; (case hd => rfl); (case hg => rfl); (case hr => first | (go_simp; done) | (go_simp; rfl)); (case hp => exact (Reps.none _ _)); intro v356 w12 ho13 hb hg_ hnew_; clear hg_ hnew_; (first | rw [← Ny355.out] at ho13 | (simp only [Int.reduceToNat] at ho13; rw [← Ny355.out] at ho13)); replace HO354 := am (Kd.N_elder' (zN HO354.out) (Kd.R_base ho13) hb); have HO357 := am (Kd.R_lower ho13 (zs_ HB.out)); replace HB := am (below_step (zB HB.out) hb); clear hb ho13))
    go_loopg [6, 7, 25] kj2 (fun kq v6 v7 v25 w' => ∃ (x6_2 : List (List Int)) (x7_2 : List ByteArray) (x25_2 : Int), v25 = .int .i64 x25_2 ∧ Aside0 (impl_SolveDrops.l0 kq a1 x6_2 x7_2 l0 (l0.length : Int) x25_2 = some (r1, r2)) ∧ Aside0 (kq ≤ kj2) ∧ Aside0 (Kd.N (Kd.slice 5 (Kd.int .u8)) 75 w' w.heap.size (fun k_ => some k_ ≠ (v7 : Value).ownBlock) v6 x6_2) ∧ Aside0 (Kd.R Kd.string 9 w' w.heap.size (fun _ => True) v7 x7_2) ∧ Aside0 (Below w.heap.size w w'))
    case atStart => exact ⟨(y352), (y355), (0), rfl, H', ⟨Nat.le_refl _⟩, ⟨zN (Kd.N_mono HO354.out (fun _ hk => hk.2))⟩, ⟨zR HO357.out⟩, ⟨zB HB.out⟩⟩
    case round =>
     clear H'; obtain ⟨x6_2, x7_2, x25_2, rfl, HA, HK2, HO_6, HO_7, HB⟩ := hrel
     cases gk with
     | zero => exact absurd HA.out (by simp [impl_SolveDrops.l0])
     | succ k2 =>
      have H := HA.out; clear HA
      simp only [impl_SolveDrops.l0] at H
      by_cases c14 : x25_2 < (l0.length : Int)
      ·rw [if_pos c14] at H; have c14b0 := decide_eq_true c14; clear c14
       obtain ⟨c15, H⟩ := it_ H; have c15b0 := decide_eq_true c15; clear c15
       obtain ⟨c16, H⟩ := it_ H; have c16b0 := decide_eq_true c16; clear c16; obtain ⟨t360, A17, H⟩ := bi_ H; obtain ⟨t363, A18, H⟩ := bi_ H
       obtain ⟨c19, H⟩ := it_ H; have LMc19 := am c19; clear c19; obtain ⟨y366, hy366⟩ : ∃ y_ : List (List Int), y_ = (t360 ++ [t363]) := ⟨_, rfl⟩
       replace H : ((impl_rankOf.f k2 y366).bind fun t369 => (if t369 = (y366.length : Int) then (if x7_2.length < 8796093022208 then (impl_SolveDrops.l0 k2 a1 y366 (x7_2 ++ [(rd_T54 l0 x25_2).f1]) l0 (l0.length : Int) (wrap64 (x25_2 + 1))) else (none)) else (impl_SolveDrops.l0 k2 a1 x6_2 x7_2 l0 (l0.length : Int) (wrap64 (x25_2 + 1))))) = some (r1, r2) := by first | (rw [hy366]; exact H) | (have H2_ := (Option.bind_some _ _).symm.trans H; first | exact H2_ | (rw [hy366]; exact H2_)) | exact H
       have Ny366 := am hy366; clear hy366; obtain ⟨t369, A20, H⟩ := bi_ H
       by_cases c21 : t369 = (y366.length : Int)
       ·rw [if_pos c21] at H; have c21b0 : (t369 == (y366.length : Int)) = true := beq_iff_eq.mpr c21; have c21b1 : (t369 != (y366.length : Int)) = false := bne_eq_false_iff_eq.mpr c21; clear c21
        obtain ⟨c22, H⟩ := it_ H; have LMc22 := am c22; clear c22; obtain ⟨y370, hy370⟩ : ∃ y_ : List ByteArray, y_ = (x7_2 ++ [(rd_T54 l0 x25_2).f1]) := ⟨_, rfl⟩
        replace H : (impl_SolveDrops.l0 k2 a1 y366 y370 l0 (l0.length : Int) (wrap64 (x25_2 + 1))) = some (r1, r2) := by first | (rw [hy370]; exact H) | (have H2_ := (Option.bind_some _ _).symm.trans H; first | exact H2_ | (rw [hy370]; exact H2_)) | exact H
        have Ny370 := am hy370; clear hy370; have H' := am H; clear H; have p358 : 0 ≤ (x25_2 : Int) := od_; have q358 : x25_2 < (l0.length : Int) := od_; obtain ⟨ad358, e358, hx358_0, hx358_1⟩ := at_T54 HR0.out x25_2 p358 q358; cases e358; replace hx358_0 := (HB.out.cell (World.block_lt_of_cell? w _ hx358_0)).trans hx358_0; replace hx358_1 := (HB.out.cell (World.block_lt_of_cell? w _ hx358_1)).trans hx358_1; replace p358 := eq_true p358; replace q358 := eq_true q358
        try go_wp2_with (first | ((with_reducible refine gate_dst (N := 9) rfl ?_); refine box_event ?hg (N := 9) ?hd (cs := #[.int .i64 0, .string (⟨#[]⟩ : ByteArray)]) (t := 54) ?hr ?_; (case hd => rfl); (case hg => rfl); (case hr => first | (go_simp; done) | (go_simp; rfl)); intro gb359 hg w23 hbox hb; replace HO_6 := am (Kd.N_below (Kd.N_elderB (zN HO_6.out) gb359 (Nat.le_of_eq hg.symm)) hb); replace HO_7 := am (Kd.R_below (zR HO_7.out) hb); have BK359 := am (hbox); have GW359 := am ((gw_ hg HB.out : w.heap.size ≤ gb359)); have GE359 := am ((gw_ hg HB.out : w.heap.size ≤ gb359)); replace HB := am (below_step (zB HB.out) hb); clear hb hbox hg; have hcz24_0 : w23.cell? ⟨gb359, 0, none⟩ = some (.int .i64 0) := (blk_cell BK359.out 0).trans rfl; have hcz24_1 : w23.cell? ⟨gb359, 1, none⟩ = some (.string (⟨#[]⟩ : ByteArray)) := (blk_cell BK359.out 1).trans rfl; have hfz24_0 := blk_frozen BK359.out 0; have hfz24_1 := blk_frozen BK359.out 1))
        have n0_ : Aside0 (Kd.N (Kd.slice 5 (Kd.int .u8)) 75 ((w23.setCell ⟨gb359, 0, none⟩ (.int .i64 ((rd_T54 l0 x25_2).f0))).setCell ⟨gb359, 1, none⟩ (.string ((rd_T54 l0 x25_2).f1))) w.heap.size (fun k_ => some k_ ≠ (u7 : Value).ownBlock ∧ k_ ≠ gb359) u6 x6_2) := ⟨zN (Kd.N_mono (Kd.N_far (p := ⟨gb359, 1, none⟩) (Kd.N_far (p := ⟨gb359, 0, none⟩) (Kd.N_mono HO_6.out (fun k_ hk => (⟨hk, hk.2⟩ : _ ∧ k_ ≠ gb359))) (fun _ hk => hk.2) (.int .i64 ((rd_T54 l0 x25_2).f0))) (fun _ hk => hk.2) (.string ((rd_T54 l0 x25_2).f1))) (fun _ hk => ⟨hk.1.1, hk.1.2⟩))⟩
        have n1_ : Aside0 (Kd.R Kd.string 9 ((w23.setCell ⟨gb359, 0, none⟩ (.int .i64 ((rd_T54 l0 x25_2).f0))).setCell ⟨gb359, 1, none⟩ (.string ((rd_T54 l0 x25_2).f1))) w.heap.size (fun _ => True) u7 x7_2) := ⟨zR (Kd.R_mono (Kd.R_far (p := ⟨gb359, 1, none⟩) (Kd.R_far (p := ⟨gb359, 0, none⟩) (Kd.R_types HO_7.out BK359.out (by decide)) (fun _ hk => hk.2) (.int .i64 ((rd_T54 l0 x25_2).f0))) (fun _ hk => hk.2) (.string ((rd_T54 l0 x25_2).f1))) (fun _ hk => trivial))⟩
        have n2_ : Aside0 (((w23.setCell ⟨gb359, 0, none⟩ (.int .i64 ((rd_T54 l0 x25_2).f0))).setCell ⟨gb359, 1, none⟩ (.string ((rd_T54 l0 x25_2).f1))).heap[gb359]? = some (.cells #[.int .i64 ((rd_T54 l0 x25_2).f0), .string ((rd_T54 l0 x25_2).f1)] 54 (0, 0))) := ⟨by (with_reducible repeat (first | apply blk_drewN | apply blk_drew | apply blk_alloc)); refine blk_put (cs := #[.int .i64 ((rd_T54 l0 x25_2).f0), .string (⟨#[]⟩ : ByteArray)]) ?_ 1 _ rfl; (with_reducible repeat (first | apply blk_drewN | apply blk_drew | apply blk_alloc)); refine blk_put (cs := #[.int .i64 0, .string (⟨#[]⟩ : ByteArray)]) ?_ 0 _ rfl; (with_reducible repeat (first | apply blk_drewN | apply blk_drew | apply blk_alloc)); exact BK359.out⟩
        have n3_ : Aside0 (Below w.heap.size w ((w23.setCell ⟨gb359, 0, none⟩ (.int .i64 ((rd_T54 l0 x25_2).f0))).setCell ⟨gb359, 1, none⟩ (.string ((rd_T54 l0 x25_2).f1)))) := ⟨by repeat (first | (with_reducible first | exact HB.out | apply below_alloc | apply pw_below_drewN | apply below_drew1 | refine below_set ?_ GE359.out) | exact HB.out)⟩; (try clear HO_6); (try clear HO_7); (try clear BK359); (try clear HB); generalize ((w23.setCell ⟨gb359, 0, none⟩ (.int .i64 ((rd_T54 l0 x25_2).f0))).setCell ⟨gb359, 1, none⟩ (.string ((rd_T54 l0 x25_2).f1))) = w25 at n0_ n1_ n2_ n3_ ⊢; have HO_6 := n0_; have HO_7 := n1_; have BK359 := n2_; have HB := n3_; clear n0_ n1_ n2_ n3_; replace HO_6 := am (Kd.N_drew HO_6.out); replace HO_7 := am (Kd.R_drew HO_7.out); replace BK359 := am (blk_drew BK359.out); replace HB := am (below_drew1 HB.out); obtain ⟨Ao27, co27, eo27⟩ := Kd.N_slice HO_6.out
        (first | subst eo27 | (injection eo27 with f1_ f2_ f3_; have f4_ := f1_.symm; have f5_ := f3_.symm; clear f1_ f2_ f3_; subst f4_; subst f5_))
        refine start_ (n := 9) (S := fun w' => w'.cell? ⟨gb359, 0, none⟩ = some (.int .i64 ((rd_T54 l0 x25_2).f0)) ∧ w'.cell? ⟨gb359, 1, none⟩ = some (.string ((rd_T54 l0 x25_2).f1))) (ds := []) #[false, false, false, false, false, false, false, false, false] (by kernel_rfl) rfl rfl ⟨(blk_cell BK359.out 0).trans rfl, (blk_cell BK359.out 1).trans rfl⟩ (fun hHeld => ?_); refine with_tabW impl_SolveDrops.tab7 impl_SolveDrops.bits7 (fun HT_ HW_ => ?_)
        generalize w25.drew = w26 at HO_6 HO_7 BK359 HB hHeld ⊢
        refine pu_ (i := 0) (some 29) #[true, false, false, false, false, false, false, false, false] HT_ ?_
        refine pu_ (i := 2) (some 31) #[true, false, true, false, false, false, false, false, false] HT_ ?_
        refine pu_ (i := 4) (some 33) #[true, false, true, false, true, false, false, false, false] HT_ ?_
        refine ta_ (i := 3) (some 32) #[true, false, true, true, true, false, false, false, false] HT_ HW_ hHeld ?_
        refine one_ (i := 1) (N := some 30) #[true, true, true, true, true, false, false, false, false] rfl rfl (one_of HT_.out (by kernel_rfl)) (by decide) (fun K hK => ?_)
        refine goR_ Try.func65 #[.slice Ao27 x6_2.length co27] ?_
        with_reducible refine (slices_Clone_rows.calls (fun k_ => (some k_ ≠ (u7 : Value).ownBlock ∧ k_ ≠ gb359)) _ _ x6_2 t360 _ ?side1 A17.out).mono ?_
        (case side1 => exact Kd.N_V (HO_6.out))
        rintro e w28 ⟨v361, rfl, ho0, hb⟩
        refine ⟨_, rfl, ?_⟩
        replace HO_6 := am (Kd.N_elder' (zN HO_6.out) (Kd.N_base ho0) hb)
        have HO362 := am (Kd.N_lower (Kd.N_mono (ok' := fun k_ => some k_ ≠ (u7 : Value).ownBlock ∧ k_ ≠ gb359) ho0 (fun k_ hk_ => ⟨Or.elim hk_ (fun hs_ => hs_.1) (fun hn_ => (Kd.fresh' (Kd.R_lt (zR HO_7.out)) k_ hn_)), Or.elim hk_ (fun hs_ => hs_.2) (fun hn_ => (Kd.freshB (zK BK359.out) k_ hn_))⟩)) (zs_ HB.out))
        replace HO_7 := am (Kd.R_below (zR HO_7.out) hb)
        replace BK359 := am (blk_below (zK BK359.out) hb)
        replace HB := am (below_step (zB HB.out) hb); (try clear hb); (try clear ho0)
        refine hK.out _ _ ⟨(blk_cell BK359.out 0).trans rfl, (blk_cell BK359.out 1).trans rfl⟩ (fun hHeld => ?_)
        clear hK K
        refine norm_ (a' := ?_) ?_ ?_
        rotate_left
        ·show Act.put _ (some 30) _ = _
         simp only [Act.put, List.setIfInBounds_toArray, List.set_cons_zero, List.set_cons_succ, i64_w, i32_w]; rfl
        refine one_ (i := 5) (N := some 34) #[true, true, true, true, true, true, false, false, false] rfl rfl (one_of HT_.out (by kernel_rfl)) (by decide) (fun K hK => ?_)
        refine goR_ Try.func49 #[.int .i64 ((rd_T54 l0 x25_2).f0), .int .i64 a1] ?_
        with_reducible refine (impl_rowOf.calls k2 ((rd_T54 l0 x25_2).f0) a1 t363 _ A18.out).mono ?_
        rintro e w29 ⟨v364, rfl, ho0, hb⟩
        refine ⟨_, rfl, ?_⟩
        replace HO_6 := am (Kd.N_elder' (zN HO_6.out) (Kd.R_base ho0) hb)
        replace HO_7 := am (Kd.R_below (zR HO_7.out) hb)
        replace HO362 := am (Kd.N_elder' (zN HO362.out) (Kd.R_base ho0) hb)
        have HO365 := am (Kd.R_lower ho0 (zs_ HB.out))
        replace BK359 := am (blk_below (zK BK359.out) hb)
        replace HB := am (below_step (zB HB.out) hb); (try clear hb); (try clear ho0); obtain ⟨Ao31, co31, eo31⟩ := Kd.R_slice HO365.out
        (first | subst eo31 | (injection eo31 with f1_ f2_ f3_; have f4_ := f1_.symm; have f5_ := f3_.symm; clear f1_ f2_ f3_; subst f4_; subst f5_))
        refine hK.out _ _ ⟨(blk_cell BK359.out 0).trans rfl, (blk_cell BK359.out 1).trans rfl⟩ (fun hHeld => ?_)
        clear hK K
        refine norm_ (a' := ?_) ?_ ?_
        rotate_left
        ·show Act.put _ (some 34) _ = _
         simp only [Act.put, List.setIfInBounds_toArray, List.set_cons_zero, List.set_cons_succ, i64_w, i32_w]; rfl
        refine one_ (i := 6) (N := some 35) #[true, true, true, true, true, true, true, false, false] rfl rfl (one_of HT_.out (by kernel_rfl)) (by decide) (fun K hK => ?_)
        refine value_ (w1 := ?_) (v := ?_) (by rfl) rfl ?_ ?_
        rotate_left 2
        ·go_simp
         constructor
         ·rfl
         ·rfl
        refine hK.out _ _ ⟨(blk_cell (blk_alloc BK359.out _) 0).trans rfl, (blk_cell (blk_alloc BK359.out _) 1).trans rfl⟩ (fun hHeld => ?_)
        clear hK K
        refine norm_ (a' := ?_) ?_ ?_
        rotate_left
        ·show Act.put _ (some 35) _ = _
         simp only [Act.put, List.setIfInBounds_toArray, List.set_cons_zero, List.set_cons_succ, i64_w, i32_w]; rfl
        refine one_ (i := 7) (N := some 36) #[true, true, true, true, true, true, true, true, false] rfl rfl (one_of HT_.out (by kernel_rfl)) (by decide) (fun K hK => ?_)
        refine Kd.N_append_step (Kd.slice 5 (Kd.int .u8)) (w0 := w) w.heap.size (by rfl) (.tmp 30) (.tmp 35) 69 75 (.slice none 0 0) 24 rfl Try.underlying69 info75 rfl (by decide) (by omega) v361 t360 t363 [.slice Ao31 t363.length co31] (fun k_ => some k_ ≠ (u7 : Value).ownBlock ∧ k_ ≠ gb359) (fun k_ => ((fun k_ => some k_ ≠ (u7 : Value).ownBlock ∧ k_ ≠ gb359)) k_ ∧ some k_ ≠ (v361 : Value).ownBlock) rfl rfl ?aP (fun _ hk => hk) ?aF ?aO ?aB ?aS ?aL ?_
        (case aP => exact (Kd.FK_slice_mk (Kd.R_reads' (Kd.R_mono (ok' := (fun k_ => ((fun k_ => some k_ ≠ (u7 : Value).ownBlock ∧ k_ ≠ gb359)) k_ ∧ some k_ ≠ (v361 : Value).ownBlock)) (Kd.R_types (Kd.R_apart' (Kd.R_apart' (HO365.out) (Kd.R_typed HO_7.out) (by decide)) (Kd.N_typed HO362.out) (by decide)) BK359.out (by decide)) (fun k_ hk => ⟨⟨hk.1.1.2, hk.2⟩, hk.1.2⟩))).2.1 (Kd.R_F (Kd.R_mono (ok' := (fun k_ => ((fun k_ => some k_ ≠ (u7 : Value).ownBlock ∧ k_ ≠ gb359)) k_ ∧ some k_ ≠ (v361 : Value).ownBlock)) (Kd.R_types (Kd.R_apart' (Kd.R_apart' (HO365.out) (Kd.R_typed HO_7.out) (by decide)) (Kd.N_typed HO362.out) (by decide)) BK359.out (by decide)) (fun k_ hk => ⟨⟨hk.1.1.2, hk.2⟩, hk.1.2⟩)))))
        (case aB => exact (zB HB.out))
        (case aF => exact (fun k_ hk => ⟨Kd.fresh' (Kd.R_lt (zR HO_7.out)) k_ hk, Kd.freshB (zK BK359.out) k_ hk⟩))
        (case aO => exact (zN (Kd.N_mono HO362.out (fun _ hk => ⟨hk.1.1, hk.1.2⟩))))
        (case aS => exact (zs_ HB.out))
        (case aL => have := LMc19.out; omega)
        intro v367 w30 ho hb hg hat; rw [← Ny366.out] at ho
        replace HO_6 := am (Kd.N_afterv (ok := (fun k_ => some k_ ≠ (u7 : Value).ownBlock ∧ some k_ ≠ (.slice Ao31 t363.length co31 : Value).ownBlock ∧ k_ ≠ gb359)) (zN (Kd.N_mono HO_6.out (fun _ hk => ⟨⟨hk.1.1.1, ⟨hk.2, hk.1.1.2⟩⟩, hk.1.2⟩))) hg hat)
        replace HO_7 := am (Kd.R_over' (zR HO_7.out) (Kd.N_typed (zN HO362.out)) (by decide) hg)
        replace BK359 := am (blk_grown (zK BK359.out) hg (Kd.N_ne HO362.out BK359.out (by decide)))
        replace HB := am (hb); have HO368 := am (ho); (try clear HO362); (try clear HO365); clear ho hb hg hat
        refine hK.out _ _ ⟨(blk_cell BK359.out 0).trans rfl, (blk_cell BK359.out 1).trans rfl⟩ (fun hHeld => ?_)
        clear hK K
        refine norm_ (a' := ?_) ?_ ?_
        rotate_left
        ·show Act.put _ (some 36) _ = _
         simp only [Act.put, List.setIfInBounds_toArray, List.set_cons_zero, List.set_cons_succ, i64_w, i32_w]; rfl
        refine pu_ (i := 8) (some 10) #[true, true, true, true, true, true, true, true, true] HT_ ?_
        refine done_ (done_of HT_.out (by kernel_rfl)) ?_
        obtain ⟨Ao32, co32, eo32⟩ := Kd.N_slice HO368.out
        subst eo32
        try go_wp2_with (first | ((with_reducible refine gate_callee (f := 50) rfl ?_); refine goL_ (some 38) Try.func50 #[.slice Ao32 y366.length co32] ?_; (with_reducible refine (impl_rankOf.calls k2 _ _ y366 t369 _ ?side1 ?side2 A20.out).mono ?_); (case side1 => exact zC ((Kd.N_reads' HO368.out).2.2)); (case side2 => exact (Kd.N_reads' HO368.out).2.1); rintro e w33 ⟨rfl, hb⟩; refine ⟨_, rfl, ?_⟩; replace HO_6 := am (Kd.N_below (zN HO_6.out) hb); replace HO_7 := am (Kd.R_below (zR HO_7.out) hb); replace HO368 := am (Kd.N_below (zN HO368.out) hb); replace BK359 := am (blk_below (zK BK359.out) hb); replace HB := am (below_step (zB HB.out) hb); (try clear hb); (try clear hb2); (try clear hk); (try clear hi); have hcz34_0 : w33.cell? ⟨gb359, 0, none⟩ = some (.int .i64 ((rd_T54 l0 x25_2).f0)) := (blk_cell BK359.out 0).trans rfl; have hcz34_1 : w33.cell? ⟨gb359, 1, none⟩ = some (.string ((rd_T54 l0 x25_2).f1)) := (blk_cell BK359.out 1).trans rfl; have hfz34_0 := blk_frozen BK359.out 0; have hfz34_1 := blk_frozen BK359.out 1) | ((with_reducible refine gate_builtin (b := .append) (xs := #[.tmp 43, .tmp 46]) rfl ?_); at_builtin; refine Kd.R_append Kd.string (w0 := w) w.heap.size rfl (.tmp 43) (.tmp 46) 30 9 (.string ⟨#[]⟩) 16 rfl Try.underlying30 info9 rfl (by decide) (by omega) u7 x7_2 ((rd_T54 l0 x25_2).f1) [.string ((rd_T54 l0 x25_2).f1)] (fun _ => True) (fun _ => False) rfl rfl ?aP (fun _ hk => hk.elim) ?aF ?aO ?aB ?aS ?aL ?_; (case aP => exact rfl); (case aB => exact (zB HB.out)); (case aF => exact (fun _ _ => trivial)); (case aO => exact (zR HO_7.out)); (case aS => exact (zs_ HB.out)); (case aL => have := LMc22.out; omega); intro v371 w35 ho hb hg hat; rw [← Ny370.out] at ho; replace HO_6 := am (Kd.N_afterv (ok := (fun k_ => some k_ ≠ (.slice Ao32 y366.length co32 : Value).ownBlock ∧ k_ ≠ gb359)) (zN (Kd.N_mono HO_6.out (fun _ hk => ⟨⟨hk.2, hk.1.2.2⟩, hk.1.1⟩))) hg hat); replace BK359 := am (blk_grown (zK BK359.out) hg (Kd.R_ne HO_7.out BK359.out (by decide))); replace HO368 := am (Kd.N_afterv (ok := (fun k_ => k_ ≠ gb359)) (zN (Kd.N_mono HO368.out (fun _ hk => ⟨hk.2, hk.1⟩))) hg hat); replace HB := am (hb); have HO372 := am (ho); (try clear HO_7); clear ho hb hg hat))
        go_roundg k2
        case measure => have := HJ2.out; have := HK2.out; omega
        case rel => exact ⟨(y366), (y370), (wrap64 (x25_2 + 1)), rfl, H', ⟨by have := HJ2.out; have := HK2.out; omega⟩, ⟨zN (Kd.N_mono HO368.out (fun _ hk => hk.2))⟩, ⟨zR HO372.out⟩, ⟨zB HB.out⟩⟩
       ·rw [if_neg c21] at H; have c21b0 : (t369 == (y366.length : Int)) = false := beq_eq_false_iff_ne.mpr c21; have c21b1 : (t369 != (y366.length : Int)) = true := bne_iff_ne.mpr c21; have H' := am H; clear H; have p358 : 0 ≤ (x25_2 : Int) := od_; have q358 : x25_2 < (l0.length : Int) := od_; obtain ⟨ad358, e358, hx358_0, hx358_1⟩ := at_T54 HR0.out x25_2 p358 q358; cases e358; replace hx358_0 := (HB.out.cell (World.block_lt_of_cell? w _ hx358_0)).trans hx358_0; replace hx358_1 := (HB.out.cell (World.block_lt_of_cell? w _ hx358_1)).trans hx358_1; replace p358 := eq_true p358; replace q358 := eq_true q358
        try go_wp2_with (first | ((with_reducible refine gate_dst (N := 9) rfl ?_); refine box_event ?hg (N := 9) ?hd (cs := #[.int .i64 0, .string (⟨#[]⟩ : ByteArray)]) (t := 54) ?hr ?_; (case hd => rfl); (case hg => rfl); (case hr => first | (go_simp; done) | (go_simp; rfl)); intro gb359 hg w36 hbox hb; replace HO_6 := am (Kd.N_below (Kd.N_elderB (zN HO_6.out) gb359 (Nat.le_of_eq hg.symm)) hb); replace HO_7 := am (Kd.R_below (zR HO_7.out) hb); have BK359 := am (hbox); have GW359 := am ((gw_ hg HB.out : w.heap.size ≤ gb359)); have GE359 := am ((gw_ hg HB.out : w.heap.size ≤ gb359)); replace HB := am (below_step (zB HB.out) hb); clear hb hbox hg; have hcz37_0 : w36.cell? ⟨gb359, 0, none⟩ = some (.int .i64 0) := (blk_cell BK359.out 0).trans rfl; have hcz37_1 : w36.cell? ⟨gb359, 1, none⟩ = some (.string (⟨#[]⟩ : ByteArray)) := (blk_cell BK359.out 1).trans rfl; have hfz37_0 := blk_frozen BK359.out 0; have hfz37_1 := blk_frozen BK359.out 1))
        have n0_ : Aside0 (Kd.N (Kd.slice 5 (Kd.int .u8)) 75 ((w36.setCell ⟨gb359, 0, none⟩ (.int .i64 ((rd_T54 l0 x25_2).f0))).setCell ⟨gb359, 1, none⟩ (.string ((rd_T54 l0 x25_2).f1))) w.heap.size (fun k_ => some k_ ≠ (u7 : Value).ownBlock ∧ k_ ≠ gb359) u6 x6_2) := ⟨zN (Kd.N_mono (Kd.N_far (p := ⟨gb359, 1, none⟩) (Kd.N_far (p := ⟨gb359, 0, none⟩) (Kd.N_mono HO_6.out (fun k_ hk => (⟨hk, hk.2⟩ : _ ∧ k_ ≠ gb359))) (fun _ hk => hk.2) (.int .i64 ((rd_T54 l0 x25_2).f0))) (fun _ hk => hk.2) (.string ((rd_T54 l0 x25_2).f1))) (fun _ hk => ⟨hk.1.1, hk.1.2⟩))⟩
        have n1_ : Aside0 (Kd.R Kd.string 9 ((w36.setCell ⟨gb359, 0, none⟩ (.int .i64 ((rd_T54 l0 x25_2).f0))).setCell ⟨gb359, 1, none⟩ (.string ((rd_T54 l0 x25_2).f1))) w.heap.size (fun _ => True) u7 x7_2) := ⟨zR (Kd.R_mono (Kd.R_far (p := ⟨gb359, 1, none⟩) (Kd.R_far (p := ⟨gb359, 0, none⟩) (Kd.R_types HO_7.out BK359.out (by decide)) (fun _ hk => hk.2) (.int .i64 ((rd_T54 l0 x25_2).f0))) (fun _ hk => hk.2) (.string ((rd_T54 l0 x25_2).f1))) (fun _ hk => trivial))⟩
        have n2_ : Aside0 (((w36.setCell ⟨gb359, 0, none⟩ (.int .i64 ((rd_T54 l0 x25_2).f0))).setCell ⟨gb359, 1, none⟩ (.string ((rd_T54 l0 x25_2).f1))).heap[gb359]? = some (.cells #[.int .i64 ((rd_T54 l0 x25_2).f0), .string ((rd_T54 l0 x25_2).f1)] 54 (0, 0))) := ⟨by (with_reducible repeat (first | apply blk_drewN | apply blk_drew | apply blk_alloc)); refine blk_put (cs := #[.int .i64 ((rd_T54 l0 x25_2).f0), .string (⟨#[]⟩ : ByteArray)]) ?_ 1 _ rfl; (with_reducible repeat (first | apply blk_drewN | apply blk_drew | apply blk_alloc)); refine blk_put (cs := #[.int .i64 0, .string (⟨#[]⟩ : ByteArray)]) ?_ 0 _ rfl; (with_reducible repeat (first | apply blk_drewN | apply blk_drew | apply blk_alloc)); exact BK359.out⟩
        have n3_ : Aside0 (Below w.heap.size w ((w36.setCell ⟨gb359, 0, none⟩ (.int .i64 ((rd_T54 l0 x25_2).f0))).setCell ⟨gb359, 1, none⟩ (.string ((rd_T54 l0 x25_2).f1)))) := ⟨by repeat (first | (with_reducible first | exact HB.out | apply below_alloc | apply pw_below_drewN | apply below_drew1 | refine below_set ?_ GE359.out) | exact HB.out)⟩; (try clear HO_6); (try clear HO_7); (try clear BK359); (try clear HB); generalize ((w36.setCell ⟨gb359, 0, none⟩ (.int .i64 ((rd_T54 l0 x25_2).f0))).setCell ⟨gb359, 1, none⟩ (.string ((rd_T54 l0 x25_2).f1))) = w38 at n0_ n1_ n2_ n3_ ⊢; have HO_6 := n0_; have HO_7 := n1_; have BK359 := n2_; have HB := n3_; clear n0_ n1_ n2_ n3_; replace HO_6 := am (Kd.N_drew HO_6.out); replace HO_7 := am (Kd.R_drew HO_7.out); replace BK359 := am (blk_drew BK359.out); replace HB := am (below_drew1 HB.out); obtain ⟨Ao40, co40, eo40⟩ := Kd.N_slice HO_6.out
        (first | subst eo40 | (injection eo40 with f1_ f2_ f3_; have f4_ := f1_.symm; have f5_ := f3_.symm; clear f1_ f2_ f3_; subst f4_; subst f5_))
        refine start_ (n := 9) (S := fun w' => w'.cell? ⟨gb359, 0, none⟩ = some (.int .i64 ((rd_T54 l0 x25_2).f0)) ∧ w'.cell? ⟨gb359, 1, none⟩ = some (.string ((rd_T54 l0 x25_2).f1))) (ds := []) #[false, false, false, false, false, false, false, false, false] (by kernel_rfl) rfl rfl ⟨(blk_cell BK359.out 0).trans rfl, (blk_cell BK359.out 1).trans rfl⟩ (fun hHeld => ?_); refine with_tabW impl_SolveDrops.tab7 impl_SolveDrops.bits7 (fun HT_ HW_ => ?_)
        generalize w38.drew = w39 at HO_6 HO_7 BK359 HB hHeld ⊢
        refine pu_ (i := 0) (some 29) #[true, false, false, false, false, false, false, false, false] HT_ ?_
        refine pu_ (i := 2) (some 31) #[true, false, true, false, false, false, false, false, false] HT_ ?_
        refine pu_ (i := 4) (some 33) #[true, false, true, false, true, false, false, false, false] HT_ ?_
        refine ta_ (i := 3) (some 32) #[true, false, true, true, true, false, false, false, false] HT_ HW_ hHeld ?_
        refine one_ (i := 1) (N := some 30) #[true, true, true, true, true, false, false, false, false] rfl rfl (one_of HT_.out (by kernel_rfl)) (by decide) (fun K hK => ?_)
        refine goR_ Try.func65 #[.slice Ao40 x6_2.length co40] ?_
        with_reducible refine (slices_Clone_rows.calls (fun k_ => (some k_ ≠ (u7 : Value).ownBlock ∧ k_ ≠ gb359)) _ _ x6_2 t360 _ ?side1 A17.out).mono ?_
        (case side1 => exact Kd.N_V (HO_6.out))
        rintro e w41 ⟨v361, rfl, ho0, hb⟩
        refine ⟨_, rfl, ?_⟩
        replace HO_6 := am (Kd.N_elder' (zN HO_6.out) (Kd.N_base ho0) hb)
        have HO362 := am (Kd.N_lower (Kd.N_mono (ok' := fun k_ => some k_ ≠ (u7 : Value).ownBlock ∧ k_ ≠ gb359) ho0 (fun k_ hk_ => ⟨Or.elim hk_ (fun hs_ => hs_.1) (fun hn_ => (Kd.fresh' (Kd.R_lt (zR HO_7.out)) k_ hn_)), Or.elim hk_ (fun hs_ => hs_.2) (fun hn_ => (Kd.freshB (zK BK359.out) k_ hn_))⟩)) (zs_ HB.out))
        replace HO_7 := am (Kd.R_below (zR HO_7.out) hb)
        replace BK359 := am (blk_below (zK BK359.out) hb)
        replace HB := am (below_step (zB HB.out) hb); (try clear hb); (try clear ho0)
        refine hK.out _ _ ⟨(blk_cell BK359.out 0).trans rfl, (blk_cell BK359.out 1).trans rfl⟩ (fun hHeld => ?_)
        clear hK K
        refine norm_ (a' := ?_) ?_ ?_
        rotate_left
        ·show Act.put _ (some 30) _ = _
         simp only [Act.put, List.setIfInBounds_toArray, List.set_cons_zero, List.set_cons_succ, i64_w, i32_w]; rfl
        refine one_ (i := 5) (N := some 34) #[true, true, true, true, true, true, false, false, false] rfl rfl (one_of HT_.out (by kernel_rfl)) (by decide) (fun K hK => ?_)
        refine goR_ Try.func49 #[.int .i64 ((rd_T54 l0 x25_2).f0), .int .i64 a1] ?_
        with_reducible refine (impl_rowOf.calls k2 ((rd_T54 l0 x25_2).f0) a1 t363 _ A18.out).mono ?_
        rintro e w42 ⟨v364, rfl, ho0, hb⟩
        refine ⟨_, rfl, ?_⟩
        replace HO_6 := am (Kd.N_elder' (zN HO_6.out) (Kd.R_base ho0) hb)
        replace HO_7 := am (Kd.R_below (zR HO_7.out) hb)
        replace HO362 := am (Kd.N_elder' (zN HO362.out) (Kd.R_base ho0) hb)
        have HO365 := am (Kd.R_lower ho0 (zs_ HB.out))
        replace BK359 := am (blk_below (zK BK359.out) hb)
        replace HB := am (below_step (zB HB.out) hb); (try clear hb); (try clear ho0); obtain ⟨Ao44, co44, eo44⟩ := Kd.R_slice HO365.out
        (first | subst eo44 | (injection eo44 with f1_ f2_ f3_; have f4_ := f1_.symm; have f5_ := f3_.symm; clear f1_ f2_ f3_; subst f4_; subst f5_))
        refine hK.out _ _ ⟨(blk_cell BK359.out 0).trans rfl, (blk_cell BK359.out 1).trans rfl⟩ (fun hHeld => ?_)
        clear hK K
        refine norm_ (a' := ?_) ?_ ?_
        rotate_left
        ·show Act.put _ (some 34) _ = _
         simp only [Act.put, List.setIfInBounds_toArray, List.set_cons_zero, List.set_cons_succ, i64_w, i32_w]; rfl
        refine one_ (i := 6) (N := some 35) #[true, true, true, true, true, true, true, false, false] rfl rfl (one_of HT_.out (by kernel_rfl)) (by decide) (fun K hK => ?_)
        refine value_ (w1 := ?_) (v := ?_) (by rfl) rfl ?_ ?_
        rotate_left 2
        ·go_simp
         constructor
         ·rfl
         ·rfl
        refine hK.out _ _ ⟨(blk_cell (blk_alloc BK359.out _) 0).trans rfl, (blk_cell (blk_alloc BK359.out _) 1).trans rfl⟩ (fun hHeld => ?_)
        clear hK K
        refine norm_ (a' := ?_) ?_ ?_
        rotate_left
        ·show Act.put _ (some 35) _ = _
         simp only [Act.put, List.setIfInBounds_toArray, List.set_cons_zero, List.set_cons_succ, i64_w, i32_w]; rfl
        refine one_ (i := 7) (N := some 36) #[true, true, true, true, true, true, true, true, false] rfl rfl (one_of HT_.out (by kernel_rfl)) (by decide) (fun K hK => ?_)
        refine Kd.N_append_step (Kd.slice 5 (Kd.int .u8)) (w0 := w) w.heap.size (by rfl) (.tmp 30) (.tmp 35) 69 75 (.slice none 0 0) 24 rfl Try.underlying69 info75 rfl (by decide) (by omega) v361 t360 t363 [.slice Ao44 t363.length co44] (fun k_ => some k_ ≠ (u7 : Value).ownBlock ∧ k_ ≠ gb359) (fun k_ => ((fun k_ => some k_ ≠ (u7 : Value).ownBlock ∧ k_ ≠ gb359)) k_ ∧ some k_ ≠ (v361 : Value).ownBlock) rfl rfl ?aP (fun _ hk => hk) ?aF ?aO ?aB ?aS ?aL ?_
        (case aP => exact (Kd.FK_slice_mk (Kd.R_reads' (Kd.R_mono (ok' := (fun k_ => ((fun k_ => some k_ ≠ (u7 : Value).ownBlock ∧ k_ ≠ gb359)) k_ ∧ some k_ ≠ (v361 : Value).ownBlock)) (Kd.R_types (Kd.R_apart' (Kd.R_apart' (HO365.out) (Kd.R_typed HO_7.out) (by decide)) (Kd.N_typed HO362.out) (by decide)) BK359.out (by decide)) (fun k_ hk => ⟨⟨hk.1.1.2, hk.2⟩, hk.1.2⟩))).2.1 (Kd.R_F (Kd.R_mono (ok' := (fun k_ => ((fun k_ => some k_ ≠ (u7 : Value).ownBlock ∧ k_ ≠ gb359)) k_ ∧ some k_ ≠ (v361 : Value).ownBlock)) (Kd.R_types (Kd.R_apart' (Kd.R_apart' (HO365.out) (Kd.R_typed HO_7.out) (by decide)) (Kd.N_typed HO362.out) (by decide)) BK359.out (by decide)) (fun k_ hk => ⟨⟨hk.1.1.2, hk.2⟩, hk.1.2⟩)))))
        (case aB => exact (zB HB.out))
        (case aF => exact (fun k_ hk => ⟨Kd.fresh' (Kd.R_lt (zR HO_7.out)) k_ hk, Kd.freshB (zK BK359.out) k_ hk⟩))
        (case aO => exact (zN (Kd.N_mono HO362.out (fun _ hk => ⟨hk.1.1, hk.1.2⟩))))
        (case aS => exact (zs_ HB.out))
        (case aL => have := LMc19.out; omega)
        intro v367 w43 ho hb hg hat; rw [← Ny366.out] at ho
        replace HO_6 := am (Kd.N_afterv (ok := (fun k_ => some k_ ≠ (u7 : Value).ownBlock ∧ some k_ ≠ (.slice Ao44 t363.length co44 : Value).ownBlock ∧ k_ ≠ gb359)) (zN (Kd.N_mono HO_6.out (fun _ hk => ⟨⟨hk.1.1.1, ⟨hk.2, hk.1.1.2⟩⟩, hk.1.2⟩))) hg hat)
        replace HO_7 := am (Kd.R_over' (zR HO_7.out) (Kd.N_typed (zN HO362.out)) (by decide) hg)
        replace BK359 := am (blk_grown (zK BK359.out) hg (Kd.N_ne HO362.out BK359.out (by decide)))
        replace HB := am (hb); have HO368 := am (ho); (try clear HO362); (try clear HO365); clear ho hb hg hat
        refine hK.out _ _ ⟨(blk_cell BK359.out 0).trans rfl, (blk_cell BK359.out 1).trans rfl⟩ (fun hHeld => ?_)
        clear hK K
        refine norm_ (a' := ?_) ?_ ?_
        rotate_left
        ·show Act.put _ (some 36) _ = _
         simp only [Act.put, List.setIfInBounds_toArray, List.set_cons_zero, List.set_cons_succ, i64_w, i32_w]; rfl
        refine pu_ (i := 8) (some 10) #[true, true, true, true, true, true, true, true, true] HT_ ?_
        refine done_ (done_of HT_.out (by kernel_rfl)) ?_
        obtain ⟨Ao45, co45, eo45⟩ := Kd.N_slice HO368.out
        subst eo45
        try go_wp2_with (first | ((with_reducible refine gate_callee (f := 50) rfl ?_); refine goL_ (some 38) Try.func50 #[.slice Ao45 y366.length co45] ?_; (with_reducible refine (impl_rankOf.calls k2 _ _ y366 t369 _ ?side1 ?side2 A20.out).mono ?_); (case side1 => exact zC ((Kd.N_reads' HO368.out).2.2)); (case side2 => exact (Kd.N_reads' HO368.out).2.1); rintro e w46 ⟨rfl, hb⟩; refine ⟨_, rfl, ?_⟩; replace HO_6 := am (Kd.N_below (zN HO_6.out) hb); replace HO_7 := am (Kd.R_below (zR HO_7.out) hb); replace HO368 := am (Kd.N_below (zN HO368.out) hb); replace BK359 := am (blk_below (zK BK359.out) hb); replace HB := am (below_step (zB HB.out) hb); (try clear hb); (try clear hb2); (try clear hk); (try clear hi)))
        go_roundg k2
        case measure => have := HJ2.out; have := HK2.out; omega
        case rel => exact ⟨(x6_2), (x7_2), (wrap64 (x25_2 + 1)), rfl, H', ⟨by have := HJ2.out; have := HK2.out; omega⟩, ⟨zN (Kd.N_mono HO_6.out (fun _ hk => hk.1.1))⟩, ⟨zR HO_7.out⟩, ⟨zB HB.out⟩⟩
      ·rw [if_neg c14] at H; have c14b0 := decide_eq_false c14; clear c14
       by_cases c47 : (x6_2.length : Int) < a1
       ·rw [if_pos c47] at H; have c47b0 := decide_eq_true c47; clear c47
        simp only [Option.some.injEq, Prod.mk.injEq] at H
        obtain ⟨rfl, rfl⟩ := H; obtain ⟨Ao48, co48, eo48⟩ := Kd.N_slice HO_6.out
        subst eo48
        go_wp2
        go_ret2
        exact ⟨_, rfl, by first | apply Kd.R_nil | apply Kd.N_nil | apply Kd.V_nil | apply Kd.Q_nil | apply Kd.S_nil, zB HB.out⟩
       ·rw [if_neg c47] at H; have c47b0 := decide_eq_false c47; clear c47; obtain ⟨⟨t373, t374⟩, A49, H⟩ := bi_ H; dsimp only at H; obtain ⟨t377, A50, H⟩ := bi_ H
        simp only [Option.some.injEq, Prod.mk.injEq] at H
        obtain ⟨rfl, rfl⟩ := H; obtain ⟨Ao51, co51, eo51⟩ := Kd.N_slice HO_6.out
        subst eo51
        go_wp2_with (first | ((with_reducible refine gate_callee (f := 66) rfl ?_); refine goL_ (some 55) Try.func66 #[.slice Ao51 x6_2.length co51] ?_; (with_reducible refine (impl_inverseOf.calls k2 _ _ x6_2 t373 t374 _ ?side1 ?side2 A49.out).mono ?_); (case side1 => exact zC ((Kd.N_reads' HO_6.out).2.2)); (case side2 => exact (Kd.N_reads' HO_6.out).2.1); rintro e w52 ⟨v375, rfl, ho0, hb⟩; refine ⟨_, rfl, ?_⟩; have HO376 := am (Kd.V_lower (Kd.V_mono (ok' := fun k_ => some k_ ≠ (.slice Ao51 x6_2.length co51 : Value).ownBlock ∧ some k_ ≠ (u7 : Value).ownBlock) (Kd.V_bound ho0) (fun k_ hk0_ => have hk_ := And.intro trivial hk0_; ⟨(Kd.fresh' (Kd.N_lt (zN HO_6.out)) k_ hk_.2.1), (Kd.fresh' (Kd.R_lt (zR HO_7.out)) k_ hk_.2.1)⟩)) (zs_ HB.out)); replace HO_6 := am (Kd.N_below (zN HO_6.out) hb); replace HO_7 := am (Kd.R_below (zR HO_7.out) hb); replace HB := am (below_step (zB HB.out) hb); (try clear hb); (try clear ho0); obtain ⟨Ao53, co53, eo53⟩ := Kd.V_slice HO376.out; subst eo53; obtain ⟨Ao54, co54, eo54⟩ := Kd.R_slice HO_7.out; subst eo54) | ((with_reducible refine gate_callee (f := 67) rfl ?_); refine goL_ (some 60) Try.func67 #[.slice Ao53 t373.length co53, .slice Ao54 x7_2.length co54] ?_; (with_reducible refine (impl_combined.calls k2 _ _ t373 _ _ x7_2 t377 _ ?side1 ?side2 ?side3 ?side4 A50.out).mono ?_); (case side1 => exact zC ((Kd.V_reads' HO376.out).2.2)); (case side2 => exact (Kd.V_reads' HO376.out).2.1); (case side3 => exact zC ((Kd.R_reads' HO_7.out).2.2)); (case side4 => exact (Kd.R_reads' HO_7.out).2.1); rintro e w55 ⟨v378, rfl, ho0, hb⟩; refine ⟨_, rfl, ?_⟩; replace HO_6 := am (Kd.N_elder' (zN HO_6.out) (Kd.R_base ho0) hb); replace HO376 := am (Kd.V_elder' (zV HO376.out) (Kd.R_base ho0) hb); have HO379 := am (Kd.R_lower (Kd.R_new' ho0 (Kd.R_lt (zR HO_7.out))) (zs_ HB.out)); replace HO_7 := am (Kd.R_elder' (zR HO_7.out) (Kd.R_base ho0) hb); replace HB := am (below_step (zB HB.out) hb); (try clear hb); (try clear ho0)))
        go_ret2
        exact ⟨_, rfl, zR (Kd.R_mono HO379.out (fun _ hk => trivial)), zB HB.out⟩

/-! ### laws_eqStringS: function 25 -/
def laws_eqStringS.l0 : Nat → List ByteArray → List ByteArray → Int → Option (Bool)
 | 0, _, _, _ => none
 | k + 1, x0, x1, x5 => if x5 < (x0.length : Int) then (if 0 ≤ x5 then (if x5 < (x1.length : Int) then (if (rdOf ByteArray.empty x0 x5).toList = (rdOf ByteArray.empty x1 x5).toList then (laws_eqStringS.l0 k x0 x1 (wrap64 (x5 + 1))) else (some false)) else (none)) else (none)) else (some true)
def laws_eqStringS.f (k : Nat) (l0 : List ByteArray) (l1 : List ByteArray) : Option (Bool) := if (l0.length : Int) = (l1.length : Int) then (laws_eqStringS.l0 k l0 l1 0) else (some false)
theorem laws_eqStringS.mono_l : ∀ k, (∀ y0 y1 y2, LeO (laws_eqStringS.l0 k y0 y1 y2) (laws_eqStringS.l0 (k + 1) y0 y1 y2))
 | 0 => fun _ _ _ r h => by simp [laws_eqStringS.l0] at h
 | k + 1 => by
  have ih0 := laws_eqStringS.mono_l k
  ·intro y0 y1 y2
   unfold laws_eqStringS.l0
   repeat' first | apply LeO.refl | apply LeO.none | apply LeO.ite | apply ih0 | (refine LeO.bind ?_ (fun _ => ?_))
theorem laws_eqStringS.mono : ∀ a0 a1 k, LeO (laws_eqStringS.f k a0 a1) (laws_eqStringS.f (k + 1) a0 a1) := by
 intro a0 a1 k; have ih0 := laws_eqStringS.mono_l k
 unfold laws_eqStringS.f
 repeat' first | apply LeO.refl | apply LeO.none | apply LeO.ite | apply ih0 | (refine LeO.bind ?_ (fun _ => ?_))
set_option maxHeartbeats 8000000 in
set_option maxRecDepth 100000 in
theorem laws_eqStringS.calls (k : Nat) (A0 : Option Addr) (c0 : Nat) (l0 : List ByteArray) (A1 : Option Addr) (c1 : Nat) (l1 : List ByteArray) (r : Bool) (w : World) (hr0 : Kd.C Kd.string w A0 l0.length l0) (hc0 : l0.length ≤ c0) (hr1 : Kd.C Kd.string w A1 l1.length l1) (hc1 : l1.length ≤ c1) (h : laws_eqStringS.f k l0 l1 = some r) :
  Calls Try.prog 25 #[.slice A0 l0.length c0, .slice A1 l1.length c1] w fun e w' => e = .returned (.bool r) ∧ Drawn0 w w' := by
 have HR0 := am hr0; have HC0 := am hc0; clear hr0 hc0; have HR1 := am hr1; have HC1 := am hc1; clear hr1 hc1; have H : (if (l0.length : Int) = (l1.length : Int) then (laws_eqStringS.l0 k l0 l1 0) else (some false)) = some r := h; clear h
 by_cases c3 : (l0.length : Int) = (l1.length : Int)
 ·rw [if_pos c3] at H; have c3b0 : ((l0.length : Int) == (l1.length : Int)) = true := beq_iff_eq.mpr c3; have c3b1 : ((l0.length : Int) != (l1.length : Int)) = false := bne_eq_false_iff_eq.mpr c3
  have c3b2 : (l0.length == l1.length) = true := by first | simpa using c3 | (simp at c3 ⊢; omega)
  clear c3; have H' := am H; clear H
  go_enter Try.func25, Try.ntmps25
  go_wp2
  repeat (go_quiet (fail); try go_wp2)
  go_loopg [5] k (fun kq v5 w' => ∃ (x5_1 : Int), v5 = .int .i64 x5_1 ∧ Aside0 (laws_eqStringS.l0 kq l0 l1 x5_1 = some r) ∧ Aside0 (kq ≤ k) ∧ Drawn0 w w')
  case atStart => exact ⟨(0), rfl, H', ⟨Nat.le_refl _⟩, by repeat (first | exact Drawn0.refl _ | apply Drawn0.step)⟩
  case round =>
   clear H'; obtain ⟨x5_1, rfl, HA, HK1, ⟨m1, rfl⟩⟩ := hrel
   cases gk with
   | zero => exact absurd HA.out (by simp [laws_eqStringS.l0])
   | succ k1 =>
    have H := HA.out; clear HA
    simp only [laws_eqStringS.l0] at H
    by_cases c4 : x5_1 < (l0.length : Int)
    ·rw [if_pos c4] at H; have c4b0 := decide_eq_true c4; clear c4
     obtain ⟨c5, H⟩ := it_ H; have c5b0 := decide_eq_true c5; clear c5
     obtain ⟨c6, H⟩ := it_ H; have c6b0 := decide_eq_true c6; clear c6
     by_cases c7 : (rdOf ByteArray.empty l0 x5_1).toList = (rdOf ByteArray.empty l1 x5_1).toList
     ·rw [if_pos c7] at H; have c7b0 : ((rdOf ByteArray.empty l0 x5_1).toList == (rdOf ByteArray.empty l1 x5_1).toList) = true := beq_iff_eq.mpr c7; have c7b1 : ((rdOf ByteArray.empty l0 x5_1).toList != (rdOf ByteArray.empty l1 x5_1).toList) = false := bne_eq_false_iff_eq.mpr c7; clear c7; have H' := am H; clear H; have p380 : 0 ≤ (x5_1 : Int) := od_; have q380 : x5_1 < (l0.length : Int) := od_; obtain ⟨ad380, e380, hx380_0⟩ := Kd.at_string HR0.out x5_1 p380 q380; cases e380; replace p380 := eq_true p380; replace q380 := eq_true q380; have p381 : 0 ≤ (x5_1 : Int) := od_; have q381 : x5_1 < (l1.length : Int) := od_; obtain ⟨ad381, e381, hx381_0⟩ := Kd.at_string HR1.out x5_1 p381 q381; cases e381; replace p381 := eq_true p381; replace q381 := eq_true q381
      go_wp2
      repeat (go_quiet (fail); try go_wp2)
      go_roundg k1
      case measure => have := HK1.out; omega
      case rel => exact ⟨(wrap64 (x5_1 + 1)), rfl, H', ⟨by have := HK1.out; omega⟩, by repeat (first | exact Drawn0.refl _ | apply Drawn0.step)⟩
     ·rw [if_neg c7] at H; have c7b0 : ((rdOf ByteArray.empty l0 x5_1).toList == (rdOf ByteArray.empty l1 x5_1).toList) = false := beq_eq_false_iff_ne.mpr c7; have c7b1 : ((rdOf ByteArray.empty l0 x5_1).toList != (rdOf ByteArray.empty l1 x5_1).toList) = true := bne_iff_ne.mpr c7; obtain rfl := Option.some.inj H; have p380 : 0 ≤ (x5_1 : Int) := od_; have q380 : x5_1 < (l0.length : Int) := od_; obtain ⟨ad380, e380, hx380_0⟩ := Kd.at_string HR0.out x5_1 p380 q380; cases e380; replace p380 := eq_true p380; replace q380 := eq_true q380; have p381 : 0 ≤ (x5_1 : Int) := od_; have q381 : x5_1 < (l1.length : Int) := od_; obtain ⟨ad381, e381, hx381_0⟩ := Kd.at_string HR1.out x5_1 p381 q381; cases e381; replace p381 := eq_true p381; replace q381 := eq_true q381
      go_wp2
      repeat (go_quiet (fail); try go_wp2)
      go_ret
      exact ⟨by first | rfl | (simp; done) | (simp [*]; done), by repeat (first | exact Drawn0.refl _ | apply Drawn0.step)⟩
    ·rw [if_neg c4] at H; have c4b0 := decide_eq_false c4; clear c4; obtain rfl := Option.some.inj H
     go_wp2
     repeat (go_quiet (fail); try go_wp2)
     go_ret
     exact ⟨by first | rfl | (simp; done) | (simp [*]; done), by repeat (first | exact Drawn0.refl _ | apply Drawn0.step)⟩
 ·rw [if_neg c3] at H; have c3b0 : ((l0.length : Int) == (l1.length : Int)) = false := beq_eq_false_iff_ne.mpr c3; have c3b1 : ((l0.length : Int) != (l1.length : Int)) = true := bne_iff_ne.mpr c3
  have c3b2 : (l0.length == l1.length) = false := by first | simpa using c3 | (simp at c3 ⊢; omega)
  obtain rfl := Option.some.inj H
  go_enter Try.func25, Try.ntmps25
  go_wp2
  repeat (go_quiet (fail); try go_wp2)
  go_ret
  exact ⟨by first | rfl | (simp; done) | (simp [*]; done), by repeat (first | exact Drawn0.refl _ | apply Drawn0.step)⟩

end Go.Proofs.Ytimajkahadhhhaa.PFnExactSolveDrops
