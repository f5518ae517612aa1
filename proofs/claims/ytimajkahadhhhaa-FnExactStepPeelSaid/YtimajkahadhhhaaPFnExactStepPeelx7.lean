/- A law's functions as plain Lean functions, each with the walk that shows that the code computes it: written by this session's program wip/tools/ppmake.py. -/
import Derived.Test.YtimajkahadhhhaaKZ
import Derived.Test.YtimajkahadhhhaaPFnExactStepPeelx0
import Derived.Test.YtimajkahadhhhaaPFnExactStepPeelx6
namespace Go.Proofs.Ytimajkahadhhhaa.PFnExactStepPeel
open Go.RowKit Go.Proofs.YtimajkahadhhhaaW.PrintWords Go.Proofs.YtimajkahadhhhaaW.PrintLast Go.Proofs.YtimajkahadhhhaaW.PrintMore
attribute [local go_sem] max2_int min2_int max_two min_two max_three min_three max_four min_four   -- for this text's walks alone
set_option linter.unusedVariables false
set_option linter.unusedSimpArgs false

/-! ### impl_isPeel: function 55 -/
mutual
def impl_isPeel.j0 : Nat → List (S54) → Bool → List ByteArray → List Bool → Int → Option (Bool)
 | 0, _, _, _, _, _ => none
 | k + 1, x1, x21, xaa, xbb, x224002 => if x21 = true then (some false) else (impl_isPeel.l0 k x1 0 xaa (xaa.length : Int) 0 xaa xbb x224002)
def impl_isPeel.l0 : Nat → List (S54) → Int → List ByteArray → Int → Int → List ByteArray → List Bool → Int → Option (Bool)
 | 0, _, _, _, _, _, _, _, _ => none
 | k + 1, x1, x5, x23, x24, x25, xaa, xbb, x224002 => if x25 < x24 then (if 0 ≤ x25 then (if x25 < (x23.length : Int) then (if x25 < (xbb.length : Int) then (if rdOf false xbb x25 = true then (if (x1.length : Int) > 0 then (if 0 < (x1.length : Int) then (impl_isPeel.j2 k x1 x5 x25 x23 x24 x25 (((rdOf ByteArray.empty x23 x25).size : Int) != (((rd_T54 x1 0).f1).size : Int)) xaa xbb x224002) else (none)) else (impl_isPeel.j2 k x1 x5 x25 x23 x24 x25 false xaa xbb x224002)) else (if (rdOf ByteArray.empty x23 x25).toList = ([] : List UInt8) then (impl_isPeel.j2 k x1 x5 x25 x23 x24 x25 false xaa xbb x224002) else (impl_isPeel.j2 k x1 x5 x25 x23 x24 x25 true xaa xbb x224002))) else (none)) else (none)) else (none)) else (some (x224002 == x5))
def impl_isPeel.j2 : Nat → List (S54) → Int → Int → List ByteArray → Int → Int → Bool → List ByteArray → List Bool → Int → Option (Bool)
 | 0, _, _, _, _, _, _, _, _, _, _ => none
 | k + 1, x1, x5, x6, x23, x24, x25, x61, xaa, xbb, x224002 => if x61 = true then (some false) else (if 0 ≤ x6 then (if x6 < (xbb.length : Int) then (if rdOf false xbb x6 = true then (impl_isPeel.l0 k x1 (wrap64 (x5 + 1)) x23 x24 (wrap64 (x25 + 1)) xaa xbb x224002) else (impl_isPeel.l0 k x1 x5 x23 x24 (wrap64 (x25 + 1)) xaa xbb x224002)) else (none)) else (none))
end
def impl_isPeel.f (k : Nat) (l0_0 : List ByteArray) (l0_1 : List Bool) (a0_2 : Int) (l1 : List (S54)) : Option (Bool) := (impl_areBlocks.f (l0_0.length : Int)).bind fun t224 => (if t224 = true then (impl_isPeel.j0 k l1 ((l0_1.length : Int) != (l0_0.length : Int)) l0_0 l0_1 a0_2) else (impl_isPeel.j0 k l1 true l0_0 l0_1 a0_2))
theorem impl_isPeel.mono_l : ∀ k, (∀ y0 y1 y2 y3 y4, LeO (impl_isPeel.j0 k y0 y1 y2 y3 y4) (impl_isPeel.j0 (k + 1) y0 y1 y2 y3 y4)) ∧ (∀ y0 y1 y2 y3 y4 y5 y6 y7, LeO (impl_isPeel.l0 k y0 y1 y2 y3 y4 y5 y6 y7) (impl_isPeel.l0 (k + 1) y0 y1 y2 y3 y4 y5 y6 y7)) ∧ (∀ y0 y1 y2 y3 y4 y5 y6 y7 y8 y9, LeO (impl_isPeel.j2 k y0 y1 y2 y3 y4 y5 y6 y7 y8 y9) (impl_isPeel.j2 (k + 1) y0 y1 y2 y3 y4 y5 y6 y7 y8 y9))
 | 0 => ⟨fun _ _ _ _ _ r h => by simp [impl_isPeel.j0] at h, fun _ _ _ _ _ _ _ _ r h => by simp [impl_isPeel.l0] at h, fun _ _ _ _ _ _ _ _ _ _ r h => by simp [impl_isPeel.j2] at h⟩
 | k + 1 => by
  obtain ⟨ih0, ih1, ih2⟩ := impl_isPeel.mono_l k
  refine ⟨?_, ?_, ?_⟩
  ·intro y0 y1 y2 y3 y4
   unfold impl_isPeel.j0
   repeat' first | apply LeO.refl | apply LeO.none | apply LeO.ite | apply ih0 | apply ih1 | apply ih2 | (refine LeO.bind ?_ (fun _ => ?_))
  ·intro y0 y1 y2 y3 y4 y5 y6 y7
   unfold impl_isPeel.l0
   repeat' first | apply LeO.refl | apply LeO.none | apply LeO.ite | apply ih0 | apply ih1 | apply ih2 | (refine LeO.bind ?_ (fun _ => ?_))
  ·intro y0 y1 y2 y3 y4 y5 y6 y7 y8 y9
   unfold impl_isPeel.j2
   repeat' first | apply LeO.refl | apply LeO.none | apply LeO.ite | apply ih0 | apply ih1 | apply ih2 | (refine LeO.bind ?_ (fun _ => ?_))
theorem impl_isPeel.mono : ∀ a0 a1 a2 a3 k, LeO (impl_isPeel.f k a0 a1 a2 a3) (impl_isPeel.f (k + 1) a0 a1 a2 a3) := by
 intro a0 a1 a2 a3 k; obtain ⟨ih0, ih1, ih2⟩ := impl_isPeel.mono_l k
 unfold impl_isPeel.f
 repeat' first | apply LeO.refl | apply LeO.none | apply LeO.ite | apply ih0 | apply ih1 | apply ih2 | (refine LeO.bind ?_ (fun _ => ?_))
set_option maxHeartbeats 8000000 in
set_option maxRecDepth 100000 in
theorem impl_isPeel.calls (k : Nat) (A0_0 : Option Addr) (c0_0 : Nat) (l0_0 : List ByteArray) (A0_1 : Option Addr) (c0_1 : Nat) (l0_1 : List Bool) (a0_2 : Int) (A1 : Option Addr) (c1 : Nat) (l1 : List (S54)) (r : Bool) (w : World) (hr0_0 : Kd.C Kd.string w A0_0 l0_0.length l0_0) (hc0_0 : l0_0.length ≤ c0_0) (hr0_1 : Kd.C Kd.bool w A0_1 l0_1.length l0_1) (hc0_1 : l0_1.length ≤ c0_1) (hr1 : Kd.C k54 w A1 l1.length l1) (hc1 : l1.length ≤ c1) (h : impl_isPeel.f k l0_0 l0_1 a0_2 l1 = some r) :
  Calls Try.prog 55 #[.agg #[.slice A0_0 l0_0.length c0_0, .slice A0_1 l0_1.length c0_1, .int .i64 a0_2], .slice A1 l1.length c1] w fun e w' => e = .returned (.bool r) ∧ Below w.heap.size w w' := by
 have hu35 := Try.underlying35; have HR0_0 := am hr0_0; have HC0_0 := am hc0_0; clear hr0_0 hc0_0; have HR0_1 := am hr0_1; have HC0_1 := am hc0_1; clear hr0_1 hc0_1; have HR1 := am hr1; have HC1 := am hc1; clear hr1 hc1; have HB := am (Below.refl w.heap.size w); have H : ((impl_areBlocks.f (l0_0.length : Int)).bind fun t224 => (if t224 = true then (impl_isPeel.j0 k l1 ((l0_1.length : Int) != (l0_0.length : Int)) l0_0 l0_1 a0_2) else (impl_isPeel.j0 k l1 true l0_0 l0_1 a0_2))) = some r := h; clear h; have HC3 := am H; clear H
 go_enter Try.func55, Try.ntmps55
 go_upto_region 1 with (first | ((with_reducible refine gate_dst (N := 2) rfl ?_); (try (refine gate_guard (by rfl) ?_; dsimp only)); refine box_event ?hg (N := 2) ?hd (cs := #[.slice A0_0 l0_0.length c0_0, .slice A0_1 l0_1.length c0_1, .int .i64 a0_2]) (t := 35) ?hr ?_; (case hd => rfl); (case hg => rfl); (case hr => first | (go_simp; done) | (go_simp; rfl)); intro gb223 hg w4 hbox hb; have BK223 := am (hbox); have GW223 := am ((gw_ hg HB.out : w.heap.size ≤ gb223)); have GE223 := am ((gw_ hg HB.out : w.heap.size ≤ gb223)); replace HB := am (below_step (zB HB.out) hb); clear hb hbox hg))
 (try simp only [Act.put, List.setIfInBounds_toArray, List.set_cons_zero, List.set_cons_succ])
 go_cut [21] (fun v21 wc => ∃ (kq : Nat) (x21_2 : Bool), v21 = .bool x21_2 ∧ Aside0 (impl_isPeel.j0 kq l1 x21_2 l0_0 l0_1 a0_2 = some r) ∧ Aside0 (kq ≤ k) ∧ Aside0 (wc.heap[gb223]? = some (.cells #[(.slice A0_0 l0_0.length c0_0), (.slice A0_1 l0_1.length c0_1), .int .i64 a0_2] 35 (0, 0))) ∧ Aside0 (Below w.heap.size w wc))
 case first =>
  have H := HC3.out; clear HC3; obtain ⟨t224, A5, H⟩ := bi_ H
  by_cases c6 : t224 = true
  ·subst c6
   have H1 : (impl_isPeel.j0 k l1 ((l0_1.length : Int) != (l0_0.length : Int)) l0_0 l0_1 a0_2) = some r := by rw [if_pos rfl] at H; exact H
   clear H; have H := H1; clear H1; have H' := am H; clear H; have hcz7_0 : w4.cell? ⟨gb223, 0, none⟩ = some (.slice A0_0 l0_0.length c0_0) := (blk_cell BK223.out 0).trans rfl; have hcz7_1 : w4.cell? ⟨gb223, 1, none⟩ = some (.slice A0_1 l0_1.length c0_1) := (blk_cell BK223.out 1).trans rfl; have hcz7_2 : w4.cell? ⟨gb223, 2, none⟩ = some (.int .i64 a0_2) := (blk_cell BK223.out 2).trans rfl; have hfz7_0 := blk_frozen BK223.out 0; have hfz7_1 := blk_frozen BK223.out 1; have hfz7_2 := blk_frozen BK223.out 2
   go_wp2_with (first | ((with_reducible refine gate_callee (f := 48) rfl ?_); refine goL_ (some 11) Try.func48 #[.int .i64 (l0_0.length : Int)] ?_; (with_reducible refine (impl_areBlocks.calls (l0_0.length : Int) true _ A5.out).mono ?_); rintro e w' ⟨rfl, ⟨nd, rfl⟩⟩; refine ⟨_, rfl, ?_⟩))
   go_meet
   case rel => exact ⟨_, (((l0_1.length : Int) != (l0_0.length : Int))), rfl, H', ⟨by first | omega | exact Nat.le_refl _⟩, ⟨zK BK223.out⟩, ⟨zB HB.out⟩⟩
  ·replace c6 := Bool.eq_false_iff.mpr c6
   subst c6
   have H1 : (impl_isPeel.j0 k l1 true l0_0 l0_1 a0_2) = some r := by rw [if_neg (show ¬ (false = true) by decide)] at H; exact H
   clear H; have H := H1; clear H1; have H' := am H; clear H; have hcz8_0 : w4.cell? ⟨gb223, 0, none⟩ = some (.slice A0_0 l0_0.length c0_0) := (blk_cell BK223.out 0).trans rfl; have hcz8_1 : w4.cell? ⟨gb223, 1, none⟩ = some (.slice A0_1 l0_1.length c0_1) := (blk_cell BK223.out 1).trans rfl; have hcz8_2 : w4.cell? ⟨gb223, 2, none⟩ = some (.int .i64 a0_2) := (blk_cell BK223.out 2).trans rfl; have hfz8_0 := blk_frozen BK223.out 0; have hfz8_1 := blk_frozen BK223.out 1; have hfz8_2 := blk_frozen BK223.out 2
   go_wp2_with (first | ((with_reducible refine gate_callee (f := 48) rfl ?_); refine goL_ (some 11) Try.func48 #[.int .i64 (l0_0.length : Int)] ?_; (with_reducible refine (impl_areBlocks.calls (l0_0.length : Int) false _ A5.out).mono ?_); rintro e w' ⟨rfl, ⟨nd, rfl⟩⟩; refine ⟨_, rfl, ?_⟩))
   go_meet
   case rel => exact ⟨_, (true), rfl, H', ⟨by first | omega | exact Nat.le_refl _⟩, ⟨zK BK223.out⟩, ⟨zB HB.out⟩⟩
 case rest =>
  clear HC3; (try clear hfz7_0); (try clear hfz7_1); (try clear hfz7_2); (try clear hfz8_0); (try clear hfz8_1); (try clear hfz8_2); obtain ⟨kq, x21_2, rfl, HA, HJ2, BK223, HB⟩ := hcut
  cases kq with
  | zero => exact absurd HA.out (by simp [impl_isPeel.j0])
  | succ kj2 =>
   have H := HA.out; clear HA
   simp only [impl_isPeel.j0] at H
   by_cases c9 : x21_2 = true
   ·subst c9
    have H1 : (some false) = some r := by rw [if_pos rfl] at H; exact H
    clear H; have H := H1; clear H1; obtain rfl := Option.some.inj H
    go_wp2
    go_ret
    exact ⟨rfl, zB HB.out⟩
   ·replace c9 := Bool.eq_false_iff.mpr c9
    subst c9
    have H1 : (impl_isPeel.l0 kj2 l1 0 l0_0 (l0_0.length : Int) 0 l0_0 l0_1 a0_2) = some r := by rw [if_neg (show ¬ (false = true) by decide)] at H; exact H
    clear H; have H := H1; clear H1; have H' := am H; clear H; have hcz10_0 : wc.cell? ⟨gb223, 0, none⟩ = some (.slice A0_0 l0_0.length c0_0) := (blk_cell BK223.out 0).trans rfl; have hcz10_1 : wc.cell? ⟨gb223, 1, none⟩ = some (.slice A0_1 l0_1.length c0_1) := (blk_cell BK223.out 1).trans rfl; have hcz10_2 : wc.cell? ⟨gb223, 2, none⟩ = some (.int .i64 a0_2) := (blk_cell BK223.out 2).trans rfl; have hfz10_0 := blk_frozen BK223.out 0; have hfz10_1 := blk_frozen BK223.out 1; have hfz10_2 := blk_frozen BK223.out 2
    go_wp2
    go_loopg [5, 25] kj2 (fun kq v5 v25 w' => ∃ (x5_2 : Int) (x25_2 : Int), v5 = .int .i64 x5_2 ∧ v25 = .int .i64 x25_2 ∧ Aside0 (impl_isPeel.l0 kq l1 x5_2 l0_0 (l0_0.length : Int) x25_2 l0_0 l0_1 a0_2 = some r) ∧ Aside0 (kq ≤ kj2) ∧ Aside0 (w'.heap[gb223]? = some (.cells #[(.slice A0_0 l0_0.length c0_0), (.slice A0_1 l0_1.length c0_1), .int .i64 a0_2] 35 (0, 0))) ∧ Aside0 (Below w.heap.size w w'))
    case atStart => exact ⟨(0), (0), rfl, rfl, H', ⟨Nat.le_refl _⟩, ⟨zK BK223.out⟩, ⟨zB HB.out⟩⟩
    case round =>
     clear H'; (try clear hfz10_0); (try clear hfz10_1); (try clear hfz10_2); (try clear hfz7_0); (try clear hfz7_1); (try clear hfz7_2); (try clear hfz8_0); (try clear hfz8_1); (try clear hfz8_2); obtain ⟨x5_2, x25_2, rfl, rfl, HA, HK2, BK223, HB⟩ := hrel
     cases gk with
     | zero => exact absurd HA.out (by simp [impl_isPeel.l0])
     | succ k2 =>
      have H := HA.out; clear HA
      simp only [impl_isPeel.l0] at H
      by_cases c11 : x25_2 < (l0_0.length : Int)
      ·rw [if_pos c11] at H; have c11b0 := decide_eq_true c11; clear c11
       obtain ⟨c12, H⟩ := it_ H; have c12b0 := decide_eq_true c12; clear c12
       obtain ⟨c13, H⟩ := it_ H; have c13b0 := decide_eq_true c13; clear c13; have HC14 := am H; clear H; have p225 : 0 ≤ (x25_2 : Int) := od_; have q225 : x25_2 < (l0_0.length : Int) := od_; obtain ⟨ad225, e225, hx225_0⟩ := Kd.at_string HR0_0.out x25_2 p225 q225; cases e225; replace hx225_0 := (HB.out.cell (World.block_lt_of_cell? w _ hx225_0)).trans hx225_0; replace p225 := eq_true p225; replace q225 := eq_true q225
       go_upto_region 7 with (fail)
       go_cut [61] (fun v61 wc => ∃ (kq : Nat) (x61_13 : Bool), v61 = .bool x61_13 ∧ Aside0 (impl_isPeel.j2 kq l1 x5_2 x25_2 l0_0 (l0_0.length : Int) x25_2 x61_13 l0_0 l0_1 a0_2 = some r) ∧ Aside0 (kq ≤ k2) ∧ Aside0 (wc.heap[gb223]? = some (.cells #[(.slice (some ad225) l0_0.length c0_0), (.slice A0_1 l0_1.length c0_1), .int .i64 a0_2] 35 (0, 0))) ∧ Aside0 (Below w.heap.size w wc))
       case first =>
        have H := HC14.out; clear HC14
        obtain ⟨c15, H⟩ := it_ H; have c15b0 := decide_eq_true c15; clear c15
        (first | rw [c15b0] | (simp only [i64_w, i32_w]; rw [c15b0]) | skip)
        obtain ⟨bq16, hbq16⟩ : ∃ b_ : Bool, b_ = (rdOf false l0_1 x25_2) := ⟨_, rfl⟩
        replace H : (if bq16 = true then (if (l1.length : Int) > 0 then (if 0 < (l1.length : Int) then (impl_isPeel.j2 k2 l1 x5_2 x25_2 l0_0 (l0_0.length : Int) x25_2 (((rdOf ByteArray.empty l0_0 x25_2).size : Int) != (((rd_T54 l1 0).f1).size : Int)) l0_0 l0_1 a0_2) else (none)) else (impl_isPeel.j2 k2 l1 x5_2 x25_2 l0_0 (l0_0.length : Int) x25_2 false l0_0 l0_1 a0_2)) else (if (rdOf ByteArray.empty l0_0 x25_2).toList = ([] : List UInt8) then (impl_isPeel.j2 k2 l1 x5_2 x25_2 l0_0 (l0_0.length : Int) x25_2 false l0_0 l0_1 a0_2) else (impl_isPeel.j2 k2 l1 x5_2 x25_2 l0_0 (l0_0.length : Int) x25_2 true l0_0 l0_1 a0_2))) = some r := by rw [← hbq16] at H; exact H
        have Nbq16 := am hbq16; clear hbq16
        by_cases c17 : bq16 = true
        ·subst c17
         have H1 : (if (l1.length : Int) > 0 then (if 0 < (l1.length : Int) then (impl_isPeel.j2 k2 l1 x5_2 x25_2 l0_0 (l0_0.length : Int) x25_2 (((rdOf ByteArray.empty l0_0 x25_2).size : Int) != (((rd_T54 l1 0).f1).size : Int)) l0_0 l0_1 a0_2) else (none)) else (impl_isPeel.j2 k2 l1 x5_2 x25_2 l0_0 (l0_0.length : Int) x25_2 false l0_0 l0_1 a0_2)) = some r := by rw [if_pos rfl] at H; exact H
         clear H; have H := H1; clear H1
         by_cases c18 : (l1.length : Int) > 0
         ·rw [if_pos c18] at H; have c18b0 : decide (0 < (l1.length : Int)) = true := decide_eq_true c18; have c18b1 : decide (0 < l1.length) = true := decide_eq_true (by omega); clear c18
          obtain ⟨c19, H⟩ := it_ H; have c19b0 := decide_eq_true c19; have c19b1 : decide (0 < l1.length) = true := decide_eq_true (by omega); clear c19; have H' := am H; clear H; have hcz20_0 : wr.cell? ⟨gb223, 0, none⟩ = some (.slice (some ad225) l0_0.length c0_0) := (blk_cell BK223.out 0).trans rfl; have hcz20_1 : wr.cell? ⟨gb223, 1, none⟩ = some (.slice A0_1 l0_1.length c0_1) := (blk_cell BK223.out 1).trans rfl; have hcz20_2 : wr.cell? ⟨gb223, 2, none⟩ = some (.int .i64 a0_2) := (blk_cell BK223.out 2).trans rfl; have hfz20_0 := blk_frozen BK223.out 0; have hfz20_1 := blk_frozen BK223.out 1; have hfz20_2 := blk_frozen BK223.out 2; have p226 : 0 ≤ (x25_2 : Int) := od_; have q226 : x25_2 < (l0_1.length : Int) := od_; obtain ⟨ad226, e226, hx226_0⟩ := Kd.at_bool HR0_1.out x25_2 p226 q226
          (try rw [← Nbq16.out] at hx226_0)
          cases e226; replace hx226_0 := (HB.out.cell (World.block_lt_of_cell? w _ hx226_0)).trans hx226_0; replace p226 := eq_true p226; replace q226 := eq_true q226; have p227 : 0 ≤ (x25_2 : Int) := od_; have q227 : x25_2 < (l0_1.length : Int) := od_; obtain ⟨ad227, e227, hx227_0⟩ := Kd.at_bool HR0_1.out x25_2 p227 q227
          (try rw [← Nbq16.out] at hx227_0)
          obtain rfl : ad226 = ad227 := (by injection e227); replace hx227_0 := (HB.out.cell (World.block_lt_of_cell? w _ hx227_0)).trans hx227_0; replace p227 := eq_true p227; replace q227 := eq_true q227; have p228 : 0 ≤ (0 : Int) := (by omega); have q228 : 0 < (l1.length : Int) := od_; obtain ⟨ad228, e228, hx228_0, hx228_1⟩ := at_T54 HR1.out 0 p228 q228; cases e228; have qi228 : (0 < l1.length) = True := eq_true (by omega)
          (try rw [show ((0 : Int)).toNat = 0 from rfl] at hx228_0)
          (try rw [show 0 * 2 = 0 from rfl] at hx228_0)
          (try rw [Addr.add_zero'] at hx228_0)
          (try rw [show ((0 : Int)).toNat = 0 from rfl] at hx228_1)
          (try rw [show 0 * 2 = 0 from rfl] at hx228_1)
          (try rw [Addr.add_zero'] at hx228_1)
          replace hx228_0 := (HB.out.cell (World.block_lt_of_cell? w _ hx228_0)).trans hx228_0; replace hx228_1 := (HB.out.cell (World.block_lt_of_cell? w _ hx228_1)).trans hx228_1; replace p228 := eq_true p228; replace q228 := eq_true q228
          go_wp2
          go_meet
          case rel => exact ⟨_, ((((rdOf ByteArray.empty l0_0 x25_2).size : Int) != (((rd_T54 l1 0).f1).size : Int))), rfl, H', ⟨by have := HJ2.out; have := HK2.out; first | omega | exact Nat.le_refl _⟩, ⟨zK BK223.out⟩, ⟨zB HB.out⟩⟩
         ·rw [if_neg c18] at H; have c18b0 : decide (0 < (l1.length : Int)) = false := decide_eq_false c18; have c18b1 : decide (0 < l1.length) = false := decide_eq_false (by omega); clear c18; have H' := am H; clear H; have hcz21_0 : wr.cell? ⟨gb223, 0, none⟩ = some (.slice (some ad225) l0_0.length c0_0) := (blk_cell BK223.out 0).trans rfl; have hcz21_1 : wr.cell? ⟨gb223, 1, none⟩ = some (.slice A0_1 l0_1.length c0_1) := (blk_cell BK223.out 1).trans rfl; have hcz21_2 : wr.cell? ⟨gb223, 2, none⟩ = some (.int .i64 a0_2) := (blk_cell BK223.out 2).trans rfl; have hfz21_0 := blk_frozen BK223.out 0; have hfz21_1 := blk_frozen BK223.out 1; have hfz21_2 := blk_frozen BK223.out 2; have p226 : 0 ≤ (x25_2 : Int) := od_; have q226 : x25_2 < (l0_1.length : Int) := od_; obtain ⟨ad226, e226, hx226_0⟩ := Kd.at_bool HR0_1.out x25_2 p226 q226
          (try rw [← Nbq16.out] at hx226_0)
          cases e226; replace hx226_0 := (HB.out.cell (World.block_lt_of_cell? w _ hx226_0)).trans hx226_0; replace p226 := eq_true p226; replace q226 := eq_true q226; have p227 : 0 ≤ (x25_2 : Int) := od_; have q227 : x25_2 < (l0_1.length : Int) := od_; obtain ⟨ad227, e227, hx227_0⟩ := Kd.at_bool HR0_1.out x25_2 p227 q227
          (try rw [← Nbq16.out] at hx227_0)
          obtain rfl : ad226 = ad227 := (by injection e227); replace hx227_0 := (HB.out.cell (World.block_lt_of_cell? w _ hx227_0)).trans hx227_0; replace p227 := eq_true p227; replace q227 := eq_true q227
          go_wp2
          go_meet
          case rel => exact ⟨_, (false), rfl, H', ⟨by have := HJ2.out; have := HK2.out; first | omega | exact Nat.le_refl _⟩, ⟨zK BK223.out⟩, ⟨zB HB.out⟩⟩
        ·replace c17 := Bool.eq_false_iff.mpr c17
         subst c17
         have H1 : (if (rdOf ByteArray.empty l0_0 x25_2).toList = ([] : List UInt8) then (impl_isPeel.j2 k2 l1 x5_2 x25_2 l0_0 (l0_0.length : Int) x25_2 false l0_0 l0_1 a0_2) else (impl_isPeel.j2 k2 l1 x5_2 x25_2 l0_0 (l0_0.length : Int) x25_2 true l0_0 l0_1 a0_2)) = some r := by rw [if_neg (show ¬ (false = true) by decide)] at H; exact H
         clear H; have H := H1; clear H1
         by_cases c22 : (rdOf ByteArray.empty l0_0 x25_2).toList = ([] : List UInt8)
         ·rw [if_pos c22] at H; have c22b0 : ((rdOf ByteArray.empty l0_0 x25_2).toList == ([] : List UInt8)) = true := beq_iff_eq.mpr c22; have c22b1 : ((rdOf ByteArray.empty l0_0 x25_2).toList != ([] : List UInt8)) = false := bne_eq_false_iff_eq.mpr c22; clear c22; have H' := am H; clear H; have hcz23_0 : wr.cell? ⟨gb223, 0, none⟩ = some (.slice (some ad225) l0_0.length c0_0) := (blk_cell BK223.out 0).trans rfl; have hcz23_1 : wr.cell? ⟨gb223, 1, none⟩ = some (.slice A0_1 l0_1.length c0_1) := (blk_cell BK223.out 1).trans rfl; have hcz23_2 : wr.cell? ⟨gb223, 2, none⟩ = some (.int .i64 a0_2) := (blk_cell BK223.out 2).trans rfl; have hfz23_0 := blk_frozen BK223.out 0; have hfz23_1 := blk_frozen BK223.out 1; have hfz23_2 := blk_frozen BK223.out 2; have p226 : 0 ≤ (x25_2 : Int) := od_; have q226 : x25_2 < (l0_1.length : Int) := od_; obtain ⟨ad226, e226, hx226_0⟩ := Kd.at_bool HR0_1.out x25_2 p226 q226
          (try rw [← Nbq16.out] at hx226_0)
          cases e226; replace hx226_0 := (HB.out.cell (World.block_lt_of_cell? w _ hx226_0)).trans hx226_0; replace p226 := eq_true p226; replace q226 := eq_true q226; have p229 : 0 ≤ (x25_2 : Int) := od_; have q229 : x25_2 < (l0_1.length : Int) := od_; obtain ⟨ad229, e229, hx229_0⟩ := Kd.at_bool HR0_1.out x25_2 p229 q229
          (try rw [← Nbq16.out] at hx229_0)
          obtain rfl : ad226 = ad229 := (by injection e229); replace hx229_0 := (HB.out.cell (World.block_lt_of_cell? w _ hx229_0)).trans hx229_0; replace p229 := eq_true p229; replace q229 := eq_true q229
          go_wp2
          go_meet
          case rel => exact ⟨_, (false), rfl, H', ⟨by have := HJ2.out; have := HK2.out; first | omega | exact Nat.le_refl _⟩, ⟨zK BK223.out⟩, ⟨zB HB.out⟩⟩
         ·rw [if_neg c22] at H; have c22b0 : ((rdOf ByteArray.empty l0_0 x25_2).toList == ([] : List UInt8)) = false := beq_eq_false_iff_ne.mpr c22; have c22b1 : ((rdOf ByteArray.empty l0_0 x25_2).toList != ([] : List UInt8)) = true := bne_iff_ne.mpr c22; have H' := am H; clear H; have hcz24_0 : wr.cell? ⟨gb223, 0, none⟩ = some (.slice (some ad225) l0_0.length c0_0) := (blk_cell BK223.out 0).trans rfl; have hcz24_1 : wr.cell? ⟨gb223, 1, none⟩ = some (.slice A0_1 l0_1.length c0_1) := (blk_cell BK223.out 1).trans rfl; have hcz24_2 : wr.cell? ⟨gb223, 2, none⟩ = some (.int .i64 a0_2) := (blk_cell BK223.out 2).trans rfl; have hfz24_0 := blk_frozen BK223.out 0; have hfz24_1 := blk_frozen BK223.out 1; have hfz24_2 := blk_frozen BK223.out 2; have p226 : 0 ≤ (x25_2 : Int) := od_; have q226 : x25_2 < (l0_1.length : Int) := od_; obtain ⟨ad226, e226, hx226_0⟩ := Kd.at_bool HR0_1.out x25_2 p226 q226
          (try rw [← Nbq16.out] at hx226_0)
          cases e226; replace hx226_0 := (HB.out.cell (World.block_lt_of_cell? w _ hx226_0)).trans hx226_0; replace p226 := eq_true p226; replace q226 := eq_true q226
          go_wp2
          go_meet
          case rel => exact ⟨_, (true), rfl, H', ⟨by have := HJ2.out; have := HK2.out; first | omega | exact Nat.le_refl _⟩, ⟨zK BK223.out⟩, ⟨zB HB.out⟩⟩
       case rest =>
        clear HC14; (try clear hfz10_0); (try clear hfz10_1); (try clear hfz10_2); (try clear hfz20_0); (try clear hfz20_1); (try clear hfz20_2); (try clear hfz21_0); (try clear hfz21_1); (try clear hfz21_2); (try clear hfz23_0); (try clear hfz23_1); (try clear hfz23_2); (try clear hfz24_0); (try clear hfz24_1); (try clear hfz24_2); (try clear hfz7_0); (try clear hfz7_1); (try clear hfz7_2); (try clear hfz8_0); (try clear hfz8_1); (try clear hfz8_2); obtain ⟨kq, x61_13, rfl, HA, HJ13, BK223, HB⟩ := hcut
        cases kq with
        | zero => exact absurd HA.out (by simp [impl_isPeel.j2])
        | succ kj13 =>
         have H := HA.out; clear HA
         simp only [impl_isPeel.j2] at H
         by_cases c25 : x61_13 = true
         ·subst c25
          have H1 : (some false) = some r := by rw [if_pos rfl] at H; exact H
          clear H; have H := H1; clear H1; obtain rfl := Option.some.inj H
          go_wp2
          go_ret
          exact ⟨rfl, zB HB.out⟩
         ·replace c25 := Bool.eq_false_iff.mpr c25
          subst c25
          have H1 : (if 0 ≤ x25_2 then (if x25_2 < (l0_1.length : Int) then (if rdOf false l0_1 x25_2 = true then (impl_isPeel.l0 kj13 l1 (wrap64 (x5_2 + 1)) l0_0 (l0_0.length : Int) (wrap64 (x25_2 + 1)) l0_0 l0_1 a0_2) else (impl_isPeel.l0 kj13 l1 x5_2 l0_0 (l0_0.length : Int) (wrap64 (x25_2 + 1)) l0_0 l0_1 a0_2)) else (none)) else (none)) = some r := by rw [if_neg (show ¬ (false = true) by decide)] at H; exact H
          clear H; have H := H1; clear H1
          obtain ⟨c26, H⟩ := it_ H; have c26b0 := decide_eq_true c26; clear c26
          obtain ⟨c27, H⟩ := it_ H; have c27b0 := decide_eq_true c27; clear c27; obtain ⟨bq28, hbq28⟩ : ∃ b_ : Bool, b_ = (rdOf false l0_1 x25_2) := ⟨_, rfl⟩
          replace H : (if bq28 = true then (impl_isPeel.l0 kj13 l1 (wrap64 (x5_2 + 1)) l0_0 (l0_0.length : Int) (wrap64 (x25_2 + 1)) l0_0 l0_1 a0_2) else (impl_isPeel.l0 kj13 l1 x5_2 l0_0 (l0_0.length : Int) (wrap64 (x25_2 + 1)) l0_0 l0_1 a0_2)) = some r := by rw [← hbq28] at H; exact H
          have Nbq28 := am hbq28; clear hbq28
          by_cases c29 : bq28 = true
          ·subst c29
           have H1 : (impl_isPeel.l0 kj13 l1 (wrap64 (x5_2 + 1)) l0_0 (l0_0.length : Int) (wrap64 (x25_2 + 1)) l0_0 l0_1 a0_2) = some r := by rw [if_pos rfl] at H; exact H
           clear H; have H := H1; clear H1; have H' := am H; clear H; have hcz30_0 : wc.cell? ⟨gb223, 0, none⟩ = some (.slice (some ad225) l0_0.length c0_0) := (blk_cell BK223.out 0).trans rfl; have hcz30_1 : wc.cell? ⟨gb223, 1, none⟩ = some (.slice A0_1 l0_1.length c0_1) := (blk_cell BK223.out 1).trans rfl; have hcz30_2 : wc.cell? ⟨gb223, 2, none⟩ = some (.int .i64 a0_2) := (blk_cell BK223.out 2).trans rfl; have hfz30_0 := blk_frozen BK223.out 0; have hfz30_1 := blk_frozen BK223.out 1; have hfz30_2 := blk_frozen BK223.out 2; have p230 : 0 ≤ (x25_2 : Int) := od_; have q230 : x25_2 < (l0_1.length : Int) := od_; obtain ⟨ad230, e230, hx230_0⟩ := Kd.at_bool HR0_1.out x25_2 p230 q230
           (try rw [← Nbq28.out] at hx230_0)
           cases e230; replace hx230_0 := (HB.out.cell (World.block_lt_of_cell? w _ hx230_0)).trans hx230_0; replace p230 := eq_true p230; replace q230 := eq_true q230
           go_wp2
           go_roundg kj13
           case measure => have := HJ2.out; have := HK2.out; have := HJ13.out; omega
           case rel => exact ⟨(wrap64 (x5_2 + 1)), (wrap64 (x25_2 + 1)), rfl, rfl, H', ⟨by have := HJ2.out; have := HK2.out; have := HJ13.out; omega⟩, ⟨zK BK223.out⟩, ⟨zB HB.out⟩⟩
          ·replace c29 := Bool.eq_false_iff.mpr c29
           subst c29
           have H1 : (impl_isPeel.l0 kj13 l1 x5_2 l0_0 (l0_0.length : Int) (wrap64 (x25_2 + 1)) l0_0 l0_1 a0_2) = some r := by rw [if_neg (show ¬ (false = true) by decide)] at H; exact H
           clear H; have H := H1; clear H1; have H' := am H; clear H; have hcz31_0 : wc.cell? ⟨gb223, 0, none⟩ = some (.slice (some ad225) l0_0.length c0_0) := (blk_cell BK223.out 0).trans rfl; have hcz31_1 : wc.cell? ⟨gb223, 1, none⟩ = some (.slice A0_1 l0_1.length c0_1) := (blk_cell BK223.out 1).trans rfl; have hcz31_2 : wc.cell? ⟨gb223, 2, none⟩ = some (.int .i64 a0_2) := (blk_cell BK223.out 2).trans rfl; have hfz31_0 := blk_frozen BK223.out 0; have hfz31_1 := blk_frozen BK223.out 1; have hfz31_2 := blk_frozen BK223.out 2; have p230 : 0 ≤ (x25_2 : Int) := od_; have q230 : x25_2 < (l0_1.length : Int) := od_; obtain ⟨ad230, e230, hx230_0⟩ := Kd.at_bool HR0_1.out x25_2 p230 q230
           (try rw [← Nbq28.out] at hx230_0)
           cases e230; replace hx230_0 := (HB.out.cell (World.block_lt_of_cell? w _ hx230_0)).trans hx230_0; replace p230 := eq_true p230; replace q230 := eq_true q230
           go_wp2
           go_roundg kj13
           case measure => have := HJ2.out; have := HK2.out; have := HJ13.out; omega
           case rel => exact ⟨(x5_2), (wrap64 (x25_2 + 1)), rfl, rfl, H', ⟨by have := HJ2.out; have := HK2.out; have := HJ13.out; omega⟩, ⟨zK BK223.out⟩, ⟨zB HB.out⟩⟩
      ·rw [if_neg c11] at H; have c11b0 := decide_eq_false c11; clear c11; obtain rfl := Option.some.inj H; have hcz32_0 : wr.cell? ⟨gb223, 0, none⟩ = some (.slice A0_0 l0_0.length c0_0) := (blk_cell BK223.out 0).trans rfl; have hcz32_1 : wr.cell? ⟨gb223, 1, none⟩ = some (.slice A0_1 l0_1.length c0_1) := (blk_cell BK223.out 1).trans rfl; have hcz32_2 : wr.cell? ⟨gb223, 2, none⟩ = some (.int .i64 a0_2) := (blk_cell BK223.out 2).trans rfl; have hfz32_0 := blk_frozen BK223.out 0; have hfz32_1 := blk_frozen BK223.out 1; have hfz32_2 := blk_frozen BK223.out 2
       go_wp2
       go_ret
       exact ⟨rfl, zB HB.out⟩

/-! ### slices_Clone_string_string: function 56 -/
def slices_Clone_string_string.f (l0 : List ByteArray) : Option (List ByteArray) := (some (([] : List ByteArray) : List ByteArray)).bind fun y231 => (if y231.length + l0.length < 8796093022208 then (some (y231 ++ l0)) else (none))
set_option maxHeartbeats 8000000 in
set_option maxRecDepth 100000 in
theorem slices_Clone_string_string.calls (A0 : Option Addr) (c0 : Nat) (l0 : List ByteArray) (r : List ByteArray) (w : World) (hr0 : Kd.C Kd.string w A0 l0.length l0) (hc0 : l0.length ≤ c0) (h : slices_Clone_string_string.f l0 = some r) :
  Calls Try.prog 56 #[.slice A0 l0.length c0] w fun e w' => ∃ v0_ : Value, e = .returned (v0_) ∧ Kd.R Kd.string 9 w' w.heap.size (fun _ => True) v0_ r ∧ Below w.heap.size w w' := by
 have HR0 := am hr0; have HC0 := am hc0; clear hr0 hc0; have HB := am (Below.refl w.heap.size w); have H : ((some (([] : List ByteArray) : List ByteArray)).bind fun y231 => (if y231.length + l0.length < 8796093022208 then (some (y231 ++ l0)) else (none))) = some r := h; clear h; obtain ⟨y231, hy231⟩ : ∃ y_ : List ByteArray, y_ = (([] : List ByteArray)) := ⟨_, rfl⟩
 replace H : (if y231.length + l0.length < 8796093022208 then (some (y231 ++ l0)) else (none)) = some r := by first | (rw [hy231]; exact H) | (have H2_ := (Option.bind_some _ _).symm.trans H; first | exact H2_ | (rw [hy231]; exact H2_)) | exact H
 have Ny231 := am hy231; clear hy231
 obtain ⟨c2, H⟩ := it_ H; have LMc2 := am c2; clear c2; obtain ⟨y234, hy234⟩ : ∃ y_ : List ByteArray, y_ = (y231 ++ l0) := ⟨_, rfl⟩
 replace H : (some y234) = some r := by first | (rw [hy234]; exact H) | (have H2_ := (Option.bind_some _ _).symm.trans H; first | exact H2_ | (rw [hy234]; exact H2_)) | exact H
 have Ny234 := am hy234; clear hy234; obtain rfl := Option.some.inj H
 have qN_ : ∀ (w : World) (a : Option Addr) (n c n' c' : Nat), (binOp .eql 30 (.slice a n c) (.slice none n' c')).run Try.prog w = .ok (.bool a.isNone) w := fun w a n c n' c' => Lib.run_eql_slice_nil w _ _ a n c n' c' Try.underlying30
 cases A0 with
 | none =>
  have hl0 : l0 = [] := by
   cases l0 with
   | nil => rfl
   | cons a_ l_ => obtain ⟨ad_, e_, _⟩ := HR0.out.2.2 (by simp); cases e_
  subst hl0
  have hy_ := Ny231.out; have hz_ := Ny234.out; rw [hy_] at hz_; have hz2_ : y234 = [] := hz_
  go_enter Try.func56, Try.ntmps56
  go_wp2
  go_ret
  exact ⟨_, rfl, by first | exact Kd.R_nil _ _ _ _ _ | (rw [hz2_]; exact Kd.R_nil _ _ _ _ _) | exact Kd.N_nil _ _ _ _ _ | (rw [hz2_]; exact Kd.N_nil _ _ _ _ _), HB.out⟩
 | some ad0_ =>
 go_enter Try.func56, Try.ntmps56
 go_wp2_with (first | ((with_reducible refine gate_dst (N := 5) rfl ?_); refine Kd.R_lit Kd.string _ 9 ?hg (N := 5) ?hd (xs := ([] : List ByteArray)) (inner := []) (ok := fun _ => True) (okp := fun _ => True) ?hr ?hp (fun _ hk => hk) trivial (Below.refl _ _) (Nat.le_refl _) (by simp) ?_; (case hd => rfl); (case hg => rfl); (case hr => first | (go_simp; done) | (go_simp; rfl)); (case hp => exact (Reps.none _ _)); intro v232 w3 ho4 hb hg_ hnew_; clear hg_ hnew_; (first | rw [← Ny231.out] at ho4 | (simp only [Int.reduceToNat] at ho4; rw [← Ny231.out] at ho4)); have HO233 := am (Kd.R_lower ho4 (zs_ HB.out)); replace HB := am (below_step (zB HB.out) hb); clear hb ho4) | ((with_reducible refine gate_builtin (b := .append) (xs := #[.tmp 5, .tmp 6]) rfl ?_); at_builtin; refine Kd.R_append_rows Kd.string (w0 := w) w.heap.size rfl (.tmp 5) (.tmp 6) 30 9 (.string ⟨#[]⟩) 16 rfl Try.underlying30 info9 rfl (by decide) (by omega) v232 y231 l0 _ _ _ (fun _ => True) (fun _ => False) rfl rfl ?aO ?aR (fun _ _ h => h) (fun _ h => h.elim) ?aF ?aB ?aS ?aL ?_; (case aR => exact zC (Kd.C_below HR0.out HB.out)); (case aB => exact (zB HB.out)); (case aF => exact (fun _ _ => trivial)); (case aO => exact (zR HO233.out)); (case aS => exact (zs_ HB.out)); (case aL => have := LMc2.out; omega); intro v235 w5 ho hb hg hat; rw [← Ny234.out] at ho; replace HB := am (hb); have HO236 := am (ho); (try clear HO233); clear ho hb hg hat))
 go_ret
 exact ⟨_, rfl, zR HO236.out, zB HB.out⟩

/-! ### slices_Clone_bool_bool: function 57 -/
def slices_Clone_bool_bool.f (l0 : List Bool) : Option (List Bool) := (some (([] : List Bool) : List Bool)).bind fun y237 => (if y237.length + l0.length < 140737488355328 then (some (y237 ++ l0)) else (none))
set_option maxHeartbeats 8000000 in
set_option maxRecDepth 100000 in
theorem slices_Clone_bool_bool.calls (A0 : Option Addr) (c0 : Nat) (l0 : List Bool) (r : List Bool) (w : World) (hr0 : Kd.C Kd.bool w A0 l0.length l0) (hc0 : l0.length ≤ c0) (h : slices_Clone_bool_bool.f l0 = some r) :
  Calls Try.prog 57 #[.slice A0 l0.length c0] w fun e w' => ∃ v0_ : Value, e = .returned (v0_) ∧ Kd.R Kd.bool 4 w' w.heap.size (fun _ => True) v0_ r ∧ Below w.heap.size w w' := by
 have HR0 := am hr0; have HC0 := am hc0; clear hr0 hc0; have HB := am (Below.refl w.heap.size w); have H : ((some (([] : List Bool) : List Bool)).bind fun y237 => (if y237.length + l0.length < 140737488355328 then (some (y237 ++ l0)) else (none))) = some r := h; clear h; obtain ⟨y237, hy237⟩ : ∃ y_ : List Bool, y_ = (([] : List Bool)) := ⟨_, rfl⟩
 replace H : (if y237.length + l0.length < 140737488355328 then (some (y237 ++ l0)) else (none)) = some r := by first | (rw [hy237]; exact H) | (have H2_ := (Option.bind_some _ _).symm.trans H; first | exact H2_ | (rw [hy237]; exact H2_)) | exact H
 have Ny237 := am hy237; clear hy237
 obtain ⟨c2, H⟩ := it_ H; have LMc2 := am c2; clear c2; obtain ⟨y240, hy240⟩ : ∃ y_ : List Bool, y_ = (y237 ++ l0) := ⟨_, rfl⟩
 replace H : (some y240) = some r := by first | (rw [hy240]; exact H) | (have H2_ := (Option.bind_some _ _).symm.trans H; first | exact H2_ | (rw [hy240]; exact H2_)) | exact H
 have Ny240 := am hy240; clear hy240; obtain rfl := Option.some.inj H
 have qN_ : ∀ (w : World) (a : Option Addr) (n c n' c' : Nat), (binOp .eql 31 (.slice a n c) (.slice none n' c')).run Try.prog w = .ok (.bool a.isNone) w := fun w a n c n' c' => Lib.run_eql_slice_nil w _ _ a n c n' c' Try.underlying31
 cases A0 with
 | none =>
  have hl0 : l0 = [] := by
   cases l0 with
   | nil => rfl
   | cons a_ l_ => obtain ⟨ad_, e_, _⟩ := HR0.out.2.2 (by simp); cases e_
  subst hl0
  have hy_ := Ny237.out; have hz_ := Ny240.out; rw [hy_] at hz_; have hz2_ : y240 = [] := hz_
  go_enter Try.func57, Try.ntmps57
  go_wp2
  go_ret
  exact ⟨_, rfl, by first | exact Kd.R_nil _ _ _ _ _ | (rw [hz2_]; exact Kd.R_nil _ _ _ _ _) | exact Kd.N_nil _ _ _ _ _ | (rw [hz2_]; exact Kd.N_nil _ _ _ _ _), HB.out⟩
 | some ad0_ =>
 go_enter Try.func57, Try.ntmps57
 go_wp2_with (first | ((with_reducible refine gate_dst (N := 5) rfl ?_); refine Kd.R_lit Kd.bool _ 4 ?hg (N := 5) ?hd (xs := ([] : List Bool)) (inner := []) (ok := fun _ => True) (okp := fun _ => True) ?hr ?hp (fun _ hk => hk) trivial (Below.refl _ _) (Nat.le_refl _) (by simp) ?_; (case hd => rfl); (case hg => rfl); (case hr => first | (go_simp; done) | (go_simp; rfl)); (case hp => exact (Reps.none _ _)); intro v238 w3 ho4 hb hg_ hnew_; clear hg_ hnew_; (first | rw [← Ny237.out] at ho4 | (simp only [Int.reduceToNat] at ho4; rw [← Ny237.out] at ho4)); have HO239 := am (Kd.R_lower ho4 (zs_ HB.out)); replace HB := am (below_step (zB HB.out) hb); clear hb ho4) | ((with_reducible refine gate_builtin (b := .append) (xs := #[.tmp 5, .tmp 6]) rfl ?_); at_builtin; refine Kd.R_append_rows Kd.bool (w0 := w) w.heap.size rfl (.tmp 5) (.tmp 6) 31 4 (.bool false) 1 rfl Try.underlying31 info4 rfl (by decide) (by omega) v238 y237 l0 _ _ _ (fun _ => True) (fun _ => False) rfl rfl ?aO ?aR (fun _ _ h => h) (fun _ h => h.elim) ?aF ?aB ?aS ?aL ?_; (case aR => exact zC (Kd.C_below HR0.out HB.out)); (case aB => exact (zB HB.out)); (case aF => exact (fun _ _ => trivial)); (case aO => exact (zR HO239.out)); (case aS => exact (zs_ HB.out)); (case aL => have := LMc2.out; omega); intro v241 w5 ho hb hg hat; rw [← Ny240.out] at ho; replace HB := am (hb); have HO242 := am (ho); (try clear HO239); clear ho hb hg hat))
 go_ret
 exact ⟨_, rfl, zR HO242.out, zB HB.out⟩

/-! ### slices_Index_int_int: function 106 -/
def slices_Index_int_int.l0 : Nat → List Int → Int → Int → Int → Option (Int)
 | 0, _, _, _, _ => none
 | k + 1, x0, x1, x7, x8 => if x8 < x7 then (if 0 ≤ x8 then (if x8 < (x0.length : Int) then (if x1 = (rd x0 x8) then (some x8) else (slices_Index_int_int.l0 k x0 x1 x7 (wrap64 (x8 + 1)))) else (none)) else (none)) else (some (-1))
def slices_Index_int_int.f (k : Nat) (l0 : List Int) (a1 : Int) : Option (Int) := slices_Index_int_int.l0 k l0 a1 (l0.length : Int) 0
theorem slices_Index_int_int.mono_l : ∀ k, (∀ y0 y1 y2 y3, LeO (slices_Index_int_int.l0 k y0 y1 y2 y3) (slices_Index_int_int.l0 (k + 1) y0 y1 y2 y3))
 | 0 => fun _ _ _ _ r h => by simp [slices_Index_int_int.l0] at h
 | k + 1 => by
  have ih0 := slices_Index_int_int.mono_l k
  ·intro y0 y1 y2 y3
   unfold slices_Index_int_int.l0
   repeat' first | apply LeO.refl | apply LeO.none | apply LeO.ite | apply ih0 | (refine LeO.bind ?_ (fun _ => ?_))
theorem slices_Index_int_int.mono : ∀ a0 a1 k, LeO (slices_Index_int_int.f k a0 a1) (slices_Index_int_int.f (k + 1) a0 a1) := by
 intro a0 a1 k; have ih0 := slices_Index_int_int.mono_l k
 unfold slices_Index_int_int.f
 repeat' first | apply LeO.refl | apply LeO.none | apply LeO.ite | apply ih0 | (refine LeO.bind ?_ (fun _ => ?_))
set_option maxHeartbeats 8000000 in
set_option maxRecDepth 100000 in
theorem slices_Index_int_int.calls (k : Nat) (A0 : Option Addr) (c0 : Nat) (l0 : List Int) (a1 : Int) (r : Int) (w : World) (hr0 : Kd.C (Kd.int .i64) w A0 l0.length l0) (hc0 : l0.length ≤ c0) (h : slices_Index_int_int.f k l0 a1 = some r) :
  Calls Try.prog 106 #[.slice A0 l0.length c0, .int .i64 a1] w fun e w' => e = .returned (.int .i64 r) ∧ Drawn0 w w' := by
 have HR0 := am hr0; have HC0 := am hc0; clear hr0 hc0; have H : (slices_Index_int_int.l0 k l0 a1 (l0.length : Int) 0) = some r := h; clear h; have H' := am H; clear H
 go_enter Try.func106, Try.ntmps106
 go_wp2
 go_loopg [8] k (fun kq v8 w' => ∃ (x8_1 : Int), v8 = .int .i64 x8_1 ∧ Aside0 (slices_Index_int_int.l0 kq l0 a1 (l0.length : Int) x8_1 = some r) ∧ Aside0 (kq ≤ k) ∧ Drawn0 w w')
 case atStart => exact ⟨(0), rfl, H', ⟨Nat.le_refl _⟩, by repeat (first | exact Drawn0.refl _ | apply Drawn0.step)⟩
 case round =>
  clear H'; obtain ⟨x8_1, rfl, HA, HK1, ⟨m1, rfl⟩⟩ := hrel
  cases gk with
  | zero => exact absurd HA.out (by simp [slices_Index_int_int.l0])
  | succ k1 =>
   have H := HA.out; clear HA
   simp only [slices_Index_int_int.l0] at H
   by_cases c3 : x8_1 < (l0.length : Int)
   ·rw [if_pos c3] at H; have c3b0 := decide_eq_true c3; clear c3
    obtain ⟨c4, H⟩ := it_ H; have c4b0 := decide_eq_true c4; clear c4
    obtain ⟨c5, H⟩ := it_ H; have c5b0 := decide_eq_true c5; clear c5
    by_cases c6 : a1 = (rd l0 x8_1)
    ·rw [if_pos c6] at H; have c6b0 : (a1 == (rd l0 x8_1)) = true := beq_iff_eq.mpr c6; have c6b1 : (a1 != (rd l0 x8_1)) = false := bne_eq_false_iff_eq.mpr c6; clear c6; obtain rfl := Option.some.inj H; have p243 : 0 ≤ (x8_1 : Int) := od_; have q243 : x8_1 < (l0.length : Int) := od_; obtain ⟨ad243, e243, hx243_0⟩ := Kd.at_int HR0.out x8_1 p243 q243; cases e243; replace p243 := eq_true p243; replace q243 := eq_true q243
     go_wp2
     go_ret
     exact ⟨by first | rfl | (simp; done) | (simp [*]; done), by repeat (first | exact Drawn0.refl _ | apply Drawn0.step)⟩
    ·rw [if_neg c6] at H; have c6b0 : (a1 == (rd l0 x8_1)) = false := beq_eq_false_iff_ne.mpr c6; have c6b1 : (a1 != (rd l0 x8_1)) = true := bne_iff_ne.mpr c6; have H' := am H; clear H; have p243 : 0 ≤ (x8_1 : Int) := od_; have q243 : x8_1 < (l0.length : Int) := od_; obtain ⟨ad243, e243, hx243_0⟩ := Kd.at_int HR0.out x8_1 p243 q243; cases e243; replace p243 := eq_true p243; replace q243 := eq_true q243
     go_wp2
     go_roundg k1
     case measure => have := HK1.out; omega
     case rel => exact ⟨(wrap64 (x8_1 + 1)), rfl, H', ⟨by have := HK1.out; omega⟩, by repeat (first | exact Drawn0.refl _ | apply Drawn0.step)⟩
   ·rw [if_neg c3] at H; have c3b0 := decide_eq_false c3; clear c3; obtain rfl := Option.some.inj H
    go_wp2
    go_ret
    exact ⟨by first | rfl | (simp; done) | (simp [*]; done), by repeat (first | exact Drawn0.refl _ | apply Drawn0.step)⟩

/-! ### slices_Contains_int_int: function 92 -/
def slices_Contains_int_int.f (k : Nat) (l0 : List Int) (a1 : Int) : Option (Bool) := (slices_Index_int_int.f k l0 a1).bind fun t244 => (some (decide (t244 ≥ 0)))
theorem slices_Contains_int_int.mono : ∀ a0 a1 k, LeO (slices_Contains_int_int.f k a0 a1) (slices_Contains_int_int.f (k + 1) a0 a1) := by
 intro a0 a1 k
 unfold slices_Contains_int_int.f
 repeat' first | apply LeO.refl | apply LeO.none | apply LeO.ite | apply slices_Index_int_int.mono | (refine LeO.bind ?_ (fun _ => ?_))
set_option maxHeartbeats 8000000 in
set_option maxRecDepth 100000 in
theorem slices_Contains_int_int.calls (k : Nat) (A0 : Option Addr) (c0 : Nat) (l0 : List Int) (a1 : Int) (r : Bool) (w : World) (hr0 : Kd.C (Kd.int .i64) w A0 l0.length l0) (hc0 : l0.length ≤ c0) (h : slices_Contains_int_int.f k l0 a1 = some r) :
  Calls Try.prog 92 #[.slice A0 l0.length c0, .int .i64 a1] w fun e w' => e = .returned (.bool r) ∧ Drawn0 w w' := by
 have HR0 := am hr0; have HC0 := am hc0; clear hr0 hc0; have H : ((slices_Index_int_int.f k l0 a1).bind fun t244 => (some (decide (t244 ≥ 0)))) = some r := h; clear h; obtain ⟨t244, A3, H⟩ := bi_ H; obtain rfl := Option.some.inj H
 go_enter Try.func92, Try.ntmps92
 go_wp2_with (first | ((with_reducible refine gate_callee (f := 106) rfl ?_); refine goL_ (some 7) Try.func106 #[.slice A0 l0.length c0, .int .i64 a1] ?_; (with_reducible refine (slices_Index_int_int.calls k _ _ l0 a1 t244 _ ?side1 ?side2 A3.out).mono ?_); (case side1 => exact zC HR0.out); (case side2 => exact HC0.out); rintro e w' ⟨rfl, ⟨nd, rfl⟩⟩; refine ⟨_, rfl, ?_⟩))
 go_ret
 exact ⟨by first | rfl | (simp; done) | (simp [*]; done), by repeat (first | exact Drawn0.refl _ | apply Drawn0.step)⟩

end Go.Proofs.Ytimajkahadhhhaa.PFnExactStepPeel
