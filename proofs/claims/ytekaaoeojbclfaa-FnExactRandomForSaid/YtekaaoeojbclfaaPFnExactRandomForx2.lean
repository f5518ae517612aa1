/- A law's functions as plain Lean functions, each with the walk that shows that the code computes it: written by this session's program wip/tools/ppmake.py. -/
import Derived.Test.YtekaaoeojbclfaaKZ
import Derived.Test.YtekaaoeojbclfaaPFnExactRandomForx0
namespace Go.Proofs.Ytekaaoeojbclfaa.PFnExactRandomFor
open Go.RowKit Go.Proofs.YtekaaoeojbclfaaW.PrintWords Go.Proofs.YtekaaoeojbclfaaW.PrintLast Go.Proofs.YtekaaoeojbclfaaW.PrintMore
attribute [local go_sem] max2_int min2_int max_two min_two max_three min_three max_four min_four   -- for this text's walks alone
set_option linter.unusedVariables false
set_option linter.unusedSimpArgs false

/-! ### laws_markByteS: function 36 -/
def laws_markByteS.l0 : Nat → List Int → Int → Int → Option (Int × List Int)
 | 0, _, _, _ => none
 | k + 1, x0, x1, x5 => if x5 < (x0.length : Int) then (if 0 ≤ x5 then (laws_markByteS.l0 k (x0.set (x5 : Int).toNat ((x1) % 256)) (wrap64 (x1 + 1)) (wrap64 (x5 + 1))) else (none)) else (some (x1, x0))
def laws_markByteS.f (k : Nat) (l0 : List Int) (a1 : Int) : Option (Int × List Int) := laws_markByteS.l0 k l0 a1 0
theorem laws_markByteS.mono_l : ∀ k, (∀ y0 y1 y2, LeO (laws_markByteS.l0 k y0 y1 y2) (laws_markByteS.l0 (k + 1) y0 y1 y2))
 | 0 => fun _ _ _ r h => by simp [laws_markByteS.l0] at h
 | k + 1 => by
  have ih0 := laws_markByteS.mono_l k
  ·intro y0 y1 y2
   unfold laws_markByteS.l0
   repeat' first | apply LeO.refl | apply LeO.none | apply LeO.ite | apply ih0 | (refine LeO.bind ?_ (fun _ => ?_))
theorem laws_markByteS.mono : ∀ a0 a1 k, LeO (laws_markByteS.f k a0 a1) (laws_markByteS.f (k + 1) a0 a1) := by
 intro a0 a1 k; have ih0 := laws_markByteS.mono_l k
 unfold laws_markByteS.f
 repeat' first | apply LeO.refl | apply LeO.none | apply LeO.ite | apply ih0 | (refine LeO.bind ?_ (fun _ => ?_))
set_option maxHeartbeats 8000000 in
set_option maxRecDepth 100000 in
theorem laws_markByteS.calls (k : Nat) (P0_ : Nat → Prop) (u9000_ : Value) (l0 : List Int) (a1 : Int) (r1 : Int) (r2 : List Int) (w0 w : World) (hB : Below w0.heap.size w0 w) (ho0 : Kd.R (Kd.int .u8) 5 w w0.heap.size P0_ u9000_ l0) (h : laws_markByteS.f k l0 a1 = some (r1, r2)) :
  Calls Try.prog 36 #[u9000_, .int .i64 a1] w fun e w' => e = .returned (.int .i64 r1) ∧ Kd.R (Kd.int .u8) 5 w' w0.heap.size (fun k_ => (P0_ k_ ∨ w.heap.size ≤ k_)) u9000_ r2 ∧ Below w0.heap.size w0 w' ∧ Kept w w' (fun k_ => P0_ k_) := by
 have HO0 := am (show Kd.R (Kd.int .u8) 5 w w0.heap.size (fun k_ => (P0_ k_ ∨ w.heap.size ≤ k_)) u9000_ l0 from Kd.R_mono ho0 (fun k_ hk => (.inl hk))); have HK := am (Kept.refl w (fun k_ => P0_ k_)); have HW0 := am hB.size; have HB := am hB; clear hB; have H : (laws_markByteS.l0 k l0 a1 0) = some (r1, r2) := h; clear h; have H' := am H; clear H
 go_enter Try.func36, Try.ntmps36
 go_wp2
 go_loopg [1, 5] k (fun kq v1 v5 w' => ∃ (x0_1 : List Int) (x1_1 : Int) (x5_1 : Int), v1 = .int .i64 x1_1 ∧ v5 = .int .i64 x5_1 ∧ Aside0 (laws_markByteS.l0 kq x0_1 x1_1 x5_1 = some (r1, r2)) ∧ Aside0 (kq ≤ k) ∧ Aside0 (Kd.R (Kd.int .u8) 5 w' w0.heap.size (fun k_ => (P0_ k_ ∨ w.heap.size ≤ k_)) u9000_ x0_1) ∧ Aside0 (Kept w w' (fun k_ => P0_ k_)) ∧ Aside0 (Below w0.heap.size w0 w'))
 case atStart => exact ⟨(l0), (a1), (0), rfl, rfl, H', ⟨Nat.le_refl _⟩, ⟨zR HO0.out⟩, ⟨by repeat (first | (with_reducible first | exact HK.out | apply Kept.alloc | apply Kept.drewN | apply Kept.drew) | exact HK.out)⟩, ⟨zB HB.out⟩⟩
 case round =>
  clear H'; obtain ⟨x0_1, x1_1, x5_1, rfl, rfl, HA, HK1, HO_0, HK, HB⟩ := hrel
  cases gk with
  | zero => exact absurd HA.out (by simp [laws_markByteS.l0])
  | succ k1 =>
   have H := HA.out; clear HA
   simp only [laws_markByteS.l0] at H
   by_cases c3 : x5_1 < (x0_1.length : Int)
   ·rw [if_pos c3] at H; have c3b0 := decide_eq_true c3; clear c3
    obtain ⟨c4, H⟩ := it_ H; have c4b0 := decide_eq_true c4; clear c4; obtain ⟨y120, hy120⟩ : ∃ y_ : List Int, y_ = (x0_1.set (x5_1 : Int).toNat ((x1_1) % 256)) := ⟨_, rfl⟩
    replace H : (laws_markByteS.l0 k1 y120 (wrap64 (x1_1 + 1)) (wrap64 (x5_1 + 1))) = some (r1, r2) := by first | (rw [hy120]; exact H) | (have H2_ := (Option.bind_some _ _).symm.trans H; first | exact H2_ | (rw [hy120]; exact H2_)) | exact H
    have Ny120 := am hy120; clear hy120; have H' := am H; clear H; obtain ⟨Ao6, co6, eo6⟩ := Kd.R_slice HO_0.out
    subst eo6
    have p5 : 0 ≤ (x5_1 : Int) := of_decide_eq_true (by with_reducible assumption); have q5 : (x5_1 : Int) < ((x0_1.length : Int) : Int) := of_decide_eq_true (by with_reducible assumption); obtain ⟨go5, co5, eo5, gb5, gl5, cl5, HG5⟩ := Kd.R_form HO_0.out (by omega)
    (first | cases eo5 | (injection eo5 with ea_ en_ ec_; (first | subst ea_ | (injection ea_ with ea_; subst ea_)); subst ec_; clear en_))
    have GB5 := am gb5; have GG5 := am HG5; clear gb5 gl5 HG5; have HMgo5 := am (show (P0_ go5 ∨ w.heap.size ≤ go5) from (HO_0.out.1 _ rfl)); obtain ⟨hx5_0, hf5_0⟩ := Kd.R_celln 0 HO_0.out (x5_1 : Int) p5 q5; replace p5 := eq_true p5; replace q5 := eq_true q5; have HP7 := Kd.R_putg HO_0.out (x5_1 : Int) ((x1_1) % 256)
    go_wp2_with (first | ((with_reducible refine gate_store (t := 5) (p := 16) rfl ?_); refine store_event (t := 5) (p := 16) (v := ?vo_w8) (w1 := (wr.setCell ⟨go5, (x5_1 : Int).toNat, none⟩ (.int .u8 ((x1_1) % 256)))) ?hg ?ho ?hn ?hr ?_; (case ho => rfl); (case hg => rfl); (case hn => rfl); (case hr => first | (go_simp; done) | (go_simp; rfl)); intro w8 hw; have hg : wr.grownBy w8 (some go5) := (by rw [hw]; exact HP7.2); have hp_ : Kd.R (Kd.int .u8) 5 w8 w0.heap.size (fun k_ => (P0_ k_ ∨ w.heap.size ≤ k_)) (.slice (some ⟨go5, 0, none⟩) x0_1.length co6) y120 := (by rw [hw, Ny120.out]; exact HP7.1); clear HP7; replace HB := am ((by rw [hw]; exact below_set (HB.out) GB5.out : Below w0.heap.size w0 w8)); replace HK := am (Kept.of_grown (S := (fun k_ => P0_ k_)) hg (by repeat (first | (with_reducible first | exact HK.out | apply Kept.alloc | apply Kept.drewN | apply Kept.drew) | exact HK.out)) (fun k_ e_ => (HO_0.out.1 k_ e_))); replace HO_0 := am (hp_); clear hg hw hp_))
    go_roundg k1
    case measure => have := HK1.out; omega
    case rel => exact ⟨(y120), (wrap64 (x1_1 + 1)), (wrap64 (x5_1 + 1)), rfl, rfl, H', ⟨by have := HK1.out; omega⟩, ⟨zR HO_0.out⟩, ⟨by repeat (first | (with_reducible first | exact HK.out | apply Kept.alloc | apply Kept.drewN | apply Kept.drew) | exact HK.out)⟩, ⟨zB HB.out⟩⟩
   ·rw [if_neg c3] at H; have c3b0 := decide_eq_false c3; clear c3
    simp only [Option.some.injEq, Prod.mk.injEq] at H
    obtain ⟨rfl, rfl⟩ := H; obtain ⟨Ao9, co9, eo9⟩ := Kd.R_slice HO_0.out
    subst eo9
    go_wp2
    go_ret
    exact ⟨rfl, zR HO_0.out, zB HB.out, by repeat (first | (with_reducible first | exact HK.out | apply Kept.alloc | apply Kept.drewN | apply Kept.drew) | exact HK.out)⟩

/-! ### spec_l7Shares: function 74 -/
def spec_l7Shares.l0 : Nat → List (S61) → List (S61) → Int → Int → Option (Bool)
 | 0, _, _, _, _ => none
 | k + 1, x0, x5, x6, x7 => if x7 < x6 then (if 0 ≤ x7 then (if x7 < (x5.length : Int) then (if ((rd_T61 x5 x7).f0) = 0 then (some false) else (if x7 > 0 then (if 0 ≤ (wrap64 (x7 - 1)) then (if (wrap64 (x7 - 1)) < (x0.length : Int) then (if ((rd_T61 x0 (wrap64 (x7 - 1))).f0) ≥ ((rd_T61 x5 x7).f0) then (some false) else (spec_l7Shares.l0 k x0 x5 x6 (wrap64 (x7 + 1)))) else (none)) else (none)) else (spec_l7Shares.l0 k x0 x5 x6 (wrap64 (x7 + 1))))) else (none)) else (none)) else (some (decide ((x0.length : Int) ≤ 20)))
def spec_l7Shares.f (k : Nat) (l0 : List (S61)) : Option (Bool) := spec_l7Shares.l0 k l0 l0 (l0.length : Int) 0
theorem spec_l7Shares.mono_l : ∀ k, (∀ y0 y1 y2 y3, LeO (spec_l7Shares.l0 k y0 y1 y2 y3) (spec_l7Shares.l0 (k + 1) y0 y1 y2 y3))
 | 0 => fun _ _ _ _ r h => by simp [spec_l7Shares.l0] at h
 | k + 1 => by
  have ih0 := spec_l7Shares.mono_l k
  ·intro y0 y1 y2 y3
   unfold spec_l7Shares.l0
   repeat' first | apply LeO.refl | apply LeO.none | apply LeO.ite | apply ih0 | (refine LeO.bind ?_ (fun _ => ?_))
theorem spec_l7Shares.mono : ∀ a0 k, LeO (spec_l7Shares.f k a0) (spec_l7Shares.f (k + 1) a0) := by
 intro a0 k; have ih0 := spec_l7Shares.mono_l k
 unfold spec_l7Shares.f
 repeat' first | apply LeO.refl | apply LeO.none | apply LeO.ite | apply ih0 | (refine LeO.bind ?_ (fun _ => ?_))
set_option maxHeartbeats 8000000 in
set_option maxRecDepth 100000 in
theorem spec_l7Shares.calls (k : Nat) (A0 : Option Addr) (c0 : Nat) (l0 : List (S61)) (r : Bool) (w : World) (hr0 : Kd.C k61 w A0 l0.length l0) (hc0 : l0.length ≤ c0) (h : spec_l7Shares.f k l0 = some r) :
  Calls Try.prog 74 #[.slice A0 l0.length c0] w fun e w' => e = .returned (.bool r) ∧ Below w.heap.size w w' := by
 have hu61 := Try.underlying61; have HR0 := am hr0; have HC0 := am hc0; clear hr0 hc0; have HB := am (Below.refl w.heap.size w); have H : (spec_l7Shares.l0 k l0 l0 (l0.length : Int) 0) = some r := h; clear h; have H' := am H; clear H
 go_enter Try.func74, Try.ntmps74
 go_wp2
 repeat (go_quiet (fail); try go_wp2)
 go_loopg [7] k (fun kq v7 w' => ∃ (x7_1 : Int), v7 = .int .i64 x7_1 ∧ Aside0 (spec_l7Shares.l0 kq l0 l0 (l0.length : Int) x7_1 = some r) ∧ Aside0 (kq ≤ k) ∧ Aside0 (Below w.heap.size w w'))
 case atStart => exact ⟨(0), rfl, H', ⟨Nat.le_refl _⟩, ⟨zB HB.out⟩⟩
 case round =>
  clear H'; obtain ⟨x7_1, rfl, HA, HK1, HB⟩ := hrel
  cases gk with
  | zero => exact absurd HA.out (by simp [spec_l7Shares.l0])
  | succ k1 =>
   have H := HA.out; clear HA
   simp only [spec_l7Shares.l0] at H
   by_cases c2 : x7_1 < (l0.length : Int)
   ·rw [if_pos c2] at H; have c2b0 := decide_eq_true c2; clear c2
    obtain ⟨c3, H⟩ := it_ H; have c3b0 := decide_eq_true c3; clear c3
    obtain ⟨c4, H⟩ := it_ H; have c4b0 := decide_eq_true c4; clear c4
    by_cases c5 : ((rd_T61 l0 x7_1).f0) = 0
    ·rw [if_pos c5] at H; have c5b0 : (((rd_T61 l0 x7_1).f0) == 0) = true := beq_iff_eq.mpr c5; have c5b1 : (((rd_T61 l0 x7_1).f0) != 0) = false := bne_eq_false_iff_eq.mpr c5; clear c5; obtain rfl := Option.some.inj H; have p121 : 0 ≤ (x7_1 : Int) := of_decide_eq_true (by with_reducible assumption); have q121 : x7_1 < (l0.length : Int) := of_decide_eq_true (by with_reducible assumption); obtain ⟨ad121, e121, hx121_0, hx121_1⟩ := at_T61 HR0.out x7_1 p121 q121; cases e121; replace hx121_0 := (HB.out.cell (World.block_lt_of_cell? w _ hx121_0)).trans hx121_0; replace hx121_1 := (HB.out.cell (World.block_lt_of_cell? w _ hx121_1)).trans hx121_1; replace p121 := eq_true p121; replace q121 := eq_true q121
     go_wp2_with (first | ((with_reducible refine gate_dst (N := 4) rfl ?_); refine box_event ?hg (N := 4) ?hd (cs := #[.int .u8 0, .int .u8 0]) (t := 61) ?hr ?_; (case hd => rfl); (case hg => rfl); (case hr => first | (go_simp; done) | (go_simp; rfl)); intro gb122 hg w6 hbox hb; have BK122 := am (hbox); have GW122 := am ((gw_ hg HB.out : w.heap.size ≤ gb122)); have GE122 := am ((gw_ hg HB.out : w.heap.size ≤ gb122)); replace HB := am (below_step (zB HB.out) hb); clear hb hbox hg; have hcz7_0 : w6.cell? ⟨gb122, 0, none⟩ = some (.int .u8 0) := (blk_cell BK122.out 0).trans rfl; have hcz7_1 : w6.cell? ⟨gb122, 1, none⟩ = some (.int .u8 0) := (blk_cell BK122.out 1).trans rfl; have hfz7_0 := blk_frozen BK122.out 0; have hfz7_1 := blk_frozen BK122.out 1))
     repeat (go_quiet (first | ((with_reducible refine gate_dst (N := 4) rfl ?_); refine box_event ?hg (N := 4) ?hd (cs := #[.int .u8 0, .int .u8 0]) (t := 61) ?hr ?_; (case hd => rfl); (case hg => rfl); (case hr => first | (go_simp; done) | (go_simp; rfl)); intro gb122 hg w6 hbox hb; have BK122 := am (hbox); have GW122 := am ((gw_ hg HB.out : w.heap.size ≤ gb122)); have GE122 := am ((gw_ hg HB.out : w.heap.size ≤ gb122)); replace HB := am (below_step (zB HB.out) hb); clear hb hbox hg; have hcz7_0 : w6.cell? ⟨gb122, 0, none⟩ = some (.int .u8 0) := (blk_cell BK122.out 0).trans rfl; have hcz7_1 : w6.cell? ⟨gb122, 1, none⟩ = some (.int .u8 0) := (blk_cell BK122.out 1).trans rfl; have hfz7_0 := blk_frozen BK122.out 0; have hfz7_1 := blk_frozen BK122.out 1)); try go_wp2_with (first | ((with_reducible refine gate_dst (N := 4) rfl ?_); refine box_event ?hg (N := 4) ?hd (cs := #[.int .u8 0, .int .u8 0]) (t := 61) ?hr ?_; (case hd => rfl); (case hg => rfl); (case hr => first | (go_simp; done) | (go_simp; rfl)); intro gb122 hg w6 hbox hb; have BK122 := am (hbox); have GW122 := am ((gw_ hg HB.out : w.heap.size ≤ gb122)); have GE122 := am ((gw_ hg HB.out : w.heap.size ≤ gb122)); replace HB := am (below_step (zB HB.out) hb); clear hb hbox hg; have hcz7_0 : w6.cell? ⟨gb122, 0, none⟩ = some (.int .u8 0) := (blk_cell BK122.out 0).trans rfl; have hcz7_1 : w6.cell? ⟨gb122, 1, none⟩ = some (.int .u8 0) := (blk_cell BK122.out 1).trans rfl; have hfz7_0 := blk_frozen BK122.out 0; have hfz7_1 := blk_frozen BK122.out 1)))
     go_ret
     exact ⟨by first | rfl | (simp [errW_none, errW_some] <;> rfl) | (simp [*, errW_none, errW_some] <;> rfl), by repeat (first | (with_reducible first | exact HB.out | apply below_alloc | apply pw_below_drewN | apply below_drew1 | refine below_set ?_ GE122.out) | exact HB.out)⟩
    ·rw [if_neg c5] at H; have c5b0 : (((rd_T61 l0 x7_1).f0) == 0) = false := beq_eq_false_iff_ne.mpr c5; have c5b1 : (((rd_T61 l0 x7_1).f0) != 0) = true := bne_iff_ne.mpr c5
     by_cases c8 : x7_1 > 0
     ·rw [if_pos c8] at H; have c8b0 : decide (0 < x7_1) = true := decide_eq_true c8; clear c8; obtain ⟨ji9, hji9⟩ : ∃ j_ : Int, (wrap64 (x7_1 - 1)) = j_ := ⟨_, rfl⟩
      replace H : (if 0 ≤ (ji9) then (if (ji9) < (l0.length : Int) then (if ((rd_T61 l0 (ji9)).f0) ≥ ((rd_T61 l0 x7_1).f0) then (some false) else (spec_l7Shares.l0 k1 l0 l0 (l0.length : Int) (wrap64 (x7_1 + 1)))) else (none)) else (none)) = some r := by first | (rw [hji9] at H; exact H) | (simp only [hji9] at H ⊢; exact H)
      have hji9w : (IntKind.i64.wrap (x7_1 - 1)) = ji9 := (i64_w _).trans hji9
      obtain ⟨c10, H⟩ := it_ H; have c10b0 := decide_eq_true c10; clear c10
      obtain ⟨c11, H⟩ := it_ H; have c11b0 := decide_eq_true c11; clear c11
      by_cases c12 : ((rd_T61 l0 (ji9)).f0) ≥ ((rd_T61 l0 x7_1).f0)
      ·rw [if_pos c12] at H; have c12b0 : decide (((rd_T61 l0 x7_1).f0) ≤ ((rd_T61 l0 (ji9)).f0)) = true := decide_eq_true c12; clear c12; obtain rfl := Option.some.inj H; have p121 : 0 ≤ (x7_1 : Int) := of_decide_eq_true (by with_reducible assumption); have q121 : x7_1 < (l0.length : Int) := of_decide_eq_true (by with_reducible assumption); obtain ⟨ad121, e121, hx121_0, hx121_1⟩ := at_T61 HR0.out x7_1 p121 q121; cases e121; replace hx121_0 := (HB.out.cell (World.block_lt_of_cell? w _ hx121_0)).trans hx121_0; replace hx121_1 := (HB.out.cell (World.block_lt_of_cell? w _ hx121_1)).trans hx121_1; replace p121 := eq_true p121; replace q121 := eq_true q121
       go_wp2_with (first | ((with_reducible refine gate_dst (N := 4) rfl ?_); refine box_event ?hg (N := 4) ?hd (cs := #[.int .u8 0, .int .u8 0]) (t := 61) ?hr ?_; (case hd => rfl); (case hg => rfl); (case hr => first | (go_simp; done) | (go_simp; rfl)); intro gb122 hg w13 hbox hb; have BK122 := am (hbox); have GW122 := am ((gw_ hg HB.out : w.heap.size ≤ gb122)); have GE122 := am ((gw_ hg HB.out : w.heap.size ≤ gb122)); replace HB := am (below_step (zB HB.out) hb); clear hb hbox hg; have hcz14_0 : w13.cell? ⟨gb122, 0, none⟩ = some (.int .u8 0) := (blk_cell BK122.out 0).trans rfl; have hcz14_1 : w13.cell? ⟨gb122, 1, none⟩ = some (.int .u8 0) := (blk_cell BK122.out 1).trans rfl; have hfz14_0 := blk_frozen BK122.out 0; have hfz14_1 := blk_frozen BK122.out 1; have p123 : 0 ≤ ((ji9) : Int) := of_decide_eq_true (by with_reducible assumption); have q123 : (ji9) < (l0.length : Int) := of_decide_eq_true (by with_reducible assumption); obtain ⟨ad123, e123, hx123_0, hx123_1⟩ := at_T61 HR0.out (ji9) p123 q123; obtain rfl : ad121 = ad123 := (by injection e123); have hn123_0 : ad121.block ≠ gb122 := Nat.ne_of_lt (Nat.lt_of_lt_of_le (by have := World.block_lt_of_cell? _ _ hx123_0; first | rwa [add_block] at this | exact this) GW122.out); have hn123_1 : ad121.block ≠ gb122 := Nat.ne_of_lt (Nat.lt_of_lt_of_le (by have := World.block_lt_of_cell? _ _ hx123_0; first | rwa [add_block] at this | exact this) GW122.out); replace hx123_0 := (HB.out.cell (World.block_lt_of_cell? w _ hx123_0)).trans hx123_0; replace hx123_1 := (HB.out.cell (World.block_lt_of_cell? w _ hx123_1)).trans hx123_1; replace hx123_0 := (cell_far (p := ⟨gb122, 0, none⟩) (by first | (rw [add_block]; exact hn123_0) | (show (Addr.add _ _).block ≠ _; rw [add_block]; exact hn123_0) | exact hn123_0) (.int .u8 ((rd_T61 l0 x7_1).f0))).trans hx123_0; replace hx123_1 := (cell_far (p := ⟨gb122, 0, none⟩) (by first | (rw [add_block]; exact hn123_0) | (show (Addr.add _ _).block ≠ _; rw [add_block]; exact hn123_0) | exact hn123_0) (.int .u8 ((rd_T61 l0 x7_1).f0))).trans hx123_1; replace hx123_0 := (cell_far (p := ⟨gb122, 1, none⟩) (by first | (rw [add_block]; exact hn123_1) | (show (Addr.add _ _).block ≠ _; rw [add_block]; exact hn123_1) | exact hn123_1) (.int .u8 ((rd_T61 l0 x7_1).f1))).trans hx123_0; replace hx123_1 := (cell_far (p := ⟨gb122, 1, none⟩) (by first | (rw [add_block]; exact hn123_1) | (show (Addr.add _ _).block ≠ _; rw [add_block]; exact hn123_1) | exact hn123_1) (.int .u8 ((rd_T61 l0 x7_1).f1))).trans hx123_1; (try have hy123_0 := fun (n_ : Nat) => (show ((((w13.drewN n_).setCell ⟨gb122, 0, none⟩ (.int .u8 ((rd_T61 l0 x7_1).f0))).setCell ⟨gb122, 1, none⟩ (.int .u8 ((rd_T61 l0 x7_1).f1)))).cell? _ = some _ from hx123_0)); (try have hy123_1 := fun (n_ : Nat) => (show ((((w13.drewN n_).setCell ⟨gb122, 0, none⟩ (.int .u8 ((rd_T61 l0 x7_1).f0))).setCell ⟨gb122, 1, none⟩ (.int .u8 ((rd_T61 l0 x7_1).f1)))).cell? _ = some _ from hx123_1)); clear hn123_0; clear hn123_1; replace p123 := eq_true p123; replace q123 := eq_true q123))
       repeat (go_quiet (first | ((with_reducible refine gate_dst (N := 4) rfl ?_); refine box_event ?hg (N := 4) ?hd (cs := #[.int .u8 0, .int .u8 0]) (t := 61) ?hr ?_; (case hd => rfl); (case hg => rfl); (case hr => first | (go_simp; done) | (go_simp; rfl)); intro gb122 hg w13 hbox hb; have BK122 := am (hbox); have GW122 := am ((gw_ hg HB.out : w.heap.size ≤ gb122)); have GE122 := am ((gw_ hg HB.out : w.heap.size ≤ gb122)); replace HB := am (below_step (zB HB.out) hb); clear hb hbox hg; have hcz14_0 : w13.cell? ⟨gb122, 0, none⟩ = some (.int .u8 0) := (blk_cell BK122.out 0).trans rfl; have hcz14_1 : w13.cell? ⟨gb122, 1, none⟩ = some (.int .u8 0) := (blk_cell BK122.out 1).trans rfl; have hfz14_0 := blk_frozen BK122.out 0; have hfz14_1 := blk_frozen BK122.out 1; have p123 : 0 ≤ ((ji9) : Int) := of_decide_eq_true (by with_reducible assumption); have q123 : (ji9) < (l0.length : Int) := of_decide_eq_true (by with_reducible assumption); obtain ⟨ad123, e123, hx123_0, hx123_1⟩ := at_T61 HR0.out (ji9) p123 q123; obtain rfl : ad121 = ad123 := (by injection e123); have hn123_0 : ad121.block ≠ gb122 := Nat.ne_of_lt (Nat.lt_of_lt_of_le (by have := World.block_lt_of_cell? _ _ hx123_0; first | rwa [add_block] at this | exact this) GW122.out); have hn123_1 : ad121.block ≠ gb122 := Nat.ne_of_lt (Nat.lt_of_lt_of_le (by have := World.block_lt_of_cell? _ _ hx123_0; first | rwa [add_block] at this | exact this) GW122.out); replace hx123_0 := (HB.out.cell (World.block_lt_of_cell? w _ hx123_0)).trans hx123_0; replace hx123_1 := (HB.out.cell (World.block_lt_of_cell? w _ hx123_1)).trans hx123_1; replace hx123_0 := (cell_far (p := ⟨gb122, 0, none⟩) (by first | (rw [add_block]; exact hn123_0) | (show (Addr.add _ _).block ≠ _; rw [add_block]; exact hn123_0) | exact hn123_0) (.int .u8 ((rd_T61 l0 x7_1).f0))).trans hx123_0; replace hx123_1 := (cell_far (p := ⟨gb122, 0, none⟩) (by first | (rw [add_block]; exact hn123_0) | (show (Addr.add _ _).block ≠ _; rw [add_block]; exact hn123_0) | exact hn123_0) (.int .u8 ((rd_T61 l0 x7_1).f0))).trans hx123_1; replace hx123_0 := (cell_far (p := ⟨gb122, 1, none⟩) (by first | (rw [add_block]; exact hn123_1) | (show (Addr.add _ _).block ≠ _; rw [add_block]; exact hn123_1) | exact hn123_1) (.int .u8 ((rd_T61 l0 x7_1).f1))).trans hx123_0; replace hx123_1 := (cell_far (p := ⟨gb122, 1, none⟩) (by first | (rw [add_block]; exact hn123_1) | (show (Addr.add _ _).block ≠ _; rw [add_block]; exact hn123_1) | exact hn123_1) (.int .u8 ((rd_T61 l0 x7_1).f1))).trans hx123_1; (try have hy123_0 := fun (n_ : Nat) => (show ((((w13.drewN n_).setCell ⟨gb122, 0, none⟩ (.int .u8 ((rd_T61 l0 x7_1).f0))).setCell ⟨gb122, 1, none⟩ (.int .u8 ((rd_T61 l0 x7_1).f1)))).cell? _ = some _ from hx123_0)); (try have hy123_1 := fun (n_ : Nat) => (show ((((w13.drewN n_).setCell ⟨gb122, 0, none⟩ (.int .u8 ((rd_T61 l0 x7_1).f0))).setCell ⟨gb122, 1, none⟩ (.int .u8 ((rd_T61 l0 x7_1).f1)))).cell? _ = some _ from hx123_1)); clear hn123_0; clear hn123_1; replace p123 := eq_true p123; replace q123 := eq_true q123)); try go_wp2_with (first | ((with_reducible refine gate_dst (N := 4) rfl ?_); refine box_event ?hg (N := 4) ?hd (cs := #[.int .u8 0, .int .u8 0]) (t := 61) ?hr ?_; (case hd => rfl); (case hg => rfl); (case hr => first | (go_simp; done) | (go_simp; rfl)); intro gb122 hg w13 hbox hb; have BK122 := am (hbox); have GW122 := am ((gw_ hg HB.out : w.heap.size ≤ gb122)); have GE122 := am ((gw_ hg HB.out : w.heap.size ≤ gb122)); replace HB := am (below_step (zB HB.out) hb); clear hb hbox hg; have hcz14_0 : w13.cell? ⟨gb122, 0, none⟩ = some (.int .u8 0) := (blk_cell BK122.out 0).trans rfl; have hcz14_1 : w13.cell? ⟨gb122, 1, none⟩ = some (.int .u8 0) := (blk_cell BK122.out 1).trans rfl; have hfz14_0 := blk_frozen BK122.out 0; have hfz14_1 := blk_frozen BK122.out 1; have p123 : 0 ≤ ((ji9) : Int) := of_decide_eq_true (by with_reducible assumption); have q123 : (ji9) < (l0.length : Int) := of_decide_eq_true (by with_reducible assumption); obtain ⟨ad123, e123, hx123_0, hx123_1⟩ := at_T61 HR0.out (ji9) p123 q123; obtain rfl : ad121 = ad123 := (by injection e123); have hn123_0 : ad121.block ≠ gb122 := Nat.ne_of_lt (Nat.lt_of_lt_of_le (by have := World.block_lt_of_cell? _ _ hx123_0; first | rwa [add_block] at this | exact this) GW122.out); have hn123_1 : ad121.block ≠ gb122 := Nat.ne_of_lt (Nat.lt_of_lt_of_le (by have := World.block_lt_of_cell? _ _ hx123_0; first | rwa [add_block] at this | exact this) GW122.out); replace hx123_0 := (HB.out.cell (World.block_lt_of_cell? w _ hx123_0)).trans hx123_0; replace hx123_1 := (HB.out.cell (World.block_lt_of_cell? w _ hx123_1)).trans hx123_1; replace hx123_0 := (cell_far (p := ⟨gb122, 0, none⟩) (by first | (rw [add_block]; exact hn123_0) | (show (Addr.add _ _).block ≠ _; rw [add_block]; exact hn123_0) | exact hn123_0) (.int .u8 ((rd_T61 l0 x7_1).f0))).trans hx123_0; replace hx123_1 := (cell_far (p := ⟨gb122, 0, none⟩) (by first | (rw [add_block]; exact hn123_0) | (show (Addr.add _ _).block ≠ _; rw [add_block]; exact hn123_0) | exact hn123_0) (.int .u8 ((rd_T61 l0 x7_1).f0))).trans hx123_1; replace hx123_0 := (cell_far (p := ⟨gb122, 1, none⟩) (by first | (rw [add_block]; exact hn123_1) | (show (Addr.add _ _).block ≠ _; rw [add_block]; exact hn123_1) | exact hn123_1) (.int .u8 ((rd_T61 l0 x7_1).f1))).trans hx123_0; replace hx123_1 := (cell_far (p := ⟨gb122, 1, none⟩) (by first | (rw [add_block]; exact hn123_1) | (show (Addr.add _ _).block ≠ _; rw [add_block]; exact hn123_1) | exact hn123_1) (.int .u8 ((rd_T61 l0 x7_1).f1))).trans hx123_1; (try have hy123_0 := fun (n_ : Nat) => (show ((((w13.drewN n_).setCell ⟨gb122, 0, none⟩ (.int .u8 ((rd_T61 l0 x7_1).f0))).setCell ⟨gb122, 1, none⟩ (.int .u8 ((rd_T61 l0 x7_1).f1)))).cell? _ = some _ from hx123_0)); (try have hy123_1 := fun (n_ : Nat) => (show ((((w13.drewN n_).setCell ⟨gb122, 0, none⟩ (.int .u8 ((rd_T61 l0 x7_1).f0))).setCell ⟨gb122, 1, none⟩ (.int .u8 ((rd_T61 l0 x7_1).f1)))).cell? _ = some _ from hx123_1)); clear hn123_0; clear hn123_1; replace p123 := eq_true p123; replace q123 := eq_true q123)))
       go_ret
       exact ⟨by first | rfl | (simp [errW_none, errW_some] <;> rfl) | (simp only [← hji9]; first | rfl | (simp [errW_none, errW_some] <;> rfl)) | (simp [*, errW_none, errW_some] <;> rfl), by repeat (first | (with_reducible first | exact HB.out | apply below_alloc | apply pw_below_drewN | apply below_drew1 | refine below_set ?_ GE122.out) | exact HB.out)⟩
      ·rw [if_neg c12] at H; have c12b0 : decide (((rd_T61 l0 x7_1).f0) ≤ ((rd_T61 l0 (ji9)).f0)) = false := decide_eq_false c12; clear c12; have H' := am H; clear H; have p121 : 0 ≤ (x7_1 : Int) := of_decide_eq_true (by with_reducible assumption); have q121 : x7_1 < (l0.length : Int) := of_decide_eq_true (by with_reducible assumption); obtain ⟨ad121, e121, hx121_0, hx121_1⟩ := at_T61 HR0.out x7_1 p121 q121; cases e121; replace hx121_0 := (HB.out.cell (World.block_lt_of_cell? w _ hx121_0)).trans hx121_0; replace hx121_1 := (HB.out.cell (World.block_lt_of_cell? w _ hx121_1)).trans hx121_1; replace p121 := eq_true p121; replace q121 := eq_true q121
       go_wp2_with (first | ((with_reducible refine gate_dst (N := 4) rfl ?_); refine box_event ?hg (N := 4) ?hd (cs := #[.int .u8 0, .int .u8 0]) (t := 61) ?hr ?_; (case hd => rfl); (case hg => rfl); (case hr => first | (go_simp; done) | (go_simp; rfl)); intro gb122 hg w15 hbox hb; have BK122 := am (hbox); have GW122 := am ((gw_ hg HB.out : w.heap.size ≤ gb122)); have GE122 := am ((gw_ hg HB.out : w.heap.size ≤ gb122)); replace HB := am (below_step (zB HB.out) hb); clear hb hbox hg; have hcz16_0 : w15.cell? ⟨gb122, 0, none⟩ = some (.int .u8 0) := (blk_cell BK122.out 0).trans rfl; have hcz16_1 : w15.cell? ⟨gb122, 1, none⟩ = some (.int .u8 0) := (blk_cell BK122.out 1).trans rfl; have hfz16_0 := blk_frozen BK122.out 0; have hfz16_1 := blk_frozen BK122.out 1; have p123 : 0 ≤ ((ji9) : Int) := of_decide_eq_true (by with_reducible assumption); have q123 : (ji9) < (l0.length : Int) := of_decide_eq_true (by with_reducible assumption); obtain ⟨ad123, e123, hx123_0, hx123_1⟩ := at_T61 HR0.out (ji9) p123 q123; obtain rfl : ad121 = ad123 := (by injection e123); have hn123_0 : ad121.block ≠ gb122 := Nat.ne_of_lt (Nat.lt_of_lt_of_le (by have := World.block_lt_of_cell? _ _ hx123_0; first | rwa [add_block] at this | exact this) GW122.out); have hn123_1 : ad121.block ≠ gb122 := Nat.ne_of_lt (Nat.lt_of_lt_of_le (by have := World.block_lt_of_cell? _ _ hx123_0; first | rwa [add_block] at this | exact this) GW122.out); replace hx123_0 := (HB.out.cell (World.block_lt_of_cell? w _ hx123_0)).trans hx123_0; replace hx123_1 := (HB.out.cell (World.block_lt_of_cell? w _ hx123_1)).trans hx123_1; replace hx123_0 := (cell_far (p := ⟨gb122, 0, none⟩) (by first | (rw [add_block]; exact hn123_0) | (show (Addr.add _ _).block ≠ _; rw [add_block]; exact hn123_0) | exact hn123_0) (.int .u8 ((rd_T61 l0 x7_1).f0))).trans hx123_0; replace hx123_1 := (cell_far (p := ⟨gb122, 0, none⟩) (by first | (rw [add_block]; exact hn123_0) | (show (Addr.add _ _).block ≠ _; rw [add_block]; exact hn123_0) | exact hn123_0) (.int .u8 ((rd_T61 l0 x7_1).f0))).trans hx123_1; replace hx123_0 := (cell_far (p := ⟨gb122, 1, none⟩) (by first | (rw [add_block]; exact hn123_1) | (show (Addr.add _ _).block ≠ _; rw [add_block]; exact hn123_1) | exact hn123_1) (.int .u8 ((rd_T61 l0 x7_1).f1))).trans hx123_0; replace hx123_1 := (cell_far (p := ⟨gb122, 1, none⟩) (by first | (rw [add_block]; exact hn123_1) | (show (Addr.add _ _).block ≠ _; rw [add_block]; exact hn123_1) | exact hn123_1) (.int .u8 ((rd_T61 l0 x7_1).f1))).trans hx123_1; (try have hy123_0 := fun (n_ : Nat) => (show ((((w15.drewN n_).setCell ⟨gb122, 0, none⟩ (.int .u8 ((rd_T61 l0 x7_1).f0))).setCell ⟨gb122, 1, none⟩ (.int .u8 ((rd_T61 l0 x7_1).f1)))).cell? _ = some _ from hx123_0)); (try have hy123_1 := fun (n_ : Nat) => (show ((((w15.drewN n_).setCell ⟨gb122, 0, none⟩ (.int .u8 ((rd_T61 l0 x7_1).f0))).setCell ⟨gb122, 1, none⟩ (.int .u8 ((rd_T61 l0 x7_1).f1)))).cell? _ = some _ from hx123_1)); clear hn123_0; clear hn123_1; replace p123 := eq_true p123; replace q123 := eq_true q123))
       repeat (go_quiet (first | ((with_reducible refine gate_dst (N := 4) rfl ?_); refine box_event ?hg (N := 4) ?hd (cs := #[.int .u8 0, .int .u8 0]) (t := 61) ?hr ?_; (case hd => rfl); (case hg => rfl); (case hr => first | (go_simp; done) | (go_simp; rfl)); intro gb122 hg w15 hbox hb; have BK122 := am (hbox); have GW122 := am ((gw_ hg HB.out : w.heap.size ≤ gb122)); have GE122 := am ((gw_ hg HB.out : w.heap.size ≤ gb122)); replace HB := am (below_step (zB HB.out) hb); clear hb hbox hg; have hcz16_0 : w15.cell? ⟨gb122, 0, none⟩ = some (.int .u8 0) := (blk_cell BK122.out 0).trans rfl; have hcz16_1 : w15.cell? ⟨gb122, 1, none⟩ = some (.int .u8 0) := (blk_cell BK122.out 1).trans rfl; have hfz16_0 := blk_frozen BK122.out 0; have hfz16_1 := blk_frozen BK122.out 1; have p123 : 0 ≤ ((ji9) : Int) := of_decide_eq_true (by with_reducible assumption); have q123 : (ji9) < (l0.length : Int) := of_decide_eq_true (by with_reducible assumption); obtain ⟨ad123, e123, hx123_0, hx123_1⟩ := at_T61 HR0.out (ji9) p123 q123; obtain rfl : ad121 = ad123 := (by injection e123); have hn123_0 : ad121.block ≠ gb122 := Nat.ne_of_lt (Nat.lt_of_lt_of_le (by have := World.block_lt_of_cell? _ _ hx123_0; first | rwa [add_block] at this | exact this) GW122.out); have hn123_1 : ad121.block ≠ gb122 := Nat.ne_of_lt (Nat.lt_of_lt_of_le (by have := World.block_lt_of_cell? _ _ hx123_0; first | rwa [add_block] at this | exact this) GW122.out); replace hx123_0 := (HB.out.cell (World.block_lt_of_cell? w _ hx123_0)).trans hx123_0; replace hx123_1 := (HB.out.cell (World.block_lt_of_cell? w _ hx123_1)).trans hx123_1; replace hx123_0 := (cell_far (p := ⟨gb122, 0, none⟩) (by first | (rw [add_block]; exact hn123_0) | (show (Addr.add _ _).block ≠ _; rw [add_block]; exact hn123_0) | exact hn123_0) (.int .u8 ((rd_T61 l0 x7_1).f0))).trans hx123_0; replace hx123_1 := (cell_far (p := ⟨gb122, 0, none⟩) (by first | (rw [add_block]; exact hn123_0) | (show (Addr.add _ _).block ≠ _; rw [add_block]; exact hn123_0) | exact hn123_0) (.int .u8 ((rd_T61 l0 x7_1).f0))).trans hx123_1; replace hx123_0 := (cell_far (p := ⟨gb122, 1, none⟩) (by first | (rw [add_block]; exact hn123_1) | (show (Addr.add _ _).block ≠ _; rw [add_block]; exact hn123_1) | exact hn123_1) (.int .u8 ((rd_T61 l0 x7_1).f1))).trans hx123_0; replace hx123_1 := (cell_far (p := ⟨gb122, 1, none⟩) (by first | (rw [add_block]; exact hn123_1) | (show (Addr.add _ _).block ≠ _; rw [add_block]; exact hn123_1) | exact hn123_1) (.int .u8 ((rd_T61 l0 x7_1).f1))).trans hx123_1; (try have hy123_0 := fun (n_ : Nat) => (show ((((w15.drewN n_).setCell ⟨gb122, 0, none⟩ (.int .u8 ((rd_T61 l0 x7_1).f0))).setCell ⟨gb122, 1, none⟩ (.int .u8 ((rd_T61 l0 x7_1).f1)))).cell? _ = some _ from hx123_0)); (try have hy123_1 := fun (n_ : Nat) => (show ((((w15.drewN n_).setCell ⟨gb122, 0, none⟩ (.int .u8 ((rd_T61 l0 x7_1).f0))).setCell ⟨gb122, 1, none⟩ (.int .u8 ((rd_T61 l0 x7_1).f1)))).cell? _ = some _ from hx123_1)); clear hn123_0; clear hn123_1; replace p123 := eq_true p123; replace q123 := eq_true q123)); try go_wp2_with (first | ((with_reducible refine gate_dst (N := 4) rfl ?_); refine box_event ?hg (N := 4) ?hd (cs := #[.int .u8 0, .int .u8 0]) (t := 61) ?hr ?_; (case hd => rfl); (case hg => rfl); (case hr => first | (go_simp; done) | (go_simp; rfl)); intro gb122 hg w15 hbox hb; have BK122 := am (hbox); have GW122 := am ((gw_ hg HB.out : w.heap.size ≤ gb122)); have GE122 := am ((gw_ hg HB.out : w.heap.size ≤ gb122)); replace HB := am (below_step (zB HB.out) hb); clear hb hbox hg; have hcz16_0 : w15.cell? ⟨gb122, 0, none⟩ = some (.int .u8 0) := (blk_cell BK122.out 0).trans rfl; have hcz16_1 : w15.cell? ⟨gb122, 1, none⟩ = some (.int .u8 0) := (blk_cell BK122.out 1).trans rfl; have hfz16_0 := blk_frozen BK122.out 0; have hfz16_1 := blk_frozen BK122.out 1; have p123 : 0 ≤ ((ji9) : Int) := of_decide_eq_true (by with_reducible assumption); have q123 : (ji9) < (l0.length : Int) := of_decide_eq_true (by with_reducible assumption); obtain ⟨ad123, e123, hx123_0, hx123_1⟩ := at_T61 HR0.out (ji9) p123 q123; obtain rfl : ad121 = ad123 := (by injection e123); have hn123_0 : ad121.block ≠ gb122 := Nat.ne_of_lt (Nat.lt_of_lt_of_le (by have := World.block_lt_of_cell? _ _ hx123_0; first | rwa [add_block] at this | exact this) GW122.out); have hn123_1 : ad121.block ≠ gb122 := Nat.ne_of_lt (Nat.lt_of_lt_of_le (by have := World.block_lt_of_cell? _ _ hx123_0; first | rwa [add_block] at this | exact this) GW122.out); replace hx123_0 := (HB.out.cell (World.block_lt_of_cell? w _ hx123_0)).trans hx123_0; replace hx123_1 := (HB.out.cell (World.block_lt_of_cell? w _ hx123_1)).trans hx123_1; replace hx123_0 := (cell_far (p := ⟨gb122, 0, none⟩) (by first | (rw [add_block]; exact hn123_0) | (show (Addr.add _ _).block ≠ _; rw [add_block]; exact hn123_0) | exact hn123_0) (.int .u8 ((rd_T61 l0 x7_1).f0))).trans hx123_0; replace hx123_1 := (cell_far (p := ⟨gb122, 0, none⟩) (by first | (rw [add_block]; exact hn123_0) | (show (Addr.add _ _).block ≠ _; rw [add_block]; exact hn123_0) | exact hn123_0) (.int .u8 ((rd_T61 l0 x7_1).f0))).trans hx123_1; replace hx123_0 := (cell_far (p := ⟨gb122, 1, none⟩) (by first | (rw [add_block]; exact hn123_1) | (show (Addr.add _ _).block ≠ _; rw [add_block]; exact hn123_1) | exact hn123_1) (.int .u8 ((rd_T61 l0 x7_1).f1))).trans hx123_0; replace hx123_1 := (cell_far (p := ⟨gb122, 1, none⟩) (by first | (rw [add_block]; exact hn123_1) | (show (Addr.add _ _).block ≠ _; rw [add_block]; exact hn123_1) | exact hn123_1) (.int .u8 ((rd_T61 l0 x7_1).f1))).trans hx123_1; (try have hy123_0 := fun (n_ : Nat) => (show ((((w15.drewN n_).setCell ⟨gb122, 0, none⟩ (.int .u8 ((rd_T61 l0 x7_1).f0))).setCell ⟨gb122, 1, none⟩ (.int .u8 ((rd_T61 l0 x7_1).f1)))).cell? _ = some _ from hx123_0)); (try have hy123_1 := fun (n_ : Nat) => (show ((((w15.drewN n_).setCell ⟨gb122, 0, none⟩ (.int .u8 ((rd_T61 l0 x7_1).f0))).setCell ⟨gb122, 1, none⟩ (.int .u8 ((rd_T61 l0 x7_1).f1)))).cell? _ = some _ from hx123_1)); clear hn123_0; clear hn123_1; replace p123 := eq_true p123; replace q123 := eq_true q123)))
       go_roundg k1
       case measure => have := HK1.out; omega
       case rel => exact ⟨(wrap64 (x7_1 + 1)), (by first | rfl | (simp; done) | (simp [*]; done)), (by first | exact H' | (have H2_ := H'; simp only [hji9] at H2_ ⊢; exact H2_)), ⟨by have := HK1.out; omega⟩, ⟨by repeat (first | (with_reducible first | exact HB.out | apply below_alloc | apply pw_below_drewN | apply below_drew1 | refine below_set ?_ GE122.out) | exact HB.out)⟩⟩
     ·rw [if_neg c8] at H; have c8b0 : decide (0 < x7_1) = false := decide_eq_false c8; clear c8; have H' := am H; clear H; have p121 : 0 ≤ (x7_1 : Int) := of_decide_eq_true (by with_reducible assumption); have q121 : x7_1 < (l0.length : Int) := of_decide_eq_true (by with_reducible assumption); obtain ⟨ad121, e121, hx121_0, hx121_1⟩ := at_T61 HR0.out x7_1 p121 q121; cases e121; replace hx121_0 := (HB.out.cell (World.block_lt_of_cell? w _ hx121_0)).trans hx121_0; replace hx121_1 := (HB.out.cell (World.block_lt_of_cell? w _ hx121_1)).trans hx121_1; replace p121 := eq_true p121; replace q121 := eq_true q121
      go_wp2_with (first | ((with_reducible refine gate_dst (N := 4) rfl ?_); refine box_event ?hg (N := 4) ?hd (cs := #[.int .u8 0, .int .u8 0]) (t := 61) ?hr ?_; (case hd => rfl); (case hg => rfl); (case hr => first | (go_simp; done) | (go_simp; rfl)); intro gb122 hg w17 hbox hb; have BK122 := am (hbox); have GW122 := am ((gw_ hg HB.out : w.heap.size ≤ gb122)); have GE122 := am ((gw_ hg HB.out : w.heap.size ≤ gb122)); replace HB := am (below_step (zB HB.out) hb); clear hb hbox hg; have hcz18_0 : w17.cell? ⟨gb122, 0, none⟩ = some (.int .u8 0) := (blk_cell BK122.out 0).trans rfl; have hcz18_1 : w17.cell? ⟨gb122, 1, none⟩ = some (.int .u8 0) := (blk_cell BK122.out 1).trans rfl; have hfz18_0 := blk_frozen BK122.out 0; have hfz18_1 := blk_frozen BK122.out 1))
      repeat (go_quiet (first | ((with_reducible refine gate_dst (N := 4) rfl ?_); refine box_event ?hg (N := 4) ?hd (cs := #[.int .u8 0, .int .u8 0]) (t := 61) ?hr ?_; (case hd => rfl); (case hg => rfl); (case hr => first | (go_simp; done) | (go_simp; rfl)); intro gb122 hg w17 hbox hb; have BK122 := am (hbox); have GW122 := am ((gw_ hg HB.out : w.heap.size ≤ gb122)); have GE122 := am ((gw_ hg HB.out : w.heap.size ≤ gb122)); replace HB := am (below_step (zB HB.out) hb); clear hb hbox hg; have hcz18_0 : w17.cell? ⟨gb122, 0, none⟩ = some (.int .u8 0) := (blk_cell BK122.out 0).trans rfl; have hcz18_1 : w17.cell? ⟨gb122, 1, none⟩ = some (.int .u8 0) := (blk_cell BK122.out 1).trans rfl; have hfz18_0 := blk_frozen BK122.out 0; have hfz18_1 := blk_frozen BK122.out 1)); try go_wp2_with (first | ((with_reducible refine gate_dst (N := 4) rfl ?_); refine box_event ?hg (N := 4) ?hd (cs := #[.int .u8 0, .int .u8 0]) (t := 61) ?hr ?_; (case hd => rfl); (case hg => rfl); (case hr => first | (go_simp; done) | (go_simp; rfl)); intro gb122 hg w17 hbox hb; have BK122 := am (hbox); have GW122 := am ((gw_ hg HB.out : w.heap.size ≤ gb122)); have GE122 := am ((gw_ hg HB.out : w.heap.size ≤ gb122)); replace HB := am (below_step (zB HB.out) hb); clear hb hbox hg; have hcz18_0 : w17.cell? ⟨gb122, 0, none⟩ = some (.int .u8 0) := (blk_cell BK122.out 0).trans rfl; have hcz18_1 : w17.cell? ⟨gb122, 1, none⟩ = some (.int .u8 0) := (blk_cell BK122.out 1).trans rfl; have hfz18_0 := blk_frozen BK122.out 0; have hfz18_1 := blk_frozen BK122.out 1)))
      go_roundg k1
      case measure => have := HK1.out; omega
      case rel => exact ⟨(wrap64 (x7_1 + 1)), (by first | rfl | (simp; done) | (simp [*]; done)), H', ⟨by have := HK1.out; omega⟩, ⟨by repeat (first | (with_reducible first | exact HB.out | apply below_alloc | apply pw_below_drewN | apply below_drew1 | refine below_set ?_ GE122.out) | exact HB.out)⟩⟩
   ·rw [if_neg c2] at H; have c2b0 := decide_eq_false c2; clear c2; obtain rfl := Option.some.inj H
    go_wp2
    repeat (go_quiet (fail); try go_wp2)
    go_ret
    exact ⟨rfl, zB HB.out⟩

/-! ### spec_l1Times: function 80 -/
def spec_l1Times.l0 : Nat → Int → Int → Int → Option (Int)
 | 0, _, _, _ => none
 | k + 1, x5, x6, x7 => if x7 > 0 then (if (Go.bits .and .i64 x7 1) = 1 then (if (wrap64 (x6 * 2)) > 255 then (spec_l1Times.l0 k (Go.bits .xor .i64 x5 x6) (Go.bits .xor .i64 (wrap64 (x6 * 2)) 283) (x7 / 2)) else (spec_l1Times.l0 k (Go.bits .xor .i64 x5 x6) (wrap64 (x6 * 2)) (x7 / 2))) else (if (wrap64 (x6 * 2)) > 255 then (spec_l1Times.l0 k x5 (Go.bits .xor .i64 (wrap64 (x6 * 2)) 283) (x7 / 2)) else (spec_l1Times.l0 k x5 (wrap64 (x6 * 2)) (x7 / 2)))) else (some ((x5) % 256))
def spec_l1Times.f (k : Nat) (a0 : Int) (a1 : Int) : Option (Int) := spec_l1Times.l0 k 0 (wrap64 (a0)) (wrap64 (a1))
theorem spec_l1Times.mono_l : ∀ k, (∀ y0 y1 y2, LeO (spec_l1Times.l0 k y0 y1 y2) (spec_l1Times.l0 (k + 1) y0 y1 y2))
 | 0 => fun _ _ _ r h => by simp [spec_l1Times.l0] at h
 | k + 1 => by
  have ih0 := spec_l1Times.mono_l k
  ·intro y0 y1 y2
   unfold spec_l1Times.l0
   repeat' first | apply LeO.refl | apply LeO.none | apply LeO.ite | apply ih0 | (refine LeO.bind ?_ (fun _ => ?_))
theorem spec_l1Times.mono : ∀ a0 a1 k, LeO (spec_l1Times.f k a0 a1) (spec_l1Times.f (k + 1) a0 a1) := by
 intro a0 a1 k; have ih0 := spec_l1Times.mono_l k
 unfold spec_l1Times.f
 repeat' first | apply LeO.refl | apply LeO.none | apply LeO.ite | apply ih0 | (refine LeO.bind ?_ (fun _ => ?_))
set_option maxHeartbeats 8000000 in
set_option maxRecDepth 100000 in
theorem spec_l1Times.calls (k : Nat) (a0 : Int) (a1 : Int) (r : Int) (w : World) (h : spec_l1Times.f k a0 a1 = some r) :
  Calls Try.prog 80 #[.int .u8 a0, .int .u8 a1] w fun e w' => e = .returned (.int .u8 r) ∧ Drawn0 w w' := by
 have H : (spec_l1Times.l0 k 0 (wrap64 (a0)) (wrap64 (a1))) = some r := h; clear h; have H' := am H; clear H
 go_enter Try.func80, Try.ntmps80
 go_wp2
 go_loopg [5, 6, 7] k (fun kq v5 v6 v7 w' => ∃ (x5_1 : Int) (x6_1 : Int) (x7_1 : Int), v5 = .int .i64 x5_1 ∧ v6 = .int .i64 x6_1 ∧ v7 = .int .i64 x7_1 ∧ Aside0 (spec_l1Times.l0 kq x5_1 x6_1 x7_1 = some r) ∧ Aside0 (kq ≤ k) ∧ Drawn0 w w')
 case atStart => exact ⟨(0), (wrap64 (a0)), (wrap64 (a1)), rfl, rfl, rfl, H', ⟨Nat.le_refl _⟩, by repeat (first | exact Drawn0.refl _ | apply Drawn0.step)⟩
 case round =>
  clear H'; obtain ⟨x5_1, x6_1, x7_1, rfl, rfl, rfl, HA, HK1, ⟨m1, rfl⟩⟩ := hrel
  cases gk with
  | zero => exact absurd HA.out (by simp [spec_l1Times.l0])
  | succ k1 =>
   have H := HA.out; clear HA
   simp only [spec_l1Times.l0] at H
   by_cases c3 : x7_1 > 0
   ·rw [if_pos c3] at H; have c3b0 : decide (0 < x7_1) = true := decide_eq_true c3; clear c3
    by_cases c4 : (Go.bits .and .i64 x7_1 1) = 1
    ·rw [if_pos c4] at H; have c4b0 : ((Go.bits .and .i64 x7_1 1) == 1) = true := beq_iff_eq.mpr c4; have c4b1 : ((Go.bits .and .i64 x7_1 1) != 1) = false := bne_eq_false_iff_eq.mpr c4; clear c4
     by_cases c5 : (wrap64 (x6_1 * 2)) > 255
     ·rw [if_pos c5] at H; have c5b0 : decide (255 < (wrap64 (x6_1 * 2))) = true := decide_eq_true c5; clear c5; have H' := am H; clear H
      go_wp2
      go_roundg k1
      case measure => have := HK1.out; omega
      case rel => exact ⟨(Go.bits .xor .i64 x5_1 x6_1), (Go.bits .xor .i64 (wrap64 (x6_1 * 2)) 283), (x7_1 / 2), rfl, rfl, rfl, H', ⟨by have := HK1.out; omega⟩, by repeat (first | exact Drawn0.refl _ | apply Drawn0.step)⟩
     ·rw [if_neg c5] at H; have c5b0 : decide (255 < (wrap64 (x6_1 * 2))) = false := decide_eq_false c5; clear c5; have H' := am H; clear H
      go_wp2
      go_roundg k1
      case measure => have := HK1.out; omega
      case rel => exact ⟨(Go.bits .xor .i64 x5_1 x6_1), (wrap64 (x6_1 * 2)), (x7_1 / 2), rfl, rfl, rfl, H', ⟨by have := HK1.out; omega⟩, by repeat (first | exact Drawn0.refl _ | apply Drawn0.step)⟩
    ·rw [if_neg c4] at H; have c4b0 : ((Go.bits .and .i64 x7_1 1) == 1) = false := beq_eq_false_iff_ne.mpr c4; have c4b1 : ((Go.bits .and .i64 x7_1 1) != 1) = true := bne_iff_ne.mpr c4
     by_cases c6 : (wrap64 (x6_1 * 2)) > 255
     ·rw [if_pos c6] at H; have c6b0 : decide (255 < (wrap64 (x6_1 * 2))) = true := decide_eq_true c6; clear c6; have H' := am H; clear H
      go_wp2
      go_roundg k1
      case measure => have := HK1.out; omega
      case rel => exact ⟨(x5_1), (Go.bits .xor .i64 (wrap64 (x6_1 * 2)) 283), (x7_1 / 2), rfl, rfl, rfl, H', ⟨by have := HK1.out; omega⟩, by repeat (first | exact Drawn0.refl _ | apply Drawn0.step)⟩
     ·rw [if_neg c6] at H; have c6b0 : decide (255 < (wrap64 (x6_1 * 2))) = false := decide_eq_false c6; clear c6; have H' := am H; clear H
      go_wp2
      go_roundg k1
      case measure => have := HK1.out; omega
      case rel => exact ⟨(x5_1), (wrap64 (x6_1 * 2)), (x7_1 / 2), rfl, rfl, rfl, H', ⟨by have := HK1.out; omega⟩, by repeat (first | exact Drawn0.refl _ | apply Drawn0.step)⟩
   ·rw [if_neg c3] at H; have c3b0 : decide (0 < x7_1) = false := decide_eq_false c3; clear c3; obtain rfl := Option.some.inj H
    go_wp2
    go_ret
    exact ⟨by first | rfl | (simp; done) | (simp [*]; done), by repeat (first | exact Drawn0.refl _ | apply Drawn0.step)⟩

/-! ### spec_l1Power: function 98 -/
def spec_l1Power.l0 : Nat → Int → Int → Int → Option (Int)
 | 0, _, _, _ => none
 | k + 1, x0, x1, x5 => if x1 > 0 then ((spec_l1Times.f k x5 x0).bind fun t124 => (spec_l1Power.l0 k x0 (wrap64 (x1 - 1)) t124)) else (some x5)
def spec_l1Power.f (k : Nat) (a0 : Int) (a1 : Int) : Option (Int) := spec_l1Power.l0 k a0 a1 1
theorem spec_l1Power.mono_l : ∀ k, (∀ y0 y1 y2, LeO (spec_l1Power.l0 k y0 y1 y2) (spec_l1Power.l0 (k + 1) y0 y1 y2))
 | 0 => fun _ _ _ r h => by simp [spec_l1Power.l0] at h
 | k + 1 => by
  have ih0 := spec_l1Power.mono_l k
  ·intro y0 y1 y2
   unfold spec_l1Power.l0
   repeat' first | apply LeO.refl | apply LeO.none | apply LeO.ite | apply ih0 | apply spec_l1Times.mono | (refine LeO.bind ?_ (fun _ => ?_))
theorem spec_l1Power.mono : ∀ a0 a1 k, LeO (spec_l1Power.f k a0 a1) (spec_l1Power.f (k + 1) a0 a1) := by
 intro a0 a1 k; have ih0 := spec_l1Power.mono_l k
 unfold spec_l1Power.f
 repeat' first | apply LeO.refl | apply LeO.none | apply LeO.ite | apply ih0 | apply spec_l1Times.mono | (refine LeO.bind ?_ (fun _ => ?_))
set_option maxHeartbeats 8000000 in
set_option maxRecDepth 100000 in
theorem spec_l1Power.calls (k : Nat) (a0 : Int) (a1 : Int) (r : Int) (w : World) (h : spec_l1Power.f k a0 a1 = some r) :
  Calls Try.prog 98 #[.int .u8 a0, .int .i64 a1] w fun e w' => e = .returned (.int .u8 r) ∧ Drawn0 w w' := by
 have H : (spec_l1Power.l0 k a0 a1 1) = some r := h; clear h; have H' := am H; clear H
 go_enter Try.func98, Try.ntmps98
 go_wp2
 go_loopg [1, 5] k (fun kq v1 v5 w' => ∃ (x1_1 : Int) (x5_1 : Int), v1 = .int .i64 x1_1 ∧ v5 = .int .u8 x5_1 ∧ Aside0 (spec_l1Power.l0 kq a0 x1_1 x5_1 = some r) ∧ Aside0 (kq ≤ k) ∧ Drawn0 w w')
 case atStart => exact ⟨(a1), (1), rfl, rfl, H', ⟨Nat.le_refl _⟩, by repeat (first | exact Drawn0.refl _ | apply Drawn0.step)⟩
 case round =>
  clear H'; obtain ⟨x1_1, x5_1, rfl, rfl, HA, HK1, ⟨m1, rfl⟩⟩ := hrel
  cases gk with
  | zero => exact absurd HA.out (by simp [spec_l1Power.l0])
  | succ k1 =>
   have H := HA.out; clear HA
   simp only [spec_l1Power.l0] at H
   by_cases c3 : x1_1 > 0
   ·rw [if_pos c3] at H; have c3b0 : decide (0 < x1_1) = true := decide_eq_true c3; clear c3; obtain ⟨t124, A4, H⟩ := bi_ H; have H' := am H; clear H
    go_wp2_with (first | ((with_reducible refine gate_callee (f := 80) rfl ?_); refine goL_ (some 12) Try.func80 #[.int .u8 x5_1, .int .u8 a0] ?_; (with_reducible refine (spec_l1Times.calls k1 x5_1 a0 t124 _ A4.out).mono ?_); rintro e w' ⟨rfl, ⟨nd, rfl⟩⟩; refine ⟨_, rfl, ?_⟩))
    go_roundg k1
    case measure => have := HK1.out; omega
    case rel => exact ⟨(wrap64 (x1_1 - 1)), (t124), rfl, rfl, H', ⟨by have := HK1.out; omega⟩, by repeat (first | exact Drawn0.refl _ | apply Drawn0.step)⟩
   ·rw [if_neg c3] at H; have c3b0 : decide (0 < x1_1) = false := decide_eq_false c3; clear c3; obtain rfl := Option.some.inj H
    go_wp2
    go_ret
    exact ⟨by first | rfl | (simp; done) | (simp [*]; done), by repeat (first | exact Drawn0.refl _ | apply Drawn0.step)⟩

/-! ### spec_l1Inverse: function 109 -/
def spec_l1Inverse.f (k : Nat) (a0 : Int) : Option (Int) := if a0 = 0 then (some 0) else ((spec_l1Power.f k a0 254).bind fun t125 => (some t125))
theorem spec_l1Inverse.mono : ∀ a0 k, LeO (spec_l1Inverse.f k a0) (spec_l1Inverse.f (k + 1) a0) := by
 intro a0 k
 unfold spec_l1Inverse.f
 repeat' first | apply LeO.refl | apply LeO.none | apply LeO.ite | apply spec_l1Power.mono | (refine LeO.bind ?_ (fun _ => ?_))
set_option maxHeartbeats 8000000 in
set_option maxRecDepth 100000 in
theorem spec_l1Inverse.calls (k : Nat) (a0 : Int) (r : Int) (w : World) (h : spec_l1Inverse.f k a0 = some r) :
  Calls Try.prog 109 #[.int .u8 a0] w fun e w' => e = .returned (.int .u8 r) ∧ Drawn0 w w' := by
 have H : (if a0 = 0 then (some 0) else ((spec_l1Power.f k a0 254).bind fun t125 => (some t125))) = some r := h; clear h
 by_cases c2 : a0 = 0
 ·rw [if_pos c2] at H; have c2b0 : (a0 == 0) = true := beq_iff_eq.mpr c2; have c2b1 : (a0 != 0) = false := bne_eq_false_iff_eq.mpr c2; clear c2; obtain rfl := Option.some.inj H
  go_enter Try.func109, Try.ntmps109
  go_wp2
  go_ret
  exact ⟨by first | rfl | (simp; done) | (simp [*]; done), by repeat (first | exact Drawn0.refl _ | apply Drawn0.step)⟩
 ·rw [if_neg c2] at H; have c2b0 : (a0 == 0) = false := beq_eq_false_iff_ne.mpr c2; have c2b1 : (a0 != 0) = true := bne_iff_ne.mpr c2; obtain ⟨t125, A3, H⟩ := bi_ H; obtain rfl := Option.some.inj H
  go_enter Try.func109, Try.ntmps109
  go_wp2_with (first | ((with_reducible refine gate_callee (f := 98) rfl ?_); refine goL_ (some 6) Try.func98 #[.int .u8 a0, .int .i64 254] ?_; (with_reducible refine (spec_l1Power.calls k a0 254 t125 _ A3.out).mono ?_); rintro e w' ⟨rfl, ⟨nd, rfl⟩⟩; refine ⟨_, rfl, ?_⟩))
  go_ret
  exact ⟨by first | rfl | (simp; done) | (simp [*]; done), by repeat (first | exact Drawn0.refl _ | apply Drawn0.step)⟩

/-! ### spec_l2Own: function 124 -/
def spec_l2Own.l0 : Nat → List (List Int) → Int → Int → List (List Int) → Option ((List (List Int)))
 | 0, _, _, _, _ => none
 | k + 1, x8, x9, x10, xaa => if x10 < x9 then (if 0 ≤ x10 then (if x10 < (x8.length : Int) then ((some (([] : List Int) : List Int)).bind fun y130 => (if y130.length + (rd_L3 x8 x10).length < 140737488355328 then (if xaa.length < 5864062014805 then (spec_l2Own.l0 k x8 x9 (wrap64 (x10 + 1)) (xaa ++ [(y130 ++ (rd_L3 x8 x10))])) else (none)) else (none))) else (none)) else (none)) else (some xaa)
def spec_l2Own.f (k : Nat) (l0_0 : List (List Int)) : Option ((List (List Int))) := spec_l2Own.l0 k l0_0 (l0_0.length : Int) 0 ([] : List (List Int))
theorem spec_l2Own.mono_l : ∀ k, (∀ y0 y1 y2 y3, LeO (spec_l2Own.l0 k y0 y1 y2 y3) (spec_l2Own.l0 (k + 1) y0 y1 y2 y3))
 | 0 => fun _ _ _ _ r h => by simp [spec_l2Own.l0] at h
 | k + 1 => by
  have ih0 := spec_l2Own.mono_l k
  ·intro y0 y1 y2 y3
   unfold spec_l2Own.l0
   repeat' first | apply LeO.refl | apply LeO.none | apply LeO.ite | apply ih0 | (refine LeO.bind ?_ (fun _ => ?_))
theorem spec_l2Own.mono : ∀ a0 k, LeO (spec_l2Own.f k a0) (spec_l2Own.f (k + 1) a0) := by
 intro a0 k; have ih0 := spec_l2Own.mono_l k
 unfold spec_l2Own.f
 repeat' first | apply LeO.refl | apply LeO.none | apply LeO.ite | apply ih0 | (refine LeO.bind ?_ (fun _ => ?_))
def spec_l2Own.T5 : Bool × List (List Nat × List Nat) := (true, [([], []), ([0], [0]), ([], []), ([], []), ([2, 3], [2, 3]), ([4], [4]), ([1, 5, 4], [1, 5]), ([0, 1, 2, 3, 4, 5, 6], []), ([7, 6, 6, 0, 1, 2, 3, 4, 5, 6], [6, 7])])
def spec_l2Own.B5 : List Nat := [0, 1, 0, 0, 12, 28, 63, 127, 255]
theorem spec_l2Own.tab5 : rtab .any (opsOf Try.f124 5) = spec_l2Own.T5 := by kernel_rfl
theorem spec_l2Own.bits5 : waitsOk spec_l2Own.T5.2 spec_l2Own.B5 = true := by kernel_rfl
set_option maxHeartbeats 8000000 in
set_option maxRecDepth 100000 in
theorem spec_l2Own.calls (k : Nat) (A0_0 : Option Addr) (c0_0 : Nat) (l0_0 : List (List Int)) (r : List (List Int)) (w : World) (hr0_0 : Kd.C (Kd.slice 5 (Kd.int .u8)) w A0_0 l0_0.length l0_0) (hc0_0 : l0_0.length ≤ c0_0) (h : spec_l2Own.f k l0_0 = some r) :
  Calls Try.prog 124 #[.agg #[.slice A0_0 l0_0.length c0_0]] w fun e w' => ∃ v0_ : Value, e = .returned (.agg #[v0_]) ∧ Kd.S (Kd.slice 5 (Kd.int .u8)) 25 w' w.heap.size (fun _ => True) v0_ r ∧ Below w.heap.size w w' := by
 have hu107 := Try.underlying107; have HR0_0 := am hr0_0; have HC0_0 := am hc0_0; clear hr0_0 hc0_0; have HB := am (Below.refl w.heap.size w); have H : (spec_l2Own.l0 k l0_0 (l0_0.length : Int) 0 ([] : List (List Int))) = some r := h; clear h; have H' := am H; clear H
 go_enter Try.func124, Try.ntmps124
 go_wp2_with (first | ((with_reducible refine gate_dst (N := 1) rfl ?_); refine box_event ?hg (N := 1) ?hd (cs := #[.slice A0_0 l0_0.length c0_0]) (t := 107) ?hr ?_; (case hd => rfl); (case hg => rfl); (case hr => first | (go_simp; done) | (go_simp; rfl)); intro gb126 hg w2 hbox hb; have BK126 := am (hbox); have GW126 := am ((gw_ hg HB.out : w.heap.size ≤ gb126)); have GE126 := am ((gw_ hg HB.out : w.heap.size ≤ gb126)); replace HB := am (below_step (zB HB.out) hb); clear hb hbox hg) | ((with_reducible refine gate_dst (N := 2) rfl ?_); refine box_event ?hg (N := 2) ?hd (cs := #[.slice none 0 0]) (t := 107) ?hr ?_; (case hd => rfl); (case hg => rfl); (case hr => first | (go_simp; done) | (go_simp; rfl)); intro gb127 hg w3 hbox hb; have BK127 := am (hbox); have GW127 := am ((gw_ hg HB.out : w.heap.size ≤ gb127)); have GE127 := am ((gw_ hg HB.out : w.heap.size ≤ gb127)); replace HB := am (below_step (zB HB.out) hb); have NB126_127 := am ((by rw [hg]; exact Nat.ne_of_lt (blk_lt (zK BK126.out)) : gb126 ≠ gb127)); have NB127_126 := am ((by rw [hg]; exact Nat.ne_of_gt (blk_lt (zK BK126.out)) : gb127 ≠ gb126)); replace BK126 := am (blk_below (zK BK126.out) hb); clear hb hbox hg) | ((with_reducible refine gate_dst (N := 3) rfl ?_); refine box_event ?hg (N := 3) ?hd (cs := #[.slice none 0 0]) (t := 107) ?hr ?_; (case hd => rfl); (case hg => rfl); (case hr => first | (go_simp; done) | (go_simp; rfl)); intro gb128 hg w4 hbox hb; have BK128 := am (hbox); have GW128 := am ((gw_ hg HB.out : w.heap.size ≤ gb128)); have GE128 := am ((gw_ hg HB.out : w.heap.size ≤ gb128)); replace HB := am (below_step (zB HB.out) hb); have NB126_128 := am ((by rw [hg]; exact Nat.ne_of_lt (blk_lt (zK BK126.out)) : gb126 ≠ gb128)); have NB128_126 := am ((by rw [hg]; exact Nat.ne_of_gt (blk_lt (zK BK126.out)) : gb128 ≠ gb126)); replace BK126 := am (blk_below (zK BK126.out) hb); have NB127_128 := am ((by rw [hg]; exact Nat.ne_of_lt (blk_lt (zK BK127.out)) : gb127 ≠ gb128)); have NB128_127 := am ((by rw [hg]; exact Nat.ne_of_gt (blk_lt (zK BK127.out)) : gb128 ≠ gb127)); replace BK127 := am (blk_below (zK BK127.out) hb); clear hb hbox hg; have hnb5 := NB128_126.out; have hnc5 := NB126_128.out; have hnb6 := NB128_127.out; have hnc6 := NB127_128.out; have hcz7_0 : w4.cell? ⟨gb128, 0, none⟩ = some (.slice none 0 0) := (blk_cell BK128.out 0).trans rfl; have hfz7_0 := blk_frozen BK128.out 0; have hnb8 := NB126_127.out; have hnc8 := NB127_126.out; have hcz9_0 : w4.cell? ⟨gb126, 0, none⟩ = some (.slice A0_0 l0_0.length c0_0) := (blk_cell BK126.out 0).trans rfl; have hfz9_0 := blk_frozen BK126.out 0))
 go_loopg [10] k (fun kq v10 w' => ∃ (x10_1 : Int) (xaa_1 : List (List Int)) (uaa : Value), v10 = .int .i64 x10_1 ∧ Aside0 (spec_l2Own.l0 kq l0_0 (l0_0.length : Int) x10_1 xaa_1 = some r) ∧ Aside0 (kq ≤ k) ∧ Aside0 (Kd.S (Kd.slice 5 (Kd.int .u8)) 25 w' w.heap.size (fun _ => True) uaa xaa_1) ∧ Aside0 (w'.heap[gb126]? = some (.cells #[(.slice A0_0 l0_0.length c0_0)] 107 (0, 0))) ∧ Aside0 (w'.heap[gb127]? = some (.cells #[(.slice none 0 0)] 107 (0, 0))) ∧ Aside0 (w'.heap[gb128]? = some (.cells #[uaa] 107 (0, 0))) ∧ Aside0 (Below w.heap.size w w'))
 case atStart => exact ⟨(0), (([] : List (List Int))), (.slice none 0 0), (by first | rfl | (simp; done) | (simp [*]; done)), H', ⟨Nat.le_refl _⟩, ⟨by first | exact Kd.S_nil _ _ _ _ _ | exact Kd.N_nil _ _ _ _ _ | exact Kd.V_nil _ _ _ _ _ | exact Kd.Q_nil _ _ _ _ _ | exact Kd.R_nil _ _ _ _ _⟩, ⟨by (with_reducible repeat (first | apply blk_drewN | apply blk_drew | apply blk_alloc)); refine blk_far ?_ NB126_128.out _; (with_reducible repeat (first | apply blk_drewN | apply blk_drew | apply blk_alloc)); exact BK126.out⟩, ⟨by (with_reducible repeat (first | apply blk_drewN | apply blk_drew | apply blk_alloc)); refine blk_far ?_ NB127_128.out _; (with_reducible repeat (first | apply blk_drewN | apply blk_drew | apply blk_alloc)); exact BK127.out⟩, ⟨by (with_reducible repeat (first | apply blk_drewN | apply blk_drew | apply blk_alloc)); refine blk_put (cs := #[.slice none 0 0]) ?_ 0 _ rfl; (with_reducible repeat (first | apply blk_drewN | apply blk_drew | apply blk_alloc)); exact BK128.out⟩, ⟨by repeat (first | (with_reducible first | exact HB.out | apply below_alloc | apply pw_below_drewN | apply below_drew1 | refine below_set ?_ GE126.out | refine below_set ?_ GE127.out | refine below_set ?_ GE128.out) | exact HB.out)⟩⟩
 case round =>
  clear H'; (try clear hfz7_0); (try clear hfz9_0); obtain ⟨x10_1, xaa_1, uaa, rfl, HA, HK1, HO_aa, BK126, BK127, BK128, HB⟩ := hrel
  cases gk with
  | zero => exact absurd HA.out (by simp [spec_l2Own.l0])
  | succ k1 =>
   have H := HA.out; clear HA
   simp only [spec_l2Own.l0] at H
   by_cases c10 : x10_1 < (l0_0.length : Int)
   ·rw [if_pos c10] at H; have c10b0 := decide_eq_true c10; clear c10
    obtain ⟨c11, H⟩ := it_ H; have c11b0 := decide_eq_true c11; clear c11
    obtain ⟨c12, H⟩ := it_ H; have c12b0 := decide_eq_true c12; clear c12; obtain ⟨y130, hy130⟩ : ∃ y_ : List Int, y_ = (([] : List Int)) := ⟨_, rfl⟩
    replace H : (if y130.length + (rd_L3 l0_0 x10_1).length < 140737488355328 then (if xaa_1.length < 5864062014805 then (spec_l2Own.l0 k1 l0_0 (l0_0.length : Int) (wrap64 (x10_1 + 1)) (xaa_1 ++ [(y130 ++ (rd_L3 l0_0 x10_1))])) else (none)) else (none)) = some r := by first | (rw [hy130]; exact H) | (have H2_ := (Option.bind_some _ _).symm.trans H; first | exact H2_ | (rw [hy130]; exact H2_)) | exact H
    have Ny130 := am hy130; clear hy130
    obtain ⟨c13, H⟩ := it_ H; have LMc13 := am c13; clear c13; obtain ⟨y133, hy133⟩ : ∃ y_ : List Int, y_ = (y130 ++ (rd_L3 l0_0 x10_1)) := ⟨_, rfl⟩
    replace H : (if xaa_1.length < 5864062014805 then (spec_l2Own.l0 k1 l0_0 (l0_0.length : Int) (wrap64 (x10_1 + 1)) (xaa_1 ++ [y133])) else (none)) = some r := by first | (rw [hy133]; exact H) | (have H2_ := (Option.bind_some _ _).symm.trans H; first | exact H2_ | (rw [hy133]; exact H2_)) | exact H
    have Ny133 := am hy133; clear hy133
    obtain ⟨c14, H⟩ := it_ H; have LMc14 := am c14; clear c14; obtain ⟨y136, hy136⟩ : ∃ y_ : List (List Int), y_ = (xaa_1 ++ [y133]) := ⟨_, rfl⟩
    replace H : (spec_l2Own.l0 k1 l0_0 (l0_0.length : Int) (wrap64 (x10_1 + 1)) y136) = some r := by first | (rw [hy136]; exact H) | (have H2_ := (Option.bind_some _ _).symm.trans H; first | exact H2_ | (rw [hy136]; exact H2_)) | exact H
    have Ny136 := am hy136; clear hy136; have H' := am H; clear H; have p129 : 0 ≤ (x10_1 : Int) := of_decide_eq_true (by with_reducible assumption); have q129 : x10_1 < (l0_0.length : Int) := of_decide_eq_true (by with_reducible assumption); obtain ⟨ad129, A129_0, c129_0, e129, hx129_0, hl129_0, hi129_0⟩ := at_L3 HR0_0.out x10_1 p129 q129; cases e129; replace hx129_0 := (HB.out.cell (World.block_lt_of_cell? w _ hx129_0)).trans hx129_0; have HR129_0 := am hi129_0; have HC129_0 := am hl129_0; clear hi129_0 hl129_0; replace p129 := eq_true p129; replace q129 := eq_true q129
    try go_wp2
    replace HO_aa := am (Kd.S_drew HO_aa.out); replace BK126 := am (blk_drew BK126.out); replace BK127 := am (blk_drew BK127.out); replace BK128 := am (blk_drew BK128.out); replace HB := am (below_drew1 HB.out)
    refine start_ (n := 9) (S := fun w' => w'.cell? ⟨gb128, 0, none⟩ = some (uaa)) (ds := [8]) #[false, false, false, false, false, false, false, false, false] (by kernel_rfl) rfl rfl ((blk_cell BK128.out 0).trans rfl) (fun hHeld => ?_); refine with_tabW spec_l2Own.tab5 spec_l2Own.bits5 (fun HT_ HW_ => ?_)
    generalize wr.drew = w15 at HO_aa BK126 BK127 BK128 HB hHeld ⊢
    refine pu_ (i := 0) (some 14) #[true, false, false, false, false, false, false, false, false] HT_ ?_
    refine pu_ (i := 3) (some 17) #[true, false, false, true, false, false, false, false, false] HT_ ?_
    refine ta_ (i := 1) (some 15) #[true, true, false, true, false, false, false, false, false] HT_ HW_ hHeld ?_
    refine one_ (i := 2) (N := some 16) #[true, true, true, true, false, false, false, false, false] rfl rfl (one_of HT_.out (by kernel_rfl)) (by decide) (fun K hK => ?_)
    refine Kd.R_lit_step (Kd.int .u8) _ 5 ?hg (N := 16) ?hd (xs := ([] : List Int)) (inner := []) (ok := fun _ => True) (okp := fun _ => True) ?hr ?hp (fun _ hk => hk) trivial (Below.refl _ _) (Nat.le_refl _) (by simp) ?_; (case hd => rfl); (case hg => rfl); (case hr => first | (go_simp; done) | (go_simp; rfl)); (case hp => exact (Reps.none _ _))
    intro v131 w16 ho17 hb hg_ hnew_; clear hg_ hnew_
    (first | rw [← Ny130.out] at ho17 | (simp only [Int.reduceToNat] at ho17; rw [← Ny130.out] at ho17))
    replace HO_aa := am (Kd.S_elder' (zS HO_aa.out) (Kd.R_base ho17) hb)
    have HO132 := am (Kd.R_lower ho17 (zs_ HB.out))
    replace BK126 := am (blk_below (zK BK126.out) hb)
    replace BK127 := am (blk_below (zK BK127.out) hb)
    replace BK128 := am (blk_below (zK BK128.out) hb)
    replace HB := am (below_step (zB HB.out) hb); clear hb ho17
    refine hK.out _ _ ((blk_cell BK128.out 0).trans rfl) (fun hHeld => ?_)
    clear hK K
    refine norm_ (a' := ?_) ?_ ?_
    rotate_left
    ·show Act.put _ (some 16) _ = _
     simp only [Act.put, List.setIfInBounds_toArray, List.set_cons_zero, List.set_cons_succ, i64_w, i32_w]; rfl
    refine one_ (i := 4) (N := some 18) #[true, true, true, true, true, false, false, false, false] rfl rfl (one_of HT_.out (by kernel_rfl)) (by decide) (fun K hK => ?_)
    refine Kd.R_append_rows_step (Kd.int .u8) (w0 := w) w.heap.size (by rfl) (.tmp 16) (.tmp 17) 25 5 (.int .u8 0) 1 rfl Try.underlying25 info5 rfl (by decide) (by omega) v131 y130 (rd_L3 l0_0 x10_1) _ _ _ (fun _ => True) (fun _ => False) rfl rfl ?aO ?aR (fun _ _ h => h) (fun _ h => h.elim) ?aF ?aB ?aS ?aL ?_
    (case aR => exact zC (Kd.C_below HR129_0.out HB.out))
    (case aB => exact (zB HB.out))
    (case aF => exact (fun _ _ => trivial))
    (case aO => exact (zR HO132.out))
    (case aS => exact (zs_ HB.out))
    (case aL => have := LMc13.out; omega)
    intro v134 w18 ho hb hg hat; rw [← Ny133.out] at ho
    replace HO_aa := am (Kd.S_after (ok := (fun _ => True)) (zS HO_aa.out) hg hat)
    replace BK126 := am (blk_grown (zK BK126.out) hg (Kd.R_ne HO132.out BK126.out (by decide)))
    replace BK127 := am (blk_grown (zK BK127.out) hg (Kd.R_ne HO132.out BK127.out (by decide)))
    replace BK128 := am (blk_grown (zK BK128.out) hg (Kd.R_ne HO132.out BK128.out (by decide)))
    replace HB := am (hb); have HO135 := am (ho); (try clear HO132); clear ho hb hg hat; obtain ⟨Ao20, co20, eo20⟩ := Kd.R_slice HO135.out
    (first | subst eo20 | (injection eo20 with f1_ f2_ f3_; have f4_ := f1_.symm; have f5_ := f3_.symm; clear f1_ f2_ f3_; subst f4_; subst f5_))
    refine hK.out _ _ ((blk_cell BK128.out 0).trans rfl) (fun hHeld => ?_)
    clear hK K
    refine norm_ (a' := ?_) ?_ ?_
    rotate_left
    ·show Act.put _ (some 18) _ = _
     simp only [Act.put, List.setIfInBounds_toArray, List.set_cons_zero, List.set_cons_succ, i64_w, i32_w]; rfl
    refine one_ (i := 5) (N := some 19) #[true, true, true, true, true, true, false, false, false] rfl rfl (one_of HT_.out (by kernel_rfl)) (by decide) (fun K hK => ?_)
    refine value_ (w1 := ?_) (v := ?_) (by rfl) rfl ?_ ?_
    rotate_left 2
    ·go_simp
     constructor
     ·rfl
     ·rfl
    refine hK.out _ _ ((blk_cell (blk_alloc BK128.out _) 0).trans rfl) (fun hHeld => ?_)
    clear hK K
    refine norm_ (a' := ?_) ?_ ?_
    rotate_left
    ·show Act.put _ (some 19) _ = _
     simp only [Act.put, List.setIfInBounds_toArray, List.set_cons_zero, List.set_cons_succ, i64_w, i32_w]; rfl
    refine one_ (i := 6) (N := some 20) #[true, true, true, true, true, true, true, false, false] rfl rfl (one_of HT_.out (by kernel_rfl)) (by decide) (fun K hK => ?_)
    refine Kd.S_append_step (Kd.slice 5 (Kd.int .u8)) (w0 := w) w.heap.size (by rfl) (.tmp 15) (.tmp 19) 105 25 (.slice none 0 0) 24 rfl Try.underlying105 info25 rfl (by decide) (by omega) uaa xaa_1 y133 [.slice Ao20 y133.length co20] (fun _ => True) (fun k_ => some k_ = (.slice Ao20 y133.length co20 : Value).ownBlock) rfl rfl ?aP (fun k_ hk_ => ((Kd.R_mono (ok' := fun k_ => ((fun _ => True)) k_ ∧ some k_ ≠ (uaa : Value).ownBlock) (Kd.R_apart' (HO135.out) (Kd.S_typed HO_aa.out) (by decide)) (fun k_ hk => ⟨trivial, hk.2⟩))).1 k_ hk_.symm) ?aF ?aO ?aB ?aS ?aL ?_
    (case aP => exact Kd.M_row (Kd.R_mono (Kd.R_tight rfl (Kd.R_mono (ok' := fun k_ => ((fun _ => True)) k_ ∧ some k_ ≠ (uaa : Value).ownBlock) (Kd.R_apart' (HO135.out) (Kd.S_typed HO_aa.out) (by decide)) (fun k_ hk => ⟨trivial, hk.2⟩))) (fun _ h_ => h_)))
    (case aB => exact (zB HB.out))
    (case aF => exact (fun _ _ => trivial))
    (case aO => exact (zS (Kd.S_mono HO_aa.out (fun k_ hk => ⟨trivial, fun e_ => hk.2 e_⟩))))
    (case aS => exact (zs_ HB.out))
    (case aL => have := LMc14.out; omega)
    intro v137 w19 ho hb hg hat; rw [← Ny136.out] at ho
    replace BK126 := am (blk_grown (zK BK126.out) hg (Kd.S_ne HO_aa.out BK126.out (by decide)))
    replace BK127 := am (blk_grown (zK BK127.out) hg (Kd.S_ne HO_aa.out BK127.out (by decide)))
    replace BK128 := am (blk_grown (zK BK128.out) hg (Kd.S_ne HO_aa.out BK128.out (by decide)))
    replace HB := am (hb); have HO138 := am (ho); (try clear HO_aa); (try clear HO135); clear ho hb hg hat; obtain ⟨Ao21, co21, eo21⟩ := Kd.S_slice HO138.out
    (first | subst eo21 | (injection eo21 with f1_ f2_ f3_; have f4_ := f1_.symm; have f5_ := f3_.symm; clear f1_ f2_ f3_; subst f4_; subst f5_))
    refine hK.out _ _ ((blk_cell BK128.out 0).trans rfl) (fun hHeld => ?_)
    clear hK K
    refine norm_ (a' := ?_) ?_ ?_
    rotate_left
    ·show Act.put _ (some 20) _ = _
     simp only [Act.put, List.setIfInBounds_toArray, List.set_cons_zero, List.set_cons_succ, i64_w, i32_w]; rfl
    refine pu_ (i := 7) (some 21) #[true, true, true, true, true, true, true, true, false] HT_ ?_
    refine last_ (i := 8) (N := none) #[true, true, true, true, true, true, true, true, true] rfl rfl (one_of HT_.out (by kernel_rfl)) (by decide) (fun K hK => ?_)
    have hs22 : w19.cell? ⟨gb128, 0, none⟩ = some (uaa) := (blk_cell BK128.out 0).trans rfl; have hfs22 := blk_frozen BK128.out 0; have hns22_0 := NB126_128.out; have hns22_1 := NB127_128.out; have hms22_0 := NB128_126.out; have hms22_1 := NB128_127.out
    refine skip_ (w1 := ?_) (by rfl) rfl ?_ ?_
    rotate_left
    ·go_simp; rfl
    refine hK.out _ _ ?_
    clear hK K
    refine done_ (done_of HT_.out (by kernel_rfl)) ?_
    try go_wp2
    go_roundg k1
    case measure => have := HK1.out; omega
    case rel => exact ⟨(wrap64 (x10_1 + 1)), (y136), (.slice Ao21 y136.length co21), (by first | rfl | (simp; done) | (simp [*]; done)), H', ⟨by have := HK1.out; omega⟩, ⟨zS (Kd.S_mono (Kd.S_far (p := ⟨gb128, 0, none⟩) (Kd.S_types HO138.out BK128.out (by decide)) (fun _ hk => hk.2) (.slice Ao21 y136.length co21)) (fun _ hk => trivial))⟩, ⟨by (with_reducible repeat (first | apply blk_drewN | apply blk_drew | apply blk_alloc)); refine blk_far ?_ NB126_128.out _; (with_reducible repeat (first | apply blk_drewN | apply blk_drew | apply blk_alloc)); exact BK126.out⟩, ⟨by (with_reducible repeat (first | apply blk_drewN | apply blk_drew | apply blk_alloc)); refine blk_far ?_ NB127_128.out _; (with_reducible repeat (first | apply blk_drewN | apply blk_drew | apply blk_alloc)); exact BK127.out⟩, ⟨by (with_reducible repeat (first | apply blk_drewN | apply blk_drew | apply blk_alloc)); refine blk_put (cs := #[uaa]) ?_ 0 _ rfl; (with_reducible repeat (first | apply blk_drewN | apply blk_drew | apply blk_alloc)); exact BK128.out⟩, ⟨by repeat (first | (with_reducible first | exact HB.out | apply below_alloc | apply pw_below_drewN | apply below_drew1 | refine below_set ?_ GE126.out | refine below_set ?_ GE127.out | refine below_set ?_ GE128.out) | exact HB.out)⟩⟩
   ·rw [if_neg c10] at H; have c10b0 := decide_eq_false c10; clear c10; obtain rfl := Option.some.inj H; have hnb23 := NB128_126.out; have hnc23 := NB126_128.out; have hnb24 := NB128_127.out; have hnc24 := NB127_128.out; have hcz25_0 : wr.cell? ⟨gb128, 0, none⟩ = some (uaa) := (blk_cell BK128.out 0).trans rfl; have hfz25_0 := blk_frozen BK128.out 0; obtain ⟨Ao26, co26, eo26⟩ := Kd.S_slice HO_aa.out
    subst eo26
    have hnb27 := NB127_126.out; have hnc27 := NB126_127.out; have hcz28_0 : wr.cell? ⟨gb127, 0, none⟩ = some (.slice none 0 0) := (blk_cell BK127.out 0).trans rfl; have hfz28_0 := blk_frozen BK127.out 0
    go_wp2
    refine bodyPost_ret (results_cell_row rfl _ _ gb127 107 #[.slice Ao26 xaa_1.length co26] (0, 0) _ rfl (by (with_reducible repeat (first | apply blk_drewN | apply blk_drew | apply blk_alloc)); refine blk_put (cs := #[.slice none 0 0]) ?_ 0 _ rfl; (with_reducible repeat (first | apply blk_drewN | apply blk_drew | apply blk_alloc)); exact BK127.out) Try.underlying107 rfl (by kernel_rfl)) rfl ?_
    exact ⟨_, by first | rfl | (simp [errW_none, errW_some] <;> rfl) | (simp [*, errW_none, errW_some] <;> rfl), zS (Kd.S_mono (Kd.S_far (p := ⟨gb127, 0, none⟩) (Kd.S_types HO_aa.out BK127.out (by decide)) (fun _ hk => hk.2) (.slice Ao26 xaa_1.length co26)) (fun _ hk => trivial)), by repeat (first | (with_reducible first | exact HB.out | apply below_alloc | apply pw_below_drewN | apply below_drew1 | refine below_set ?_ GE126.out | refine below_set ?_ GE127.out | refine below_set ?_ GE128.out) | exact HB.out)⟩

end Go.Proofs.Ytekaaoeojbclfaa.PFnExactRandomFor
