/- A law's functions as plain Lean functions, each with the walk that shows that the code computes it: written by this session's program wip/tools/ppmake.py. -/
import Derived.Test.YtbloniemhkfnlaaKZ
import Derived.Test.YtbloniemhkfnlaaPFnExactCorrectWordx0
import Derived.Test.YtbloniemhkfnlaaPFnExactCorrectWordx1
namespace Go.Proofs.Ytbloniemhkfnlaa.PFnExactCorrectWord
open Go.RowKit Go.Proofs.YtbloniemhkfnlaaW.PrintWords Go.Proofs.YtbloniemhkfnlaaW.PrintLast Go.Proofs.YtbloniemhkfnlaaW.PrintMore
attribute [local go_sem] max2_int min2_int max_two min_two max_three min_three max_four min_four   -- for this text's walks alone
set_option linter.unusedVariables false
set_option linter.unusedSimpArgs false

/-! ### spec_l8Syndromes: function 41 -/
def spec_l8Syndromes.l0 : Nat → List Int → Int → List Int → Int → Option (List Int)
 | 0, _, _, _, _ => none
 | k + 1, x0, x1, x5, x6 => if x6 ≤ (wrap64 (2 * x1)) then ((spec_l1Power.f k 3 x6).bind fun t116 => ((spec_l7At.f k x0 t116).bind fun t117 => (if x5.length < 140737488355328 then (spec_l8Syndromes.l0 k x0 x1 (x5 ++ [t117]) (wrap64 (x6 + 1))) else (none)))) else (some x5)
def spec_l8Syndromes.f (k : Nat) (l0 : List Int) (a1 : Int) : Option (List Int) := spec_l8Syndromes.l0 k l0 a1 ([] : List Int) 1
theorem spec_l8Syndromes.mono_l : ∀ k, (∀ y0 y1 y2 y3, LeO (spec_l8Syndromes.l0 k y0 y1 y2 y3) (spec_l8Syndromes.l0 (k + 1) y0 y1 y2 y3))
 | 0 => fun _ _ _ _ r h => by simp [spec_l8Syndromes.l0] at h
 | k + 1 => by
  have ih0 := spec_l8Syndromes.mono_l k
  ·intro y0 y1 y2 y3
   unfold spec_l8Syndromes.l0
   repeat' first | apply LeO.refl | apply LeO.none | apply LeO.ite | apply ih0 | apply spec_l1Power.mono | apply spec_l7At.mono | (refine LeO.bind ?_ (fun _ => ?_))
theorem spec_l8Syndromes.mono : ∀ a0 a1 k, LeO (spec_l8Syndromes.f k a0 a1) (spec_l8Syndromes.f (k + 1) a0 a1) := by
 intro a0 a1 k; have ih0 := spec_l8Syndromes.mono_l k
 unfold spec_l8Syndromes.f
 repeat' first | apply LeO.refl | apply LeO.none | apply LeO.ite | apply ih0 | apply spec_l1Power.mono | apply spec_l7At.mono | (refine LeO.bind ?_ (fun _ => ?_))
set_option maxHeartbeats 8000000 in
set_option maxRecDepth 100000 in
theorem spec_l8Syndromes.calls (k : Nat) (A0 : Option Addr) (c0 : Nat) (l0 : List Int) (a1 : Int) (r : List Int) (w : World) (hr0 : Kd.C (Kd.int .u8) w A0 l0.length l0) (hc0 : l0.length ≤ c0) (h : spec_l8Syndromes.f k l0 a1 = some r) :
  Calls Try.prog 41 #[.slice A0 l0.length c0, .int .i64 a1] w fun e w' => ∃ v0_ : Value, e = .returned (v0_) ∧ Kd.R (Kd.int .u8) 5 w' w.heap.size (fun _ => True) v0_ r ∧ Below w.heap.size w w' := by
 have HR0 := am hr0; have HC0 := am hc0; clear hr0 hc0; have HB := am (Below.refl w.heap.size w); have H : (spec_l8Syndromes.l0 k l0 a1 ([] : List Int) 1) = some r := h; clear h; have H' := am H; clear H
 go_enter Try.func41, Try.ntmps41
 go_wp2
 go_loopg [5, 6] k (fun kq v5 v6 w' => ∃ (x5_1 : List Int) (x6_1 : Int), v6 = .int .i64 x6_1 ∧ Aside0 (spec_l8Syndromes.l0 kq l0 a1 x5_1 x6_1 = some r) ∧ Aside0 (kq ≤ k) ∧ Aside0 (Kd.R (Kd.int .u8) 5 w' w.heap.size (fun _ => True) v5 x5_1) ∧ Aside0 (Below w.heap.size w w'))
 case atStart => exact ⟨(([] : List Int)), (1), (by first | rfl | (simp; done) | (simp [*]; done)), H', ⟨Nat.le_refl _⟩, ⟨by first | apply Kd.R_nil | apply Kd.N_nil | apply Kd.V_nil | apply Kd.Q_nil | apply Kd.S_nil⟩, ⟨zB HB.out⟩⟩
 case round =>
  clear H'; (try clear p2); obtain ⟨x5_1, x6_1, rfl, HA, HK1, HO_5, HB⟩ := hrel
  cases gk with
  | zero => exact absurd HA.out (by simp [spec_l8Syndromes.l0])
  | succ k1 =>
   have H := HA.out; clear HA
   simp only [spec_l8Syndromes.l0] at H
   by_cases c3 : x6_1 ≤ (wrap64 (2 * a1))
   ·rw [if_pos c3] at H; have c3b0 : decide (x6_1 ≤ (wrap64 (2 * a1))) = true := decide_eq_true c3; clear c3; obtain ⟨t116, A4, H⟩ := bi_ H; obtain ⟨t117, A5, H⟩ := bi_ H
    obtain ⟨c6, H⟩ := it_ H; have LMc6 := am c6; clear c6; obtain ⟨y118, hy118⟩ : ∃ y_ : List Int, y_ = (x5_1 ++ [t117]) := ⟨_, rfl⟩
    replace H : (spec_l8Syndromes.l0 k1 l0 a1 y118 (wrap64 (x6_1 + 1))) = some r := by first | (rw [hy118]; exact H) | (have H2_ := (Option.bind_some _ _).symm.trans H; first | exact H2_ | (rw [hy118]; exact H2_)) | exact H
    have Ny118 := am hy118; clear hy118; have H' := am H; clear H
    go_wp2_with (first | ((with_reducible refine gate_callee (f := 54) rfl ?_); refine goL_ (some 16) Try.func54 #[.int .u8 3, .int .i64 x6_1] ?_; (with_reducible refine (spec_l1Power.calls k1 3 x6_1 t116 _ A4.out).mono ?_); rintro e w' ⟨rfl, ⟨nd, rfl⟩⟩; refine ⟨_, rfl, ?_⟩) | ((with_reducible refine gate_callee (f := 52) rfl ?_); refine goL_ (some 17) Try.func52 #[.slice A0 l0.length c0, .int .u8 t116] ?_; (with_reducible refine (spec_l7At.calls k1 _ _ l0 t116 t117 _ ?side1 ?side2 A5.out).mono ?_); (case side1 => exact zC (Kd.C_below HR0.out HB.out)); (case side2 => exact HC0.out); rintro e w' ⟨rfl, ⟨nd, rfl⟩⟩; refine ⟨_, rfl, ?_⟩) | ((with_reducible refine gate_builtin (b := .append) (xs := #[.tmp 13, .tmp 18]) rfl ?_); at_builtin; refine Kd.R_append (Kd.int .u8) (w0 := w) w.heap.size rfl (.tmp 13) (.tmp 18) 22 5 (.int .u8 0) 1 rfl Try.underlying22 info5 rfl (by decide) (by omega) u5 x5_1 t117 [.int .u8 t117] (fun _ => True) (fun _ => False) rfl rfl ?aP (fun _ hk => hk.elim) ?aF ?aO ?aB ?aS ?aL ?_; (case aP => exact rfl); (case aB => exact (zB HB.out)); (case aF => exact (fun _ _ => trivial)); (case aO => exact (zR HO_5.out)); (case aS => exact (zs_ HB.out)); (case aL => have := LMc6.out; omega); intro v119 w7 ho hb hg hat; rw [← Ny118.out] at ho; replace HB := am (hb); have HO120 := am (ho); (try clear HO_5); clear ho hb hg hat))
    go_roundg k1
    case measure => have := HK1.out; omega
    case rel => exact ⟨(y118), (wrap64 (x6_1 + 1)), (by first | rfl | (simp; done) | (simp [*]; done)), H', ⟨by have := HK1.out; omega⟩, ⟨zR HO120.out⟩, ⟨zB HB.out⟩⟩
   ·rw [if_neg c3] at H; have c3b0 : decide (x6_1 ≤ (wrap64 (2 * a1))) = false := decide_eq_false c3; clear c3; obtain rfl := Option.some.inj H
    go_wp2
    go_ret
    exact ⟨_, by first | rfl | (simp [errW_none, errW_some] <;> rfl) | (simp [*, errW_none, errW_some] <;> rfl), zR HO_5.out, zB HB.out⟩

/-! ### spec_l8Zero: function 44 -/
def spec_l8Zero.l0 : Nat → List Int → Int → Int → Option (Bool)
 | 0, _, _, _ => none
 | k + 1, x5, x6, x7 => if x7 < x6 then (if 0 ≤ x7 then (if x7 < (x5.length : Int) then (if (rd x5 x7) = 0 then (spec_l8Zero.l0 k x5 x6 (wrap64 (x7 + 1))) else (some false)) else (none)) else (none)) else (some true)
def spec_l8Zero.f (k : Nat) (l0 : List Int) : Option (Bool) := spec_l8Zero.l0 k l0 (l0.length : Int) 0
theorem spec_l8Zero.mono_l : ∀ k, (∀ y0 y1 y2, LeO (spec_l8Zero.l0 k y0 y1 y2) (spec_l8Zero.l0 (k + 1) y0 y1 y2))
 | 0 => fun _ _ _ r h => by simp [spec_l8Zero.l0] at h
 | k + 1 => by
  have ih0 := spec_l8Zero.mono_l k
  ·intro y0 y1 y2
   unfold spec_l8Zero.l0
   repeat' first | apply LeO.refl | apply LeO.none | apply LeO.ite | apply ih0 | (refine LeO.bind ?_ (fun _ => ?_))
theorem spec_l8Zero.mono : ∀ a0 k, LeO (spec_l8Zero.f k a0) (spec_l8Zero.f (k + 1) a0) := by
 intro a0 k; have ih0 := spec_l8Zero.mono_l k
 unfold spec_l8Zero.f
 repeat' first | apply LeO.refl | apply LeO.none | apply LeO.ite | apply ih0 | (refine LeO.bind ?_ (fun _ => ?_))
set_option maxHeartbeats 8000000 in
set_option maxRecDepth 100000 in
theorem spec_l8Zero.calls (k : Nat) (A0 : Option Addr) (c0 : Nat) (l0 : List Int) (r : Bool) (w : World) (hr0 : Kd.C (Kd.int .u8) w A0 l0.length l0) (hc0 : l0.length ≤ c0) (h : spec_l8Zero.f k l0 = some r) :
  Calls Try.prog 44 #[.slice A0 l0.length c0] w fun e w' => e = .returned (.bool r) ∧ Drawn0 w w' := by
 have HR0 := am hr0; have HC0 := am hc0; clear hr0 hc0; have H : (spec_l8Zero.l0 k l0 (l0.length : Int) 0) = some r := h; clear h; have H' := am H; clear H
 go_enter Try.func44, Try.ntmps44
 go_wp2
 go_loopg [7] k (fun kq v7 w' => ∃ (x7_1 : Int), v7 = .int .i64 x7_1 ∧ Aside0 (spec_l8Zero.l0 kq l0 (l0.length : Int) x7_1 = some r) ∧ Aside0 (kq ≤ k) ∧ Drawn0 w w')
 case atStart => exact ⟨(0), (by first | rfl | (simp; done) | (simp [*]; done)), H', ⟨Nat.le_refl _⟩, by repeat (first | exact Drawn0.refl _ | apply Drawn0.step)⟩
 case round =>
  clear H'; obtain ⟨x7_1, rfl, HA, HK1, ⟨m1, rfl⟩⟩ := hrel
  cases gk with
  | zero => exact absurd HA.out (by simp [spec_l8Zero.l0])
  | succ k1 =>
   have H := HA.out; clear HA
   simp only [spec_l8Zero.l0] at H
   by_cases c2 : x7_1 < (l0.length : Int)
   ·rw [if_pos c2] at H; have c2b0 : decide (x7_1 < (l0.length : Int)) = true := decide_eq_true c2; clear c2
    obtain ⟨c3, H⟩ := it_ H; have c3b0 := decide_eq_true c3; clear c3
    obtain ⟨c4, H⟩ := it_ H; have c4b0 := decide_eq_true c4; clear c4
    by_cases c5 : (rd l0 x7_1) = 0
    ·rw [if_pos c5] at H; have c5b0 : ((rd l0 x7_1) == 0) = true := beq_iff_eq.mpr c5; have c5b1 : ((rd l0 x7_1) != 0) = false := bne_eq_false_iff_eq.mpr c5; clear c5; have H' := am H; clear H; have p121 : 0 ≤ (x7_1 : Int) := of_decide_eq_true (by with_reducible assumption); have q121 : x7_1 < (l0.length : Int) := of_decide_eq_true (by with_reducible assumption); obtain ⟨ad121, e121, hx121_0⟩ := Kd.at_int HR0.out x7_1 p121 q121; cases e121; replace p121 := eq_true p121; replace q121 := eq_true q121
     go_wp2
     go_roundg k1
     case measure => have := HK1.out; omega
     case rel => exact ⟨(wrap64 (x7_1 + 1)), (by first | rfl | (simp; done) | (simp [*]; done)), H', ⟨by have := HK1.out; omega⟩, by repeat (first | exact Drawn0.refl _ | apply Drawn0.step)⟩
    ·rw [if_neg c5] at H; have c5b0 : ((rd l0 x7_1) == 0) = false := beq_eq_false_iff_ne.mpr c5; have c5b1 : ((rd l0 x7_1) != 0) = true := bne_iff_ne.mpr c5; obtain rfl := Option.some.inj H; have p121 : 0 ≤ (x7_1 : Int) := of_decide_eq_true (by with_reducible assumption); have q121 : x7_1 < (l0.length : Int) := of_decide_eq_true (by with_reducible assumption); obtain ⟨ad121, e121, hx121_0⟩ := Kd.at_int HR0.out x7_1 p121 q121; cases e121; replace p121 := eq_true p121; replace q121 := eq_true q121
     go_wp2
     go_ret
     exact ⟨by first | rfl | (simp; done) | (simp [*]; done), by repeat (first | exact Drawn0.refl _ | apply Drawn0.step)⟩
   ·rw [if_neg c2] at H; have c2b0 : decide (x7_1 < (l0.length : Int)) = false := decide_eq_false c2; clear c2; obtain rfl := Option.some.inj H
    go_wp2
    go_ret
    exact ⟨by first | rfl | (simp; done) | (simp [*]; done), by repeat (first | exact Drawn0.refl _ | apply Drawn0.step)⟩

/-! ### spec_l1Inverse: function 53 -/
def spec_l1Inverse.f (k : Nat) (a0 : Int) : Option (Int) := if a0 = 0 then (some 0) else ((spec_l1Power.f k a0 254).bind fun t122 => (some t122))
theorem spec_l1Inverse.mono : ∀ a0 k, LeO (spec_l1Inverse.f k a0) (spec_l1Inverse.f (k + 1) a0) := by
 intro a0 k
 unfold spec_l1Inverse.f
 repeat' first | apply LeO.refl | apply LeO.none | apply LeO.ite | apply spec_l1Power.mono | (refine LeO.bind ?_ (fun _ => ?_))
set_option maxHeartbeats 8000000 in
set_option maxRecDepth 100000 in
theorem spec_l1Inverse.calls (k : Nat) (a0 : Int) (r : Int) (w : World) (h : spec_l1Inverse.f k a0 = some r) :
  Calls Try.prog 53 #[.int .u8 a0] w fun e w' => e = .returned (.int .u8 r) ∧ Drawn0 w w' := by
 have H : (if a0 = 0 then (some 0) else ((spec_l1Power.f k a0 254).bind fun t122 => (some t122))) = some r := h; clear h
 by_cases c2 : a0 = 0
 ·rw [if_pos c2] at H; have c2b0 : (a0 == 0) = true := beq_iff_eq.mpr c2; have c2b1 : (a0 != 0) = false := bne_eq_false_iff_eq.mpr c2; clear c2; obtain rfl := Option.some.inj H
  go_enter Try.func53, Try.ntmps53
  go_wp2
  go_ret
  exact ⟨by first | rfl | (simp; done) | (simp [*]; done), by repeat (first | exact Drawn0.refl _ | apply Drawn0.step)⟩
 ·rw [if_neg c2] at H; have c2b0 : (a0 == 0) = false := beq_eq_false_iff_ne.mpr c2; have c2b1 : (a0 != 0) = true := bne_iff_ne.mpr c2; obtain ⟨t122, A3, H⟩ := bi_ H; obtain rfl := Option.some.inj H
  go_enter Try.func53, Try.ntmps53
  go_wp2_with (first | ((with_reducible refine gate_callee (f := 54) rfl ?_); refine goL_ (some 6) Try.func54 #[.int .u8 a0, .int .i64 254] ?_; (with_reducible refine (spec_l1Power.calls k a0 254 t122 _ A3.out).mono ?_); rintro e w' ⟨rfl, ⟨nd, rfl⟩⟩; refine ⟨_, rfl, ?_⟩))
  go_ret
  exact ⟨by first | rfl | (simp; done) | (simp [*]; done), by repeat (first | exact Drawn0.refl _ | apply Drawn0.step)⟩

/-! ### spec_l2Own: function 84 -/
def spec_l2Own.l0 : Nat → List (List Int) → Int → Int → List (List Int) → Option ((List (List Int)))
 | 0, _, _, _, _ => none
 | k + 1, x8, x9, x10, xaa => if x10 < x9 then (if 0 ≤ x10 then (if x10 < (x8.length : Int) then ((some (([] : List Int) : List Int)).bind fun y127 => (if y127.length + (rd_L1 x8 x10).length < 140737488355328 then (if xaa.length < 5864062014805 then (spec_l2Own.l0 k x8 x9 (wrap64 (x10 + 1)) (xaa ++ [(y127 ++ (rd_L1 x8 x10))])) else (none)) else (none))) else (none)) else (none)) else (some xaa)
def spec_l2Own.f (k : Nat) (l0_0 : List (List Int)) : Option ((List (List Int))) := spec_l2Own.l0 k l0_0 (l0_0.length : Int) 0 ([] : List (List Int))
theorem spec_l2Own.mono_l : ∀ k, (∀ y0 y1 y2 y3, LeO (spec_l2Own.l0 k y0 y1 y2 y3) (spec_l2Own.l0 (k + 1) y0 y1 y2 y3))
 | 0 => fun _ _ _ _ r h => by simp [spec_l2Own.l0] at h
 | k + 1 => by
  have ih0 := spec_l2Own.mono_l k
  ·intro y0 y1 y2 y3
   unfold spec_l2Own.l0
   repeat' first | apply LeO.refl | apply LeO.none | apply LeO.ite | apply ih0 | (refine LeO.bind ?_ (fun _ => ?_))
theorem spec_l2Own.mono : ∀ a0 k, LeO (spec_l2Own.f k a0) (spec_l2Own.f (k + 1) a0) := by
 intro a0 k; have ih0 := spec_l2Own.mono_l k
 unfold spec_l2Own.f
 repeat' first | apply LeO.refl | apply LeO.none | apply LeO.ite | apply ih0 | (refine LeO.bind ?_ (fun _ => ?_))
def spec_l2Own.T5 : Bool × List (List Nat × List Nat) := (true, [([], []), ([0], [0]), ([], []), ([], []), ([2, 3], [2, 3]), ([4], [4]), ([1, 5, 4], [1, 5]), ([0, 1, 2, 3, 4, 5, 6], []), ([7, 6, 6, 0, 1, 2, 3, 4, 5, 6], [6, 7])])
def spec_l2Own.B5 : List Nat := [0, 1, 0, 0, 12, 28, 63, 127, 255]
theorem spec_l2Own.tab5 : rtab .any (opsOf Try.f84 5) = spec_l2Own.T5 := by kernel_rfl
theorem spec_l2Own.bits5 : waitsOk spec_l2Own.T5.2 spec_l2Own.B5 = true := by kernel_rfl
set_option maxHeartbeats 8000000 in
set_option maxRecDepth 100000 in
theorem spec_l2Own.calls (k : Nat) (A0_0 : Option Addr) (c0_0 : Nat) (l0_0 : List (List Int)) (r : List (List Int)) (w : World) (hr0_0 : Kd.C (Kd.slice 5 (Kd.int .u8)) w A0_0 l0_0.length l0_0) (hc0_0 : l0_0.length ≤ c0_0) (h : spec_l2Own.f k l0_0 = some r) :
  Calls Try.prog 84 #[.agg #[.slice A0_0 l0_0.length c0_0]] w fun e w' => ∃ v0_ : Value, e = .returned (.agg #[v0_]) ∧ Kd.S (Kd.slice 5 (Kd.int .u8)) 22 w' w.heap.size (fun _ => True) v0_ r ∧ Below w.heap.size w w' := by
 have hu52 := Try.underlying52; have HR0_0 := am hr0_0; have HC0_0 := am hc0_0; clear hr0_0 hc0_0; have HB := am (Below.refl w.heap.size w); have H : (spec_l2Own.l0 k l0_0 (l0_0.length : Int) 0 ([] : List (List Int))) = some r := h; clear h; have H' := am H; clear H
 go_enter Try.func84, Try.ntmps84
 go_wp2_with (first | ((with_reducible refine gate_dst (N := 1) rfl ?_); refine box_event ?hg (N := 1) ?hd (cs := #[.slice A0_0 l0_0.length c0_0]) (t := 52) ?hr ?_; (case hd => rfl); (case hg => rfl); (case hr => first | (go_simp; done) | (go_simp; rfl)); intro gb123 hg w2 hbox hb; have BK123 := am (hbox); have GW123 := am ((gw_ hg HB.out : w.heap.size ≤ gb123)); have GE123 := am ((gw_ hg HB.out : w.heap.size ≤ gb123)); replace HB := am (below_step (zB HB.out) hb); clear hb hbox hg) | ((with_reducible refine gate_dst (N := 2) rfl ?_); refine box_event ?hg (N := 2) ?hd (cs := #[.slice none 0 0]) (t := 52) ?hr ?_; (case hd => rfl); (case hg => rfl); (case hr => first | (go_simp; done) | (go_simp; rfl)); intro gb124 hg w3 hbox hb; have BK124 := am (hbox); have GW124 := am ((gw_ hg HB.out : w.heap.size ≤ gb124)); have GE124 := am ((gw_ hg HB.out : w.heap.size ≤ gb124)); replace HB := am (below_step (zB HB.out) hb); have NB123_124 := am ((by rw [hg]; exact Nat.ne_of_lt (blk_lt (zK BK123.out)) : gb123 ≠ gb124)); have NB124_123 := am ((by rw [hg]; exact Nat.ne_of_gt (blk_lt (zK BK123.out)) : gb124 ≠ gb123)); replace BK123 := am (blk_below (zK BK123.out) hb); clear hb hbox hg) | ((with_reducible refine gate_dst (N := 3) rfl ?_); refine box_event ?hg (N := 3) ?hd (cs := #[.slice none 0 0]) (t := 52) ?hr ?_; (case hd => rfl); (case hg => rfl); (case hr => first | (go_simp; done) | (go_simp; rfl)); intro gb125 hg w4 hbox hb; have BK125 := am (hbox); have GW125 := am ((gw_ hg HB.out : w.heap.size ≤ gb125)); have GE125 := am ((gw_ hg HB.out : w.heap.size ≤ gb125)); replace HB := am (below_step (zB HB.out) hb); have NB123_125 := am ((by rw [hg]; exact Nat.ne_of_lt (blk_lt (zK BK123.out)) : gb123 ≠ gb125)); have NB125_123 := am ((by rw [hg]; exact Nat.ne_of_gt (blk_lt (zK BK123.out)) : gb125 ≠ gb123)); replace BK123 := am (blk_below (zK BK123.out) hb); have NB124_125 := am ((by rw [hg]; exact Nat.ne_of_lt (blk_lt (zK BK124.out)) : gb124 ≠ gb125)); have NB125_124 := am ((by rw [hg]; exact Nat.ne_of_gt (blk_lt (zK BK124.out)) : gb125 ≠ gb124)); replace BK124 := am (blk_below (zK BK124.out) hb); clear hb hbox hg; have hnb5 := NB125_123.out; have hnc5 := NB123_125.out; have hnb6 := NB125_124.out; have hnc6 := NB124_125.out; have hcz7_0 : w4.cell? ⟨gb125, 0, none⟩ = some (.slice none 0 0) := (blk_cell BK125.out 0).trans rfl; have hfz7_0 := blk_frozen BK125.out 0; have hnb8 := NB123_124.out; have hnc8 := NB124_123.out; have hcz9_0 : w4.cell? ⟨gb123, 0, none⟩ = some (.slice A0_0 l0_0.length c0_0) := (blk_cell BK123.out 0).trans rfl; have hfz9_0 := blk_frozen BK123.out 0))
 go_loopg [10] k (fun kq v10 w' => ∃ (x10_1 : Int) (xaa_1 : List (List Int)) (uaa : Value), v10 = .int .i64 x10_1 ∧ Aside0 (spec_l2Own.l0 kq l0_0 (l0_0.length : Int) x10_1 xaa_1 = some r) ∧ Aside0 (kq ≤ k) ∧ Aside0 (Kd.S (Kd.slice 5 (Kd.int .u8)) 22 w' w.heap.size (fun _ => True) uaa xaa_1) ∧ Aside0 (w'.heap[gb123]? = some (.cells #[(.slice A0_0 l0_0.length c0_0)] 52 (0, 0))) ∧ Aside0 (w'.heap[gb124]? = some (.cells #[(.slice none 0 0)] 52 (0, 0))) ∧ Aside0 (w'.heap[gb125]? = some (.cells #[uaa] 52 (0, 0))) ∧ Aside0 (Below w.heap.size w w'))
 case atStart => exact ⟨(0), (([] : List (List Int))), (.slice none 0 0), (by first | rfl | (simp; done) | (simp [*]; done)), H', ⟨Nat.le_refl _⟩, ⟨by first | exact Kd.S_nil _ _ _ _ _ | exact Kd.N_nil _ _ _ _ _ | exact Kd.V_nil _ _ _ _ _ | exact Kd.Q_nil _ _ _ _ _ | exact Kd.R_nil _ _ _ _ _⟩, ⟨by (with_reducible repeat (first | apply blk_drewN | apply blk_drew | apply blk_alloc)); refine blk_far ?_ NB123_125.out _; (with_reducible repeat (first | apply blk_drewN | apply blk_drew | apply blk_alloc)); exact BK123.out⟩, ⟨by (with_reducible repeat (first | apply blk_drewN | apply blk_drew | apply blk_alloc)); refine blk_far ?_ NB124_125.out _; (with_reducible repeat (first | apply blk_drewN | apply blk_drew | apply blk_alloc)); exact BK124.out⟩, ⟨by (with_reducible repeat (first | apply blk_drewN | apply blk_drew | apply blk_alloc)); refine blk_put (cs := #[.slice none 0 0]) ?_ 0 _ rfl; (with_reducible repeat (first | apply blk_drewN | apply blk_drew | apply blk_alloc)); exact BK125.out⟩, ⟨by repeat (first | (with_reducible first | exact HB.out | apply below_alloc | apply pw_below_drewN | apply below_drew1 | refine below_set ?_ GE123.out | refine below_set ?_ GE124.out | refine below_set ?_ GE125.out) | exact HB.out)⟩⟩
 case round =>
  clear H'; (try clear p2); (try clear c5); (try clear c6); (try clear c8); (try clear hcz7_0); (try clear hcz9_0); (try clear hfz7_0); (try clear hfz9_0); obtain ⟨x10_1, xaa_1, uaa, rfl, HA, HK1, HO_aa, BK123, BK124, BK125, HB⟩ := hrel
  cases gk with
  | zero => exact absurd HA.out (by simp [spec_l2Own.l0])
  | succ k1 =>
   have H := HA.out; clear HA
   simp only [spec_l2Own.l0] at H
   by_cases c10 : x10_1 < (l0_0.length : Int)
   ·rw [if_pos c10] at H; have c10b0 : decide (x10_1 < (l0_0.length : Int)) = true := decide_eq_true c10; clear c10
    obtain ⟨c11, H⟩ := it_ H; have c11b0 := decide_eq_true c11; clear c11
    obtain ⟨c12, H⟩ := it_ H; have c12b0 := decide_eq_true c12; clear c12; obtain ⟨y127, hy127⟩ : ∃ y_ : List Int, y_ = (([] : List Int)) := ⟨_, rfl⟩
    replace H : (if y127.length + (rd_L1 l0_0 x10_1).length < 140737488355328 then (if xaa_1.length < 5864062014805 then (spec_l2Own.l0 k1 l0_0 (l0_0.length : Int) (wrap64 (x10_1 + 1)) (xaa_1 ++ [(y127 ++ (rd_L1 l0_0 x10_1))])) else (none)) else (none)) = some r := by first | (rw [hy127]; exact H) | (have H2_ := (Option.bind_some _ _).symm.trans H; first | exact H2_ | (rw [hy127]; exact H2_)) | exact H
    have Ny127 := am hy127; clear hy127
    obtain ⟨c13, H⟩ := it_ H; have LMc13 := am c13; clear c13; obtain ⟨y130, hy130⟩ : ∃ y_ : List Int, y_ = (y127 ++ (rd_L1 l0_0 x10_1)) := ⟨_, rfl⟩
    replace H : (if xaa_1.length < 5864062014805 then (spec_l2Own.l0 k1 l0_0 (l0_0.length : Int) (wrap64 (x10_1 + 1)) (xaa_1 ++ [y130])) else (none)) = some r := by first | (rw [hy130]; exact H) | (have H2_ := (Option.bind_some _ _).symm.trans H; first | exact H2_ | (rw [hy130]; exact H2_)) | exact H
    have Ny130 := am hy130; clear hy130
    obtain ⟨c14, H⟩ := it_ H; have LMc14 := am c14; clear c14; obtain ⟨y133, hy133⟩ : ∃ y_ : List (List Int), y_ = (xaa_1 ++ [y130]) := ⟨_, rfl⟩
    replace H : (spec_l2Own.l0 k1 l0_0 (l0_0.length : Int) (wrap64 (x10_1 + 1)) y133) = some r := by first | (rw [hy133]; exact H) | (have H2_ := (Option.bind_some _ _).symm.trans H; first | exact H2_ | (rw [hy133]; exact H2_)) | exact H
    have Ny133 := am hy133; clear hy133; have H' := am H; clear H; have p126 : 0 ≤ (x10_1 : Int) := of_decide_eq_true (by with_reducible assumption); have q126 : x10_1 < (l0_0.length : Int) := of_decide_eq_true (by with_reducible assumption); obtain ⟨ad126, A126_0, c126_0, e126, hx126_0, hl126_0, hi126_0⟩ := at_L1 HR0_0.out x10_1 p126 q126; cases e126; replace hx126_0 := (HB.out.cell (World.block_lt_of_cell? w _ hx126_0)).trans hx126_0; have HR126_0 := am hi126_0; have HC126_0 := am hl126_0; clear hi126_0 hl126_0; replace p126 := eq_true p126; replace q126 := eq_true q126
    try go_wp2
    replace HO_aa := am (Kd.S_drew HO_aa.out); replace BK123 := am (blk_drew BK123.out); replace BK124 := am (blk_drew BK124.out); replace BK125 := am (blk_drew BK125.out); replace HB := am (below_drew1 HB.out)
    refine start_ (n := 9) (S := fun w' => w'.cell? ⟨gb125, 0, none⟩ = some (uaa)) (ds := [8]) #[false, false, false, false, false, false, false, false, false] (by kernel_rfl) rfl rfl ((blk_cell BK125.out 0).trans rfl) (fun hHeld => ?_); refine with_tabW spec_l2Own.tab5 spec_l2Own.bits5 (fun HT_ HW_ => ?_)
    generalize wr.drew = w15 at HO_aa BK123 BK124 BK125 HB hHeld ⊢
    refine pu_ (i := 0) (some 14) #[true, false, false, false, false, false, false, false, false] HT_ ?_
    refine pu_ (i := 3) (some 17) #[true, false, false, true, false, false, false, false, false] HT_ ?_
    refine ta_ (i := 1) (some 15) #[true, true, false, true, false, false, false, false, false] HT_ HW_ hHeld ?_
    refine one_ (i := 2) (N := some 16) #[true, true, true, true, false, false, false, false, false] rfl rfl (one_of HT_.out (by kernel_rfl)) (by decide) (fun K hK => ?_)
    refine Kd.R_lit_step (Kd.int .u8) _ 5 ?hg (N := 16) ?hd (xs := ([] : List Int)) (inner := []) (ok := fun _ => True) (okp := fun _ => True) ?hr ?hp (fun _ hk => hk) trivial (Below.refl _ _) (Nat.le_refl _) (by simp) ?_; (case hd => rfl); (case hg => rfl); (case hr => first | (go_simp; done) | (go_simp; rfl)); (case hp => exact (Reps.none _ _))
    intro v128 w16 ho17 hb hg_ hnew_; clear hg_ hnew_
    (first | rw [← Ny127.out] at ho17 | (simp only [Int.reduceToNat] at ho17; rw [← Ny127.out] at ho17))
    replace HO_aa := am (Kd.S_elder' (zS HO_aa.out) (Kd.R_base ho17) hb)
    have HO129 := am (Kd.R_lower ho17 (zs_ HB.out))
    replace BK123 := am (blk_below (zK BK123.out) hb)
    replace BK124 := am (blk_below (zK BK124.out) hb)
    replace BK125 := am (blk_below (zK BK125.out) hb)
    replace HB := am (below_step (zB HB.out) hb); clear hb ho17
    refine hK.out _ _ ((blk_cell BK125.out 0).trans rfl) (fun hHeld => ?_)
    clear hK K
    refine norm_ (a' := ?_) ?_ ?_
    rotate_left
    ·show Act.put _ (some 16) _ = _
     simp only [Act.put, List.setIfInBounds_toArray, List.set_cons_zero, List.set_cons_succ, i64_w, i32_w]; rfl
    refine one_ (i := 4) (N := some 18) #[true, true, true, true, true, false, false, false, false] rfl rfl (one_of HT_.out (by kernel_rfl)) (by decide) (fun K hK => ?_)
    refine Kd.R_append_rows_step (Kd.int .u8) (w0 := w) w.heap.size (by rfl) (.tmp 16) (.tmp 17) 22 5 (.int .u8 0) 1 rfl Try.underlying22 info5 rfl (by decide) (by omega) v128 y127 (rd_L1 l0_0 x10_1) _ _ _ (fun _ => True) (fun _ => False) rfl rfl ?aO ?aR (fun _ _ h => h) (fun _ h => h.elim) ?aF ?aB ?aS ?aL ?_
    (case aR => exact zC (Kd.C_below HR126_0.out HB.out))
    (case aB => exact (zB HB.out))
    (case aF => exact (fun _ _ => trivial))
    (case aO => exact (zR HO129.out))
    (case aS => exact (zs_ HB.out))
    (case aL => have := LMc13.out; omega)
    intro v131 w18 ho hb hg hat; rw [← Ny130.out] at ho
    replace HO_aa := am (Kd.S_after (ok := (fun _ => True)) (zS HO_aa.out) hg hat)
    replace BK123 := am (blk_grown (zK BK123.out) hg (Kd.R_ne HO129.out BK123.out (by decide)))
    replace BK124 := am (blk_grown (zK BK124.out) hg (Kd.R_ne HO129.out BK124.out (by decide)))
    replace BK125 := am (blk_grown (zK BK125.out) hg (Kd.R_ne HO129.out BK125.out (by decide)))
    replace HB := am (hb); have HO132 := am (ho); (try clear HO129); clear ho hb hg hat; obtain ⟨Ao20, co20, eo20⟩ := Kd.R_slice HO132.out
    (first | subst eo20 | (injection eo20 with f1_ f2_ f3_; have f4_ := f1_.symm; have f5_ := f3_.symm; clear f1_ f2_ f3_; subst f4_; subst f5_))
    refine hK.out _ _ ((blk_cell BK125.out 0).trans rfl) (fun hHeld => ?_)
    clear hK K
    refine norm_ (a' := ?_) ?_ ?_
    rotate_left
    ·show Act.put _ (some 18) _ = _
     simp only [Act.put, List.setIfInBounds_toArray, List.set_cons_zero, List.set_cons_succ, i64_w, i32_w]; rfl
    refine one_ (i := 5) (N := some 19) #[true, true, true, true, true, true, false, false, false] rfl rfl (one_of HT_.out (by kernel_rfl)) (by decide) (fun K hK => ?_)
    refine value_ (w1 := ?_) (v := ?_) (by rfl) rfl ?_ ?_
    rotate_left 2
    ·go_simp
     constructor
     ·rfl
     ·rfl
    refine hK.out _ _ ((blk_cell (blk_alloc BK125.out _) 0).trans rfl) (fun hHeld => ?_)
    clear hK K
    refine norm_ (a' := ?_) ?_ ?_
    rotate_left
    ·show Act.put _ (some 19) _ = _
     simp only [Act.put, List.setIfInBounds_toArray, List.set_cons_zero, List.set_cons_succ, i64_w, i32_w]; rfl
    refine one_ (i := 6) (N := some 20) #[true, true, true, true, true, true, true, false, false] rfl rfl (one_of HT_.out (by kernel_rfl)) (by decide) (fun K hK => ?_)
    refine Kd.S_append_step (Kd.slice 5 (Kd.int .u8)) (w0 := w) w.heap.size (by rfl) (.tmp 15) (.tmp 19) 50 22 (.slice none 0 0) 24 rfl Try.underlying50 info22 rfl (by decide) (by omega) uaa xaa_1 y130 [.slice Ao20 y130.length co20] (fun _ => True) (fun k_ => some k_ = (.slice Ao20 y130.length co20 : Value).ownBlock) rfl rfl ?aP (fun k_ hk_ => ((Kd.R_mono (ok' := fun k_ => ((fun _ => True)) k_ ∧ some k_ ≠ (uaa : Value).ownBlock) (Kd.R_apart' (HO132.out) (Kd.S_typed HO_aa.out) (by decide)) (fun k_ hk => ⟨trivial, hk.2⟩))).1 k_ hk_.symm) ?aF ?aO ?aB ?aS ?aL ?_
    (case aP => exact Kd.M_row (Kd.R_mono (Kd.R_tight rfl (Kd.R_mono (ok' := fun k_ => ((fun _ => True)) k_ ∧ some k_ ≠ (uaa : Value).ownBlock) (Kd.R_apart' (HO132.out) (Kd.S_typed HO_aa.out) (by decide)) (fun k_ hk => ⟨trivial, hk.2⟩))) (fun _ h_ => h_)))
    (case aB => exact (zB HB.out))
    (case aF => exact (fun _ _ => trivial))
    (case aO => exact (zS (Kd.S_mono HO_aa.out (fun k_ hk => ⟨trivial, fun e_ => hk.2 e_⟩))))
    (case aS => exact (zs_ HB.out))
    (case aL => have := LMc14.out; omega)
    intro v134 w19 ho hb hg hat; rw [← Ny133.out] at ho
    replace BK123 := am (blk_grown (zK BK123.out) hg (Kd.S_ne HO_aa.out BK123.out (by decide)))
    replace BK124 := am (blk_grown (zK BK124.out) hg (Kd.S_ne HO_aa.out BK124.out (by decide)))
    replace BK125 := am (blk_grown (zK BK125.out) hg (Kd.S_ne HO_aa.out BK125.out (by decide)))
    replace HB := am (hb); have HO135 := am (ho); (try clear HO_aa); (try clear HO132); clear ho hb hg hat; obtain ⟨Ao21, co21, eo21⟩ := Kd.S_slice HO135.out
    (first | subst eo21 | (injection eo21 with f1_ f2_ f3_; have f4_ := f1_.symm; have f5_ := f3_.symm; clear f1_ f2_ f3_; subst f4_; subst f5_))
    refine hK.out _ _ ((blk_cell BK125.out 0).trans rfl) (fun hHeld => ?_)
    clear hK K
    refine norm_ (a' := ?_) ?_ ?_
    rotate_left
    ·show Act.put _ (some 20) _ = _
     simp only [Act.put, List.setIfInBounds_toArray, List.set_cons_zero, List.set_cons_succ, i64_w, i32_w]; rfl
    refine pu_ (i := 7) (some 21) #[true, true, true, true, true, true, true, true, false] HT_ ?_
    refine last_ (i := 8) (N := none) #[true, true, true, true, true, true, true, true, true] rfl rfl (one_of HT_.out (by kernel_rfl)) (by decide) (fun K hK => ?_)
    have hs22 : w19.cell? ⟨gb125, 0, none⟩ = some (uaa) := (blk_cell BK125.out 0).trans rfl; have hfs22 := blk_frozen BK125.out 0; have hns22_0 := NB123_125.out; have hns22_1 := NB124_125.out; have hms22_0 := NB125_123.out; have hms22_1 := NB125_124.out
    refine skip_ (w1 := ?_) (by rfl) rfl ?_ ?_
    rotate_left
    ·go_simp; rfl
    refine hK.out _ _ ?_
    clear hK K
    refine done_ (done_of HT_.out (by kernel_rfl)) ?_
    try go_wp2
    go_roundg k1
    case measure => have := HK1.out; omega
    case rel => exact ⟨(wrap64 (x10_1 + 1)), (y133), (.slice Ao21 y133.length co21), (by first | rfl | (simp; done) | (simp [*]; done)), H', ⟨by have := HK1.out; omega⟩, ⟨zS (Kd.S_mono (Kd.S_far (p := ⟨gb125, 0, none⟩) (Kd.S_types HO135.out BK125.out (by decide)) (fun _ hk => hk.2) (.slice Ao21 y133.length co21)) (fun _ hk => trivial))⟩, ⟨by (with_reducible repeat (first | apply blk_drewN | apply blk_drew | apply blk_alloc)); refine blk_far ?_ NB123_125.out _; (with_reducible repeat (first | apply blk_drewN | apply blk_drew | apply blk_alloc)); exact BK123.out⟩, ⟨by (with_reducible repeat (first | apply blk_drewN | apply blk_drew | apply blk_alloc)); refine blk_far ?_ NB124_125.out _; (with_reducible repeat (first | apply blk_drewN | apply blk_drew | apply blk_alloc)); exact BK124.out⟩, ⟨by (with_reducible repeat (first | apply blk_drewN | apply blk_drew | apply blk_alloc)); refine blk_put (cs := #[uaa]) ?_ 0 _ rfl; (with_reducible repeat (first | apply blk_drewN | apply blk_drew | apply blk_alloc)); exact BK125.out⟩, ⟨by repeat (first | (with_reducible first | exact HB.out | apply below_alloc | apply pw_below_drewN | apply below_drew1 | refine below_set ?_ GE123.out | refine below_set ?_ GE124.out | refine below_set ?_ GE125.out) | exact HB.out)⟩⟩
   ·rw [if_neg c10] at H; have c10b0 : decide (x10_1 < (l0_0.length : Int)) = false := decide_eq_false c10; clear c10; obtain rfl := Option.some.inj H; have hnb23 := NB125_123.out; have hnc23 := NB123_125.out; have hnb24 := NB125_124.out; have hnc24 := NB124_125.out; have hcz25_0 : wr.cell? ⟨gb125, 0, none⟩ = some (uaa) := (blk_cell BK125.out 0).trans rfl; have hfz25_0 := blk_frozen BK125.out 0; obtain ⟨Ao26, co26, eo26⟩ := Kd.S_slice HO_aa.out
    subst eo26
    have hnb27 := NB124_123.out; have hnc27 := NB123_124.out; have hcz28_0 : wr.cell? ⟨gb124, 0, none⟩ = some (.slice none 0 0) := (blk_cell BK124.out 0).trans rfl; have hfz28_0 := blk_frozen BK124.out 0
    go_wp2
    refine bodyPost_ret (results_cell_row rfl _ _ gb124 52 #[.slice Ao26 xaa_1.length co26] (0, 0) _ rfl (by (with_reducible repeat (first | apply blk_drewN | apply blk_drew | apply blk_alloc)); refine blk_put (cs := #[.slice none 0 0]) ?_ 0 _ rfl; (with_reducible repeat (first | apply blk_drewN | apply blk_drew | apply blk_alloc)); exact BK124.out) Try.underlying52 rfl (by kernel_rfl)) rfl ?_
    exact ⟨_, by first | rfl | (simp [errW_none, errW_some] <;> rfl) | (simp [*, errW_none, errW_some] <;> rfl), zS (Kd.S_mono (Kd.S_far (p := ⟨gb124, 0, none⟩) (Kd.S_types HO_aa.out BK124.out (by decide)) (fun _ hk => hk.2) (.slice Ao26 xaa_1.length co26)) (fun _ hk => trivial)), by repeat (first | (with_reducible first | exact HB.out | apply below_alloc | apply pw_below_drewN | apply below_drew1 | refine below_set ?_ GE123.out | refine below_set ?_ GE124.out | refine below_set ?_ GE125.out) | exact HB.out)⟩

/-! ### spec_l1Scale: function 85 -/
def spec_l1Scale.l0 : Nat → Int → List Int → List Int → Int → Int → Option (List Int)
 | 0, _, _, _, _, _ => none
 | k + 1, x0, x5, x8, x9, x10 => if x10 < x9 then (if 0 ≤ x10 then (if x10 < (x8.length : Int) then ((spec_l1Times.f k x0 (rd x8 x10)).bind fun t137 => (if x5.length < 140737488355328 then (spec_l1Scale.l0 k x0 (x5 ++ [t137]) x8 x9 (wrap64 (x10 + 1))) else (none))) else (none)) else (none)) else (some x5)
def spec_l1Scale.f (k : Nat) (a0 : Int) (l1 : List Int) : Option (List Int) := spec_l1Scale.l0 k a0 ([] : List Int) l1 (l1.length : Int) 0
theorem spec_l1Scale.mono_l : ∀ k, (∀ y0 y1 y2 y3 y4, LeO (spec_l1Scale.l0 k y0 y1 y2 y3 y4) (spec_l1Scale.l0 (k + 1) y0 y1 y2 y3 y4))
 | 0 => fun _ _ _ _ _ r h => by simp [spec_l1Scale.l0] at h
 | k + 1 => by
  have ih0 := spec_l1Scale.mono_l k
  ·intro y0 y1 y2 y3 y4
   unfold spec_l1Scale.l0
   repeat' first | apply LeO.refl | apply LeO.none | apply LeO.ite | apply ih0 | apply spec_l1Times.mono | (refine LeO.bind ?_ (fun _ => ?_))
theorem spec_l1Scale.mono : ∀ a0 a1 k, LeO (spec_l1Scale.f k a0 a1) (spec_l1Scale.f (k + 1) a0 a1) := by
 intro a0 a1 k; have ih0 := spec_l1Scale.mono_l k
 unfold spec_l1Scale.f
 repeat' first | apply LeO.refl | apply LeO.none | apply LeO.ite | apply ih0 | apply spec_l1Times.mono | (refine LeO.bind ?_ (fun _ => ?_))
set_option maxHeartbeats 8000000 in
set_option maxRecDepth 100000 in
theorem spec_l1Scale.calls (k : Nat) (a0 : Int) (A1 : Option Addr) (c1 : Nat) (l1 : List Int) (r : List Int) (w : World) (hr1 : Kd.C (Kd.int .u8) w A1 l1.length l1) (hc1 : l1.length ≤ c1) (h : spec_l1Scale.f k a0 l1 = some r) :
  Calls Try.prog 85 #[.int .u8 a0, .slice A1 l1.length c1] w fun e w' => ∃ v0_ : Value, e = .returned (v0_) ∧ Kd.R (Kd.int .u8) 5 w' w.heap.size (fun _ => True) v0_ r ∧ Below w.heap.size w w' := by
 have HR1 := am hr1; have HC1 := am hc1; clear hr1 hc1; have HB := am (Below.refl w.heap.size w); have H : (spec_l1Scale.l0 k a0 ([] : List Int) l1 (l1.length : Int) 0) = some r := h; clear h; have H' := am H; clear H
 go_enter Try.func85, Try.ntmps85
 go_wp2
 go_loopg [5, 10] k (fun kq v5 v10 w' => ∃ (x5_1 : List Int) (x10_1 : Int), v10 = .int .i64 x10_1 ∧ Aside0 (spec_l1Scale.l0 kq a0 x5_1 l1 (l1.length : Int) x10_1 = some r) ∧ Aside0 (kq ≤ k) ∧ Aside0 (Kd.R (Kd.int .u8) 5 w' w.heap.size (fun _ => True) v5 x5_1) ∧ Aside0 (Below w.heap.size w w'))
 case atStart => exact ⟨(([] : List Int)), (0), (by first | rfl | (simp; done) | (simp [*]; done)), H', ⟨Nat.le_refl _⟩, ⟨by first | apply Kd.R_nil | apply Kd.N_nil | apply Kd.V_nil | apply Kd.Q_nil | apply Kd.S_nil⟩, ⟨zB HB.out⟩⟩
 case round =>
  clear H'; (try clear c1); (try clear p2); obtain ⟨x5_1, x10_1, rfl, HA, HK1, HO_5, HB⟩ := hrel
  cases gk with
  | zero => exact absurd HA.out (by simp [spec_l1Scale.l0])
  | succ k1 =>
   have H := HA.out; clear HA
   simp only [spec_l1Scale.l0] at H
   by_cases c3 : x10_1 < (l1.length : Int)
   ·rw [if_pos c3] at H; have c3b0 : decide (x10_1 < (l1.length : Int)) = true := decide_eq_true c3; clear c3
    obtain ⟨c4, H⟩ := it_ H; have c4b0 := decide_eq_true c4; clear c4
    obtain ⟨c5, H⟩ := it_ H; have c5b0 := decide_eq_true c5; clear c5; obtain ⟨t137, A6, H⟩ := bi_ H
    obtain ⟨c7, H⟩ := it_ H; have LMc7 := am c7; clear c7; obtain ⟨y138, hy138⟩ : ∃ y_ : List Int, y_ = (x5_1 ++ [t137]) := ⟨_, rfl⟩
    replace H : (spec_l1Scale.l0 k1 a0 y138 l1 (l1.length : Int) (wrap64 (x10_1 + 1))) = some r := by first | (rw [hy138]; exact H) | (have H2_ := (Option.bind_some _ _).symm.trans H; first | exact H2_ | (rw [hy138]; exact H2_)) | exact H
    have Ny138 := am hy138; clear hy138; have H' := am H; clear H; have p136 : 0 ≤ (x10_1 : Int) := of_decide_eq_true (by with_reducible assumption); have q136 : x10_1 < (l1.length : Int) := of_decide_eq_true (by with_reducible assumption); obtain ⟨ad136, e136, hx136_0⟩ := Kd.at_int HR1.out x10_1 p136 q136; cases e136; replace hx136_0 := (HB.out.cell (World.block_lt_of_cell? w _ hx136_0)).trans hx136_0; replace p136 := eq_true p136; replace q136 := eq_true q136
    go_wp2_with (first | ((with_reducible refine gate_callee (f := 72) rfl ?_); refine goL_ (some 17) Try.func72 #[.int .u8 a0, .int .u8 (rd l1 x10_1)] ?_; (with_reducible refine (spec_l1Times.calls k1 a0 (rd l1 x10_1) t137 _ A6.out).mono ?_); rintro e w' ⟨rfl, ⟨nd, rfl⟩⟩; refine ⟨_, rfl, ?_⟩) | ((with_reducible refine gate_builtin (b := .append) (xs := #[.tmp 14, .tmp 18]) rfl ?_); at_builtin; refine Kd.R_append (Kd.int .u8) (w0 := w) w.heap.size rfl (.tmp 14) (.tmp 18) 22 5 (.int .u8 0) 1 rfl Try.underlying22 info5 rfl (by decide) (by omega) u5 x5_1 t137 [.int .u8 t137] (fun _ => True) (fun _ => False) rfl rfl ?aP (fun _ hk => hk.elim) ?aF ?aO ?aB ?aS ?aL ?_; (case aP => exact rfl); (case aB => exact (zB HB.out)); (case aF => exact (fun _ _ => trivial)); (case aO => exact (zR HO_5.out)); (case aS => exact (zs_ HB.out)); (case aL => have := LMc7.out; omega); intro v139 w8 ho hb hg hat; rw [← Ny138.out] at ho; replace HB := am (hb); have HO140 := am (ho); (try clear HO_5); clear ho hb hg hat))
    go_roundg k1
    case measure => have := HK1.out; omega
    case rel => exact ⟨(y138), (wrap64 (x10_1 + 1)), (by first | rfl | (simp; done) | (simp [*]; done)), H', ⟨by have := HK1.out; omega⟩, ⟨zR HO140.out⟩, ⟨zB HB.out⟩⟩
   ·rw [if_neg c3] at H; have c3b0 : decide (x10_1 < (l1.length : Int)) = false := decide_eq_false c3; clear c3; obtain rfl := Option.some.inj H
    go_wp2
    go_ret
    exact ⟨_, by first | rfl | (simp [errW_none, errW_some] <;> rfl) | (simp [*, errW_none, errW_some] <;> rfl), zR HO_5.out, zB HB.out⟩

end Go.Proofs.Ytbloniemhkfnlaa.PFnExactCorrectWord
