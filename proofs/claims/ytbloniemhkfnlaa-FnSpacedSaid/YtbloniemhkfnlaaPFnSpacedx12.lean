/- A law's functions as plain Lean functions, each with the walk that shows that the code computes it: written by this session's program wip/tools/ppmake.py. -/
import Derived.Test.YtbloniemhkfnlaaKZ
import Derived.Test.YtbloniemhkfnlaaPFnSpacedx0
import Derived.Test.YtbloniemhkfnlaaPFnSpacedx1
import Derived.Test.YtbloniemhkfnlaaPFnSpacedx2
import Derived.Test.YtbloniemhkfnlaaPFnSpacedx11
namespace Go.Proofs.Ytbloniemhkfnlaa.PFnSpaced
open Go.RowKit Go.Proofs.YtbloniemhkfnlaaW.PrintWords Go.Proofs.YtbloniemhkfnlaaW.PrintLast Go.Proofs.YtbloniemhkfnlaaW.PrintMore
attribute [local go_sem] max2_int min2_int max_two min_two max_three min_three max_four min_four   -- for this text's walks alone
set_option linter.unusedVariables false
set_option linter.unusedSimpArgs false

/-! ### spec_LocatorOf: function 26 -/
def spec_LocatorOf.f (k : Nat) (l0 : List Int) : Option (List Int × Bool) := if ((l0.length : Int) % 2) = 1 then (some (([] : List Int), false)) else (if (l0.length : Int) > 8 then (some (([] : List Int), false)) else ((spec_l8Locator.f k l0).bind fun t323 => (some (t323, true))))
theorem spec_LocatorOf.mono : ∀ a0 k, LeO (spec_LocatorOf.f k a0) (spec_LocatorOf.f (k + 1) a0) := by
 intro a0 k
 unfold spec_LocatorOf.f
 repeat' first | apply LeO.refl | apply LeO.none | apply LeO.ite | apply spec_l8Locator.mono | (refine LeO.bind ?_ (fun _ => ?_))
set_option maxHeartbeats 8000000 in
set_option maxRecDepth 100000 in
theorem spec_LocatorOf.calls (k : Nat) (A0 : Option Addr) (c0 : Nat) (l0 : List Int) (r1 : List Int) (r2 : Bool) (w : World) (hr0 : Kd.C (Kd.int .u8) w A0 l0.length l0) (hc0 : l0.length ≤ c0) (h : spec_LocatorOf.f k l0 = some (r1, r2)) :
  Calls Try.prog 26 #[.slice A0 l0.length c0] w fun e w' => ∃ v0_ : Value, e = .returned (.tuple #[v0_, .bool r2]) ∧ Kd.R (Kd.int .u8) 5 w' w.heap.size (fun _ => True) v0_ r1 ∧ Below w.heap.size w w' := by
 have HR0 := am hr0; have HC0 := am hc0; clear hr0 hc0; have HB := am (Below.refl w.heap.size w); have H : (if ((l0.length : Int) % 2) = 1 then (some (([] : List Int), false)) else (if (l0.length : Int) > 8 then (some (([] : List Int), false)) else ((spec_l8Locator.f k l0).bind fun t323 => (some (t323, true))))) = some (r1, r2) := h; clear h
 by_cases c2 : ((l0.length : Int) % 2) = 1
 ·rw [if_pos c2] at H; have c2b0 : (((l0.length : Int) % 2) == 1) = true := beq_iff_eq.mpr c2; have c2b1 : (((l0.length : Int) % 2) != 1) = false := bne_eq_false_iff_eq.mpr c2; clear c2
  simp only [Option.some.injEq, Prod.mk.injEq] at H
  obtain ⟨rfl, rfl⟩ := H
  go_enter Try.func26, Try.ntmps26
  go_wp2
  go_ret2
  exact ⟨_, rfl, by first | apply Kd.R_nil | apply Kd.N_nil | apply Kd.V_nil | apply Kd.Q_nil | apply Kd.S_nil, zB HB.out⟩
 ·rw [if_neg c2] at H; have c2b0 : (((l0.length : Int) % 2) == 1) = false := beq_eq_false_iff_ne.mpr c2; have c2b1 : (((l0.length : Int) % 2) != 1) = true := bne_iff_ne.mpr c2
  by_cases c3 : (l0.length : Int) > 8
  ·rw [if_pos c3] at H; have c3b0 : decide (8 < (l0.length : Int)) = true := decide_eq_true c3; have c3b1 : decide (8 < l0.length) = true := decide_eq_true (by omega); clear c3
   simp only [Option.some.injEq, Prod.mk.injEq] at H
   obtain ⟨rfl, rfl⟩ := H
   go_enter Try.func26, Try.ntmps26
   go_wp2
   go_ret2
   exact ⟨_, rfl, by first | apply Kd.R_nil | apply Kd.N_nil | apply Kd.V_nil | apply Kd.Q_nil | apply Kd.S_nil, zB HB.out⟩
  ·rw [if_neg c3] at H; have c3b0 : decide (8 < (l0.length : Int)) = false := decide_eq_false c3; have c3b1 : decide (8 < l0.length) = false := decide_eq_false (by omega); clear c3; obtain ⟨t323, A4, H⟩ := bi_ H
   simp only [Option.some.injEq, Prod.mk.injEq] at H
   obtain ⟨rfl, rfl⟩ := H
   go_enter Try.func26, Try.ntmps26
   go_wp2_with (first | ((with_reducible refine gate_callee (f := 50) rfl ?_); refine goL_ (some 14) Try.func50 #[.slice A0 l0.length c0] ?_; (with_reducible refine (spec_l8Locator.calls k _ _ l0 t323 _ ?side1 ?side2 A4.out).mono ?_); (case side1 => exact zC HR0.out); (case side2 => exact HC0.out); rintro e w5 ⟨v324, rfl, ho0, hb⟩; refine ⟨_, rfl, ?_⟩; have HO325 := am (Kd.R_lower ho0 (zs_ HB.out)); replace HB := am (below_step (zB HB.out) hb); (try clear hb); (try clear ho0)))
   go_ret2
   exact ⟨_, rfl, zR HO325.out, zB HB.out⟩

/-! ### impl_filled: function 60 -/
mutual
def impl_filled.l0 (q : Int → Int → Option Int) : Nat → Int → List (List Int) → Int → Int → Option ((List (List Int)))
 | 0, _, _, _, _ => none
 | k + 1, x1, x7, x12, x13 => if x13 < x12 then (impl_filled.l1 q k x1 x7 x13 (([] : List Int)) x12 x13 x1 0) else (some x7)
def impl_filled.l1 (q : Int → Int → Option Int) : Nat → Int → List (List Int) → Int → List Int → Int → Int → Int → Int → Option ((List (List Int)))
 | 0, _, _, _, _, _, _, _, _ => none
 | k + 1, x1, x7, x8, x9, x12, x13, x17, x18 => if x18 < x17 then ((q x8 x18).bind fun t218 => (if x9.length < 140737488355328 then (impl_filled.l1 q k x1 x7 x8 (x9 ++ [t218]) x12 x13 x17 (wrap64 (x18 + 1))) else (none))) else (if x7.length < 5864062014805 then (impl_filled.l0 q k x1 (x7 ++ [x9]) x12 (wrap64 (x13 + 1))) else (none))
end
def impl_filled.f (q : Int → Int → Option Int) (k : Nat) (a0 : Int) (a1 : Int) : Option ((List (List Int))) := impl_filled.l0 q k a1 (([] : List (List Int))) a0 0
theorem impl_filled.mono_l {q q' : Int → Int → Option Int} (hq : ∀ i j, LeO (q i j) (q' i j)) : ∀ k, (∀ y0 y1 y2 y3, LeO (impl_filled.l0 q k y0 y1 y2 y3) (impl_filled.l0 q' (k + 1) y0 y1 y2 y3)) ∧ (∀ y0 y1 y2 y3 y4 y5 y6 y7, LeO (impl_filled.l1 q k y0 y1 y2 y3 y4 y5 y6 y7) (impl_filled.l1 q' (k + 1) y0 y1 y2 y3 y4 y5 y6 y7))
 | 0 => ⟨fun _ _ _ _ r h => by simp [impl_filled.l0] at h, fun _ _ _ _ _ _ _ _ r h => by simp [impl_filled.l1] at h⟩
 | k + 1 => by
  obtain ⟨ih0, ih1⟩ := impl_filled.mono_l hq k
  refine ⟨?_, ?_⟩
  ·intro y0 y1 y2 y3
   unfold impl_filled.l0
   repeat' first | apply LeO.refl | apply LeO.none | apply LeO.ite | apply ih0 | apply ih1 | apply hq | (refine LeO.bind ?_ (fun _ => ?_))
  ·intro y0 y1 y2 y3 y4 y5 y6 y7
   unfold impl_filled.l1
   repeat' first | apply LeO.refl | apply LeO.none | apply LeO.ite | apply ih0 | apply ih1 | apply hq | (refine LeO.bind ?_ (fun _ => ?_))
theorem impl_filled.mono {q q' : Int → Int → Option Int} (hq : ∀ i j, LeO (q i j) (q' i j)) : ∀ a0 a1 k, LeO (impl_filled.f q k a0 a1) (impl_filled.f q' (k + 1) a0 a1) := by
 intro a0 a1 k; obtain ⟨ih0, ih1⟩ := impl_filled.mono_l hq k
 unfold impl_filled.f
 repeat' first | apply LeO.refl | apply LeO.none | apply LeO.ite | apply ih0 | apply ih1 | apply hq | (refine LeO.bind ?_ (fun _ => ?_))
set_option maxHeartbeats 8000000 in
set_option maxRecDepth 100000 in
theorem impl_filled.calls (q : Int → Int → Option Int) (g : Nat) (lb : Array Value) (eg : ∀ args w, (callFunc g args).run Try.prog w = .ok (.enter g args) w) (k : Nat) (a0 : Int) (a1 : Int) (r : List (List Int)) (w : World)
  (hp : ∀ (W : World) (i j b : Int), Below w.heap.size w W → q i j = some b → Calls Try.prog g (#[.int .i64 i, .int .i64 j] ++ lb) W fun e w' => e = .returned (.int .u8 b) ∧ Drawn0 W w') (h : impl_filled.f q k a0 a1 = some r) :
  Calls Try.prog 60 #[.int .i64 a0, .int .i64 a1, .func (.func g) #[] lb] w fun e w' => ∃ v0_ : Value, e = .returned (v0_) ∧ Kd.S (Kd.slice 5 (Kd.int .u8)) 22 w' w.heap.size (fun _ => True) v0_ r ∧ Below w.heap.size w w' := by
 have HB := am (Below.refl w.heap.size w); have H : (impl_filled.l0 q k a1 (([] : List (List Int))) a0 0) = some r := h; clear h; obtain ⟨y212, hy212⟩ : ∃ y_ : List (List Int), y_ = (([] : List (List Int))) := ⟨_, rfl⟩
 replace H : (impl_filled.l0 q k a1 y212 a0 0) = some r := by first | (rw [hy212]; exact H) | (have H2_ := (Option.bind_some _ _).symm.trans H; first | exact H2_ | (rw [hy212]; exact H2_)) | exact H
 have Ny212 := am hy212; clear hy212; have H' := am H; clear H
 go_enter Try.func60, Try.ntmps60
 go_wp2_with (first | ((with_reducible refine gate_dst (N := 11) rfl ?_); refine Kd.S_lit (Kd.slice 5 (Kd.int .u8)) _ 22 ?hg (N := 11) ?hd (xs := ([] : List (List Int))) (inner := []) (ok := fun _ => True) (okp := fun _ => True) ?hr ?hp (fun _ hk => hk) trivial (Below.refl _ _) (Nat.le_refl _) (by simp) ?_; (case hd => rfl); (case hg => rfl); (case hr => first | (go_simp; done) | (go_simp; rfl)); (case hp => exact (Reps.none _ _)); intro v213 w4 ho5 hb hg_ hnew_; clear hg_ hnew_; (first | rw [← Ny212.out] at ho5 | (simp only [Int.reduceToNat] at ho5; rw [← Ny212.out] at ho5)); have HO214 := am (Kd.S_lower ho5 (zs_ HB.out)); replace HB := am (below_step (zB HB.out) hb); clear hb ho5))
 go_loopg [7, 13] k (fun kq v7 v13 w' => ∃ (x7_1 : List (List Int)) (x13_1 : Int), v13 = .int .i64 x13_1 ∧ Aside0 (impl_filled.l0 q kq a1 x7_1 a0 x13_1 = some r) ∧ Aside0 (kq ≤ k) ∧ Aside0 (Kd.S (Kd.slice 5 (Kd.int .u8)) 22 w' w.heap.size (fun _ => True) v7 x7_1) ∧ Aside0 (Below w.heap.size w w'))
 case atStart => exact ⟨(y212), (0), rfl, H', ⟨Nat.le_refl _⟩, ⟨zS HO214.out⟩, ⟨zB HB.out⟩⟩
 case round =>
  clear H'; obtain ⟨x7_1, x13_1, rfl, HA, HK1, HO_7, HB⟩ := hrel
  cases gk with
  | zero => exact absurd HA.out (by simp [impl_filled.l0])
  | succ k1 =>
   have H := HA.out; clear HA
   simp only [impl_filled.l0] at H
   by_cases c6 : x13_1 < a0
   ·rw [if_pos c6] at H; have c6b0 := decide_eq_true c6; clear c6; obtain ⟨y215, hy215⟩ : ∃ y_ : List Int, y_ = (([] : List Int)) := ⟨_, rfl⟩
    replace H : (impl_filled.l1 q k1 a1 x7_1 x13_1 y215 a0 x13_1 a1 0) = some r := by first | (rw [hy215]; exact H) | (have H2_ := (Option.bind_some _ _).symm.trans H; first | exact H2_ | (rw [hy215]; exact H2_)) | exact H
    have Ny215 := am hy215; clear hy215; have H' := am H; clear H
    go_wp2_with (first | ((with_reducible refine gate_dst (N := 16) rfl ?_); refine Kd.R_lit (Kd.int .u8) _ 5 ?hg (N := 16) ?hd (xs := ([] : List Int)) (inner := []) (ok := fun _ => True) (okp := fun _ => True) ?hr ?hp (fun _ hk => hk) trivial (Below.refl _ _) (Nat.le_refl _) (by simp) ?_; (case hd => rfl); (case hg => rfl); (case hr => first | (go_simp; done) | (go_simp; rfl)); (case hp => exact (Reps.none _ _)); intro v216 w7 ho8 hb hg_ hnew_; clear hg_ hnew_; (first | rw [← Ny215.out] at ho8 | (simp only [Int.reduceToNat] at ho8; rw [← Ny215.out] at ho8)); replace HO_7 := am (Kd.S_elder' (zS HO_7.out) (Kd.R_base ho8) hb); have HO217 := am (Kd.R_lower ho8 (zs_ HB.out)); replace HB := am (below_step (zB HB.out) hb); clear hb ho8))
    go_loopg [9, 18] k1 (fun kq v9 v18 w' => ∃ (x9_2 : List Int) (x18_2 : Int), v18 = .int .i64 x18_2 ∧ Aside0 (impl_filled.l1 q kq a1 x7_1 x13_1 x9_2 a0 x13_1 a1 x18_2 = some r) ∧ Aside0 (kq ≤ k1) ∧ Aside0 (Kd.S (Kd.slice 5 (Kd.int .u8)) 22 w' w.heap.size (fun k_ => some k_ ≠ (v9 : Value).ownBlock) u7 x7_1) ∧ Aside0 (Kd.R (Kd.int .u8) 5 w' w.heap.size (fun _ => True) v9 x9_2) ∧ Aside0 (Below w.heap.size w w'))
    case atStart => exact ⟨(y215), (0), rfl, H', ⟨Nat.le_refl _⟩, ⟨zS (Kd.S_mono HO_7.out (fun _ hk => hk.2))⟩, ⟨zR HO217.out⟩, ⟨zB HB.out⟩⟩
    case round =>
     clear H'; obtain ⟨x9_2, x18_2, rfl, HA, HK2, HO_7, HO_9, HB⟩ := hrel
     cases gk with
     | zero => exact absurd HA.out (by simp [impl_filled.l1])
     | succ k2 =>
      have H := HA.out; clear HA
      simp only [impl_filled.l1] at H
      by_cases c9 : x18_2 < a1
      ·rw [if_pos c9] at H; have c9b0 := decide_eq_true c9; clear c9; obtain ⟨t218, A10, H⟩ := bi_ H
       obtain ⟨c11, H⟩ := it_ H; have LMc11 := am c11; clear c11; obtain ⟨y219, hy219⟩ : ∃ y_ : List Int, y_ = (x9_2 ++ [t218]) := ⟨_, rfl⟩
       replace H : (impl_filled.l1 q k2 a1 x7_1 x13_1 y219 a0 x13_1 a1 (wrap64 (x18_2 + 1))) = some r := by first | (rw [hy219]; exact H) | (have H2_ := (Option.bind_some _ _).symm.trans H; first | exact H2_ | (rw [hy219]; exact H2_)) | exact H
       have Ny219 := am hy219; clear hy219; have H' := am H; clear H; have HCALL := am (hp _ x13_1 x18_2 t218 HB.out A10.out); clear hp
       go_wp2_with (first | (go_at_fn g; refine HCALL.out.mono ?_; rintro e w' ⟨rfl, ⟨nd, rfl⟩⟩) | ((with_reducible refine gate_builtin (b := .append) (xs := #[.tmp 21, .tmp 26]) rfl ?_); at_builtin; refine Kd.R_append (Kd.int .u8) (w0 := w) w.heap.size rfl (.tmp 21) (.tmp 26) 22 5 (.int .u8 0) 1 rfl Try.underlying22 info5 rfl (by decide) (by omega) u9 x9_2 t218 [.int .u8 t218] (fun _ => True) (fun _ => False) rfl rfl ?aP (fun _ hk => hk.elim) ?aF ?aO ?aB ?aS ?aL ?_; (case aP => exact rfl); (case aB => exact (zB HB.out)); (case aF => exact (fun _ _ => trivial)); (case aO => exact (zR HO_9.out)); (case aS => exact (zs_ HB.out)); (case aL => have := LMc11.out; omega); intro v220 w12 ho hb hg hat; rw [← Ny219.out] at ho; replace HO_7 := am (Kd.S_after (ok := (fun _ => True)) (zS (Kd.S_mono HO_7.out (fun _ hk => ⟨trivial, hk⟩))) hg hat); replace HB := am (hb); have HO221 := am (ho); (try clear HO_9); clear ho hb hg hat))
       go_roundg k2
       case measure => have := HK1.out; have := HK2.out; omega
       case rel => exact ⟨(y219), (wrap64 (x18_2 + 1)), rfl, H', ⟨by have := HK1.out; have := HK2.out; omega⟩, ⟨zS (Kd.S_mono HO_7.out (fun _ hk => hk.2))⟩, ⟨zR HO221.out⟩, ⟨zB HB.out⟩⟩
      ·rw [if_neg c9] at H; have c9b0 := decide_eq_false c9; clear c9
       obtain ⟨c13, H⟩ := it_ H; have LMc13 := am c13; clear c13; obtain ⟨y222, hy222⟩ : ∃ y_ : List (List Int), y_ = (x7_1 ++ [x9_2]) := ⟨_, rfl⟩
       replace H : (impl_filled.l0 q k2 a1 y222 a0 (wrap64 (x13_1 + 1))) = some r := by first | (rw [hy222]; exact H) | (have H2_ := (Option.bind_some _ _).symm.trans H; first | exact H2_ | (rw [hy222]; exact H2_)) | exact H
       have Ny222 := am hy222; clear hy222; have H' := am H; clear H; obtain ⟨Ao15, co15, eo15⟩ := Kd.R_slice HO_9.out
       subst eo15
       go_wp2_with (first | ((with_reducible refine gate_builtin (b := .append) (xs := #[.tmp 29, .tmp 31]) rfl ?_); at_builtin; refine Kd.S_append (Kd.slice 5 (Kd.int .u8)) (w0 := w) w.heap.size rfl (.tmp 29) (.tmp 31) 50 22 (.slice none 0 0) 24 rfl Try.underlying50 info22 rfl (by decide) (by omega) u7 x7_1 x9_2 [.slice Ao15 x9_2.length co15] (fun _ => True) (fun k_ => some k_ = (.slice Ao15 x9_2.length co15 : Value).ownBlock) rfl rfl ?aP (fun k_ hk_ => ((Kd.R_mono (ok' := fun k_ => ((fun _ => True)) k_ ∧ some k_ ≠ (u7 : Value).ownBlock) (Kd.R_apart' (HO_9.out) (Kd.S_typed HO_7.out) (by decide)) (fun k_ hk => ⟨trivial, hk.2⟩))).1 k_ hk_.symm) ?aF ?aO ?aB ?aS ?aL ?_; (case aP => exact Kd.M_row (Kd.R_mono (Kd.R_tight rfl (Kd.R_mono (ok' := fun k_ => ((fun _ => True)) k_ ∧ some k_ ≠ (u7 : Value).ownBlock) (Kd.R_apart' (HO_9.out) (Kd.S_typed HO_7.out) (by decide)) (fun k_ hk => ⟨trivial, hk.2⟩))) (fun _ h_ => h_))); (case aB => exact (zB HB.out)); (case aF => exact (fun _ _ => trivial)); (case aO => exact (zS (Kd.S_mono HO_7.out (fun k_ hk => ⟨trivial, fun e_ => hk e_⟩)))); (case aS => exact (zs_ HB.out)); (case aL => have := LMc13.out; omega); intro v223 w14 ho hb hg hat; rw [← Ny222.out] at ho; replace HB := am (hb); have HO224 := am (ho); (try clear HO_7); (try clear HO_9); clear ho hb hg hat))
       go_roundg k2
       case measure => have := HK1.out; have := HK2.out; omega
       case rel => exact ⟨(y222), (wrap64 (x13_1 + 1)), rfl, H', ⟨by have := HK1.out; have := HK2.out; omega⟩, ⟨zS HO224.out⟩, ⟨zB HB.out⟩⟩
   ·rw [if_neg c6] at H; have c6b0 := decide_eq_false c6; clear c6; obtain rfl := Option.some.inj H
    go_wp2
    go_ret
    exact ⟨_, rfl, zS HO_7.out, zB HB.out⟩


/-! ### impl_identity: function 88 -/
def impl_identity.l0 : Nat → Int → List (List Int) → Int → Int → Option ((List (List Int)))
 | 0, _, _, _, _ => none
 | k + 1, x0, x3, x7, x8 => if x8 < x7 then (if 0 ≤ x0 then (if (x0 : Int).toNat ≤ 281474976710656 then ((some (List.replicate (x0 : Int).toNat 0 : List Int)).bind fun y329 => (if 0 ≤ x8 then (if x8 < (y329.length : Int) then (if x3.length < 5864062014805 then (impl_identity.l0 k x0 (x3 ++ [(y329.set (x8 : Int).toNat 1)]) x7 (wrap64 (x8 + 1))) else (none)) else (none)) else (none))) else (none)) else (none)) else (some x3)
def impl_identity.f (k : Nat) (a0 : Int) : Option ((List (List Int))) := impl_identity.l0 k a0 (([] : List (List Int))) a0 0
theorem impl_identity.mono_l : ∀ k, (∀ y0 y1 y2 y3, LeO (impl_identity.l0 k y0 y1 y2 y3) (impl_identity.l0 (k + 1) y0 y1 y2 y3))
 | 0 => fun _ _ _ _ r h => by simp [impl_identity.l0] at h
 | k + 1 => by
  have ih0 := impl_identity.mono_l k
  ·intro y0 y1 y2 y3
   unfold impl_identity.l0
   repeat' first | apply LeO.refl | apply LeO.none | apply LeO.ite | apply ih0 | (refine LeO.bind ?_ (fun _ => ?_))
theorem impl_identity.mono : ∀ a0 k, LeO (impl_identity.f k a0) (impl_identity.f (k + 1) a0) := by
 intro a0 k; have ih0 := impl_identity.mono_l k
 unfold impl_identity.f
 repeat' first | apply LeO.refl | apply LeO.none | apply LeO.ite | apply ih0 | (refine LeO.bind ?_ (fun _ => ?_))
set_option maxHeartbeats 8000000 in
set_option maxRecDepth 100000 in
theorem impl_identity.calls (k : Nat) (a0 : Int) (r : List (List Int)) (w : World) (h : impl_identity.f k a0 = some r) :
  Calls Try.prog 88 #[.int .i64 a0] w fun e w' => ∃ v0_ : Value, e = .returned (v0_) ∧ Kd.S (Kd.slice 5 (Kd.int .u8)) 22 w' w.heap.size (fun _ => True) v0_ r ∧ Below w.heap.size w w' := by
 have HB := am (Below.refl w.heap.size w); have H : (impl_identity.l0 k a0 (([] : List (List Int))) a0 0) = some r := h; clear h; obtain ⟨y326, hy326⟩ : ∃ y_ : List (List Int), y_ = (([] : List (List Int))) := ⟨_, rfl⟩
 replace H : (impl_identity.l0 k a0 y326 a0 0) = some r := by first | (rw [hy326]; exact H) | (have H2_ := (Option.bind_some _ _).symm.trans H; first | exact H2_ | (rw [hy326]; exact H2_)) | exact H
 have Ny326 := am hy326; clear hy326; have H' := am H; clear H
 go_enter Try.func88, Try.ntmps88
 go_wp2_with (first | ((with_reducible refine gate_dst (N := 6) rfl ?_); refine Kd.S_lit (Kd.slice 5 (Kd.int .u8)) _ 22 ?hg (N := 6) ?hd (xs := ([] : List (List Int))) (inner := []) (ok := fun _ => True) (okp := fun _ => True) ?hr ?hp (fun _ hk => hk) trivial (Below.refl _ _) (Nat.le_refl _) (by simp) ?_; (case hd => rfl); (case hg => rfl); (case hr => first | (go_simp; done) | (go_simp; rfl)); (case hp => exact (Reps.none _ _)); intro v327 w2 ho3 hb hg_ hnew_; clear hg_ hnew_; (first | rw [← Ny326.out] at ho3 | (simp only [Int.reduceToNat] at ho3; rw [← Ny326.out] at ho3)); have HO328 := am (Kd.S_lower ho3 (zs_ HB.out)); replace HB := am (below_step (zB HB.out) hb); clear hb ho3))
 go_loopg [3, 8] k (fun kq v3 v8 w' => ∃ (x3_1 : List (List Int)) (x8_1 : Int), v8 = .int .i64 x8_1 ∧ Aside0 (impl_identity.l0 kq a0 x3_1 a0 x8_1 = some r) ∧ Aside0 (kq ≤ k) ∧ Aside0 (Kd.S (Kd.slice 5 (Kd.int .u8)) 22 w' w.heap.size (fun _ => True) v3 x3_1) ∧ Aside0 (Below w.heap.size w w'))
 case atStart => exact ⟨(y326), (0), rfl, H', ⟨Nat.le_refl _⟩, ⟨zS HO328.out⟩, ⟨zB HB.out⟩⟩
 case round =>
  clear H'; obtain ⟨x3_1, x8_1, rfl, HA, HK1, HO_3, HB⟩ := hrel
  cases gk with
  | zero => exact absurd HA.out (by simp [impl_identity.l0])
  | succ k1 =>
   have H := HA.out; clear HA
   simp only [impl_identity.l0] at H
   by_cases c4 : x8_1 < a0
   ·rw [if_pos c4] at H; have c4b0 := decide_eq_true c4; clear c4
    obtain ⟨c5, H⟩ := it_ H; have c5b0 := eq_true c5; have c5b1 := decide_eq_true c5; clear c5
    obtain ⟨c6, H⟩ := it_ H; have c6b0 := eq_true c6; have c6b1 := decide_eq_true c6; clear c6; obtain ⟨y329, hy329⟩ : ∃ y_ : List Int, y_ = (List.replicate (a0 : Int).toNat 0) := ⟨_, rfl⟩
    replace H : (if 0 ≤ x8_1 then (if x8_1 < (y329.length : Int) then (if x3_1.length < 5864062014805 then (impl_identity.l0 k1 a0 (x3_1 ++ [(y329.set (x8_1 : Int).toNat 1)]) a0 (wrap64 (x8_1 + 1))) else (none)) else (none)) else (none)) = some r := by first | (rw [hy329]; exact H) | (have H2_ := (Option.bind_some _ _).symm.trans H; first | exact H2_ | (rw [hy329]; exact H2_)) | exact H
    have Ny329 := am hy329; clear hy329
    obtain ⟨c7, H⟩ := it_ H; have c7b0 := decide_eq_true c7; clear c7
    obtain ⟨c8, H⟩ := it_ H; have c8b0 := decide_eq_true c8; clear c8; obtain ⟨y332, hy332⟩ : ∃ y_ : List Int, y_ = (y329.set (x8_1 : Int).toNat 1) := ⟨_, rfl⟩
    replace H : (if x3_1.length < 5864062014805 then (impl_identity.l0 k1 a0 (x3_1 ++ [y332]) a0 (wrap64 (x8_1 + 1))) else (none)) = some r := by first | (rw [hy332]; exact H) | (have H2_ := (Option.bind_some _ _).symm.trans H; first | exact H2_ | (rw [hy332]; exact H2_)) | exact H
    have Ny332 := am hy332; clear hy332
    obtain ⟨c10, H⟩ := it_ H; have LMc10 := am c10; clear c10; obtain ⟨y333, hy333⟩ : ∃ y_ : List (List Int), y_ = (x3_1 ++ [y332]) := ⟨_, rfl⟩
    replace H : (impl_identity.l0 k1 a0 y333 a0 (wrap64 (x8_1 + 1))) = some r := by first | (rw [hy333]; exact H) | (have H2_ := (Option.bind_some _ _).symm.trans H; first | exact H2_ | (rw [hy333]; exact H2_)) | exact H
    have Ny333 := am hy333; clear hy333; have H' := am H; clear H
    go_wp2_with (first | ((with_reducible refine gate_dst (N := 12) rfl ?_); refine Kd.R_make (Kd.int .u8) _ 5 rfl (N := 12) rfl 22 _ _ rfl a0 rfl rfl Try.underlying22 (.int .u8 0) 1 info5 rfl (by decide) (by omega) 0 (ok := fun _ => True) (okp := fun _ => True) rfl (fun _ hk => hk) trivial (od_) (Nat.le_trans (Nat.mul_le_mul_right _ (od_ : a0.toNat ≤ 281474976710656)) (by omega)) (Below.refl _ _) (Nat.le_refl _) ?_; intro v330 w11 ho12 hb hg_ hnew_; clear hg_ hnew_; (first | rw [← Ny329.out] at ho12 | (simp only [Int.reduceToNat] at ho12; rw [← Ny329.out] at ho12)); replace HO_3 := am (Kd.S_elder' (zS HO_3.out) (Kd.R_base ho12) hb); have HO331 := am (Kd.R_lower ho12 (zs_ HB.out)); replace HB := am (below_step (zB HB.out) hb); clear hb ho12; have p9 : 0 ≤ (x8_1 : Int) := od_; have q9 : (x8_1 : Int) < ((y329.length : Int) : Int) := od_; obtain ⟨go9, co9, eo9, gb9, gl9, cl9, HG9⟩ := Kd.R_form HO331.out (by omega); (first | cases eo9 | (injection eo9 with ea_ en_ ec_; (first | subst ea_ | (injection ea_ with ea_; subst ea_)); subst ec_; clear en_)); have GB9 := am gb9; have GG9 := am HG9; clear gb9 gl9 HG9; obtain ⟨hx9_0, hf9_0⟩ := Kd.R_celln 0 HO331.out (x8_1 : Int) p9 q9; replace p9 := eq_true p9; replace q9 := eq_true q9; obtain ⟨hy13_, hz13_⟩ := Kd.R_celln 0 HO331.out (x8_1 : Int) (od_) (od_); have HP13 := Kd.R_putg HO331.out (x8_1 : Int) 1) | ((with_reducible refine gate_store (t := 5) (p := 15) rfl ?_); refine store_event (t := 5) (p := 15) (v := ?vo_w14) (w1 := (w11.setCell ⟨go9, (x8_1 : Int).toNat, none⟩ (.int .u8 1))) ?hg ?ho ?hn ?hr ?_; (case ho => rfl); (case hg => rfl); (case hn => rfl); (case hr => first | (go_simp; done) | (go_simp; rfl)); intro w14 hw; have hg : w11.grownBy w14 (some go9) := (by rw [hw]; exact HP13.2); have hp_ : Kd.R (Kd.int .u8) 5 w14 w.heap.size (fun _ => True) (.slice (some ⟨go9, 0, none⟩) y329.length co9) y332 := (by rw [hw, Ny332.out]; exact HP13.1); clear HP13; replace HO_3 := am (Kd.S_after (v := (.slice (some ⟨go9, 0, none⟩) y329.length co9)) (v1 := (.slice (some ⟨go9, 0, none⟩) y329.length co9)) (ok := (fun _ => True)) (zS HO_3.out) hg (.inl rfl)); replace HO331 := am (hp_); replace HB := am ((by rw [hw]; exact below_set (HB.out) GB9.out : Below w.heap.size w w14)); clear hg hw hp_) | ((with_reducible refine gate_builtin (b := .append) (xs := #[.tmp 16, .tmp 18]) rfl ?_); at_builtin; refine Kd.S_append (Kd.slice 5 (Kd.int .u8)) (w0 := w) w.heap.size rfl (.tmp 16) (.tmp 18) 50 22 (.slice none 0 0) 24 rfl Try.underlying50 info22 rfl (by decide) (by omega) u3 x3_1 y332 [.slice (some ⟨go9, 0, none⟩) y329.length co9] (fun _ => True) (fun k_ => some k_ = (.slice (some ⟨go9, 0, none⟩) y329.length co9 : Value).ownBlock) rfl rfl ?aP (fun k_ hk_ => ((Kd.R_mono (ok' := fun k_ => ((fun _ => True)) k_ ∧ some k_ ≠ (u3 : Value).ownBlock) (Kd.R_apart' (HO331.out) (Kd.S_typed HO_3.out) (by decide)) (fun k_ hk => ⟨trivial, hk.2⟩))).1 k_ hk_.symm) ?aF ?aO ?aB ?aS ?aL ?_; (case aP => exact Kd.M_row (Kd.R_mono (Kd.R_tight rfl (Kd.R_mono (ok' := fun k_ => ((fun _ => True)) k_ ∧ some k_ ≠ (u3 : Value).ownBlock) (Kd.R_apart' (HO331.out) (Kd.S_typed HO_3.out) (by decide)) (fun k_ hk => ⟨trivial, hk.2⟩))) (fun _ h_ => h_))); (case aB => exact (zB HB.out)); (case aF => exact (fun _ _ => trivial)); (case aO => exact (zS (Kd.S_mono HO_3.out (fun k_ hk => ⟨trivial, fun e_ => hk.2 e_⟩)))); (case aS => exact (zs_ HB.out)); (case aL => have := LMc10.out; omega); intro v334 w15 ho hb hg hat; rw [← Ny333.out] at ho; replace HB := am (hb); have HO335 := am (ho); (try clear HO_3); (try clear HO331); clear ho hb hg hat))
    go_roundg k1
    case measure => have := HK1.out; omega
    case rel => exact ⟨(y333), (wrap64 (x8_1 + 1)), rfl, H', ⟨by have := HK1.out; omega⟩, ⟨zS HO335.out⟩, ⟨zB HB.out⟩⟩
   ·rw [if_neg c4] at H; have c4b0 := decide_eq_false c4; clear c4; obtain rfl := Option.some.inj H
    go_wp2
    go_ret
    exact ⟨_, rfl, zS HO_3.out, zB HB.out⟩

/-! ### impl_Inverse: function 58 -/
def impl_Inverse.f (k : Nat) (a0 : Int) : Option (Int) := (impl_power.f k a0 254).bind fun t336 => (some t336)
theorem impl_Inverse.mono : ∀ a0 k, LeO (impl_Inverse.f k a0) (impl_Inverse.f (k + 1) a0) := by
 intro a0 k
 unfold impl_Inverse.f
 repeat' first | apply LeO.refl | apply LeO.none | apply LeO.ite | apply impl_power.mono | (refine LeO.bind ?_ (fun _ => ?_))
set_option maxHeartbeats 8000000 in
set_option maxRecDepth 100000 in
theorem impl_Inverse.calls (k : Nat) (a0 : Int) (r : Int) (w : World) (h : impl_Inverse.f k a0 = some r) :
  Calls Try.prog 58 #[.int .u8 a0] w fun e w' => e = .returned (.int .u8 r) ∧ Drawn0 w w' := by
 have H : ((impl_power.f k a0 254).bind fun t336 => (some t336)) = some r := h; clear h; obtain ⟨t336, A2, H⟩ := bi_ H; obtain rfl := Option.some.inj H
 go_enter Try.func58, Try.ntmps58
 go_wp2_with (first | ((with_reducible refine gate_callee (f := 59) rfl ?_); refine goL_ (some 4) Try.func59 #[.int .u8 a0, .int .i64 254] ?_; (with_reducible refine (impl_power.calls k a0 254 t336 _ A2.out).mono ?_); rintro e w' ⟨rfl, ⟨nd, rfl⟩⟩; refine ⟨_, rfl, ?_⟩))
 go_ret
 exact ⟨by first | rfl | (simp; done) | (simp [*]; done), by repeat (first | exact Drawn0.refl _ | apply Drawn0.step)⟩

/-! ### slices_IndexFunc_byte_byte: function 90 -/
/-- The first row, counted from i on, whose number at place k is not 0; -1 where there is none. -/
def idxNZ (k : Int) : List (List Int) → Nat → Option Int
 | [], _ => some (-1)
 | x :: xs, i => if 0 ≤ k then (if k < (x.length : Int) then (if rd x k = 0 then idxNZ k xs (i + 1) else some (i : Int)) else none) else none
def slices_IndexFunc_byte_byte.f (l : List (List Int)) (r k : Int) : Option Int := if 0 ≤ r then (if r ≤ (l.length : Int) then idxNZ k (l.drop r.toNat) 0 else none) else none
theorem slices_IndexFunc_byte_byte.opens {l : List (List Int)} {r k t : Int} (h : slices_IndexFunc_byte_byte.f l r k = some t) : 0 ≤ r ∧ r ≤ (l.length : Int) ∧ idxNZ k (l.drop r.toNat) 0 = some t := by
 unfold slices_IndexFunc_byte_byte.f at h
 by_cases h1 : 0 ≤ r
 ·rw [if_pos h1] at h
  by_cases h2 : r ≤ (l.length : Int)
  ·rw [if_pos h2] at h
   exact ⟨h1, h2, h⟩
  ·rw [if_neg h2] at h; cases h
 ·rw [if_neg h1] at h; cases h
set_option maxHeartbeats 4000000 in
set_option maxRecDepth 100000 in
theorem slices_IndexFunc_byte_byte.asks (B : Nat) (k : Int) (A0 : Option Addr) (c0 : Nat) (x : List Int) (w : World) (hb : w.cell? ⟨B, 0, none⟩ = some (.int .i64 k)) (hr : Kd.C (Kd.int .u8) w A0 x.length x) (h0 : 0 ≤ k) (h1 : k < (x.length : Int)) :
  Calls Try.prog 91 #[.slice A0 x.length c0, .pointer (some ⟨B, 0, none⟩)] w fun e w' => e = .returned (.bool (rd x k != 0)) ∧ Drawn0 w w' := by
 obtain ⟨ad, e1, hx⟩ := Kd.at_int hr k h0 h1; cases e1; have H1 := am h1; have H0 := am h0; clear hr; replace h0 := eq_true h0; replace h1 := eq_true h1
 go_enter Try.func91, Try.ntmps91
 go_wp2
 first
  | (go_ret; exact ⟨rfl, Drawn0.refl _⟩)
  | (go_quiet (fail); go_wp2; go_ret; exact ⟨rfl, (Drawn0.refl _).step _⟩)
set_option maxHeartbeats 4000000 in
set_option maxRecDepth 100000 in
theorem slices_IndexFunc_byte_byte.calls (A0 : Option Addr) (c0 : Nat) (l0 : List (List Int)) (B : Nat) (k r : Int) (w : World) (hb : w.cell? ⟨B, 0, none⟩ = some (.int .i64 k))
  (hr0 : Kd.C (Kd.slice 5 (Kd.int .u8)) w A0 l0.length l0) (h : idxNZ k l0 0 = some r) :
  Calls Try.prog 90 #[.slice A0 l0.length c0, .func (.func 91) #[] #[.pointer (some ⟨B, 0, none⟩)]] w fun e w' => e = .returned (.int .i64 r) ∧ Drawn0 w w' := by
 have HR0 := am hr0; have HH := am h; have HL := am hr0.2.1; have HBX := am hb; clear hr0 h hb
 go_enter Try.func90, Try.ntmps90
 go_wp2
 go_loopg [5, 8] l0.length (fun gg _ s8 wr => ∃ x8 : Int, s8 = .int .i64 x8 ∧ Aside0 (0 ≤ x8 ∧ x8 ≤ (l0.length : Int) ∧ l0.length - x8.toNat ≤ gg) ∧ Aside0 (Drawn0 w wr) ∧ Aside0 (idxNZ k (l0.drop x8.toNat) x8.toNat = some r))
 case atStart => exact ⟨0, rfl, ⟨by omega, by omega, by simp⟩, ⟨Drawn0.refl w⟩, ⟨by simpa using HH.out⟩⟩
 case round =>
  obtain ⟨x8, rfl, HX, BW, AQ⟩ := hrel
  by_cases hlt : x8 < (l0.length : Int)
  ·have hltn : x8.toNat < l0.length := by have := HX.out; omega
   have hq := AQ.out
   have hx : rd_L1 l0 x8 = l0[x8.toNat] := by simp [rd_L1, List.getElem?_eq_getElem hltn]
   rw [List.drop_eq_getElem_cons hltn, idxNZ, ← hx] at hq
   by_cases h0 : 0 ≤ k
   ·rw [if_pos h0] at hq
    by_cases h1 : k < ((rd_L1 l0 x8).length : Int)
    ·rw [if_pos h1] at hq; have p_ : 0 ≤ x8 := HX.out.1; obtain ⟨ad_, A_, c_, e_, hx0_, hl_, hi_⟩ := at_L1 HR0.out x8 p_ hlt; cases e_; have hbw := BW.out.below; replace hx0_ := (hbw.cell (World.block_lt_of_cell? w _ hx0_)).trans hx0_; have HCALL := am (slices_IndexFunc_byte_byte.asks B k A_ c_ (rd_L1 l0 x8) wr ((hbw.cell (World.block_lt_of_cell? w _ HBX.out)).trans HBX.out) (Kd.C_below hi_ hbw) h0 h1); have HQ := am hq; have cd_ : decide (x8 < (l0.length : Int)) = true := decide_eq_true hlt; have HLT := am hlt; have HI := am hi_; replace p_ := eq_true p_; replace hlt := eq_true hlt; clear hq AQ HH hx hi_ hl_ hbw h0 h1; (try clear hltn)
     by_cases hz : rd (rd_L1 l0 x8) k = 0
     ·have HZ := am hz
      have hzb : (rd (rd_L1 l0 x8) k != 0) = false := by rw [hz]; rfl
      rw [hzb] at HCALL; clear hz hzb
      go_wp2_with (go_at_call 91; refine HCALL.out.mono ?_; rintro e w' ⟨rfl, ⟨nd, rfl⟩⟩)
      go_roundg (l0.length - (x8.toNat + 1))
      case measure => have := HX.out; have := HLT.out; omega
      case rel =>
       have h4 := HX.out; have h5 := HLT.out
       have h6 : wrap64 (x8 + 1) = x8 + 1 := by have := HL.out; unfold wrap64; omega
       exact ⟨wrap64 (x8 + 1), rfl, ⟨by rw [h6]; omega, by rw [h6]; omega, by rw [h6]; omega⟩, ⟨BW.out.step nd⟩, ⟨by have h3 := HQ.out; rw [if_pos HZ.out] at h3; rw [h6, show (x8 + 1).toNat = x8.toNat + 1 by omega]; exact h3⟩⟩
     ·have HZ := am hz; have hzb : (rd (rd_L1 l0 x8) k != 0) = true := bne_iff_ne.mpr hz; rw [hzb] at HCALL; clear hz hzb
      go_wp2_with (go_at_call 91; refine HCALL.out.mono ?_; rintro e w' ⟨rfl, ⟨nd, rfl⟩⟩)
      go_ret
      have h3 := HQ.out; rw [if_neg HZ.out] at h3; have h4 := HX.out
      have h7 : ((x8.toNat : Nat) : Int) = x8 := by omega
      rw [h7] at h3; obtain rfl := Option.some.inj h3
      exact ⟨rfl, BW.out.step nd⟩
    ·rw [if_neg h1] at hq; cases hq
   ·rw [if_neg h0] at hq; cases hq
  ·have cd_ : decide (x8 < (l0.length : Int)) = false := decide_eq_false hlt; have HLT := am hlt; clear hlt
   go_wp2
   go_ret
   have h3 := AQ.out; have h4 := HX.out; have h5 := HLT.out; rw [List.drop_of_length_le (by omega), idxNZ] at h3; obtain rfl := Option.some.inj h3
   exact ⟨rfl, BW.out⟩

/-! ### impl_scaled: function 92 -/
def impl_scaled.l0 : Nat → Int → List Int → List Int → Int → Int → Option (List Int)
 | 0, _, _, _, _, _ => none
 | k + 1, x0, x5, x9, x10, x11 => if x11 < x10 then (if 0 ≤ x11 then (if x11 < (x9.length : Int) then ((impl_Times.f k x0 (rd x9 x11)).bind fun t341 => (if x5.length < 140737488355328 then (impl_scaled.l0 k x0 (x5 ++ [t341]) x9 x10 (wrap64 (x11 + 1))) else (none))) else (none)) else (none)) else (some x5)
def impl_scaled.f (k : Nat) (a0 : Int) (l1 : List Int) : Option (List Int) := impl_scaled.l0 k a0 (([] : List Int)) l1 (l1.length : Int) 0
theorem impl_scaled.mono_l : ∀ k, (∀ y0 y1 y2 y3 y4, LeO (impl_scaled.l0 k y0 y1 y2 y3 y4) (impl_scaled.l0 (k + 1) y0 y1 y2 y3 y4))
 | 0 => fun _ _ _ _ _ r h => by simp [impl_scaled.l0] at h
 | k + 1 => by
  have ih0 := impl_scaled.mono_l k
  ·intro y0 y1 y2 y3 y4
   unfold impl_scaled.l0
   repeat' first | apply LeO.refl | apply LeO.none | apply LeO.ite | apply ih0 | apply impl_Times.mono | (refine LeO.bind ?_ (fun _ => ?_))
theorem impl_scaled.mono : ∀ a0 a1 k, LeO (impl_scaled.f k a0 a1) (impl_scaled.f (k + 1) a0 a1) := by
 intro a0 a1 k; have ih0 := impl_scaled.mono_l k
 unfold impl_scaled.f
 repeat' first | apply LeO.refl | apply LeO.none | apply LeO.ite | apply ih0 | apply impl_Times.mono | (refine LeO.bind ?_ (fun _ => ?_))
set_option maxHeartbeats 8000000 in
set_option maxRecDepth 100000 in
theorem impl_scaled.calls (k : Nat) (a0 : Int) (A1 : Option Addr) (c1 : Nat) (l1 : List Int) (r : List Int) (w : World) (hr1 : Kd.C (Kd.int .u8) w A1 l1.length l1) (hc1 : l1.length ≤ c1) (h : impl_scaled.f k a0 l1 = some r) :
  Calls Try.prog 92 #[.int .u8 a0, .slice A1 l1.length c1] w fun e w' => ∃ v0_ : Value, e = .returned (v0_) ∧ Kd.R (Kd.int .u8) 5 w' w.heap.size (fun _ => True) v0_ r ∧ Below w.heap.size w w' := by
 have HR1 := am hr1; have HC1 := am hc1; clear hr1 hc1; have HB := am (Below.refl w.heap.size w); have H : (impl_scaled.l0 k a0 (([] : List Int)) l1 (l1.length : Int) 0) = some r := h; clear h; obtain ⟨y337, hy337⟩ : ∃ y_ : List Int, y_ = (([] : List Int)) := ⟨_, rfl⟩
 replace H : (impl_scaled.l0 k a0 y337 l1 (l1.length : Int) 0) = some r := by first | (rw [hy337]; exact H) | (have H2_ := (Option.bind_some _ _).symm.trans H; first | exact H2_ | (rw [hy337]; exact H2_)) | exact H
 have Ny337 := am hy337; clear hy337; have H' := am H; clear H
 go_enter Try.func92, Try.ntmps92
 go_wp2_with (first | ((with_reducible refine gate_dst (N := 8) rfl ?_); refine Kd.R_lit (Kd.int .u8) _ 5 ?hg (N := 8) ?hd (xs := ([] : List Int)) (inner := []) (ok := fun _ => True) (okp := fun _ => True) ?hr ?hp (fun _ hk => hk) trivial (Below.refl _ _) (Nat.le_refl _) (by simp) ?_; (case hd => rfl); (case hg => rfl); (case hr => first | (go_simp; done) | (go_simp; rfl)); (case hp => exact (Reps.none _ _)); intro v338 w3 ho4 hb hg_ hnew_; clear hg_ hnew_; (first | rw [← Ny337.out] at ho4 | (simp only [Int.reduceToNat] at ho4; rw [← Ny337.out] at ho4)); have HO339 := am (Kd.R_lower ho4 (zs_ HB.out)); replace HB := am (below_step (zB HB.out) hb); clear hb ho4))
 go_loopg [5, 11] k (fun kq v5 v11 w' => ∃ (x5_1 : List Int) (x11_1 : Int), v11 = .int .i64 x11_1 ∧ Aside0 (impl_scaled.l0 kq a0 x5_1 l1 (l1.length : Int) x11_1 = some r) ∧ Aside0 (kq ≤ k) ∧ Aside0 (Kd.R (Kd.int .u8) 5 w' w.heap.size (fun _ => True) v5 x5_1) ∧ Aside0 (Below w.heap.size w w'))
 case atStart => exact ⟨(y337), (0), rfl, H', ⟨Nat.le_refl _⟩, ⟨zR HO339.out⟩, ⟨zB HB.out⟩⟩
 case round =>
  clear H'; obtain ⟨x5_1, x11_1, rfl, HA, HK1, HO_5, HB⟩ := hrel
  cases gk with
  | zero => exact absurd HA.out (by simp [impl_scaled.l0])
  | succ k1 =>
   have H := HA.out; clear HA
   simp only [impl_scaled.l0] at H
   by_cases c5 : x11_1 < (l1.length : Int)
   ·rw [if_pos c5] at H; have c5b0 := decide_eq_true c5; clear c5
    obtain ⟨c6, H⟩ := it_ H; have c6b0 := decide_eq_true c6; clear c6
    obtain ⟨c7, H⟩ := it_ H; have c7b0 := decide_eq_true c7; clear c7; obtain ⟨t341, A8, H⟩ := bi_ H
    obtain ⟨c9, H⟩ := it_ H; have LMc9 := am c9; clear c9; obtain ⟨y342, hy342⟩ : ∃ y_ : List Int, y_ = (x5_1 ++ [t341]) := ⟨_, rfl⟩
    replace H : (impl_scaled.l0 k1 a0 y342 l1 (l1.length : Int) (wrap64 (x11_1 + 1))) = some r := by first | (rw [hy342]; exact H) | (have H2_ := (Option.bind_some _ _).symm.trans H; first | exact H2_ | (rw [hy342]; exact H2_)) | exact H
    have Ny342 := am hy342; clear hy342; have H' := am H; clear H; have p340 : 0 ≤ (x11_1 : Int) := od_; have q340 : x11_1 < (l1.length : Int) := od_; obtain ⟨ad340, e340, hx340_0⟩ := Kd.at_int HR1.out x11_1 p340 q340; cases e340; replace hx340_0 := (HB.out.cell (World.block_lt_of_cell? w _ hx340_0)).trans hx340_0; replace p340 := eq_true p340; replace q340 := eq_true q340
    go_wp2_with (first | ((with_reducible refine gate_callee (f := 48) rfl ?_); refine goL_ (some 18) Try.func48 #[.int .u8 a0, .int .u8 (rd l1 x11_1)] ?_; (with_reducible refine (impl_Times.calls k1 a0 (rd l1 x11_1) t341 _ A8.out).mono ?_); rintro e w' ⟨rfl, ⟨nd, rfl⟩⟩; refine ⟨_, rfl, ?_⟩) | ((with_reducible refine gate_builtin (b := .append) (xs := #[.tmp 15, .tmp 19]) rfl ?_); at_builtin; refine Kd.R_append (Kd.int .u8) (w0 := w) w.heap.size rfl (.tmp 15) (.tmp 19) 22 5 (.int .u8 0) 1 rfl Try.underlying22 info5 rfl (by decide) (by omega) u5 x5_1 t341 [.int .u8 t341] (fun _ => True) (fun _ => False) rfl rfl ?aP (fun _ hk => hk.elim) ?aF ?aO ?aB ?aS ?aL ?_; (case aP => exact rfl); (case aB => exact (zB HB.out)); (case aF => exact (fun _ _ => trivial)); (case aO => exact (zR HO_5.out)); (case aS => exact (zs_ HB.out)); (case aL => have := LMc9.out; omega); intro v343 w10 ho hb hg hat; rw [← Ny342.out] at ho; replace HB := am (hb); have HO344 := am (ho); (try clear HO_5); clear ho hb hg hat))
    go_roundg k1
    case measure => have := HK1.out; omega
    case rel => exact ⟨(y342), (wrap64 (x11_1 + 1)), rfl, H', ⟨by have := HK1.out; omega⟩, ⟨zR HO344.out⟩, ⟨zB HB.out⟩⟩
   ·rw [if_neg c5] at H; have c5b0 := decide_eq_false c5; clear c5; obtain rfl := Option.some.inj H
    go_wp2
    go_ret
    exact ⟨_, rfl, zR HO_5.out, zB HB.out⟩

/-! ### impl_added: function 93 -/
def impl_added.l0 : Nat → List Int → List Int → List Int → Int → Int → Option (List Int)
 | 0, _, _, _, _, _ => none
 | k + 1, x1, x5, x9, x10, x11 => if x11 < x10 then (if 0 ≤ x11 then (if x11 < (x9.length : Int) then (if x11 < (x1.length : Int) then (if x5.length < 140737488355328 then (impl_added.l0 k x1 (x5 ++ [Go.bits .xor .u8 (rd x9 x11) (rd x1 x11)]) x9 x10 (wrap64 (x11 + 1))) else (none)) else (none)) else (none)) else (none)) else (some x5)
def impl_added.f (k : Nat) (l0 : List Int) (l1 : List Int) : Option (List Int) := impl_added.l0 k l1 (([] : List Int)) l0 (l0.length : Int) 0
theorem impl_added.mono_l : ∀ k, (∀ y0 y1 y2 y3 y4, LeO (impl_added.l0 k y0 y1 y2 y3 y4) (impl_added.l0 (k + 1) y0 y1 y2 y3 y4))
 | 0 => fun _ _ _ _ _ r h => by simp [impl_added.l0] at h
 | k + 1 => by
  have ih0 := impl_added.mono_l k
  ·intro y0 y1 y2 y3 y4
   unfold impl_added.l0
   repeat' first | apply LeO.refl | apply LeO.none | apply LeO.ite | apply ih0 | (refine LeO.bind ?_ (fun _ => ?_))
theorem impl_added.mono : ∀ a0 a1 k, LeO (impl_added.f k a0 a1) (impl_added.f (k + 1) a0 a1) := by
 intro a0 a1 k; have ih0 := impl_added.mono_l k
 unfold impl_added.f
 repeat' first | apply LeO.refl | apply LeO.none | apply LeO.ite | apply ih0 | (refine LeO.bind ?_ (fun _ => ?_))
set_option maxHeartbeats 8000000 in
set_option maxRecDepth 100000 in
theorem impl_added.calls (k : Nat) (A0 : Option Addr) (c0 : Nat) (l0 : List Int) (A1 : Option Addr) (c1 : Nat) (l1 : List Int) (r : List Int) (w : World) (hr0 : Kd.C (Kd.int .u8) w A0 l0.length l0) (hc0 : l0.length ≤ c0) (hr1 : Kd.C (Kd.int .u8) w A1 l1.length l1) (hc1 : l1.length ≤ c1) (h : impl_added.f k l0 l1 = some r) :
  Calls Try.prog 93 #[.slice A0 l0.length c0, .slice A1 l1.length c1] w fun e w' => ∃ v0_ : Value, e = .returned (v0_) ∧ Kd.R (Kd.int .u8) 5 w' w.heap.size (fun _ => True) v0_ r ∧ Below w.heap.size w w' := by
 have HR0 := am hr0; have HC0 := am hc0; clear hr0 hc0; have HR1 := am hr1; have HC1 := am hc1; clear hr1 hc1; have HB := am (Below.refl w.heap.size w); have H : (impl_added.l0 k l1 (([] : List Int)) l0 (l0.length : Int) 0) = some r := h; clear h; obtain ⟨y345, hy345⟩ : ∃ y_ : List Int, y_ = (([] : List Int)) := ⟨_, rfl⟩
 replace H : (impl_added.l0 k l1 y345 l0 (l0.length : Int) 0) = some r := by first | (rw [hy345]; exact H) | (have H2_ := (Option.bind_some _ _).symm.trans H; first | exact H2_ | (rw [hy345]; exact H2_)) | exact H
 have Ny345 := am hy345; clear hy345; have H' := am H; clear H
 go_enter Try.func93, Try.ntmps93
 go_wp2_with (first | ((with_reducible refine gate_dst (N := 8) rfl ?_); refine Kd.R_lit (Kd.int .u8) _ 5 ?hg (N := 8) ?hd (xs := ([] : List Int)) (inner := []) (ok := fun _ => True) (okp := fun _ => True) ?hr ?hp (fun _ hk => hk) trivial (Below.refl _ _) (Nat.le_refl _) (by simp) ?_; (case hd => rfl); (case hg => rfl); (case hr => first | (go_simp; done) | (go_simp; rfl)); (case hp => exact (Reps.none _ _)); intro v346 w3 ho4 hb hg_ hnew_; clear hg_ hnew_; (first | rw [← Ny345.out] at ho4 | (simp only [Int.reduceToNat] at ho4; rw [← Ny345.out] at ho4)); have HO347 := am (Kd.R_lower ho4 (zs_ HB.out)); replace HB := am (below_step (zB HB.out) hb); clear hb ho4))
 go_loopg [5, 11] k (fun kq v5 v11 w' => ∃ (x5_1 : List Int) (x11_1 : Int), v11 = .int .i64 x11_1 ∧ Aside0 (impl_added.l0 kq l1 x5_1 l0 (l0.length : Int) x11_1 = some r) ∧ Aside0 (kq ≤ k) ∧ Aside0 (Kd.R (Kd.int .u8) 5 w' w.heap.size (fun _ => True) v5 x5_1) ∧ Aside0 (Below w.heap.size w w'))
 case atStart => exact ⟨(y345), (0), rfl, H', ⟨Nat.le_refl _⟩, ⟨zR HO347.out⟩, ⟨zB HB.out⟩⟩
 case round =>
  clear H'; obtain ⟨x5_1, x11_1, rfl, HA, HK1, HO_5, HB⟩ := hrel
  cases gk with
  | zero => exact absurd HA.out (by simp [impl_added.l0])
  | succ k1 =>
   have H := HA.out; clear HA
   simp only [impl_added.l0] at H
   by_cases c5 : x11_1 < (l0.length : Int)
   ·rw [if_pos c5] at H; have c5b0 := decide_eq_true c5; clear c5
    obtain ⟨c6, H⟩ := it_ H; have c6b0 := decide_eq_true c6; clear c6
    obtain ⟨c7, H⟩ := it_ H; have c7b0 := decide_eq_true c7; clear c7
    obtain ⟨c8, H⟩ := it_ H; have c8b0 := decide_eq_true c8; clear c8
    obtain ⟨c9, H⟩ := it_ H; have LMc9 := am c9; clear c9; obtain ⟨y350, hy350⟩ : ∃ y_ : List Int, y_ = (x5_1 ++ [Go.bits .xor .u8 (rd l0 x11_1) (rd l1 x11_1)]) := ⟨_, rfl⟩
    replace H : (impl_added.l0 k1 l1 y350 l0 (l0.length : Int) (wrap64 (x11_1 + 1))) = some r := by first | (rw [hy350]; exact H) | (have H2_ := (Option.bind_some _ _).symm.trans H; first | exact H2_ | (rw [hy350]; exact H2_)) | exact H
    have Ny350 := am hy350; clear hy350; have H' := am H; clear H; have p348 : 0 ≤ (x11_1 : Int) := od_; have q348 : x11_1 < (l0.length : Int) := od_; obtain ⟨ad348, e348, hx348_0⟩ := Kd.at_int HR0.out x11_1 p348 q348; cases e348; replace hx348_0 := (HB.out.cell (World.block_lt_of_cell? w _ hx348_0)).trans hx348_0; replace p348 := eq_true p348; replace q348 := eq_true q348; have p349 : 0 ≤ (x11_1 : Int) := od_; have q349 : x11_1 < (l1.length : Int) := od_; obtain ⟨ad349, e349, hx349_0⟩ := Kd.at_int HR1.out x11_1 p349 q349; cases e349; replace hx349_0 := (HB.out.cell (World.block_lt_of_cell? w _ hx349_0)).trans hx349_0; replace p349 := eq_true p349; replace q349 := eq_true q349
    go_wp2_with (first | ((with_reducible refine gate_builtin (b := .append) (xs := #[.tmp 16, .tmp 23]) rfl ?_); at_builtin; refine Kd.R_append (Kd.int .u8) (w0 := w) w.heap.size rfl (.tmp 16) (.tmp 23) 22 5 (.int .u8 0) 1 rfl Try.underlying22 info5 rfl (by decide) (by omega) u5 x5_1 (Go.bits .xor .u8 (rd l0 x11_1) (rd l1 x11_1)) [.int .u8 (Go.bits .xor .u8 (rd l0 x11_1) (rd l1 x11_1))] (fun _ => True) (fun _ => False) rfl rfl ?aP (fun _ hk => hk.elim) ?aF ?aO ?aB ?aS ?aL ?_; (case aP => exact rfl); (case aB => exact (zB HB.out)); (case aF => exact (fun _ _ => trivial)); (case aO => exact (zR HO_5.out)); (case aS => exact (zs_ HB.out)); (case aL => have := LMc9.out; omega); intro v351 w10 ho hb hg hat; rw [← Ny350.out] at ho; replace HB := am (hb); have HO352 := am (ho); (try clear HO_5); clear ho hb hg hat))
    go_roundg k1
    case measure => have := HK1.out; omega
    case rel => exact ⟨(y350), (wrap64 (x11_1 + 1)), rfl, H', ⟨by have := HK1.out; omega⟩, ⟨zR HO352.out⟩, ⟨zB HB.out⟩⟩
   ·rw [if_neg c5] at H; have c5b0 := decide_eq_false c5; clear c5; obtain rfl := Option.some.inj H
    go_wp2
    go_ret
    exact ⟨_, rfl, zR HO_5.out, zB HB.out⟩

end Go.Proofs.Ytbloniemhkfnlaa.PFnSpaced
