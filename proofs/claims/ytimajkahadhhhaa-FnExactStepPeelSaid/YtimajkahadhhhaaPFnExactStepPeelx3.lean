/- A law's functions as plain Lean functions, each with the walk that shows that the code computes it: written by this session's program wip/tools/ppmake.py. -/
import Derived.Test.YtimajkahadhhhaaKZ
import Derived.Test.YtimajkahadhhhaaPFnExactStepPeelx0
import Derived.Test.YtimajkahadhhhaaPFnExactStepPeelx2
namespace Go.Proofs.Ytimajkahadhhhaa.PFnExactStepPeel
open Go.RowKit Go.Proofs.YtimajkahadhhhaaW.PrintWords Go.Proofs.YtimajkahadhhhaaW.PrintLast Go.Proofs.YtimajkahadhhhaaW.PrintMore
attribute [local go_sem] max2_int min2_int max_two min_two max_three min_three max_four min_four   -- for this text's walks alone
set_option linter.unusedVariables false
set_option linter.unusedSimpArgs false

/-! ### spec_l9Blocks: function 69 -/
mutual
def spec_l9Blocks.j0 : Nat → Int → Int → Int → Option (List Int)
 | 0, _, _, _ => none
 | k + 1, x1, x5, x6 => if 0 ≤ x1 then (if (x1 : Int).toNat ≤ 281474976710656 then (spec_l9Blocks.l0 k x1 x5 x6 (List.replicate (x1 : Int).toNat false) 0 0) else (none)) else (none)
def spec_l9Blocks.l0 : Nat → Int → Int → Int → List Bool → Int → Int → Option (List Int)
 | 0, _, _, _, _, _, _ => none
 | k + 1, x1, x5, x6, x7, x8, x9 => if x9 < 200 then (spec_l9Blocks.j2 k x1 x5 x6 x7 x8 x9 (decide (x8 < x6))) else (spec_l9Blocks.j2 k x1 x5 x6 x7 x8 x9 false)
def spec_l9Blocks.j2 : Nat → Int → Int → Int → List Bool → Int → Int → Bool → Option (List Int)
 | 0, _, _, _, _, _, _, _ => none
 | k + 1, x1, x5, x6, x7, x8, x9, x31 => if x31 = true then ((spec_l9Next.f x5).bind fun t141 => (if x1 = 0 then (none) else (if 0 ≤ (Int.tmod t141 x1) then (if (Int.tmod t141 x1) < (x7.length : Int) then (if (rdOf false x7 (Int.tmod t141 x1) = true) then (spec_l9Blocks.l0 k x1 t141 x6 x7 x8 (wrap64 (x9 + 1))) else (spec_l9Blocks.l0 k x1 t141 x6 (x7.set ((Int.tmod t141 x1) : Int).toNat true) (wrap64 (x8 + 1)) (wrap64 (x9 + 1)))) else (none)) else (none)))) else (spec_l9Blocks.l1 k ([] : List Int) x7 (x7.length : Int) 0)
def spec_l9Blocks.l1 : Nat → List Int → List Bool → Int → Int → Option (List Int)
 | 0, _, _, _, _ => none
 | k + 1, x11, x49, x50, x51 => if x51 < x50 then (if 0 ≤ x51 then (if x51 < (x49.length : Int) then (if rdOf false x49 x51 = true then (if x11.length < 17592186044416 then (spec_l9Blocks.l1 k (x11 ++ [x51]) x49 x50 (wrap64 (x51 + 1))) else (none)) else (spec_l9Blocks.l1 k x11 x49 x50 (wrap64 (x51 + 1)))) else (none)) else (none)) else (some x11)
end
def spec_l9Blocks.f (k : Nat) (a0 : Int) (a1 : Int) : Option (List Int) := (spec_l9Next.f a0).bind fun t137 => (if (wrap64 ((Int.tmod t137 4) + 1)) > a1 then (spec_l9Blocks.j0 k a1 t137 a1) else (spec_l9Blocks.j0 k a1 t137 (wrap64 ((Int.tmod t137 4) + 1))))
theorem spec_l9Blocks.mono_l : ∀ k, (∀ y0 y1 y2, LeO (spec_l9Blocks.j0 k y0 y1 y2) (spec_l9Blocks.j0 (k + 1) y0 y1 y2)) ∧ (∀ y0 y1 y2 y3 y4 y5, LeO (spec_l9Blocks.l0 k y0 y1 y2 y3 y4 y5) (spec_l9Blocks.l0 (k + 1) y0 y1 y2 y3 y4 y5)) ∧ (∀ y0 y1 y2 y3 y4 y5 y6, LeO (spec_l9Blocks.j2 k y0 y1 y2 y3 y4 y5 y6) (spec_l9Blocks.j2 (k + 1) y0 y1 y2 y3 y4 y5 y6)) ∧ (∀ y0 y1 y2 y3, LeO (spec_l9Blocks.l1 k y0 y1 y2 y3) (spec_l9Blocks.l1 (k + 1) y0 y1 y2 y3))
 | 0 => ⟨fun _ _ _ r h => by simp [spec_l9Blocks.j0] at h, fun _ _ _ _ _ _ r h => by simp [spec_l9Blocks.l0] at h, fun _ _ _ _ _ _ _ r h => by simp [spec_l9Blocks.j2] at h, fun _ _ _ _ r h => by simp [spec_l9Blocks.l1] at h⟩
 | k + 1 => by
  obtain ⟨ih0, ih1, ih2, ih3⟩ := spec_l9Blocks.mono_l k
  refine ⟨?_, ?_, ?_, ?_⟩
  ·intro y0 y1 y2
   unfold spec_l9Blocks.j0
   repeat' first | apply LeO.refl | apply LeO.none | apply LeO.ite | apply ih0 | apply ih1 | apply ih2 | apply ih3 | (refine LeO.bind ?_ (fun _ => ?_))
  ·intro y0 y1 y2 y3 y4 y5
   unfold spec_l9Blocks.l0
   repeat' first | apply LeO.refl | apply LeO.none | apply LeO.ite | apply ih0 | apply ih1 | apply ih2 | apply ih3 | (refine LeO.bind ?_ (fun _ => ?_))
  ·intro y0 y1 y2 y3 y4 y5 y6
   unfold spec_l9Blocks.j2
   repeat' first | apply LeO.refl | apply LeO.none | apply LeO.ite | apply ih0 | apply ih1 | apply ih2 | apply ih3 | (refine LeO.bind ?_ (fun _ => ?_))
  ·intro y0 y1 y2 y3
   unfold spec_l9Blocks.l1
   repeat' first | apply LeO.refl | apply LeO.none | apply LeO.ite | apply ih0 | apply ih1 | apply ih2 | apply ih3 | (refine LeO.bind ?_ (fun _ => ?_))
theorem spec_l9Blocks.mono : ∀ a0 a1 k, LeO (spec_l9Blocks.f k a0 a1) (spec_l9Blocks.f (k + 1) a0 a1) := by
 intro a0 a1 k; obtain ⟨ih0, ih1, ih2, ih3⟩ := spec_l9Blocks.mono_l k
 unfold spec_l9Blocks.f
 repeat' first | apply LeO.refl | apply LeO.none | apply LeO.ite | apply ih0 | apply ih1 | apply ih2 | apply ih3 | (refine LeO.bind ?_ (fun _ => ?_))
set_option maxHeartbeats 8000000 in
set_option maxRecDepth 100000 in
theorem spec_l9Blocks.calls (k : Nat) (a0 : Int) (a1 : Int) (r : List Int) (w : World) (h : spec_l9Blocks.f k a0 a1 = some r) :
  Calls Try.prog 69 #[.int .i64 a0, .int .i64 a1] w fun e w' => ∃ v0_ : Value, e = .returned (v0_) ∧ Kd.R (Kd.int .i64) 3 w' w.heap.size (fun _ => True) v0_ r ∧ Below w.heap.size w w' := by
 have HB := am (Below.refl w.heap.size w); have H : ((spec_l9Next.f a0).bind fun t137 => (if (wrap64 ((Int.tmod t137 4) + 1)) > a1 then (spec_l9Blocks.j0 k a1 t137 a1) else (spec_l9Blocks.j0 k a1 t137 (wrap64 ((Int.tmod t137 4) + 1))))) = some r := h; clear h; obtain ⟨t137, A3, H⟩ := bi_ H; have HC4 := am H; clear H
 go_enter Try.func69, Try.ntmps69
 go_upto_if 21 with (first | ((with_reducible refine gate_callee (f := 90) rfl ?_); refine goL_ (some 15) Try.func90 #[.int .i64 a0] ?_; (with_reducible refine (spec_l9Next.calls a0 t137 _ A3.out).mono ?_); rintro e w' ⟨rfl, ⟨nd, rfl⟩⟩; refine ⟨_, rfl, ?_⟩))
 (try simp only [Act.put, List.setIfInBounds_toArray, List.set_cons_zero, List.set_cons_succ])
 go_cut [6] (fun v6 wc => ∃ (kq : Nat) (x6_3 : Int), v6 = .int .i64 x6_3 ∧ Aside0 (spec_l9Blocks.j0 kq a1 t137 x6_3 = some r) ∧ Aside0 (kq ≤ k) ∧ Aside0 (Below w.heap.size w wc))
 case first =>
  have H := HC4.out; clear HC4
  by_cases c5 : (wrap64 ((Int.tmod t137 4) + 1)) > a1
  ·rw [if_pos c5] at H; have c5b0 : decide (a1 < (wrap64 ((Int.tmod t137 4) + 1))) = true := decide_eq_true c5; clear c5
   (first | rw [c5b0] | (simp only [i64_w, i32_w]; rw [c5b0]) | skip)
   have H' := am H; clear H
   go_wp2
   go_meet
   case rel => exact ⟨_, (a1), rfl, H', ⟨by first | omega | exact Nat.le_refl _⟩, ⟨zB HB.out⟩⟩
  ·rw [if_neg c5] at H; have c5b0 : decide (a1 < (wrap64 ((Int.tmod t137 4) + 1))) = false := decide_eq_false c5; clear c5
   (first | rw [c5b0] | (simp only [i64_w, i32_w]; rw [c5b0]) | skip)
   have H' := am H; clear H
   go_wp2
   go_meet
   case rel => exact ⟨_, (wrap64 ((Int.tmod t137 4) + 1)), rfl, H', ⟨by first | omega | exact Nat.le_refl _⟩, ⟨zB HB.out⟩⟩
 case rest =>
  clear HC4; obtain ⟨kq, x6_3, rfl, HA, HJ3, HB⟩ := hcut
  cases kq with
  | zero => exact absurd HA.out (by simp [spec_l9Blocks.j0])
  | succ kj3 =>
   have H := HA.out; clear HA
   simp only [spec_l9Blocks.j0] at H
   obtain ⟨c6, H⟩ := it_ H; have c6b0 := eq_true c6; have c6b1 := decide_eq_true c6; clear c6
   obtain ⟨c7, H⟩ := it_ H; have c7b0 := eq_true c7; have c7b1 := decide_eq_true c7; clear c7; obtain ⟨y138, hy138⟩ : ∃ y_ : List Bool, y_ = (List.replicate (a1 : Int).toNat false) := ⟨_, rfl⟩
   replace H : (spec_l9Blocks.l0 kj3 a1 t137 x6_3 y138 0 0) = some r := by first | (rw [hy138]; exact H) | (have H2_ := (Option.bind_some _ _).symm.trans H; first | exact H2_ | (rw [hy138]; exact H2_)) | exact H
   have Ny138 := am hy138; clear hy138; have H' := am H; clear H
   go_wp2_with (first | ((with_reducible refine gate_dst (N := 24) rfl ?_); refine Kd.R_make Kd.bool _ 4 rfl (N := 24) rfl 31 _ _ rfl a1 rfl rfl Try.underlying31 (.bool false) 1 info4 rfl (by decide) (by omega) false (ok := fun _ => True) (okp := fun _ => True) rfl (fun _ hk => hk) trivial (od_) (Nat.le_trans (Nat.mul_le_mul_right _ (od_ : a1.toNat ≤ 281474976710656)) (by omega)) (Below.refl _ _) (Nat.le_refl _) ?_; intro v139 w8 ho9 hb hg_ hnew_; clear hg_ hnew_; (first | rw [← Ny138.out] at ho9 | (simp only [Int.reduceToNat] at ho9; rw [← Ny138.out] at ho9)); have HO140 := am (Kd.R_lower ho9 (zs_ HB.out)); replace HB := am (below_step (zB HB.out) hb); clear hb ho9))
   go_loopg [5, 8, 9] kj3 (fun kq v5 v8 v9 w' => ∃ (x5_2 : Int) (x7_2 : List Bool) (x8_2 : Int) (x9_2 : Int), v5 = .int .i64 x5_2 ∧ v8 = .int .i64 x8_2 ∧ v9 = .int .i64 x9_2 ∧ Aside0 (spec_l9Blocks.l0 kq a1 x5_2 x6_3 x7_2 x8_2 x9_2 = some r) ∧ Aside0 (kq ≤ kj3) ∧ Aside0 (Kd.R Kd.bool 4 w' w.heap.size (fun _ => True) v139 x7_2) ∧ Aside0 (Below w.heap.size w w'))
   case atStart => exact ⟨(t137), (y138), (0), (0), rfl, rfl, rfl, H', ⟨Nat.le_refl _⟩, ⟨zR HO140.out⟩, ⟨zB HB.out⟩⟩
   case round =>
    clear H'; obtain ⟨x5_2, x7_2, x8_2, x9_2, rfl, rfl, rfl, HA, HK2, HO_7, HB⟩ := hrel
    cases gk with
    | zero => exact absurd HA.out (by simp [spec_l9Blocks.l0])
    | succ k2 =>
     have H := HA.out; clear HA
     simp only [spec_l9Blocks.l0] at H
     have HC10 := am H; clear H
     go_upto_region 8 with (fail)
     go_cut [31] (fun v31 wc => ∃ (kq : Nat) (x31_9 : Bool), v31 = .bool x31_9 ∧ Aside0 (spec_l9Blocks.j2 kq a1 x5_2 x6_3 x7_2 x8_2 x9_2 x31_9 = some r) ∧ Aside0 (kq ≤ k2) ∧ Aside0 (Kd.R Kd.bool 4 wc w.heap.size (fun _ => True) v139 x7_2) ∧ Aside0 (Below w.heap.size w wc))
     case first =>
      have H := HC10.out; clear HC10
      by_cases c11 : x9_2 < 200
      ·rw [if_pos c11] at H; have c11b0 := decide_eq_true c11; clear c11
       (first | rw [c11b0] | (simp only [i64_w, i32_w]; rw [c11b0]) | skip)
       have H' := am H; clear H
       go_wp2
       go_meet
       case rel => exact ⟨_, (decide (x8_2 < x6_3)), rfl, H', ⟨by have := HJ3.out; have := HK2.out; first | omega | exact Nat.le_refl _⟩, ⟨zR HO_7.out⟩, ⟨zB HB.out⟩⟩
      ·rw [if_neg c11] at H; have c11b0 := decide_eq_false c11; clear c11
       (first | rw [c11b0] | (simp only [i64_w, i32_w]; rw [c11b0]) | skip)
       have H' := am H; clear H
       go_wp2
       go_meet
       case rel => exact ⟨_, (false), rfl, H', ⟨by have := HJ3.out; have := HK2.out; first | omega | exact Nat.le_refl _⟩, ⟨zR HO_7.out⟩, ⟨zB HB.out⟩⟩
     case rest =>
      clear HC10; obtain ⟨kq, x31_9, rfl, HA, HJ9, HO_7, HB⟩ := hcut
      cases kq with
      | zero => exact absurd HA.out (by simp [spec_l9Blocks.j2])
      | succ kj9 =>
       have H := HA.out; clear HA
       simp only [spec_l9Blocks.j2] at H
       by_cases c12 : x31_9 = true
       ·subst c12
        have H1 : ((spec_l9Next.f x5_2).bind fun t141 => (if a1 = 0 then (none) else (if 0 ≤ (Int.tmod t141 a1) then (if (Int.tmod t141 a1) < (x7_2.length : Int) then (if (rdOf false x7_2 (Int.tmod t141 a1) = true) then (spec_l9Blocks.l0 kj9 a1 t141 x6_3 x7_2 x8_2 (wrap64 (x9_2 + 1))) else (spec_l9Blocks.l0 kj9 a1 t141 x6_3 (x7_2.set ((Int.tmod t141 a1) : Int).toNat true) (wrap64 (x8_2 + 1)) (wrap64 (x9_2 + 1)))) else (none)) else (none)))) = some r := by rw [if_pos rfl] at H; exact H
        clear H; have H := H1; clear H1; obtain ⟨t141, A13, H⟩ := bi_ H
        by_cases c14 : a1 = 0
        ·rw [if_pos c14] at H
         exact absurd H (by simp)
        ·rw [if_neg c14] at H; have c14b0 : (a1 == 0) = false := beq_eq_false_iff_ne.mpr c14; have c14b1 : (a1 != 0) = true := bne_iff_ne.mpr c14; obtain ⟨ji15, hji15⟩ : ∃ j_ : Int, (Int.tmod t141 a1) = j_ := ⟨_, rfl⟩
         replace H : (if 0 ≤ (ji15) then (if (ji15) < (x7_2.length : Int) then (if (rdOf false x7_2 (ji15) = true) then (spec_l9Blocks.l0 kj9 a1 t141 x6_3 x7_2 x8_2 (wrap64 (x9_2 + 1))) else (spec_l9Blocks.l0 kj9 a1 t141 x6_3 (x7_2.set ((ji15) : Int).toNat true) (wrap64 (x8_2 + 1)) (wrap64 (x9_2 + 1)))) else (none)) else (none)) = some r := by first | (rw [hji15] at H; exact H) | (simp only [hji15] at H ⊢; exact H)
         (try rw [hji15] at A13)
         obtain ⟨c16, H⟩ := it_ H; have c16b0 := decide_eq_true c16; clear c16
         obtain ⟨c17, H⟩ := it_ H; have c17b0 := decide_eq_true c17; clear c17; obtain ⟨bq18, hbq18⟩ : ∃ b_ : Bool, b_ = (rdOf false x7_2 (ji15)) := ⟨_, rfl⟩
         replace H : (if (bq18 = true) then (spec_l9Blocks.l0 kj9 a1 t141 x6_3 x7_2 x8_2 (wrap64 (x9_2 + 1))) else (spec_l9Blocks.l0 kj9 a1 t141 x6_3 (x7_2.set ((ji15) : Int).toNat true) (wrap64 (x8_2 + 1)) (wrap64 (x9_2 + 1)))) = some r := by rw [← hbq18] at H; exact H
         have Nbq18 := am hbq18; clear hbq18
         by_cases c19 : (bq18 = true)
         ·subst c19
          have H1 : (spec_l9Blocks.l0 kj9 a1 t141 x6_3 x7_2 x8_2 (wrap64 (x9_2 + 1))) = some r := by rw [if_pos rfl] at H; exact H
          clear H; have H := H1; clear H1; have H' := am H; clear H
          go_wp2_with (first | ((with_reducible refine gate_callee (f := 90) rfl ?_); refine goL_ (some 35) Try.func90 #[.int .i64 x5_2] ?_; (with_reducible refine (spec_l9Next.calls x5_2 t141 _ A13.out).mono ?_); rintro e w' ⟨rfl, ⟨nd, rfl⟩⟩; refine ⟨_, rfl, ?_⟩; obtain ⟨Ao20, co20, eo20⟩ := Kd.R_slice HO_7.out; subst eo20; have p142 : 0 ≤ ((ji15) : Int) := od_; have q142 : (ji15) < (x7_2.length : Int) := od_; obtain ⟨ad142, e142, hx142_0⟩ := Kd.at_bool (Kd.R_reads' HO_7.out).2.2 (ji15) p142 q142; (try rw [← Nbq18.out] at hx142_0); cases e142; replace p142 := eq_true p142; replace q142 := eq_true q142))
          go_roundg kj9
          case measure => have := HJ3.out; have := HK2.out; have := HJ9.out; omega
          case rel => exact ⟨(t141), (x7_2), (x8_2), (wrap64 (x9_2 + 1)), rfl, rfl, rfl, (by first | exact H' | (have H2_ := H'; simp only [hji15] at H2_ ⊢; exact H2_)), ⟨by have := HJ3.out; have := HK2.out; have := HJ9.out; omega⟩, ⟨zR HO_7.out⟩, ⟨zB HB.out⟩⟩
         ·replace c19 := Bool.eq_false_iff.mpr c19
          subst c19
          have H1 : (spec_l9Blocks.l0 kj9 a1 t141 x6_3 (x7_2.set ((ji15) : Int).toNat true) (wrap64 (x8_2 + 1)) (wrap64 (x9_2 + 1))) = some r := by rw [if_neg (show ¬ (false = true) by decide)] at H; exact H
          clear H; have H := H1; clear H1; (try rw [Option.bind_some] at H); generalize hy143 : (x7_2.set ((ji15) : Int).toNat true) = y143 at H; have Ny143 := am hy143.symm; clear hy143; have H' := am H; clear H
          go_wp2_with (first | ((with_reducible refine gate_callee (f := 90) rfl ?_); refine goL_ (some 35) Try.func90 #[.int .i64 x5_2] ?_; (with_reducible refine (spec_l9Next.calls x5_2 t141 _ A13.out).mono ?_); rintro e w' ⟨rfl, ⟨nd, rfl⟩⟩; refine ⟨_, rfl, ?_⟩; (try (rw [drewN_self wc]; generalize hq_ : World.drewN wc _ = wc; have n0_ : Aside0 (Kd.R Kd.bool 4 wc w.heap.size (fun _ => True) v139 x7_2) := ⟨by rw [← hq_]; exact (zR HO_7.out)⟩; have n1_ : Aside0 (Below w.heap.size w wc) := ⟨by rw [← hq_]; exact (zB HB.out)⟩; clear HO_7 HB hq_; have HO_7 := n0_; have HB := n1_; clear n0_ n1_)); obtain ⟨Ao22, co22, eo22⟩ := Kd.R_slice HO_7.out; subst eo22; have p142 : 0 ≤ ((ji15) : Int) := od_; have q142 : (ji15) < (x7_2.length : Int) := od_; obtain ⟨ad142, e142, hx142_0⟩ := Kd.at_bool (Kd.R_reads' HO_7.out).2.2 (ji15) p142 q142; (try rw [← Nbq18.out] at hx142_0); cases e142; replace p142 := eq_true p142; replace q142 := eq_true q142; have p21 : 0 ≤ ((ji15) : Int) := od_; have q21 : ((ji15) : Int) < ((x7_2.length : Int) : Int) := od_; obtain ⟨go21, co21, eo21, gb21, gl21, cl21, HG21⟩ := Kd.R_form HO_7.out (by omega); (first | cases eo21 | (injection eo21 with ea_ en_ ec_; (first | subst ea_ | (injection ea_ with ea_; subst ea_)); subst ec_; clear en_)); have GB21 := am gb21; have GG21 := am HG21; clear gb21 gl21 HG21; (first | simp only [add_plain] at hx142_0 | skip); obtain ⟨hx21_0, hf21_0⟩ := Kd.R_celln false HO_7.out ((ji15) : Int) p21 q21; replace p21 := eq_true p21; replace q21 := eq_true q21; obtain ⟨hy23_, hz23_⟩ := Kd.R_celln false HO_7.out ((ji15) : Int) (od_) (od_); have HP23 := Kd.R_putg HO_7.out ((ji15) : Int) true) | ((with_reducible refine gate_store (t := 4) (p := 46) rfl ?_); refine store_event (t := 4) (p := 46) (v := ?vo_w24) (w1 := (wc.setCell ⟨go21, ((ji15) : Int).toNat, none⟩ (.bool true))) ?hg ?ho ?hn ?hr ?_; (case ho => rfl); (case hg => rfl); (case hn => rfl); (case hr => first | (go_simp; done) | (go_simp; rfl)); intro w24 hw; have hg : wc.grownBy w24 (some go21) := (by rw [hw]; exact HP23.2); have hp_ : Kd.R Kd.bool 4 w24 w.heap.size (fun _ => True) (.slice (some ⟨go21, 0, none⟩) x7_2.length co22) y143 := (by rw [hw, Ny143.out]; exact HP23.1); clear HP23; replace HO_7 := am (hp_); replace HB := am ((by rw [hw]; exact below_set (HB.out) GB21.out : Below w.heap.size w w24)); clear hg hw hp_))
          go_roundg kj9
          case measure => have := HJ3.out; have := HK2.out; have := HJ9.out; omega
          case rel => exact ⟨(t141), (y143), (wrap64 (x8_2 + 1)), (wrap64 (x9_2 + 1)), rfl, rfl, rfl, (by first | exact H' | (have H2_ := H'; simp only [hji15] at H2_ ⊢; exact H2_)), ⟨by have := HJ3.out; have := HK2.out; have := HJ9.out; omega⟩, ⟨zR HO_7.out⟩, ⟨zB HB.out⟩⟩
       ·replace c12 := Bool.eq_false_iff.mpr c12
        subst c12
        have H1 : (spec_l9Blocks.l1 kj9 ([] : List Int) x7_2 (x7_2.length : Int) 0) = some r := by rw [if_neg (show ¬ (false = true) by decide)] at H; exact H
        clear H; have H := H1; clear H1; have H' := am H; clear H; obtain ⟨Ao25, co25, eo25⟩ := Kd.R_slice HO_7.out
        subst eo25
        go_wp2
        go_loopg [11, 51] kj9 (fun kq v11 v51 w' => ∃ (x11_4 : List Int) (x51_4 : Int), v51 = .int .i64 x51_4 ∧ Aside0 (spec_l9Blocks.l1 kq x11_4 x7_2 (x7_2.length : Int) x51_4 = some r) ∧ Aside0 (kq ≤ kj9) ∧ Aside0 (Kd.R (Kd.int .i64) 3 w' w.heap.size (fun _ => True) v11 x11_4) ∧ Aside0 (Kd.R Kd.bool 4 w' w.heap.size (fun _ => True) (.slice Ao25 x7_2.length co25) x7_2) ∧ Aside0 (Below w.heap.size w w'))
        case atStart => exact ⟨(([] : List Int)), (0), rfl, H', ⟨Nat.le_refl _⟩, ⟨by first | apply Kd.R_nil | apply Kd.N_nil | apply Kd.V_nil | apply Kd.Q_nil | apply Kd.S_nil⟩, ⟨zR HO_7.out⟩, ⟨zB HB.out⟩⟩
        case round =>
         clear H'; obtain ⟨x11_4, x51_4, rfl, HA, HK4, HO_11, HO_49, HB⟩ := hrel
         cases gk with
         | zero => exact absurd HA.out (by simp [spec_l9Blocks.l1])
         | succ k4 =>
          have H := HA.out; clear HA
          simp only [spec_l9Blocks.l1] at H
          by_cases c26 : x51_4 < (x7_2.length : Int)
          ·rw [if_pos c26] at H; have c26b0 := decide_eq_true c26; clear c26
           obtain ⟨c27, H⟩ := it_ H; have c27b0 := decide_eq_true c27; clear c27
           obtain ⟨c28, H⟩ := it_ H; have c28b0 := decide_eq_true c28; clear c28; obtain ⟨bq29, hbq29⟩ : ∃ b_ : Bool, b_ = (rdOf false x7_2 x51_4) := ⟨_, rfl⟩
           replace H : (if bq29 = true then (if x11_4.length < 17592186044416 then (spec_l9Blocks.l1 k4 (x11_4 ++ [x51_4]) x7_2 (x7_2.length : Int) (wrap64 (x51_4 + 1))) else (none)) else (spec_l9Blocks.l1 k4 x11_4 x7_2 (x7_2.length : Int) (wrap64 (x51_4 + 1)))) = some r := by rw [← hbq29] at H; exact H
           have Nbq29 := am hbq29; clear hbq29
           by_cases c30 : bq29 = true
           ·subst c30
            have H1 : (if x11_4.length < 17592186044416 then (spec_l9Blocks.l1 k4 (x11_4 ++ [x51_4]) x7_2 (x7_2.length : Int) (wrap64 (x51_4 + 1))) else (none)) = some r := by rw [if_pos rfl] at H; exact H
            clear H; have H := H1; clear H1
            obtain ⟨c31, H⟩ := it_ H; have LMc31 := am c31; clear c31; obtain ⟨y145, hy145⟩ : ∃ y_ : List Int, y_ = (x11_4 ++ [x51_4]) := ⟨_, rfl⟩
            replace H : (spec_l9Blocks.l1 k4 y145 x7_2 (x7_2.length : Int) (wrap64 (x51_4 + 1))) = some r := by first | (rw [hy145]; exact H) | (have H2_ := (Option.bind_some _ _).symm.trans H; first | exact H2_ | (rw [hy145]; exact H2_)) | exact H
            have Ny145 := am hy145; clear hy145; have H' := am H; clear H; have p144 : 0 ≤ (x51_4 : Int) := od_; have q144 : x51_4 < (x7_2.length : Int) := od_; obtain ⟨ad144, e144, hx144_0⟩ := Kd.at_bool (Kd.R_reads' HO_49.out).2.2 x51_4 p144 q144
            (try rw [← Nbq29.out] at hx144_0)
            cases e144; replace p144 := eq_true p144; replace q144 := eq_true q144
            go_wp2_with (first | ((with_reducible refine gate_builtin (b := .append) (xs := #[.tmp 57, .tmp 59]) rfl ?_); at_builtin; refine Kd.R_append (Kd.int .i64) (w0 := w) w.heap.size rfl (.tmp 57) (.tmp 59) 47 3 (.int .i64 0) 8 rfl Try.underlying47 info3 rfl (by decide) (by omega) u11 x11_4 x51_4 [.int .i64 x51_4] (fun _ => True) (fun _ => False) rfl rfl ?aP (fun _ hk => hk.elim) ?aF ?aO ?aB ?aS ?aL ?_; (case aP => exact rfl); (case aB => exact (zB HB.out)); (case aF => exact (fun _ _ => trivial)); (case aO => exact (zR HO_11.out)); (case aS => exact (zs_ HB.out)); (case aL => have := LMc31.out; omega); intro v146 w32 ho hb hg hat; rw [← Ny145.out] at ho; replace HO_49 := am (Kd.R_over' (zR HO_49.out) (Kd.R_typed (zR HO_11.out)) (by decide) hg); replace HB := am (hb); have HO147 := am (ho); (try clear HO_11); clear ho hb hg hat))
            go_roundg k4
            case measure => have := HJ3.out; have := HK2.out; have := HJ9.out; have := HK4.out; omega
            case rel => exact ⟨(y145), (wrap64 (x51_4 + 1)), rfl, H', ⟨by have := HJ3.out; have := HK2.out; have := HJ9.out; have := HK4.out; omega⟩, ⟨zR HO147.out⟩, ⟨zR HO_49.out⟩, ⟨zB HB.out⟩⟩
           ·replace c30 := Bool.eq_false_iff.mpr c30
            subst c30
            have H1 : (spec_l9Blocks.l1 k4 x11_4 x7_2 (x7_2.length : Int) (wrap64 (x51_4 + 1))) = some r := by rw [if_neg (show ¬ (false = true) by decide)] at H; exact H
            clear H; have H := H1; clear H1; have H' := am H; clear H; have p144 : 0 ≤ (x51_4 : Int) := od_; have q144 : x51_4 < (x7_2.length : Int) := od_; obtain ⟨ad144, e144, hx144_0⟩ := Kd.at_bool (Kd.R_reads' HO_49.out).2.2 x51_4 p144 q144
            (try rw [← Nbq29.out] at hx144_0)
            cases e144; replace p144 := eq_true p144; replace q144 := eq_true q144
            go_wp2
            go_roundg k4
            case measure => have := HJ3.out; have := HK2.out; have := HJ9.out; have := HK4.out; omega
            case rel => exact ⟨(x11_4), (wrap64 (x51_4 + 1)), rfl, H', ⟨by have := HJ3.out; have := HK2.out; have := HJ9.out; have := HK4.out; omega⟩, ⟨zR HO_11.out⟩, ⟨zR HO_49.out⟩, ⟨zB HB.out⟩⟩
          ·rw [if_neg c26] at H; have c26b0 := decide_eq_false c26; clear c26; obtain rfl := Option.some.inj H
           go_wp2
           go_ret
           exact ⟨_, rfl, zR HO_11.out, zB HB.out⟩

/-! ### spec_l1Times: function 86 -/
def spec_l1Times.l0 : Nat → Int → Int → Int → Option (Int)
 | 0, _, _, _ => none
 | k + 1, x5, x6, x7 => if x7 > 0 then (if (Go.bits .and .i64 x7 1) = 1 then (if (wrap64 (x6 * 2)) > 255 then (spec_l1Times.l0 k (Go.bits .xor .i64 x5 x6) (Go.bits .xor .i64 (wrap64 (x6 * 2)) 283) (x7 / 2)) else (spec_l1Times.l0 k (Go.bits .xor .i64 x5 x6) (wrap64 (x6 * 2)) (x7 / 2))) else (if (wrap64 (x6 * 2)) > 255 then (spec_l1Times.l0 k x5 (Go.bits .xor .i64 (wrap64 (x6 * 2)) 283) (x7 / 2)) else (spec_l1Times.l0 k x5 (wrap64 (x6 * 2)) (x7 / 2)))) else (some ((x5) % 256))
def spec_l1Times.f (k : Nat) (a0 : Int) (a1 : Int) : Option (Int) := spec_l1Times.l0 k 0 (wrap64 (a0)) (wrap64 (a1))
theorem spec_l1Times.mono_l : ∀ k, (∀ y0 y1 y2, LeO (spec_l1Times.l0 k y0 y1 y2) (spec_l1Times.l0 (k + 1) y0 y1 y2))
 | 0 => fun _ _ _ r h => by simp [spec_l1Times.l0] at h
 | k + 1 => by
  have ih0 := spec_l1Times.mono_l k
  ·intro y0 y1 y2
   unfold spec_l1Times.l0
   repeat' first | apply LeO.refl | apply LeO.none | apply LeO.ite | apply ih0 | (refine LeO.bind ?_ (fun _ => ?_))
theorem spec_l1Times.mono : ∀ a0 a1 k, LeO (spec_l1Times.f k a0 a1) (spec_l1Times.f (k + 1) a0 a1) := by
 intro a0 a1 k; have ih0 := spec_l1Times.mono_l k
 unfold spec_l1Times.f
 repeat' first | apply LeO.refl | apply LeO.none | apply LeO.ite | apply ih0 | (refine LeO.bind ?_ (fun _ => ?_))
set_option maxHeartbeats 8000000 in
set_option maxRecDepth 100000 in
theorem spec_l1Times.calls (k : Nat) (a0 : Int) (a1 : Int) (r : Int) (w : World) (h : spec_l1Times.f k a0 a1 = some r) :
  Calls Try.prog 86 #[.int .u8 a0, .int .u8 a1] w fun e w' => e = .returned (.int .u8 r) ∧ Drawn0 w w' := by
 have H : (spec_l1Times.l0 k 0 (wrap64 (a0)) (wrap64 (a1))) = some r := h; clear h; have H' := am H; clear H
 go_enter Try.func86, Try.ntmps86
 go_wp2
 go_loopg [5, 6, 7] k (fun kq v5 v6 v7 w' => ∃ (x5_1 : Int) (x6_1 : Int) (x7_1 : Int), v5 = .int .i64 x5_1 ∧ v6 = .int .i64 x6_1 ∧ v7 = .int .i64 x7_1 ∧ Aside0 (spec_l1Times.l0 kq x5_1 x6_1 x7_1 = some r) ∧ Aside0 (kq ≤ k) ∧ Drawn0 w w')
 case atStart => exact ⟨(0), (wrap64 (a0)), (wrap64 (a1)), rfl, rfl, rfl, H', ⟨Nat.le_refl _⟩, by repeat (first | exact Drawn0.refl _ | apply Drawn0.step)⟩
 case round =>
  clear H'; obtain ⟨x5_1, x6_1, x7_1, rfl, rfl, rfl, HA, HK1, ⟨m1, rfl⟩⟩ := hrel
  cases gk with
  | zero => exact absurd HA.out (by simp [spec_l1Times.l0])
  | succ k1 =>
   have H := HA.out; clear HA
   simp only [spec_l1Times.l0] at H
   by_cases c3 : x7_1 > 0
   ·rw [if_pos c3] at H; have c3b0 : decide (0 < x7_1) = true := decide_eq_true c3; clear c3
    by_cases c4 : (Go.bits .and .i64 x7_1 1) = 1
    ·rw [if_pos c4] at H; have c4b0 : ((Go.bits .and .i64 x7_1 1) == 1) = true := beq_iff_eq.mpr c4; have c4b1 : ((Go.bits .and .i64 x7_1 1) != 1) = false := bne_eq_false_iff_eq.mpr c4; clear c4
     by_cases c5 : (wrap64 (x6_1 * 2)) > 255
     ·rw [if_pos c5] at H; have c5b0 : decide (255 < (wrap64 (x6_1 * 2))) = true := decide_eq_true c5; clear c5; have H' := am H; clear H
      go_wp2
      go_roundg k1
      case measure => have := HK1.out; omega
      case rel => exact ⟨(Go.bits .xor .i64 x5_1 x6_1), (Go.bits .xor .i64 (wrap64 (x6_1 * 2)) 283), (x7_1 / 2), rfl, rfl, rfl, H', ⟨by have := HK1.out; omega⟩, by repeat (first | exact Drawn0.refl _ | apply Drawn0.step)⟩
     ·rw [if_neg c5] at H; have c5b0 : decide (255 < (wrap64 (x6_1 * 2))) = false := decide_eq_false c5; clear c5; have H' := am H; clear H
      go_wp2
      go_roundg k1
      case measure => have := HK1.out; omega
      case rel => exact ⟨(Go.bits .xor .i64 x5_1 x6_1), (wrap64 (x6_1 * 2)), (x7_1 / 2), rfl, rfl, rfl, H', ⟨by have := HK1.out; omega⟩, by repeat (first | exact Drawn0.refl _ | apply Drawn0.step)⟩
    ·rw [if_neg c4] at H; have c4b0 : ((Go.bits .and .i64 x7_1 1) == 1) = false := beq_eq_false_iff_ne.mpr c4; have c4b1 : ((Go.bits .and .i64 x7_1 1) != 1) = true := bne_iff_ne.mpr c4
     by_cases c6 : (wrap64 (x6_1 * 2)) > 255
     ·rw [if_pos c6] at H; have c6b0 : decide (255 < (wrap64 (x6_1 * 2))) = true := decide_eq_true c6; clear c6; have H' := am H; clear H
      go_wp2
      go_roundg k1
      case measure => have := HK1.out; omega
      case rel => exact ⟨(x5_1), (Go.bits .xor .i64 (wrap64 (x6_1 * 2)) 283), (x7_1 / 2), rfl, rfl, rfl, H', ⟨by have := HK1.out; omega⟩, by repeat (first | exact Drawn0.refl _ | apply Drawn0.step)⟩
     ·rw [if_neg c6] at H; have c6b0 : decide (255 < (wrap64 (x6_1 * 2))) = false := decide_eq_false c6; clear c6; have H' := am H; clear H
      go_wp2
      go_roundg k1
      case measure => have := HK1.out; omega
      case rel => exact ⟨(x5_1), (wrap64 (x6_1 * 2)), (x7_1 / 2), rfl, rfl, rfl, H', ⟨by have := HK1.out; omega⟩, by repeat (first | exact Drawn0.refl _ | apply Drawn0.step)⟩
   ·rw [if_neg c3] at H; have c3b0 : decide (0 < x7_1) = false := decide_eq_false c3; clear c3; obtain rfl := Option.some.inj H
    go_wp2
    go_ret
    exact ⟨by first | rfl | (simp; done) | (simp [*]; done), by repeat (first | exact Drawn0.refl _ | apply Drawn0.step)⟩

/-! ### conv_bytes: function 147 -/
def conv_bytes.f (a0 : ByteArray) : Option (List Int) := if a0.size ≤ 9223372036854775807 then some (bytesOf a0) else none
/-- The conversion of a string to bytes, where it stands: what holds of its value and of the world behind it. -/
def ConvB (e : TypeId) (s : ByteArray) (w : World) (Q : Ending → World → Prop) : Prop := Q (.returned (.slice (some ⟨w.heap.size, 0, none⟩) s.size (grownCap w s.size 0 e))) (Lib.bytesWorld w e s)
theorem ConvB.mono {e : TypeId} {s : ByteArray} {w : World} {Q Q' : Ending → World → Prop} (h : ConvB e s w Q) (hi : ∀ x w', Q x w' → Q' x w') : ConvB e s w Q' := hi _ _ h
theorem conv_goes {P : Program} {ops : Array Oper} {Q : Exit → Act → World → Prop} {rest : List Oper} {o : Oper} {a : Act} {w : World} (N : Option Tmp) (hd : o.dst = N) (hg : o.guard = none) (src dst e : TypeId) {u : TypeDesc} (hs : P.underlying src = some u) (ht : P.underlying dst = some (.slice e)) (he : P.underlying e = some (.int .u8)) (x : Operand) (s : ByteArray) (ho : o.op = .convert src dst x) (hx : a.eval x = .string s)
  (h : ConvB e s w fun e' w' => ∃ v, e' = .returned v ∧ wpList P ops Q rest (a.put N v) w') : wpList P ops Q (o :: rest) a w := by
 obtain ⟨v, hv, hk⟩ := h
 injection hv with hv
 subst hv
 subst hd
 refine Kd.event_run hg ?_ hk
 unfold execOp
 rw [ho]
 simp only [hx]
 simp [print_bytes src dst e hs ht he s w]
theorem conv_V (e : TypeId) (s : ByteArray) (hs : s.size ≤ 9223372036854775807) (w : World) (base cap : Nat) (hc : s.size ≤ cap) : Kd.V (Kd.int .u8) e (Lib.bytesWorld w e s) base (fun _ => True) (.slice (some ⟨w.heap.size, 0, none⟩) s.size cap) (bytesOf s) := by
 refine ⟨_, cap, by rw [bytesOf_length], by rw [bytesOf_length]; exact hc, fun W' hW => ?_⟩
 refine Kd.C_of_reads (d := 0) ?_
 have hr := bytes_reads w e s hs
 refine ⟨rfl, by rw [bytesOf_length]; exact hs, fun hp => ?_⟩
 rw [bytesOf_length] at hp; obtain ⟨ad, ea, hcell⟩ := hr.2.2 hp
 refine ⟨ad, ea, fun j hj => ?_⟩
 rw [bytesOf_length] at hj; have h1 := hcell j hj; have hb := World.block_lt_of_cell? _ _ h1; have e2 := hW (ad.add j).block trivial hb; rw [← h1]
 simp only [World.cell?, e2]
theorem conv_bytes.calls (a0 : ByteArray) (r : List Int) (w : World) (h : conv_bytes.f a0 = some r) :
  ConvB 5 a0 w fun e w' => ∃ v, e = .returned v ∧ Kd.V (Kd.int .u8) 5 w' w.heap.size (fun _ => True) v r ∧ Below w.heap.size w w' := by
 unfold conv_bytes.f at h
 by_cases h1 : a0.size ≤ 9223372036854775807
 case neg => rw [if_neg h1] at h; cases h
 rw [if_pos h1] at h
 injection h with h
 subst h
 exact ⟨_, rfl, conv_V _ a0 h1 w _ _ (grownCap_ge _ _ _ _), bytes_below (Below.refl _ _) (Nat.le_refl _) _ _⟩

/-! ### conv_own: function 148 -/
def conv_own.f (a0 : ByteArray) : Option (List Int) := conv_bytes.f a0
/-! A row that a conversion has made: as a row of the call's own, but for a mark that lies behind its room. -/
namespace KdW
def R (_d : Kd Int) (e : Nat) (w : World) (base : Nat) (ok : Nat → Prop) (v : Value) (xs : List Int) : Prop :=
 ∃ g cap cur fr, v = .slice (some ⟨g, 0, none⟩) xs.length cap ∧ base ≤ g ∧ xs.length ≤ cap ∧ w.heap[g]? = some (.cells cur e fr) ∧ (fr.2 ≤ fr.1 ∨ cap ≤ fr.1) ∧ cap ≤ cur.size ∧ xs.length ≤ 9223372036854775807 ∧ (∀ j, j < xs.length → cur[j]? = some (.int .u8 (xs.getD j 0))) ∧ ok g
section
variable {d : Kd Int} {e : Nat} {w w1 W : World} {base base' g n cap : Nat} {ok ok' : Nat → Prop} {v : Value} {xs : List Int}
theorem R_step (h : R d e w base ok v xs) (hm : ∀ k, ok k → k < w.heap.size → w1.heap[k]? = w.heap[k]?) : R d e w1 base ok v xs := by
 obtain ⟨g, cap, cur, fr, h1, h2, h3, h4, h5, h6, h7, h8, h9⟩ := h
 exact ⟨g, cap, cur, fr, h1, h2, h3, (hm g h9 (blk_lt h4)).trans h4, h5, h6, h7, h8, h9⟩
theorem R_below (h : R d e w base ok v xs) (hb : Below w.heap.size w w1) : R d e w1 base ok v xs := R_step h fun k _ hk => hb.block k hk
theorem R_alloc (h : R d e w base ok v xs) (o : Obj) : R d e (w.alloc o) base ok v xs := R_below h (below_alloc (Below.refl _ _) o)
theorem R_drew (h : R d e w base ok v xs) : R d e w.drew base ok v xs := R_below h (below_drew (Below.refl _ _))
theorem R_drewN (h : R d e w base ok v xs) (m : Nat) : R d e (w.drewN m) base ok v xs := R_below h (pw_below_drewN (Below.refl _ _) m)
theorem R_lower (h : R d e w base ok v xs) (hb : base' ≤ base) : R d e w base' ok v xs := by
 obtain ⟨g, cap, cur, fr, h1, h2, h3⟩ := h
 exact ⟨g, cap, cur, fr, h1, Nat.le_trans hb h2, h3⟩
theorem R_mono (h : R d e w base ok v xs) (hok : ∀ k, ok k → ok' k) : R d e w base ok' v xs := by
 obtain ⟨g, cap, cur, fr, h1, h2, h3, h4, h5, h6, h7, h8, h9⟩ := h
 exact ⟨g, cap, cur, fr, h1, h2, h3, h4, h5, h6, h7, h8, hok _ h9⟩
theorem R_keep (h : R d e w base ok v xs) {g : Nat} (hk : KeepBut w w1 g none) (hok : ∀ k, ok k → k ≠ g) : R d e w1 base ok v xs := R_step h fun k ho hlt => hk.2 k hlt (hok k ho) (by simp)
theorem R_types (h : R d e w base ok v xs) {g t : Nat} {cells : Array Value} (hb : w.heap[g]? = some (.cells cells t (0, 0))) (ht : e ≠ t) : R d e w base (fun k => ok k ∧ k ≠ g) v xs := by
 obtain ⟨g', cap, cur, fr, h1, h2, h3, h4, h5, h6, h7, h8, h9⟩ := h
 refine ⟨g', cap, cur, fr, h1, h2, h3, h4, h5, h6, h7, h8, h9, ?_⟩
 rintro rfl; rw [h4] at hb
 injection hb with hb
 injection hb with _ hb
 exact ht hb
theorem R_ne (h : R d e w base ok v xs) {g t : Nat} {cells : Array Value} (hb : w.heap[g]? = some (.cells cells t (0, 0))) (ht : e ≠ t) : some g ≠ v.ownBlock := by
 obtain ⟨g', cap, cur, fr, h1, h2, h3, h4, h5, h6, h7, h8, h9, h10⟩ := R_types h hb ht
 subst h1
 intro he
 injection he with he
 exact h10 he.symm
theorem R_base2 (h : R d e w base ok v xs) : v.ownBlock = none ∨ ∃ k, v.ownBlock = some k ∧ base ≤ k := by
 obtain ⟨g, cap, cur, fr, h1, h2, h3⟩ := h
 subst h1
 exact .inr ⟨g, rfl, h2⟩
theorem R_slice (h : R d e w base ok v xs) : ∃ A c, v = .slice A xs.length c := by
 obtain ⟨g, cap, cur, m, h1, _⟩ := h
 exact ⟨_, _, h1⟩
theorem R_form (h : R d e w base ok v xs) (_hp : 0 < xs.length) : ∃ g cap, v = .slice (some ⟨g, 0, none⟩) xs.length cap ∧ base ≤ g ∧ g < w.heap.size ∧ ∃ cells : Array Value, ∃ fr : Nat × Nat, w.heap[g]? = some (.cells cells e fr) := by
 obtain ⟨g, cap, cur, m, h1, h2, h3, h4, h5⟩ := h
 exact ⟨g, cap, h1, h2, blk_lt h4, cur, m, h4⟩
theorem R_cellj (h : R d e w base ok (.slice (some ⟨g, 0, none⟩) n cap) xs) (j : Nat) (hj : j < xs.length) : w.cell? ⟨g, j, none⟩ = some (.int .u8 (xs.getD j 0)) ∧ w.frozen? ⟨g, j, none⟩ = false := by
 obtain ⟨g', cap', cur, fr, h1, h2, h3, h4, h5, h6, h7, h8, h9⟩ := h
 injection h1 with ha hn hc
 injection ha with ha
 injection ha with hg
 subst hg
 constructor
 ·simp [World.cell?, h4, h8 j hj]
 ·obtain ⟨lo, hi⟩ := fr; have h5 : hi ≤ lo ∨ cap' ≤ lo := h5
  simp only [World.frozen?, h4]
  by_cases hlo : lo ≤ j
  ·have : ¬ j < hi := by omega
   simp [this]
  ·simp [hlo]
theorem R_C (h : R (Kd.int .u8) e w base ok v xs) : ∃ A c, v = .slice A xs.length c ∧ xs.length ≤ c ∧ (Kd.int .u8).C w A xs.length xs := by
 have h' := h; obtain ⟨g, cap, cur, m, h1, h2, h3, h4, h5, h6, h7, h8, h9⟩ := h
 refine ⟨_, _, h1, h3, Kd.C_of_reads (d := 0) ⟨rfl, h7, fun _ => ⟨_, rfl, fun j hj => ?_⟩⟩⟩
 have := (R_cellj (by rw [← h1]; exact h') j hj).1
 rw [add_plain]
 exact this
theorem R_reads' {A : Option Addr} {c : Nat} (h : R (Kd.int .u8) e w base ok (.slice A n c) xs) : n = xs.length ∧ n ≤ c ∧ (Kd.int .u8).C w A xs.length xs := by
 obtain ⟨A', c', he, hl, hr⟩ := R_C h
 injection he with h1 h2 h3
 subst h1
 exact ⟨h2, by omega, hr⟩
theorem R_celln (_z : Int) (h : R (Kd.int .u8) e W base ok (.slice (some ⟨g, 0, none⟩) n cap) xs) (i : Int) (h0 : 0 ≤ i) (hi : i < n) : W.cell? ⟨g, i.toNat, none⟩ = some (.int .u8 (rdOf 0 xs i)) ∧ W.frozen? ⟨g, i.toNat, none⟩ = false := by
 have hn := (R_reads' h).1
 exact R_cellj h i.toNat (by omega)
theorem R_putg (h : R (Kd.int .u8) e W base ok (.slice (some ⟨g, 0, none⟩) n cap) xs) (i : Int) (x : Int) : R (Kd.int .u8) e (W.setCell ⟨g, i.toNat, none⟩ (.int .u8 x)) base ok (.slice (some ⟨g, 0, none⟩) n cap) (xs.set i.toNat x) ∧ W.grownBy (W.setCell ⟨g, i.toNat, none⟩ (.int .u8 x)) (some g) := by
 obtain ⟨g', cap', cur, m, h1, h2, h3, h4, h5, h6, h7, h8, h9⟩ := h
 injection h1 with ha hn hc
 injection ha with ha
 injection ha with hg
 subst hg
 subst hc
 refine ⟨⟨g, cap, cur.setIfInBounds i.toNat (.int .u8 x), m, by rw [List.length_set, hn], h2, by rw [List.length_set]; exact h3, ?_, h5, by simpa using h6, by rw [List.length_set]; exact h7, ?_, h9⟩, ⟨rfl, rfl, rfl, by simp, fun k _ hk => heap_setCell_other W ⟨g, i.toNat, none⟩ k _ (fun e => hk (by simp [e]))⟩⟩
 ·simp only [World.setCell, Array.getElem?_modify, if_true, h4, Option.map_some]
  rfl
 ·intro j hj; rw [List.length_set] at hj; have hc := h8 j hj; have hcs : j < cur.size := (Array.getElem?_eq_some_iff.1 hc).1; rw [Array.getElem?_setIfInBounds, List.getD_eq_getElem?_getD, List.getElem?_set]
  by_cases e : i.toNat = j
  ·simp [e, hj, hcs]
  ·rw [if_neg e, if_neg e, hc, List.getD_eq_getElem?_getD]
theorem R_putn (h : R (Kd.int .u8) e W base ok (.slice (some ⟨g, 0, none⟩) n cap) xs) (i : Int) (x : Int) : R (Kd.int .u8) e (W.setCell ⟨g, i.toNat, none⟩ (.int .u8 x)) base ok (.slice (some ⟨g, 0, none⟩) n cap) (xs.set i.toNat x) := (R_putg h i x).1
theorem own_string {P : Program} {src dst e' : TypeId} (hs : P.underlying src = some (.slice e')) (he : P.underlying e' = some (.int .u8)) (hd : P.underlying dst = some .string)
  (h : R (Kd.int .u8) e w base ok v xs) : (convert src dst v).run P w = .ok (.string (strOfNums xs)) w := by
 obtain ⟨A, c, rfl, _, hC⟩ := R_C h
 exact Kd.C_string hs he hd hC
theorem R_appendR {P : Program} (t : TypeId) (i : TypeInfo) (ht : P.underlying t = some (.slice e)) (hi : P.info? e = some i) (hz : i.zero = some (.int .u8 0)) (hsz : i.size = 1) (hby : i.bytes = 1) (ty : TypeId)
  (p : Int) (hfresh : ∀ k, W.heap.size ≤ k → ok k) (hbase : base ≤ W.heap.size) (h : R (Kd.int .u8) e W base ok v xs) (hl : xs.length + 1 ≤ 140737488355328) :
  ∃ v1 w1, (Builtin.append_ #[t, t] ty #[v, .slice (some ⟨W.heap.size, 0, none⟩) 1 1]).run P (W.alloc (.cells #[.int .u8 p] e)) = .ok v1 w1 ∧ R (Kd.int .u8) e w1 base ok v1 (xs ++ [p]) ∧ W.grownBy w1 v.ownBlock ∧ (v1.ownBlock = v.ownBlock ∨ ∃ b, v1.ownBlock = some b ∧ W.heap.size ≤ b) := by
 obtain ⟨g, cap, cur, fr, rfl, h2, h3, h4, h5, h6, h7, h8, h9⟩ := h; have hlt := blk_lt h4; have h4a : (W.alloc (.cells #[.int .u8 p] e)).heap[g]? = some (.cells cur e fr) := (heap_alloc_old W _ hlt).trans h4
 have hlen : xs.length ≤ 140737488355327 := by omega
 have hnews : ∀ j u, [Value.int .u8 p][j]? = some u → (W.alloc (.cells #[.int .u8 p] e)).cell? ((⟨W.heap.size, 0, none⟩ : Addr).add j) = some u := by
  simpa using World.news_of_block (cs := #[Value.int .u8 p]) (t := e) (fr := (0, 0)) (heap_alloc_new W (.cells #[.int .u8 p] e))
 by_cases hroom : xs.length + 1 ≤ cap
 ·have hf := run_firstCells_some (P := P) (W.alloc (.cells #[.int .u8 p] e)) i.size 1 ⟨W.heap.size, 0, none⟩ 1 1 [.int .u8 p] (by simp [hsz]) hnews
  have hadd : (⟨g, 0, none⟩ : Addr).add (xs.length * i.size) = ⟨g, xs.length, none⟩ := by rw [add_plain]; simp [hsz]
  have hst : (storeCells ⟨g, xs.length, none⟩ [Value.int .u8 p] 0).run P (W.alloc (.cells #[.int .u8 p] e)) = .ok () ((W.alloc (.cells #[.int .u8 p] e)).setCells g (xs.length + 0) [Value.int .u8 p]) := by
   refine run_storeCells_cells (P := P) g xs.length [Value.int .u8 p] 0 _ (fun j hj => ?_) (fun j hj => ?_) (by simp [Value.oneCell'])
   ·have : j = 0 := by simpa using hj
    subst this
    have : xs.length < cur.size := by omega
    simp [World.cell?, h4a, this]
   ·have : j = 0 := by simpa using hj
    subst this
    obtain ⟨lo, hi⟩ := fr; have h5 : hi ≤ lo ∨ cap ≤ lo := h5
    simp only [World.frozen?, h4a]
    by_cases hlo : lo ≤ xs.length
    ·have : ¬ xs.length < hi := by omega
     simp [this]
    ·simp [hlo]
  refine ⟨.slice (some ⟨g, 0, none⟩) (xs.length + 1) cap, (W.alloc (.cells #[.int .u8 p] e)).setCells g (xs.length + 0) [Value.int .u8 p], by simp [Builtin.append_, run_underlying ht, sizeOf, typeInfo, hi, Builtin.lenOf, hroom, hf, hadd, hst], ?_, ?_, Or.inl rfl⟩
  ·refine ⟨g, cap, cur.setIfInBounds xs.length (.int .u8 p), fr, by simp, h2, by simp; exact hroom, ?_, h5, by simpa using h6, by simp; omega, ?_, h9⟩
   ·simp only [World.setCells, World.setCell, Array.getElem?_modify, if_true, h4a, Option.map_some]
    rfl
   ·intro j hj; rw [List.length_append, List.length_singleton] at hj; rw [Array.getElem?_setIfInBounds]
    by_cases e : xs.length = j
    ·have : xs.length < cur.size := by omega
     simp [← e, this]
    ·rw [if_neg e, h8 j (by omega), List.getD_eq_getElem?_getD, List.getD_eq_getElem?_getD, List.getElem?_append_left (by omega)]
  ·exact World.grownBy.trans (World.grownBy_alloc W _ _) ⟨rfl, rfl, rfl, by simp [World.setCells], fun k _ hk => heap_setCell_other (W.alloc (.cells #[.int .u8 p] e)) ⟨g, xs.length, none⟩ k _ (fun e => hk (by simp [Value.ownBlock, e]))⟩
 ·have holds : ∀ j u, (xs.map fun x => Value.int .u8 x)[j]? = some u → (W.alloc (.cells #[.int .u8 p] e)).cell? ((⟨g, 0, none⟩ : Addr).add j) = some u := by
   intro j u hu; rw [List.getElem?_map] at hu; obtain ⟨x, hx, rfl⟩ := Option.map_eq_some_iff.1 hu; have hj : j < xs.length := (List.getElem?_eq_some_iff.1 hx).1; rw [add_plain]
   simp only [World.cell?, h4a, Nat.zero_add]
   rw [h8 j hj, List.getD_eq_getElem?_getD, hx]; rfl
  have hr := run_append_grow (P := P) (W.alloc (.cells #[.int .u8 p] e)) t ty e i (.int .u8 0) ht hi hz ⟨g, 0, none⟩ xs.length cap (xs.map fun x => Value.int .u8 x) (by simp [hsz]) holds ⟨W.heap.size, 0, none⟩ 1 1 [.int .u8 p] (by simp [hsz]) hnews (by omega) (by omega) (growslice_fits (by omega) (by rw [hby]; omega))
  have hge := grownCap_ge (W.alloc (.cells #[.int .u8 p] e)) (xs.length + 1) cap e
  refine ⟨_, _, hr, ?_, ?_, Or.inr ⟨_, rfl, by simp⟩⟩
  ·refine ⟨(W.alloc (.cells #[.int .u8 p] e)).heap.size, grownCap (W.alloc (.cells #[.int .u8 p] e)) (xs.length + 1) cap e, _, (0, 0), by rw [List.length_append, List.length_singleton], by simp; omega, by rw [List.length_append, List.length_singleton]; exact hge, heap_alloc_new _ _, .inl (Nat.le_refl _), ?_, by simp; omega, ?_, hfresh _ (by simp)⟩
   ·simp [size_zeroCells, Value.cells]
    omega
   ·intro j hj; rw [List.length_append, List.length_singleton] at hj
    have hsz1 : ((xs.map fun x => Value.int .u8 x).toArray ++ [Value.int .u8 p].toArray).size = xs.length + 1 := by simp
    rw [Array.getElem?_append_left (by rw [hsz1]; exact hj)]
    by_cases e : j < xs.length
    ·rw [Array.getElem?_append_left (by simpa using e)]
     simp [e, List.getD_eq_getElem?_getD, List.getElem?_append_left e]
    ·have : j = xs.length := by omega
     subst this
     rw [Array.getElem?_append_right (by simp)]
     simp [List.getD_eq_getElem?_getD]
  ·refine World.grownBy.trans (World.grownBy_alloc W (.cells #[.int .u8 p] e) _) (World.grownBy.trans ?_ (World.grownBy_alloc _ _ _))
   exact ⟨rfl, rfl, rfl, Nat.le_refl _, fun _ _ _ => rfl⟩
end
section
variable {P : Program} {ops : Array Oper} {rest : List Oper} {o : Oper} {a : Act} {Q : Exit → Act → World → Prop}
theorem R_append (d : Kd Int) {w0 W : World} (base : Nat) (hgd : o.guard = none) (s x : Operand) (t e : TypeId) (z : Value) (bytes : Nat)
  (ho : o.op = .call { callee := .builtin .append, args := #[s, x], argTypes := #[t, t] })
  (ht : P.underlying t = some (.slice e)) (hinfo : (P.info? e).map (fun i => (i.zero, i.size, i.bytes)) = some (some z, 1, bytes)) (_hz : z.cells.size = 1) (_hs0 : 0 < 1) (_hb0 : 0 < bytes)
  (v : Value) (xs : List Int) (p : Int) (cs : List Value) (ok okp : Nat → Prop) (hs : a.eval s = v) (hx : a.eval x = .slice (some ⟨W.heap.size, 0, none⟩) 1 1) (hp : cs = [.int .u8 p]) (_hokp : ∀ k, okp k → ok k ∧ some k ≠ v.ownBlock) (hfresh : ∀ k, W.heap.size ≤ k → ok k)
  (HO : R (Kd.int .u8) e W base ok v xs) (HB : Below base w0 W) (hbase : base ≤ W.heap.size) (hl : (xs.length + 1) * bytes ≤ 140737488355328)
  (h : ∀ v1 w1, R (Kd.int .u8) e w1 base ok v1 (xs ++ [p]) → Below base w0 w1 → W.grownBy w1 v.ownBlock → (v1.ownBlock = v.ownBlock ∨ ∃ b, v1.ownBlock = some b ∧ W.heap.size ≤ b) → wpList P ops Q rest (a.put o.dst v1) w1)
  (hz8 : z = .int .u8 0 := by rfl) (hby : bytes = 1 := by rfl) :
  wpList P ops Q (o :: rest) a (W.alloc (.cells cs.toArray e)) := by
 subst hp
 subst hz8
 subst hby
 obtain ⟨i0, hi, hzz⟩ := Option.map_eq_some_iff.1 hinfo
 simp only [Prod.mk.injEq] at hzz
 obtain ⟨hz0, hz1, hz2⟩ := hzz; obtain ⟨v1, w1, hr, hR, hg, hat⟩ := R_appendR (P := P) (ok := ok) t i0 ht hi hz0 hz1 hz2 o.type p hfresh hbase HO (by omega)
 refine wpList_plain hgd fun K hK => ?_
 unfold Oper.wp execOp
 simp only [ho, resolve, invoke, builtin, Sem.run_bind, Sem.run_pure, Result.andThen_ok, List.map_toArray, List.map_cons, List.map_nil, hs, hx, hr]
 refine hK _ _ (h v1 w1 hR (HB.grown hg hbase fun k hk => ?_) hg hat)
 rcases R_base2 HO with hn | ⟨b, hb, hle⟩
 ·rw [hn] at hk; cases hk
 ·rw [hb] at hk; injection hk with hk; omega
end
end KdW
theorem conv_R (e : TypeId) (s : ByteArray) (hs : s.size ≤ 9223372036854775807) (w : World) : KdW.R (Kd.int .u8) e (Lib.bytesWorld w e s) w.heap.size (fun _ => True) (.slice (some ⟨w.heap.size, 0, none⟩) s.size (grownCap w s.size 0 e)) (bytesOf s) := by
 have hg := grownCap_ge w s.size 0 e
 have hcs : (Lib.bytesCells w e s).size = max s.size (grownCap w s.size 0 e) := by
  simp only [Lib.bytesCells, Array.size_append, Array.size_map, Array.size_replicate]
  have : s.data.size = s.size := rfl
  omega
 refine ⟨_, _, _, _, by rw [bytesOf_length], Nat.le_refl _, by rw [bytesOf_length]; exact hg, Lib.bytesWorld_at_new w e s, .inr (by rw [hcs]; exact Nat.le_max_right _ _), by rw [hcs]; exact Nat.le_max_right _ _, by rw [bytesOf_length]; exact hs, fun j hj => ?_, trivial⟩
 rw [bytesOf_length] at hj; have h1 := Lib.bytesWorld_cell w e s j hj
 have h2 : (Lib.bytesWorld w e s).cell? ⟨w.heap.size, j, none⟩ = (Lib.bytesCells w e s)[j]? := by simp [World.cell?, Lib.bytesWorld_at_new]
 rw [← h2, h1]
 have h' : j < s.data.toList.length := by rw [data_length]; exact hj
 simp [bytesOf, List.getD_eq_getElem?_getD, List.getElem?_eq_getElem h']
theorem conv_own.calls (a0 : ByteArray) (r : List Int) (w : World) (h : conv_own.f a0 = some r) :
  ConvB 5 a0 w fun e w' => ∃ v, e = .returned v ∧ KdW.R (Kd.int .u8) 5 w' w.heap.size (fun _ => True) v r ∧ Below w.heap.size w w' := by
 unfold conv_own.f conv_bytes.f at h
 by_cases h1 : a0.size ≤ 9223372036854775807
 case neg => rw [if_neg h1] at h; cases h
 rw [if_pos h1] at h
 injection h with h
 subst h
 exact ⟨_, rfl, conv_R _ a0 h1 w, bytes_below (Below.refl _ _) (Nat.le_refl _) _ _⟩

end Go.Proofs.Ytimajkahadhhhaa.PFnExactStepPeel
