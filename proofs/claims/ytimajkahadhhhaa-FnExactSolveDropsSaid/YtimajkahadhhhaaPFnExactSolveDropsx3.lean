/- A law's functions as plain Lean functions, each with the walk that shows that the code computes it: written by this session's program wip/tools/ppmake.py. -/
import Derived.Test.YtimajkahadhhhaaKZ
import Derived.Test.YtimajkahadhhhaaPFnExactSolveDropsx0
import Derived.Test.YtimajkahadhhhaaPFnExactSolveDropsx2
namespace Go.Proofs.Ytimajkahadhhhaa.PFnExactSolveDrops
open Go.RowKit Go.Proofs.YtimajkahadhhhaaW.PrintWords Go.Proofs.YtimajkahadhhhaaW.PrintLast Go.Proofs.YtimajkahadhhhaaW.PrintMore
attribute [local go_sem] max2_int min2_int max_two min_two max_three min_three max_four min_four   -- for this text's walks alone
set_option linter.unusedVariables false
set_option linter.unusedSimpArgs false

/-! ### spec_l9Blocks: function 69 -/
mutual
def spec_l9Blocks.j0 : Nat → Int → Int → Int → Option (List Int)
 | 0, _, _, _ => none
 | k + 1, x1, x5, x6 => if 0 ≤ x1 then (if (x1 : Int).toNat ≤ 281474976710656 then (spec_l9Blocks.l0 k x1 x5 x6 (List.replicate (x1 : Int).toNat false) 0 0) else (none)) else (none)
def spec_l9Blocks.l0 : Nat → Int → Int → Int → List Bool → Int → Int → Option (List Int)
 | 0, _, _, _, _, _, _ => none
 | k + 1, x1, x5, x6, x7, x8, x9 => if x9 < 200 then (spec_l9Blocks.j2 k x1 x5 x6 x7 x8 x9 (decide (x8 < x6))) else (spec_l9Blocks.j2 k x1 x5 x6 x7 x8 x9 false)
def spec_l9Blocks.j2 : Nat → Int → Int → Int → List Bool → Int → Int → Bool → Option (List Int)
 | 0, _, _, _, _, _, _, _ => none
 | k + 1, x1, x5, x6, x7, x8, x9, x31 => if x31 = true then ((spec_l9Next.f x5).bind fun t147 => (if x1 = 0 then (none) else (if 0 ≤ (Int.tmod t147 x1) then (if (Int.tmod t147 x1) < (x7.length : Int) then (if (rdOf false x7 (Int.tmod t147 x1) = true) then (spec_l9Blocks.l0 k x1 t147 x6 x7 x8 (wrap64 (x9 + 1))) else (spec_l9Blocks.l0 k x1 t147 x6 (x7.set ((Int.tmod t147 x1) : Int).toNat true) (wrap64 (x8 + 1)) (wrap64 (x9 + 1)))) else (none)) else (none)))) else (spec_l9Blocks.l1 k ([] : List Int) x7 (x7.length : Int) 0)
def spec_l9Blocks.l1 : Nat → List Int → List Bool → Int → Int → Option (List Int)
 | 0, _, _, _, _ => none
 | k + 1, x11, x49, x50, x51 => if x51 < x50 then (if 0 ≤ x51 then (if x51 < (x49.length : Int) then (if rdOf false x49 x51 = true then (if x11.length < 17592186044416 then (spec_l9Blocks.l1 k (x11 ++ [x51]) x49 x50 (wrap64 (x51 + 1))) else (none)) else (spec_l9Blocks.l1 k x11 x49 x50 (wrap64 (x51 + 1)))) else (none)) else (none)) else (some x11)
end
def spec_l9Blocks.f (k : Nat) (a0 : Int) (a1 : Int) : Option (List Int) := (spec_l9Next.f a0).bind fun t143 => (if (wrap64 ((Int.tmod t143 4) + 1)) > a1 then (spec_l9Blocks.j0 k a1 t143 a1) else (spec_l9Blocks.j0 k a1 t143 (wrap64 ((Int.tmod t143 4) + 1))))
theorem spec_l9Blocks.mono_l : ∀ k, (∀ y0 y1 y2, LeO (spec_l9Blocks.j0 k y0 y1 y2) (spec_l9Blocks.j0 (k + 1) y0 y1 y2)) ∧ (∀ y0 y1 y2 y3 y4 y5, LeO (spec_l9Blocks.l0 k y0 y1 y2 y3 y4 y5) (spec_l9Blocks.l0 (k + 1) y0 y1 y2 y3 y4 y5)) ∧ (∀ y0 y1 y2 y3 y4 y5 y6, LeO (spec_l9Blocks.j2 k y0 y1 y2 y3 y4 y5 y6) (spec_l9Blocks.j2 (k + 1) y0 y1 y2 y3 y4 y5 y6)) ∧ (∀ y0 y1 y2 y3, LeO (spec_l9Blocks.l1 k y0 y1 y2 y3) (spec_l9Blocks.l1 (k + 1) y0 y1 y2 y3))
 | 0 => ⟨fun _ _ _ r h => by simp [spec_l9Blocks.j0] at h, fun _ _ _ _ _ _ r h => by simp [spec_l9Blocks.l0] at h, fun _ _ _ _ _ _ _ r h => by simp [spec_l9Blocks.j2] at h, fun _ _ _ _ r h => by simp [spec_l9Blocks.l1] at h⟩
 | k + 1 => by
  obtain ⟨ih0, ih1, ih2, ih3⟩ := spec_l9Blocks.mono_l k
  refine ⟨?_, ?_, ?_, ?_⟩
  ·intro y0 y1 y2
   unfold spec_l9Blocks.j0
   repeat' first | apply LeO.refl | apply LeO.none | apply LeO.ite | apply ih0 | apply ih1 | apply ih2 | apply ih3 | (refine LeO.bind ?_ (fun _ => ?_))
  ·intro y0 y1 y2 y3 y4 y5
   unfold spec_l9Blocks.l0
   repeat' first | apply LeO.refl | apply LeO.none | apply LeO.ite | apply ih0 | apply ih1 | apply ih2 | apply ih3 | (refine LeO.bind ?_ (fun _ => ?_))
  ·intro y0 y1 y2 y3 y4 y5 y6
   unfold spec_l9Blocks.j2
   repeat' first | apply LeO.refl | apply LeO.none | apply LeO.ite | apply ih0 | apply ih1 | apply ih2 | apply ih3 | (refine LeO.bind ?_ (fun _ => ?_))
  ·intro y0 y1 y2 y3
   unfold spec_l9Blocks.l1
   repeat' first | apply LeO.refl | apply LeO.none | apply LeO.ite | apply ih0 | apply ih1 | apply ih2 | apply ih3 | (refine LeO.bind ?_ (fun _ => ?_))
theorem spec_l9Blocks.mono : ∀ a0 a1 k, LeO (spec_l9Blocks.f k a0 a1) (spec_l9Blocks.f (k + 1) a0 a1) := by
 intro a0 a1 k; obtain ⟨ih0, ih1, ih2, ih3⟩ := spec_l9Blocks.mono_l k
 unfold spec_l9Blocks.f
 repeat' first | apply LeO.refl | apply LeO.none | apply LeO.ite | apply ih0 | apply ih1 | apply ih2 | apply ih3 | (refine LeO.bind ?_ (fun _ => ?_))
set_option maxHeartbeats 8000000 in
set_option maxRecDepth 100000 in
theorem spec_l9Blocks.calls (k : Nat) (a0 : Int) (a1 : Int) (r : List Int) (w : World) (h : spec_l9Blocks.f k a0 a1 = some r) :
  Calls Try.prog 69 #[.int .i64 a0, .int .i64 a1] w fun e w' => ∃ v0_ : Value, e = .returned (v0_) ∧ Kd.R (Kd.int .i64) 3 w' w.heap.size (fun _ => True) v0_ r ∧ Below w.heap.size w w' := by
 have HB := am (Below.refl w.heap.size w); have H : ((spec_l9Next.f a0).bind fun t143 => (if (wrap64 ((Int.tmod t143 4) + 1)) > a1 then (spec_l9Blocks.j0 k a1 t143 a1) else (spec_l9Blocks.j0 k a1 t143 (wrap64 ((Int.tmod t143 4) + 1))))) = some r := h; clear h; obtain ⟨t143, A3, H⟩ := bi_ H; have HC4 := am H; clear H
 go_enter Try.func69, Try.ntmps69
 go_upto_if 21 with (first | ((with_reducible refine gate_callee (f := 90) rfl ?_); refine goL_ (some 15) Try.func90 #[.int .i64 a0] ?_; (with_reducible refine (spec_l9Next.calls a0 t143 _ A3.out).mono ?_); rintro e w' ⟨rfl, ⟨nd, rfl⟩⟩; refine ⟨_, rfl, ?_⟩))
 (try simp only [Act.put, List.setIfInBounds_toArray, List.set_cons_zero, List.set_cons_succ])
 go_cut [6] (fun v6 wc => ∃ (kq : Nat) (x6_3 : Int), v6 = .int .i64 x6_3 ∧ Aside0 (spec_l9Blocks.j0 kq a1 t143 x6_3 = some r) ∧ Aside0 (kq ≤ k) ∧ Aside0 (Below w.heap.size w wc))
 case first =>
  have H := HC4.out; clear HC4
  by_cases c5 : (wrap64 ((Int.tmod t143 4) + 1)) > a1
  ·rw [if_pos c5] at H; have c5b0 : decide (a1 < (wrap64 ((Int.tmod t143 4) + 1))) = true := decide_eq_true c5; clear c5
   (first | rw [c5b0] | (simp only [i64_w, i32_w]; rw [c5b0]) | skip)
   have H' := am H; clear H
   go_wp2
   go_meet
   case rel => exact ⟨_, (a1), rfl, H', ⟨by first | omega | exact Nat.le_refl _⟩, ⟨zB HB.out⟩⟩
  ·rw [if_neg c5] at H; have c5b0 : decide (a1 < (wrap64 ((Int.tmod t143 4) + 1))) = false := decide_eq_false c5; clear c5
   (first | rw [c5b0] | (simp only [i64_w, i32_w]; rw [c5b0]) | skip)
   have H' := am H; clear H
   go_wp2
   go_meet
   case rel => exact ⟨_, (wrap64 ((Int.tmod t143 4) + 1)), rfl, H', ⟨by first | omega | exact Nat.le_refl _⟩, ⟨zB HB.out⟩⟩
 case rest =>
  clear HC4; obtain ⟨kq, x6_3, rfl, HA, HJ3, HB⟩ := hcut
  cases kq with
  | zero => exact absurd HA.out (by simp [spec_l9Blocks.j0])
  | succ kj3 =>
   have H := HA.out; clear HA
   simp only [spec_l9Blocks.j0] at H
   obtain ⟨c6, H⟩ := it_ H; have c6b0 := eq_true c6; have c6b1 := decide_eq_true c6; clear c6
   obtain ⟨c7, H⟩ := it_ H; have c7b0 := eq_true c7; have c7b1 := decide_eq_true c7; clear c7; obtain ⟨y144, hy144⟩ : ∃ y_ : List Bool, y_ = (List.replicate (a1 : Int).toNat false) := ⟨_, rfl⟩
   replace H : (spec_l9Blocks.l0 kj3 a1 t143 x6_3 y144 0 0) = some r := by first | (rw [hy144]; exact H) | (have H2_ := (Option.bind_some _ _).symm.trans H; first | exact H2_ | (rw [hy144]; exact H2_)) | exact H
   have Ny144 := am hy144; clear hy144; have H' := am H; clear H
   go_wp2_with (first | ((with_reducible refine gate_dst (N := 24) rfl ?_); refine Kd.R_make Kd.bool _ 4 rfl (N := 24) rfl 31 _ _ rfl a1 rfl rfl Try.underlying31 (.bool false) 1 info4 rfl (by decide) (by omega) false (ok := fun _ => True) (okp := fun _ => True) rfl (fun _ hk => hk) trivial (od_) (Nat.le_trans (Nat.mul_le_mul_right _ (od_ : a1.toNat ≤ 281474976710656)) (by omega)) (Below.refl _ _) (Nat.le_refl _) ?_; intro v145 w8 ho9 hb hg_ hnew_; clear hg_ hnew_; (first | rw [← Ny144.out] at ho9 | (simp only [Int.reduceToNat] at ho9; rw [← Ny144.out] at ho9)); have HO146 := am (Kd.R_lower ho9 (zs_ HB.out)); replace HB := am (below_step (zB HB.out) hb); clear hb ho9))
   go_loopg [5, 8, 9] kj3 (fun kq v5 v8 v9 w' => ∃ (x5_2 : Int) (x7_2 : List Bool) (x8_2 : Int) (x9_2 : Int), v5 = .int .i64 x5_2 ∧ v8 = .int .i64 x8_2 ∧ v9 = .int .i64 x9_2 ∧ Aside0 (spec_l9Blocks.l0 kq a1 x5_2 x6_3 x7_2 x8_2 x9_2 = some r) ∧ Aside0 (kq ≤ kj3) ∧ Aside0 (Kd.R Kd.bool 4 w' w.heap.size (fun _ => True) v145 x7_2) ∧ Aside0 (Below w.heap.size w w'))
   case atStart => exact ⟨(t143), (y144), (0), (0), rfl, rfl, rfl, H', ⟨Nat.le_refl _⟩, ⟨zR HO146.out⟩, ⟨zB HB.out⟩⟩
   case round =>
    clear H'; obtain ⟨x5_2, x7_2, x8_2, x9_2, rfl, rfl, rfl, HA, HK2, HO_7, HB⟩ := hrel
    cases gk with
    | zero => exact absurd HA.out (by simp [spec_l9Blocks.l0])
    | succ k2 =>
     have H := HA.out; clear HA
     simp only [spec_l9Blocks.l0] at H
     have HC10 := am H; clear H
     go_upto_region 8 with (fail)
     go_cut [31] (fun v31 wc => ∃ (kq : Nat) (x31_9 : Bool), v31 = .bool x31_9 ∧ Aside0 (spec_l9Blocks.j2 kq a1 x5_2 x6_3 x7_2 x8_2 x9_2 x31_9 = some r) ∧ Aside0 (kq ≤ k2) ∧ Aside0 (Kd.R Kd.bool 4 wc w.heap.size (fun _ => True) v145 x7_2) ∧ Aside0 (Below w.heap.size w wc))
     case first =>
      have H := HC10.out; clear HC10
      by_cases c11 : x9_2 < 200
      ·rw [if_pos c11] at H; have c11b0 := decide_eq_true c11; clear c11
       (first | rw [c11b0] | (simp only [i64_w, i32_w]; rw [c11b0]) | skip)
       have H' := am H; clear H
       go_wp2
       go_meet
       case rel => exact ⟨_, (decide (x8_2 < x6_3)), rfl, H', ⟨by have := HJ3.out; have := HK2.out; first | omega | exact Nat.le_refl _⟩, ⟨zR HO_7.out⟩, ⟨zB HB.out⟩⟩
      ·rw [if_neg c11] at H; have c11b0 := decide_eq_false c11; clear c11
       (first | rw [c11b0] | (simp only [i64_w, i32_w]; rw [c11b0]) | skip)
       have H' := am H; clear H
       go_wp2
       go_meet
       case rel => exact ⟨_, (false), rfl, H', ⟨by have := HJ3.out; have := HK2.out; first | omega | exact Nat.le_refl _⟩, ⟨zR HO_7.out⟩, ⟨zB HB.out⟩⟩
     case rest =>
      clear HC10; obtain ⟨kq, x31_9, rfl, HA, HJ9, HO_7, HB⟩ := hcut
      cases kq with
      | zero => exact absurd HA.out (by simp [spec_l9Blocks.j2])
      | succ kj9 =>
       have H := HA.out; clear HA
       simp only [spec_l9Blocks.j2] at H
       by_cases c12 : x31_9 = true
       ·subst c12
        have H1 : ((spec_l9Next.f x5_2).bind fun t147 => (if a1 = 0 then (none) else (if 0 ≤ (Int.tmod t147 a1) then (if (Int.tmod t147 a1) < (x7_2.length : Int) then (if (rdOf false x7_2 (Int.tmod t147 a1) = true) then (spec_l9Blocks.l0 kj9 a1 t147 x6_3 x7_2 x8_2 (wrap64 (x9_2 + 1))) else (spec_l9Blocks.l0 kj9 a1 t147 x6_3 (x7_2.set ((Int.tmod t147 a1) : Int).toNat true) (wrap64 (x8_2 + 1)) (wrap64 (x9_2 + 1)))) else (none)) else (none)))) = some r := by rw [if_pos rfl] at H; exact H
        clear H; have H := H1; clear H1; obtain ⟨t147, A13, H⟩ := bi_ H
        by_cases c14 : a1 = 0
        ·rw [if_pos c14] at H
         exact absurd H (by simp)
        ·rw [if_neg c14] at H; have c14b0 : (a1 == 0) = false := beq_eq_false_iff_ne.mpr c14; have c14b1 : (a1 != 0) = true := bne_iff_ne.mpr c14; obtain ⟨ji15, hji15⟩ : ∃ j_ : Int, (Int.tmod t147 a1) = j_ := ⟨_, rfl⟩
         replace H : (if 0 ≤ (ji15) then (if (ji15) < (x7_2.length : Int) then (if (rdOf false x7_2 (ji15) = true) then (spec_l9Blocks.l0 kj9 a1 t147 x6_3 x7_2 x8_2 (wrap64 (x9_2 + 1))) else (spec_l9Blocks.l0 kj9 a1 t147 x6_3 (x7_2.set ((ji15) : Int).toNat true) (wrap64 (x8_2 + 1)) (wrap64 (x9_2 + 1)))) else (none)) else (none)) = some r := by first | (rw [hji15] at H; exact H) | (simp only [hji15] at H ⊢; exact H)
         (try rw [hji15] at A13)
         obtain ⟨c16, H⟩ := it_ H; have c16b0 := decide_eq_true c16; clear c16
         obtain ⟨c17, H⟩ := it_ H; have c17b0 := decide_eq_true c17; clear c17; obtain ⟨bq18, hbq18⟩ : ∃ b_ : Bool, b_ = (rdOf false x7_2 (ji15)) := ⟨_, rfl⟩
         replace H : (if (bq18 = true) then (spec_l9Blocks.l0 kj9 a1 t147 x6_3 x7_2 x8_2 (wrap64 (x9_2 + 1))) else (spec_l9Blocks.l0 kj9 a1 t147 x6_3 (x7_2.set ((ji15) : Int).toNat true) (wrap64 (x8_2 + 1)) (wrap64 (x9_2 + 1)))) = some r := by rw [← hbq18] at H; exact H
         have Nbq18 := am hbq18; clear hbq18
         by_cases c19 : (bq18 = true)
         ·subst c19
          have H1 : (spec_l9Blocks.l0 kj9 a1 t147 x6_3 x7_2 x8_2 (wrap64 (x9_2 + 1))) = some r := by rw [if_pos rfl] at H; exact H
          clear H; have H := H1; clear H1; have H' := am H; clear H
          go_wp2_with (first | ((with_reducible refine gate_callee (f := 90) rfl ?_); refine goL_ (some 35) Try.func90 #[.int .i64 x5_2] ?_; (with_reducible refine (spec_l9Next.calls x5_2 t147 _ A13.out).mono ?_); rintro e w' ⟨rfl, ⟨nd, rfl⟩⟩; refine ⟨_, rfl, ?_⟩; obtain ⟨Ao20, co20, eo20⟩ := Kd.R_slice HO_7.out; subst eo20; have p148 : 0 ≤ ((ji15) : Int) := od_; have q148 : (ji15) < (x7_2.length : Int) := od_; obtain ⟨ad148, e148, hx148_0⟩ := Kd.at_bool (Kd.R_reads' HO_7.out).2.2 (ji15) p148 q148; (try rw [← Nbq18.out] at hx148_0); cases e148; replace p148 := eq_true p148; replace q148 := eq_true q148))
          go_roundg kj9
          case measure => have := HJ3.out; have := HK2.out; have := HJ9.out; omega
          case rel => exact ⟨(t147), (x7_2), (x8_2), (wrap64 (x9_2 + 1)), rfl, rfl, rfl, (by first | exact H' | (have H2_ := H'; simp only [hji15] at H2_ ⊢; exact H2_)), ⟨by have := HJ3.out; have := HK2.out; have := HJ9.out; omega⟩, ⟨zR HO_7.out⟩, ⟨zB HB.out⟩⟩
         ·replace c19 := Bool.eq_false_iff.mpr c19
          subst c19
          have H1 : (spec_l9Blocks.l0 kj9 a1 t147 x6_3 (x7_2.set ((ji15) : Int).toNat true) (wrap64 (x8_2 + 1)) (wrap64 (x9_2 + 1))) = some r := by rw [if_neg (show ¬ (false = true) by decide)] at H; exact H
          clear H; have H := H1; clear H1; (try rw [Option.bind_some] at H); generalize hy149 : (x7_2.set ((ji15) : Int).toNat true) = y149 at H; have Ny149 := am hy149.symm; clear hy149; have H' := am H; clear H
          go_wp2_with (first | ((with_reducible refine gate_callee (f := 90) rfl ?_); refine goL_ (some 35) Try.func90 #[.int .i64 x5_2] ?_; (with_reducible refine (spec_l9Next.calls x5_2 t147 _ A13.out).mono ?_); rintro e w' ⟨rfl, ⟨nd, rfl⟩⟩; refine ⟨_, rfl, ?_⟩; (try (rw [drewN_self wc]; generalize hq_ : World.drewN wc _ = wc; have n0_ : Aside0 (Kd.R Kd.bool 4 wc w.heap.size (fun _ => True) v145 x7_2) := ⟨by rw [← hq_]; exact (zR HO_7.out)⟩; have n1_ : Aside0 (Below w.heap.size w wc) := ⟨by rw [← hq_]; exact (zB HB.out)⟩; clear HO_7 HB hq_; have HO_7 := n0_; have HB := n1_; clear n0_ n1_)); obtain ⟨Ao22, co22, eo22⟩ := Kd.R_slice HO_7.out; subst eo22; have p148 : 0 ≤ ((ji15) : Int) := od_; have q148 : (ji15) < (x7_2.length : Int) := od_; obtain ⟨ad148, e148, hx148_0⟩ := Kd.at_bool (Kd.R_reads' HO_7.out).2.2 (ji15) p148 q148; (try rw [← Nbq18.out] at hx148_0); cases e148; replace p148 := eq_true p148; replace q148 := eq_true q148; have p21 : 0 ≤ ((ji15) : Int) := od_; have q21 : ((ji15) : Int) < ((x7_2.length : Int) : Int) := od_; obtain ⟨go21, co21, eo21, gb21, gl21, cl21, HG21⟩ := Kd.R_form HO_7.out (by omega); (first | cases eo21 | (injection eo21 with ea_ en_ ec_; (first | subst ea_ | (injection ea_ with ea_; subst ea_)); subst ec_; clear en_)); have GB21 := am gb21; have GG21 := am HG21; clear gb21 gl21 HG21; (first | simp only [add_plain] at hx148_0 | skip); obtain ⟨hx21_0, hf21_0⟩ := Kd.R_celln false HO_7.out ((ji15) : Int) p21 q21; replace p21 := eq_true p21; replace q21 := eq_true q21; obtain ⟨hy23_, hz23_⟩ := Kd.R_celln false HO_7.out ((ji15) : Int) (od_) (od_); have HP23 := Kd.R_putg HO_7.out ((ji15) : Int) true) | ((with_reducible refine gate_store (t := 4) (p := 46) rfl ?_); refine store_event (t := 4) (p := 46) (v := ?vo_w24) (w1 := (wc.setCell ⟨go21, ((ji15) : Int).toNat, none⟩ (.bool true))) ?hg ?ho ?hn ?hr ?_; (case ho => rfl); (case hg => rfl); (case hn => rfl); (case hr => first | (go_simp; done) | (go_simp; rfl)); intro w24 hw; have hg : wc.grownBy w24 (some go21) := (by rw [hw]; exact HP23.2); have hp_ : Kd.R Kd.bool 4 w24 w.heap.size (fun _ => True) (.slice (some ⟨go21, 0, none⟩) x7_2.length co22) y149 := (by rw [hw, Ny149.out]; exact HP23.1); clear HP23; replace HO_7 := am (hp_); replace HB := am ((by rw [hw]; exact below_set (HB.out) GB21.out : Below w.heap.size w w24)); clear hg hw hp_))
          go_roundg kj9
          case measure => have := HJ3.out; have := HK2.out; have := HJ9.out; omega
          case rel => exact ⟨(t147), (y149), (wrap64 (x8_2 + 1)), (wrap64 (x9_2 + 1)), rfl, rfl, rfl, (by first | exact H' | (have H2_ := H'; simp only [hji15] at H2_ ⊢; exact H2_)), ⟨by have := HJ3.out; have := HK2.out; have := HJ9.out; omega⟩, ⟨zR HO_7.out⟩, ⟨zB HB.out⟩⟩
       ·replace c12 := Bool.eq_false_iff.mpr c12
        subst c12
        have H1 : (spec_l9Blocks.l1 kj9 ([] : List Int) x7_2 (x7_2.length : Int) 0) = some r := by rw [if_neg (show ¬ (false = true) by decide)] at H; exact H
        clear H; have H := H1; clear H1; have H' := am H; clear H; obtain ⟨Ao25, co25, eo25⟩ := Kd.R_slice HO_7.out
        subst eo25
        go_wp2
        go_loopg [11, 51] kj9 (fun kq v11 v51 w' => ∃ (x11_4 : List Int) (x51_4 : Int), v51 = .int .i64 x51_4 ∧ Aside0 (spec_l9Blocks.l1 kq x11_4 x7_2 (x7_2.length : Int) x51_4 = some r) ∧ Aside0 (kq ≤ kj9) ∧ Aside0 (Kd.R (Kd.int .i64) 3 w' w.heap.size (fun _ => True) v11 x11_4) ∧ Aside0 (Kd.R Kd.bool 4 w' w.heap.size (fun _ => True) (.slice Ao25 x7_2.length co25) x7_2) ∧ Aside0 (Below w.heap.size w w'))
        case atStart => exact ⟨(([] : List Int)), (0), rfl, H', ⟨Nat.le_refl _⟩, ⟨by first | apply Kd.R_nil | apply Kd.N_nil | apply Kd.V_nil | apply Kd.Q_nil | apply Kd.S_nil⟩, ⟨zR HO_7.out⟩, ⟨zB HB.out⟩⟩
        case round =>
         clear H'; obtain ⟨x11_4, x51_4, rfl, HA, HK4, HO_11, HO_49, HB⟩ := hrel
         cases gk with
         | zero => exact absurd HA.out (by simp [spec_l9Blocks.l1])
         | succ k4 =>
          have H := HA.out; clear HA
          simp only [spec_l9Blocks.l1] at H
          by_cases c26 : x51_4 < (x7_2.length : Int)
          ·rw [if_pos c26] at H; have c26b0 := decide_eq_true c26; clear c26
           obtain ⟨c27, H⟩ := it_ H; have c27b0 := decide_eq_true c27; clear c27
           obtain ⟨c28, H⟩ := it_ H; have c28b0 := decide_eq_true c28; clear c28; obtain ⟨bq29, hbq29⟩ : ∃ b_ : Bool, b_ = (rdOf false x7_2 x51_4) := ⟨_, rfl⟩
           replace H : (if bq29 = true then (if x11_4.length < 17592186044416 then (spec_l9Blocks.l1 k4 (x11_4 ++ [x51_4]) x7_2 (x7_2.length : Int) (wrap64 (x51_4 + 1))) else (none)) else (spec_l9Blocks.l1 k4 x11_4 x7_2 (x7_2.length : Int) (wrap64 (x51_4 + 1)))) = some r := by rw [← hbq29] at H; exact H
           have Nbq29 := am hbq29; clear hbq29
           by_cases c30 : bq29 = true
           ·subst c30
            have H1 : (if x11_4.length < 17592186044416 then (spec_l9Blocks.l1 k4 (x11_4 ++ [x51_4]) x7_2 (x7_2.length : Int) (wrap64 (x51_4 + 1))) else (none)) = some r := by rw [if_pos rfl] at H; exact H
            clear H; have H := H1; clear H1
            obtain ⟨c31, H⟩ := it_ H; have LMc31 := am c31; clear c31; obtain ⟨y151, hy151⟩ : ∃ y_ : List Int, y_ = (x11_4 ++ [x51_4]) := ⟨_, rfl⟩
            replace H : (spec_l9Blocks.l1 k4 y151 x7_2 (x7_2.length : Int) (wrap64 (x51_4 + 1))) = some r := by first | (rw [hy151]; exact H) | (have H2_ := (Option.bind_some _ _).symm.trans H; first | exact H2_ | (rw [hy151]; exact H2_)) | exact H
            have Ny151 := am hy151; clear hy151; have H' := am H; clear H; have p150 : 0 ≤ (x51_4 : Int) := od_; have q150 : x51_4 < (x7_2.length : Int) := od_; obtain ⟨ad150, e150, hx150_0⟩ := Kd.at_bool (Kd.R_reads' HO_49.out).2.2 x51_4 p150 q150
            (try rw [← Nbq29.out] at hx150_0)
            cases e150; replace p150 := eq_true p150; replace q150 := eq_true q150
            go_wp2_with (first | ((with_reducible refine gate_builtin (b := .append) (xs := #[.tmp 57, .tmp 59]) rfl ?_); at_builtin; refine Kd.R_append (Kd.int .i64) (w0 := w) w.heap.size rfl (.tmp 57) (.tmp 59) 47 3 (.int .i64 0) 8 rfl Try.underlying47 info3 rfl (by decide) (by omega) u11 x11_4 x51_4 [.int .i64 x51_4] (fun _ => True) (fun _ => False) rfl rfl ?aP (fun _ hk => hk.elim) ?aF ?aO ?aB ?aS ?aL ?_; (case aP => exact rfl); (case aB => exact (zB HB.out)); (case aF => exact (fun _ _ => trivial)); (case aO => exact (zR HO_11.out)); (case aS => exact (zs_ HB.out)); (case aL => have := LMc31.out; omega); intro v152 w32 ho hb hg hat; rw [← Ny151.out] at ho; replace HO_49 := am (Kd.R_over' (zR HO_49.out) (Kd.R_typed (zR HO_11.out)) (by decide) hg); replace HB := am (hb); have HO153 := am (ho); (try clear HO_11); clear ho hb hg hat))
            go_roundg k4
            case measure => have := HJ3.out; have := HK2.out; have := HJ9.out; have := HK4.out; omega
            case rel => exact ⟨(y151), (wrap64 (x51_4 + 1)), rfl, H', ⟨by have := HJ3.out; have := HK2.out; have := HJ9.out; have := HK4.out; omega⟩, ⟨zR HO153.out⟩, ⟨zR HO_49.out⟩, ⟨zB HB.out⟩⟩
           ·replace c30 := Bool.eq_false_iff.mpr c30
            subst c30
            have H1 : (spec_l9Blocks.l1 k4 x11_4 x7_2 (x7_2.length : Int) (wrap64 (x51_4 + 1))) = some r := by rw [if_neg (show ¬ (false = true) by decide)] at H; exact H
            clear H; have H := H1; clear H1; have H' := am H; clear H; have p150 : 0 ≤ (x51_4 : Int) := od_; have q150 : x51_4 < (x7_2.length : Int) := od_; obtain ⟨ad150, e150, hx150_0⟩ := Kd.at_bool (Kd.R_reads' HO_49.out).2.2 x51_4 p150 q150
            (try rw [← Nbq29.out] at hx150_0)
            cases e150; replace p150 := eq_true p150; replace q150 := eq_true q150
            go_wp2
            go_roundg k4
            case measure => have := HJ3.out; have := HK2.out; have := HJ9.out; have := HK4.out; omega
            case rel => exact ⟨(x11_4), (wrap64 (x51_4 + 1)), rfl, H', ⟨by have := HJ3.out; have := HK2.out; have := HJ9.out; have := HK4.out; omega⟩, ⟨zR HO_11.out⟩, ⟨zR HO_49.out⟩, ⟨zB HB.out⟩⟩
          ·rw [if_neg c26] at H; have c26b0 := decide_eq_false c26; clear c26; obtain rfl := Option.some.inj H
           go_wp2
           go_ret
           exact ⟨_, rfl, zR HO_11.out, zB HB.out⟩

/-! ### spec_l9Row: function 77 -/
def spec_l9Row.l0 : Nat → List Int → List Int → Int → Int → Option (List Int)
 | 0, _, _, _, _ => none
 | k + 1, x5, x12, x13, x14 => if x14 < x13 then (if 0 ≤ x14 then (if x14 < (x12.length : Int) then (if 0 ≤ (rd x12 x14) then (if (rd x12 x14) < (x5.length : Int) then (spec_l9Row.l0 k (x5.set ((rd x12 x14) : Int).toNat 1) x12 x13 (wrap64 (x14 + 1))) else (none)) else (none)) else (none)) else (none)) else (some x5)
def spec_l9Row.f (k : Nat) (a0 : Int) (a1 : Int) : Option (List Int) := if 0 ≤ a1 then (if (a1 : Int).toNat ≤ 281474976710656 then ((spec_l9Blocks.f k a0 a1).bind fun t157 => (spec_l9Row.l0 k (List.replicate (a1 : Int).toNat 0) t157 (t157.length : Int) 0)) else (none)) else (none)
theorem spec_l9Row.mono_l : ∀ k, (∀ y0 y1 y2 y3, LeO (spec_l9Row.l0 k y0 y1 y2 y3) (spec_l9Row.l0 (k + 1) y0 y1 y2 y3))
 | 0 => fun _ _ _ _ r h => by simp [spec_l9Row.l0] at h
 | k + 1 => by
  have ih0 := spec_l9Row.mono_l k
  ·intro y0 y1 y2 y3
   unfold spec_l9Row.l0
   repeat' first | apply LeO.refl | apply LeO.none | apply LeO.ite | apply ih0 | apply spec_l9Blocks.mono | (refine LeO.bind ?_ (fun _ => ?_))
theorem spec_l9Row.mono : ∀ a0 a1 k, LeO (spec_l9Row.f k a0 a1) (spec_l9Row.f (k + 1) a0 a1) := by
 intro a0 a1 k; have ih0 := spec_l9Row.mono_l k
 unfold spec_l9Row.f
 repeat' first
   | (with_reducible exact ih0 _ _ _ _)
   | (with_reducible exact spec_l9Blocks.mono _ _ _)
   | (with_reducible exact LeO.refl _)
   | (with_reducible exact LeO.none _)
   | (with_reducible refine LeO.ite ?_ ?_)
   | (with_reducible refine LeO.bind ?_ (fun _ => ?_))
   | exact ih0 _ _ _ _
   | exact spec_l9Blocks.mono _ _ _
   | exact LeO.none _
   | refine LeO.ite ?_ ?_
   | refine LeO.bind ?_ (fun _ => ?_)
set_option maxHeartbeats 8000000 in
set_option maxRecDepth 100000 in
theorem spec_l9Row.calls (k : Nat) (a0 : Int) (a1 : Int) (r : List Int) (w : World) (h : spec_l9Row.f k a0 a1 = some r) :
  Calls Try.prog 77 #[.int .i64 a0, .int .i64 a1] w fun e w' => ∃ v0_ : Value, e = .returned (v0_) ∧ Kd.R (Kd.int .u8) 5 w' w.heap.size (fun _ => True) v0_ r ∧ Below w.heap.size w w' := by
 have HB := am (Below.refl w.heap.size w); have H : (if 0 ≤ a1 then (if (a1 : Int).toNat ≤ 281474976710656 then ((spec_l9Blocks.f k a0 a1).bind fun t157 => (spec_l9Row.l0 k (List.replicate (a1 : Int).toNat 0) t157 (t157.length : Int) 0)) else (none)) else (none)) = some r := h; clear h
 obtain ⟨c3, H⟩ := it_ H; have c3b0 := eq_true c3; have c3b1 := decide_eq_true c3; clear c3
 obtain ⟨c4, H⟩ := it_ H; have c4b0 := eq_true c4; have c4b1 := decide_eq_true c4; clear c4; obtain ⟨y154, hy154⟩ : ∃ y_ : List Int, y_ = (List.replicate (a1 : Int).toNat 0) := ⟨_, rfl⟩
 replace H : ((spec_l9Blocks.f k a0 a1).bind fun t157 => (spec_l9Row.l0 k y154 t157 (t157.length : Int) 0)) = some r := by first | (rw [hy154]; exact H) | (have H2_ := (Option.bind_some _ _).symm.trans H; first | exact H2_ | (rw [hy154]; exact H2_)) | exact H
 have Ny154 := am hy154; clear hy154; obtain ⟨t157, A5, H⟩ := bi_ H; have H' := am H; clear H
 go_enter Try.func77, Try.ntmps77
 go_wp2_with (first | ((with_reducible refine gate_dst (N := 9) rfl ?_); refine Kd.R_make (Kd.int .u8) _ 5 rfl (N := 9) rfl 75 _ _ rfl a1 rfl rfl Try.underlying75 (.int .u8 0) 1 info5 rfl (by decide) (by omega) 0 (ok := fun _ => True) (okp := fun _ => True) rfl (fun _ hk => hk) trivial (od_) (Nat.le_trans (Nat.mul_le_mul_right _ (od_ : a1.toNat ≤ 281474976710656)) (by omega)) (Below.refl _ _) (Nat.le_refl _) ?_; intro v155 w6 ho7 hb hg_ hnew_; clear hg_ hnew_; (first | rw [← Ny154.out] at ho7 | (simp only [Int.reduceToNat] at ho7; rw [← Ny154.out] at ho7)); have HO156 := am (Kd.R_lower ho7 (zs_ HB.out)); replace HB := am (below_step (zB HB.out) hb); clear hb ho7) | ((with_reducible refine gate_callee (f := 69) rfl ?_); refine goL_ (some 12) Try.func69 #[.int .i64 a0, .int .i64 a1] ?_; (with_reducible refine (spec_l9Blocks.calls k a0 a1 t157 _ A5.out).mono ?_); rintro e w8 ⟨v158, rfl, ho0, hb⟩; refine ⟨_, rfl, ?_⟩; replace HO156 := am (Kd.R_below (zR HO156.out) hb); have HO159 := am (Kd.R_lower ho0 (zs_ HB.out)); replace HB := am (below_step (zB HB.out) hb); (try clear hb); (try clear ho0); obtain ⟨Ao9, co9, eo9⟩ := Kd.R_slice HO159.out; subst eo9))
 go_loopg [14] k (fun kq v14 w' => ∃ (x5_1 : List Int) (x14_1 : Int), v14 = .int .i64 x14_1 ∧ Aside0 (spec_l9Row.l0 kq x5_1 t157 (t157.length : Int) x14_1 = some r) ∧ Aside0 (kq ≤ k) ∧ Aside0 (Kd.R (Kd.int .u8) 5 w' w.heap.size (fun _ => True) v155 x5_1) ∧ Aside0 (Kd.R (Kd.int .i64) 3 w' w.heap.size (fun _ => True) (.slice Ao9 t157.length co9) t157) ∧ Aside0 (Below w.heap.size w w'))
 case atStart => exact ⟨(y154), (0), rfl, H', ⟨Nat.le_refl _⟩, ⟨zR HO156.out⟩, ⟨zR HO159.out⟩, ⟨zB HB.out⟩⟩
 case round =>
  clear H'; obtain ⟨x5_1, x14_1, rfl, HA, HK1, HO_5, HO_12, HB⟩ := hrel
  cases gk with
  | zero => exact absurd HA.out (by simp [spec_l9Row.l0])
  | succ k1 =>
   have H := HA.out; clear HA
   simp only [spec_l9Row.l0] at H
   by_cases c10 : x14_1 < (t157.length : Int)
   ·rw [if_pos c10] at H; have c10b0 := decide_eq_true c10; clear c10
    obtain ⟨c11, H⟩ := it_ H; have c11b0 := decide_eq_true c11; clear c11
    obtain ⟨c12, H⟩ := it_ H; have c12b0 := decide_eq_true c12; clear c12
    obtain ⟨c13, H⟩ := it_ H; have c13b0 := decide_eq_true c13; clear c13
    obtain ⟨c14, H⟩ := it_ H; have c14b0 := decide_eq_true c14; clear c14; obtain ⟨y161, hy161⟩ : ∃ y_ : List Int, y_ = (x5_1.set ((rd t157 x14_1) : Int).toNat 1) := ⟨_, rfl⟩
    replace H : (spec_l9Row.l0 k1 y161 t157 (t157.length : Int) (wrap64 (x14_1 + 1))) = some r := by first | (rw [hy161]; exact H) | (have H2_ := (Option.bind_some _ _).symm.trans H; first | exact H2_ | (rw [hy161]; exact H2_)) | exact H
    have Ny161 := am hy161; clear hy161; have H' := am H; clear H; have p160 : 0 ≤ (x14_1 : Int) := od_; have q160 : x14_1 < (t157.length : Int) := od_; obtain ⟨ad160, e160, hx160_0⟩ := Kd.at_int (Kd.R_reads' HO_12.out).2.2 x14_1 p160 q160; cases e160; replace p160 := eq_true p160; replace q160 := eq_true q160; have p15 : 0 ≤ ((rd t157 x14_1) : Int) := od_; have q15 : ((rd t157 x14_1) : Int) < ((x5_1.length : Int) : Int) := od_; obtain ⟨go15, co15, eo15, gb15, gl15, cl15, HG15⟩ := Kd.R_form HO_5.out (by omega)
    (first | cases eo15 | (injection eo15 with ea_ en_ ec_; (first | subst ea_ | (injection ea_ with ea_; subst ea_)); subst ec_; clear en_))
    have GB15 := am gb15; have GG15 := am HG15; clear gb15 gl15 HG15; obtain ⟨hx15_0, hf15_0⟩ := Kd.R_celln 0 HO_5.out ((rd t157 x14_1) : Int) p15 q15; replace p15 := eq_true p15; replace q15 := eq_true q15; have HP16 := Kd.R_putg HO_5.out ((rd t157 x14_1) : Int) 1
    go_wp2_with (first | ((with_reducible refine gate_store (t := 5) (p := 20) rfl ?_); refine store_event (t := 5) (p := 20) (v := ?vo_w17) (w1 := (wr.setCell ⟨go15, ((rd t157 x14_1) : Int).toNat, none⟩ (.int .u8 1))) ?hg ?ho ?hn ?hr ?_; (case ho => rfl); (case hg => rfl); (case hn => rfl); (case hr => first | (go_simp; done) | (go_simp; rfl)); intro w17 hw; have hg : wr.grownBy w17 (some go15) := (by rw [hw]; exact HP16.2); have hp_ : Kd.R (Kd.int .u8) 5 w17 w.heap.size (fun _ => True) (.slice (some ⟨go15, 0, none⟩) x5_1.length co15) y161 := (by rw [hw, Ny161.out]; exact HP16.1); clear HP16; replace HO_12 := am (Kd.R_over' (v := (.slice (some ⟨go15, 0, none⟩) x5_1.length co15)) (zR HO_12.out) (Kd.R_typed HO_5.out) (by decide) hg); replace HO_5 := am (hp_); replace HB := am ((by rw [hw]; exact below_set (HB.out) GB15.out : Below w.heap.size w w17)); clear hg hw hp_))
    go_roundg k1
    case measure => have := HK1.out; omega
    case rel => exact ⟨(y161), (wrap64 (x14_1 + 1)), rfl, H', ⟨by have := HK1.out; omega⟩, ⟨zR HO_5.out⟩, ⟨zR HO_12.out⟩, ⟨zB HB.out⟩⟩
   ·rw [if_neg c10] at H; have c10b0 := decide_eq_false c10; clear c10; obtain rfl := Option.some.inj H
    go_wp2
    go_ret
    exact ⟨_, rfl, zR HO_5.out, zB HB.out⟩

/-! ### spec_l1Times: function 86 -/
def spec_l1Times.l0 : Nat → Int → Int → Int → Option (Int)
 | 0, _, _, _ => none
 | k + 1, x5, x6, x7 => if x7 > 0 then (if (Go.bits .and .i64 x7 1) = 1 then (if (wrap64 (x6 * 2)) > 255 then (spec_l1Times.l0 k (Go.bits .xor .i64 x5 x6) (Go.bits .xor .i64 (wrap64 (x6 * 2)) 283) (x7 / 2)) else (spec_l1Times.l0 k (Go.bits .xor .i64 x5 x6) (wrap64 (x6 * 2)) (x7 / 2))) else (if (wrap64 (x6 * 2)) > 255 then (spec_l1Times.l0 k x5 (Go.bits .xor .i64 (wrap64 (x6 * 2)) 283) (x7 / 2)) else (spec_l1Times.l0 k x5 (wrap64 (x6 * 2)) (x7 / 2)))) else (some ((x5) % 256))
def spec_l1Times.f (k : Nat) (a0 : Int) (a1 : Int) : Option (Int) := spec_l1Times.l0 k 0 (wrap64 (a0)) (wrap64 (a1))
theorem spec_l1Times.mono_l : ∀ k, (∀ y0 y1 y2, LeO (spec_l1Times.l0 k y0 y1 y2) (spec_l1Times.l0 (k + 1) y0 y1 y2))
 | 0 => fun _ _ _ r h => by simp [spec_l1Times.l0] at h
 | k + 1 => by
  have ih0 := spec_l1Times.mono_l k
  ·intro y0 y1 y2
   unfold spec_l1Times.l0
   repeat' first | apply LeO.refl | apply LeO.none | apply LeO.ite | apply ih0 | (refine LeO.bind ?_ (fun _ => ?_))
theorem spec_l1Times.mono : ∀ a0 a1 k, LeO (spec_l1Times.f k a0 a1) (spec_l1Times.f (k + 1) a0 a1) := by
 intro a0 a1 k; have ih0 := spec_l1Times.mono_l k
 unfold spec_l1Times.f
 repeat' first | apply LeO.refl | apply LeO.none | apply LeO.ite | apply ih0 | (refine LeO.bind ?_ (fun _ => ?_))
set_option maxHeartbeats 8000000 in
set_option maxRecDepth 100000 in
theorem spec_l1Times.calls (k : Nat) (a0 : Int) (a1 : Int) (r : Int) (w : World) (h : spec_l1Times.f k a0 a1 = some r) :
  Calls Try.prog 86 #[.int .u8 a0, .int .u8 a1] w fun e w' => e = .returned (.int .u8 r) ∧ Drawn0 w w' := by
 have H : (spec_l1Times.l0 k 0 (wrap64 (a0)) (wrap64 (a1))) = some r := h; clear h; have H' := am H; clear H
 go_enter Try.func86, Try.ntmps86
 go_wp2
 go_loopg [5, 6, 7] k (fun kq v5 v6 v7 w' => ∃ (x5_1 : Int) (x6_1 : Int) (x7_1 : Int), v5 = .int .i64 x5_1 ∧ v6 = .int .i64 x6_1 ∧ v7 = .int .i64 x7_1 ∧ Aside0 (spec_l1Times.l0 kq x5_1 x6_1 x7_1 = some r) ∧ Aside0 (kq ≤ k) ∧ Drawn0 w w')
 case atStart => exact ⟨(0), (wrap64 (a0)), (wrap64 (a1)), rfl, rfl, rfl, H', ⟨Nat.le_refl _⟩, by repeat (first | exact Drawn0.refl _ | apply Drawn0.step)⟩
 case round =>
  clear H'; obtain ⟨x5_1, x6_1, x7_1, rfl, rfl, rfl, HA, HK1, ⟨m1, rfl⟩⟩ := hrel
  cases gk with
  | zero => exact absurd HA.out (by simp [spec_l1Times.l0])
  | succ k1 =>
   have H := HA.out; clear HA
   simp only [spec_l1Times.l0] at H
   by_cases c3 : x7_1 > 0
   ·rw [if_pos c3] at H; have c3b0 : decide (0 < x7_1) = true := decide_eq_true c3; clear c3
    by_cases c4 : (Go.bits .and .i64 x7_1 1) = 1
    ·rw [if_pos c4] at H; have c4b0 : ((Go.bits .and .i64 x7_1 1) == 1) = true := beq_iff_eq.mpr c4; have c4b1 : ((Go.bits .and .i64 x7_1 1) != 1) = false := bne_eq_false_iff_eq.mpr c4; clear c4
     by_cases c5 : (wrap64 (x6_1 * 2)) > 255
     ·rw [if_pos c5] at H; have c5b0 : decide (255 < (wrap64 (x6_1 * 2))) = true := decide_eq_true c5; clear c5; have H' := am H; clear H
      go_wp2
      go_roundg k1
      case measure => have := HK1.out; omega
      case rel => exact ⟨(Go.bits .xor .i64 x5_1 x6_1), (Go.bits .xor .i64 (wrap64 (x6_1 * 2)) 283), (x7_1 / 2), rfl, rfl, rfl, H', ⟨by have := HK1.out; omega⟩, by repeat (first | exact Drawn0.refl _ | apply Drawn0.step)⟩
     ·rw [if_neg c5] at H; have c5b0 : decide (255 < (wrap64 (x6_1 * 2))) = false := decide_eq_false c5; clear c5; have H' := am H; clear H
      go_wp2
      go_roundg k1
      case measure => have := HK1.out; omega
      case rel => exact ⟨(Go.bits .xor .i64 x5_1 x6_1), (wrap64 (x6_1 * 2)), (x7_1 / 2), rfl, rfl, rfl, H', ⟨by have := HK1.out; omega⟩, by repeat (first | exact Drawn0.refl _ | apply Drawn0.step)⟩
    ·rw [if_neg c4] at H; have c4b0 : ((Go.bits .and .i64 x7_1 1) == 1) = false := beq_eq_false_iff_ne.mpr c4; have c4b1 : ((Go.bits .and .i64 x7_1 1) != 1) = true := bne_iff_ne.mpr c4
     by_cases c6 : (wrap64 (x6_1 * 2)) > 255
     ·rw [if_pos c6] at H; have c6b0 : decide (255 < (wrap64 (x6_1 * 2))) = true := decide_eq_true c6; clear c6; have H' := am H; clear H
      go_wp2
      go_roundg k1
      case measure => have := HK1.out; omega
      case rel => exact ⟨(x5_1), (Go.bits .xor .i64 (wrap64 (x6_1 * 2)) 283), (x7_1 / 2), rfl, rfl, rfl, H', ⟨by have := HK1.out; omega⟩, by repeat (first | exact Drawn0.refl _ | apply Drawn0.step)⟩
     ·rw [if_neg c6] at H; have c6b0 : decide (255 < (wrap64 (x6_1 * 2))) = false := decide_eq_false c6; clear c6; have H' := am H; clear H
      go_wp2
      go_roundg k1
      case measure => have := HK1.out; omega
      case rel => exact ⟨(x5_1), (wrap64 (x6_1 * 2)), (x7_1 / 2), rfl, rfl, rfl, H', ⟨by have := HK1.out; omega⟩, by repeat (first | exact Drawn0.refl _ | apply Drawn0.step)⟩
   ·rw [if_neg c3] at H; have c3b0 : decide (0 < x7_1) = false := decide_eq_false c3; clear c3; obtain rfl := Option.some.inj H
    go_wp2
    go_ret
    exact ⟨by first | rfl | (simp; done) | (simp [*]; done), by repeat (first | exact Drawn0.refl _ | apply Drawn0.step)⟩

/-! ### spec_l1Power: function 112 -/
def spec_l1Power.l0 : Nat → Int → Int → Int → Option (Int)
 | 0, _, _, _ => none
 | k + 1, x0, x1, x5 => if x1 > 0 then ((spec_l1Times.f k x5 x0).bind fun t162 => (spec_l1Power.l0 k x0 (wrap64 (x1 - 1)) t162)) else (some x5)
def spec_l1Power.f (k : Nat) (a0 : Int) (a1 : Int) : Option (Int) := spec_l1Power.l0 k a0 a1 1
theorem spec_l1Power.mono_l : ∀ k, (∀ y0 y1 y2, LeO (spec_l1Power.l0 k y0 y1 y2) (spec_l1Power.l0 (k + 1) y0 y1 y2))
 | 0 => fun _ _ _ r h => by simp [spec_l1Power.l0] at h
 | k + 1 => by
  have ih0 := spec_l1Power.mono_l k
  ·intro y0 y1 y2
   unfold spec_l1Power.l0
   repeat' first | apply LeO.refl | apply LeO.none | apply LeO.ite | apply ih0 | apply spec_l1Times.mono | (refine LeO.bind ?_ (fun _ => ?_))
theorem spec_l1Power.mono : ∀ a0 a1 k, LeO (spec_l1Power.f k a0 a1) (spec_l1Power.f (k + 1) a0 a1) := by
 intro a0 a1 k; have ih0 := spec_l1Power.mono_l k
 unfold spec_l1Power.f
 repeat' first | apply LeO.refl | apply LeO.none | apply LeO.ite | apply ih0 | apply spec_l1Times.mono | (refine LeO.bind ?_ (fun _ => ?_))
set_option maxHeartbeats 8000000 in
set_option maxRecDepth 100000 in
theorem spec_l1Power.calls (k : Nat) (a0 : Int) (a1 : Int) (r : Int) (w : World) (h : spec_l1Power.f k a0 a1 = some r) :
  Calls Try.prog 112 #[.int .u8 a0, .int .i64 a1] w fun e w' => e = .returned (.int .u8 r) ∧ Drawn0 w w' := by
 have H : (spec_l1Power.l0 k a0 a1 1) = some r := h; clear h; have H' := am H; clear H
 go_enter Try.func112, Try.ntmps112
 go_wp2
 go_loopg [1, 5] k (fun kq v1 v5 w' => ∃ (x1_1 : Int) (x5_1 : Int), v1 = .int .i64 x1_1 ∧ v5 = .int .u8 x5_1 ∧ Aside0 (spec_l1Power.l0 kq a0 x1_1 x5_1 = some r) ∧ Aside0 (kq ≤ k) ∧ Drawn0 w w')
 case atStart => exact ⟨(a1), (1), rfl, rfl, H', ⟨Nat.le_refl _⟩, by repeat (first | exact Drawn0.refl _ | apply Drawn0.step)⟩
 case round =>
  clear H'; obtain ⟨x1_1, x5_1, rfl, rfl, HA, HK1, ⟨m1, rfl⟩⟩ := hrel
  cases gk with
  | zero => exact absurd HA.out (by simp [spec_l1Power.l0])
  | succ k1 =>
   have H := HA.out; clear HA
   simp only [spec_l1Power.l0] at H
   by_cases c3 : x1_1 > 0
   ·rw [if_pos c3] at H; have c3b0 : decide (0 < x1_1) = true := decide_eq_true c3; clear c3; obtain ⟨t162, A4, H⟩ := bi_ H; have H' := am H; clear H
    go_wp2_with (first | ((with_reducible refine gate_callee (f := 86) rfl ?_); refine goL_ (some 12) Try.func86 #[.int .u8 x5_1, .int .u8 a0] ?_; (with_reducible refine (spec_l1Times.calls k1 x5_1 a0 t162 _ A4.out).mono ?_); rintro e w' ⟨rfl, ⟨nd, rfl⟩⟩; refine ⟨_, rfl, ?_⟩))
    go_roundg k1
    case measure => have := HK1.out; omega
    case rel => exact ⟨(wrap64 (x1_1 - 1)), (t162), rfl, rfl, H', ⟨by have := HK1.out; omega⟩, by repeat (first | exact Drawn0.refl _ | apply Drawn0.step)⟩
   ·rw [if_neg c3] at H; have c3b0 : decide (0 < x1_1) = false := decide_eq_false c3; clear c3; obtain rfl := Option.some.inj H
    go_wp2
    go_ret
    exact ⟨by first | rfl | (simp; done) | (simp [*]; done), by repeat (first | exact Drawn0.refl _ | apply Drawn0.step)⟩

/-! ### spec_l1Inverse: function 102 -/
def spec_l1Inverse.f (k : Nat) (a0 : Int) : Option (Int) := if a0 = 0 then (some 0) else ((spec_l1Power.f k a0 254).bind fun t163 => (some t163))
theorem spec_l1Inverse.mono : ∀ a0 k, LeO (spec_l1Inverse.f k a0) (spec_l1Inverse.f (k + 1) a0) := by
 intro a0 k
 unfold spec_l1Inverse.f
 repeat' first | apply LeO.refl | apply LeO.none | apply LeO.ite | apply spec_l1Power.mono | (refine LeO.bind ?_ (fun _ => ?_))
set_option maxHeartbeats 8000000 in
set_option maxRecDepth 100000 in
theorem spec_l1Inverse.calls (k : Nat) (a0 : Int) (r : Int) (w : World) (h : spec_l1Inverse.f k a0 = some r) :
  Calls Try.prog 102 #[.int .u8 a0] w fun e w' => e = .returned (.int .u8 r) ∧ Drawn0 w w' := by
 have H : (if a0 = 0 then (some 0) else ((spec_l1Power.f k a0 254).bind fun t163 => (some t163))) = some r := h; clear h
 by_cases c2 : a0 = 0
 ·rw [if_pos c2] at H; have c2b0 : (a0 == 0) = true := beq_iff_eq.mpr c2; have c2b1 : (a0 != 0) = false := bne_eq_false_iff_eq.mpr c2; clear c2; obtain rfl := Option.some.inj H
  go_enter Try.func102, Try.ntmps102
  go_wp2
  go_ret
  exact ⟨by first | rfl | (simp; done) | (simp [*]; done), by repeat (first | exact Drawn0.refl _ | apply Drawn0.step)⟩
 ·rw [if_neg c2] at H; have c2b0 : (a0 == 0) = false := beq_eq_false_iff_ne.mpr c2; have c2b1 : (a0 != 0) = true := bne_iff_ne.mpr c2; obtain ⟨t163, A3, H⟩ := bi_ H; obtain rfl := Option.some.inj H
  go_enter Try.func102, Try.ntmps102
  go_wp2_with (first | ((with_reducible refine gate_callee (f := 112) rfl ?_); refine goL_ (some 6) Try.func112 #[.int .u8 a0, .int .i64 254] ?_; (with_reducible refine (spec_l1Power.calls k a0 254 t163 _ A3.out).mono ?_); rintro e w' ⟨rfl, ⟨nd, rfl⟩⟩; refine ⟨_, rfl, ?_⟩))
  go_ret
  exact ⟨by first | rfl | (simp; done) | (simp [*]; done), by repeat (first | exact Drawn0.refl _ | apply Drawn0.step)⟩

end Go.Proofs.Ytimajkahadhhhaa.PFnExactSolveDrops
