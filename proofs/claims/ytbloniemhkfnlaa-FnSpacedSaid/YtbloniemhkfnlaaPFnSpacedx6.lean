/- A law's functions as plain Lean functions, each with the walk that shows that the code computes it: written by this session's program wip/tools/ppmake.py. -/
import Derived.Test.YtbloniemhkfnlaaKZ
import Derived.Test.YtbloniemhkfnlaaPFnSpacedx0
import Derived.Test.YtbloniemhkfnlaaPFnSpacedx1
import Derived.Test.YtbloniemhkfnlaaPFnSpacedx5
namespace Go.Proofs.Ytbloniemhkfnlaa.PFnSpaced
open Go.RowKit Go.Proofs.YtbloniemhkfnlaaW.PrintWords Go.Proofs.YtbloniemhkfnlaaW.PrintLast Go.Proofs.YtbloniemhkfnlaaW.PrintMore
attribute [local go_sem] max2_int min2_int max_two min_two max_three min_three max_four min_four   -- for this text's walks alone
set_option linter.unusedVariables false
set_option linter.unusedSimpArgs false

/-! ### impl_EncodeWord: function 23 -/
mutual
def impl_EncodeWord.j0 : Nat → List Int → Int → Bool → Option (List Int × Bool)
 | 0, _, _, _ => none
 | k + 1, x0, x1, x23 => if x23 = true then (some (([] : List Int), false)) else (if 0 ≤ (wrap64 (2 * x1)) then (if (wrap64 (2 * x1) : Int).toNat ≤ 281474976710656 then ((some (List.replicate (wrap64 (2 * x1) : Int).toNat 0 : List Int)).bind fun y214 => (if y214.length + x0.length < 140737488355328 then ((some (y214 ++ x0 : List Int)).bind fun y217 => ((impl_generator.f k x1).bind fun t220 => (impl_EncodeWord.l0 k x0 x1 y217 t220 (wrap64 ((y217.length : Int) - 1))))) else (none))) else (none)) else (none))
def impl_EncodeWord.l0 : Nat → List Int → Int → List Int → List Int → Int → Option (List Int × Bool)
 | 0, _, _, _, _, _ => none
 | k + 1, x0, x1, x6, x7, x8 => if x8 ≥ (wrap64 (2 * x1)) then (if 0 ≤ x8 then (if x8 < (x6.length : Int) then (impl_EncodeWord.l1 k x0 x1 x6 x7 x8 (rd x6 x8) x7 (x7.length : Int) 0) else (none)) else (none)) else (if 0 ≤ (wrap64 (2 * x1)) then (if (wrap64 (2 * x1)) ≤ (x6.length : Int) then ((slices_Clone_byte_byte.f (x6.take ((wrap64 (2 * x1)) : Int).toNat)).bind fun t227 => (if t227.length + x0.length < 140737488355328 then (some ((t227 ++ x0), true)) else (none))) else (none)) else (none))
def impl_EncodeWord.l1 : Nat → List Int → Int → List Int → List Int → Int → Int → List Int → Int → Int → Option (List Int × Bool)
 | 0, _, _, _, _, _, _, _, _, _ => none
 | k + 1, x0, x1, x6, x7, x8, x9, x44, x45, x46 => if x46 < x45 then (if 0 ≤ x46 then (if x46 < (x44.length : Int) then (if 0 ≤ (wrap64 ((wrap64 (x8 - (wrap64 (2 * x1)))) + x46)) then (if (wrap64 ((wrap64 (x8 - (wrap64 (2 * x1)))) + x46)) < (x6.length : Int) then ((impl_Times.f k x9 (rd x44 x46)).bind fun t236 => (impl_EncodeWord.l1 k x0 x1 (x6.set ((wrap64 ((wrap64 (x8 - (wrap64 (2 * x1)))) + x46)) : Int).toNat (Go.bits .xor .u8 (rd x6 (wrap64 ((wrap64 (x8 - (wrap64 (2 * x1)))) + x46))) t236)) x7 x8 x9 x44 x45 (wrap64 (x46 + 1)))) else (none)) else (none)) else (none)) else (none)) else (impl_EncodeWord.l0 k x0 x1 x6 x7 (wrap64 (x8 - 1)))
end
def impl_EncodeWord.f (k : Nat) (l0 : List Int) (a1 : Int) : Option (List Int × Bool) := (impl_isCount.f a1).bind fun t212 => (if t212 = true then ((impl_within.f (l0.length : Int) 1 (wrap64 (24 - (wrap64 (2 * a1))))).bind fun t213 => (impl_EncodeWord.j0 k l0 a1 (!t213))) else (impl_EncodeWord.j0 k l0 a1 true))
theorem impl_EncodeWord.mono_l : ∀ k, (∀ y0 y1 y2, LeO (impl_EncodeWord.j0 k y0 y1 y2) (impl_EncodeWord.j0 (k + 1) y0 y1 y2)) ∧ (∀ y0 y1 y2 y3 y4, LeO (impl_EncodeWord.l0 k y0 y1 y2 y3 y4) (impl_EncodeWord.l0 (k + 1) y0 y1 y2 y3 y4)) ∧ (∀ y0 y1 y2 y3 y4 y5 y6 y7 y8, LeO (impl_EncodeWord.l1 k y0 y1 y2 y3 y4 y5 y6 y7 y8) (impl_EncodeWord.l1 (k + 1) y0 y1 y2 y3 y4 y5 y6 y7 y8))
 | 0 => ⟨fun _ _ _ r h => by simp [impl_EncodeWord.j0] at h, fun _ _ _ _ _ r h => by simp [impl_EncodeWord.l0] at h, fun _ _ _ _ _ _ _ _ _ r h => by simp [impl_EncodeWord.l1] at h⟩
 | k + 1 => by
  obtain ⟨ih0, ih1, ih2⟩ := impl_EncodeWord.mono_l k
  refine ⟨?_, ?_, ?_⟩
  ·intro y0 y1 y2
   unfold impl_EncodeWord.j0
   repeat' first | apply LeO.refl | apply LeO.none | apply LeO.ite | apply ih0 | apply ih1 | apply ih2 | apply impl_Times.mono | apply impl_generator.mono | (refine LeO.bind ?_ (fun _ => ?_))
  ·intro y0 y1 y2 y3 y4
   unfold impl_EncodeWord.l0
   repeat' first | apply LeO.refl | apply LeO.none | apply LeO.ite | apply ih0 | apply ih1 | apply ih2 | apply impl_Times.mono | apply impl_generator.mono | (refine LeO.bind ?_ (fun _ => ?_))
  ·intro y0 y1 y2 y3 y4 y5 y6 y7 y8
   unfold impl_EncodeWord.l1
   repeat' first | apply LeO.refl | apply LeO.none | apply LeO.ite | apply ih0 | apply ih1 | apply ih2 | apply impl_Times.mono | apply impl_generator.mono | (refine LeO.bind ?_ (fun _ => ?_))
theorem impl_EncodeWord.mono : ∀ a0 a1 k, LeO (impl_EncodeWord.f k a0 a1) (impl_EncodeWord.f (k + 1) a0 a1) := by
 intro a0 a1 k; obtain ⟨ih0, ih1, ih2⟩ := impl_EncodeWord.mono_l k
 unfold impl_EncodeWord.f
 repeat' first | apply LeO.refl | apply LeO.none | apply LeO.ite | apply ih0 | apply ih1 | apply ih2 | apply impl_Times.mono | apply impl_generator.mono | (refine LeO.bind ?_ (fun _ => ?_))
def impl_EncodeWord.T12 : Bool × List (List Nat × List Nat) := (true, [([], []), ([], []), ([], []), ([2], [2]), ([1, 3], [1, 3]), ([], []), ([4, 5], [4, 5]), ([0, 6], [0, 6]), ([7], [7]), ([], []), ([], []), ([9, 10], [9, 10]), ([8, 11], [8, 11]), ([0, 6, 0, 1, 2, 3, 4, 5, 6, 7, 8, 9, 10, 11, 12], [0, 6]), ([13, 12, 11, 0, 1, 2, 3, 4, 5, 6, 7, 8, 9, 10, 11, 12], [12, 13])])
def impl_EncodeWord.B12 : List Nat := [0, 0, 0, 4, 14, 0, 62, 127, 255, 0, 0, 1536, 4095, 8191, 16383]
theorem impl_EncodeWord.tab12 : rtab .any (opsOf Try.f23 12) = impl_EncodeWord.T12 := by kernel_rfl
theorem impl_EncodeWord.bits12 : waitsOk impl_EncodeWord.T12.2 impl_EncodeWord.B12 = true := by kernel_rfl
set_option maxHeartbeats 8000000 in
set_option maxRecDepth 100000 in
theorem impl_EncodeWord.calls (k : Nat) (A0 : Option Addr) (c0 : Nat) (l0 : List Int) (a1 : Int) (r1 : List Int) (r2 : Bool) (w : World) (hr0 : Kd.C (Kd.int .u8) w A0 l0.length l0) (hc0 : l0.length ≤ c0) (h : impl_EncodeWord.f k l0 a1 = some (r1, r2)) :
  Calls Try.prog 23 #[.slice A0 l0.length c0, .int .i64 a1] w fun e w' => ∃ v0_ : Value, e = .returned (.tuple #[v0_, .bool r2]) ∧ Kd.R (Kd.int .u8) 5 w' w.heap.size (fun _ => True) v0_ r1 ∧ Below w.heap.size w w' := by
 have HR0 := am hr0; have HC0 := am hc0; clear hr0 hc0; have HB := am (Below.refl w.heap.size w); have H : ((impl_isCount.f a1).bind fun t212 => (if t212 = true then ((impl_within.f (l0.length : Int) 1 (wrap64 (24 - (wrap64 (2 * a1))))).bind fun t213 => (impl_EncodeWord.j0 k l0 a1 (!t213))) else (impl_EncodeWord.j0 k l0 a1 true))) = some (r1, r2) := h; clear h; have HC3 := am H; clear H
 go_enter Try.func23, Try.ntmps23
 go_upto_region 1 with (fail)
 go_cut [23] (fun v23 wc => ∃ (kq : Nat) (x23_2 : Bool), v23 = .bool x23_2 ∧ Aside0 (impl_EncodeWord.j0 kq l0 a1 x23_2 = some (r1, r2)) ∧ Aside0 (kq ≤ k) ∧ Aside0 (Below w.heap.size w wc))
 case first =>
  have H := HC3.out; clear HC3; obtain ⟨t212, A4, H⟩ := bi_ H
  by_cases c5 : t212 = true
  ·subst c5
   have H1 : ((impl_within.f (l0.length : Int) 1 (wrap64 (24 - (wrap64 (2 * a1))))).bind fun t213 => (impl_EncodeWord.j0 k l0 a1 (!t213))) = some (r1, r2) := by rw [if_pos rfl] at H; exact H
   clear H; have H := H1; clear H1; obtain ⟨t213, A6, H⟩ := bi_ H; have H' := am H; clear H
   go_wp2_with (first | ((with_reducible refine gate_callee (f := 38) rfl ?_); refine goL_ (some 13) Try.func38 #[.int .i64 a1] ?_; (with_reducible refine (impl_isCount.calls a1 true _ A4.out).mono ?_); rintro e w' ⟨rfl, ⟨nd, rfl⟩⟩; refine ⟨_, rfl, ?_⟩) | (go_at_call 47; (with_reducible refine (impl_within.calls (l0.length : Int) 1 (wrap64 (24 - (wrap64 (2 * a1)))) t213 _ A6.out).mono ?_); rintro e w' ⟨rfl, ⟨nd, rfl⟩⟩))
   go_meet
   case rel => exact ⟨_, (!t213), rfl, H', ⟨by first | omega | exact Nat.le_refl _⟩, ⟨zB HB.out⟩⟩
  ·replace c5 := Bool.eq_false_iff.mpr c5
   subst c5
   have H1 : (impl_EncodeWord.j0 k l0 a1 true) = some (r1, r2) := by rw [if_neg (show ¬ (false = true) by decide)] at H; exact H
   clear H; have H := H1; clear H1; have H' := am H; clear H
   go_wp2_with (first | ((with_reducible refine gate_callee (f := 38) rfl ?_); refine goL_ (some 13) Try.func38 #[.int .i64 a1] ?_; (with_reducible refine (impl_isCount.calls a1 false _ A4.out).mono ?_); rintro e w' ⟨rfl, ⟨nd, rfl⟩⟩; refine ⟨_, rfl, ?_⟩))
   go_meet
   case rel => exact ⟨_, (true), rfl, H', ⟨by first | omega | exact Nat.le_refl _⟩, ⟨zB HB.out⟩⟩
 case rest =>
  clear HC3; obtain ⟨kq, x23_2, rfl, HA, HJ2, HB⟩ := hcut
  cases kq with
  | zero => exact absurd HA.out (by simp [impl_EncodeWord.j0])
  | succ kj2 =>
   have H := HA.out; clear HA
   simp only [impl_EncodeWord.j0] at H
   by_cases c7 : x23_2 = true
   ·subst c7
    have H1 : (some (([] : List Int), false)) = some (r1, r2) := by rw [if_pos rfl] at H; exact H
    clear H; have H := H1; clear H1
    simp only [Option.some.injEq, Prod.mk.injEq] at H
    obtain ⟨rfl, rfl⟩ := H
    go_wp2
    go_ret2
    exact ⟨_, rfl, by first | apply Kd.R_nil | apply Kd.N_nil | apply Kd.V_nil | apply Kd.Q_nil | apply Kd.S_nil, zB HB.out⟩
   ·replace c7 := Bool.eq_false_iff.mpr c7
    subst c7
    have H1 : (if 0 ≤ (wrap64 (2 * a1)) then (if (wrap64 (2 * a1) : Int).toNat ≤ 281474976710656 then ((some (List.replicate (wrap64 (2 * a1) : Int).toNat 0 : List Int)).bind fun y214 => (if y214.length + l0.length < 140737488355328 then ((some (y214 ++ l0 : List Int)).bind fun y217 => ((impl_generator.f kj2 a1).bind fun t220 => (impl_EncodeWord.l0 kj2 l0 a1 y217 t220 (wrap64 ((y217.length : Int) - 1))))) else (none))) else (none)) else (none)) = some (r1, r2) := by rw [if_neg (show ¬ (false = true) by decide)] at H; exact H
    clear H; have H := H1; clear H1; obtain ⟨ji8, hji8⟩ : ∃ j_ : Int, (wrap64 (2 * a1)) = j_ := ⟨_, rfl⟩
    replace H : (if 0 ≤ (ji8) then (if (ji8 : Int).toNat ≤ 281474976710656 then ((some (List.replicate (ji8 : Int).toNat 0 : List Int)).bind fun y214 => (if y214.length + l0.length < 140737488355328 then ((some (y214 ++ l0 : List Int)).bind fun y217 => ((impl_generator.f kj2 a1).bind fun t220 => (impl_EncodeWord.l0 kj2 l0 a1 y217 t220 (wrap64 ((y217.length : Int) - 1))))) else (none))) else (none)) else (none)) = some (r1, r2) := by first | (rw [hji8] at H; exact H) | (simp only [hji8] at H ⊢; exact H)
    have hji8w : (IntKind.i64.wrap (2 * a1)) = ji8 := (i64_w _).trans hji8
    obtain ⟨c9, H⟩ := it_ H; have c9b0 := eq_true c9; have c9b1 := decide_eq_true c9; clear c9
    obtain ⟨c10, H⟩ := it_ H; have c10b0 := eq_true c10; have c10b1 := decide_eq_true c10; clear c10; obtain ⟨y214, hy214⟩ : ∃ y_ : List Int, y_ = (List.replicate (ji8 : Int).toNat 0) := ⟨_, rfl⟩
    replace H : (if y214.length + l0.length < 140737488355328 then ((some (y214 ++ l0 : List Int)).bind fun y217 => ((impl_generator.f kj2 a1).bind fun t220 => (impl_EncodeWord.l0 kj2 l0 a1 y217 t220 (wrap64 ((y217.length : Int) - 1))))) else (none)) = some (r1, r2) := by first | (rw [hy214]; exact H) | (have H2_ := (Option.bind_some _ _).symm.trans H; first | exact H2_ | (rw [hy214]; exact H2_)) | exact H
    have Ny214 := am hy214; clear hy214
    obtain ⟨c11, H⟩ := it_ H; have LMc11 := am c11; clear c11; obtain ⟨y217, hy217⟩ : ∃ y_ : List Int, y_ = (y214 ++ l0) := ⟨_, rfl⟩
    replace H : ((impl_generator.f kj2 a1).bind fun t220 => (impl_EncodeWord.l0 kj2 l0 a1 y217 t220 (wrap64 ((y217.length : Int) - 1)))) = some (r1, r2) := by first | (rw [hy217]; exact H) | (have H2_ := (Option.bind_some _ _).symm.trans H; first | exact H2_ | (rw [hy217]; exact H2_)) | exact H
    have Ny217 := am hy217; clear hy217; obtain ⟨t220, A12, H⟩ := bi_ H; have H' := am H; clear H
    go_wp2_with (first | ((with_reducible refine gate_dst (N := 26) rfl ?_); (try (refine gate_guard (by rfl) ?_; dsimp only)); refine Kd.R_make (Kd.int .u8) _ 5 rfl (N := 26) rfl 22 _ _ rfl ji8 rfl rfl Try.underlying22 (.int .u8 0) 1 info5 rfl (by decide) (by omega) 0 (ok := fun _ => True) (okp := fun _ => True) rfl (fun _ hk => hk) trivial (od_) (Nat.le_trans (Nat.mul_le_mul_right _ (od_ : ji8.toNat ≤ 281474976710656)) (by omega)) (Below.refl _ _) (Nat.le_refl _) ?_; intro v215 w13 ho14 hb hg_ hnew_; clear hg_ hnew_; (first | rw [← Ny214.out] at ho14 | (simp only [Int.reduceToNat] at ho14; rw [← Ny214.out] at ho14)); have HO216 := am (Kd.R_lower ho14 (zs_ HB.out)); replace HB := am (below_step (zB HB.out) hb); clear hb ho14) | ((with_reducible refine gate_builtin (b := .append) (xs := #[.tmp 26, .tmp 27]) rfl ?_); (try (refine gate_guard (by rfl) ?_; dsimp only)); at_builtin; refine Kd.R_append_rows (Kd.int .u8) (w0 := w) w.heap.size rfl (.tmp 26) (.tmp 27) 22 5 (.int .u8 0) 1 rfl Try.underlying22 info5 rfl (by decide) (by omega) v215 y214 l0 _ _ _ (fun _ => True) (fun _ => False) rfl rfl ?aO ?aR (fun _ _ h => h) (fun _ h => h.elim) ?aF ?aB ?aS ?aL ?_; (case aR => exact zC (Kd.C_below HR0.out HB.out)); (case aB => exact (zB HB.out)); (case aF => exact (fun _ _ => trivial)); (case aO => exact (zR HO216.out)); (case aS => exact (zs_ HB.out)); (case aL => have := LMc11.out; omega); intro v218 w15 ho hb hg hat; rw [← Ny217.out] at ho; replace HB := am (hb); have HO219 := am (ho); (try clear HO216); clear ho hb hg hat) | ((with_reducible refine gate_callee (f := 39) rfl ?_); refine goL_ (some 30) Try.func39 #[.int .i64 a1] ?_; (with_reducible refine (impl_generator.calls kj2 a1 t220 _ A12.out).mono ?_); rintro e w16 ⟨v221, rfl, ho0, hb⟩; refine ⟨_, rfl, ?_⟩; have HO222 := am (Kd.R_lower (Kd.R_new' ho0 (Kd.R_lt (zR HO219.out))) (zs_ HB.out)); replace HO219 := am (Kd.R_elder' (zR HO219.out) (Kd.R_base ho0) hb); replace HB := am (below_step (zB HB.out) hb); (try clear hb); (try clear ho0); obtain ⟨Ao17, co17, eo17⟩ := Kd.R_slice HO219.out; subst eo17))
    go_loopg [8] kj2 (fun kq v8 w' => ∃ (x6_2 : List Int) (x8_2 : Int), v8 = .int .i64 x8_2 ∧ Aside0 (impl_EncodeWord.l0 kq l0 a1 x6_2 t220 x8_2 = some (r1, r2)) ∧ Aside0 (kq ≤ kj2) ∧ Aside0 (Kd.R (Kd.int .u8) 5 w' w.heap.size (fun k_ => some k_ ≠ (v221 : Value).ownBlock) (.slice Ao17 y217.length co17) x6_2) ∧ Aside0 (Kd.R (Kd.int .u8) 5 w' w.heap.size (fun k_ => some k_ ≠ ((.slice Ao17 y217.length co17) : Value).ownBlock) v221 t220) ∧ Aside0 (Below w.heap.size w w'))
    case atStart => exact ⟨(y217), (wrap64 ((y217.length : Int) - 1)), rfl, H', ⟨Nat.le_refl _⟩, ⟨zR (Kd.R_mono HO219.out (fun _ hk => hk.2))⟩, ⟨zR (Kd.R_mono HO222.out (fun _ hk => hk.2))⟩, ⟨zB HB.out⟩⟩
    case round =>
     clear H'; obtain ⟨x6_2, x8_2, rfl, HA, HK2, HO_6, HO_7, HB⟩ := hrel; have hl6_2 := (Kd.R_reads' HO_6.out).1; rw [hl6_2] at HO_6
     (try simp only [hl6_2])
     (try simp only [hl6_2] at HO_7)
     cases gk with
     | zero => exact absurd HA.out (by simp [impl_EncodeWord.l0])
     | succ k2 =>
      have H := HA.out; clear HA
      simp only [impl_EncodeWord.l0] at H
      by_cases c18 : x8_2 ≥ (wrap64 (2 * a1))
      ·rw [if_pos c18] at H; have c18b0 : decide ((wrap64 (2 * a1)) ≤ x8_2) = true := decide_eq_true c18
       try simp only [hji8] at c18b0
       clear c18
       obtain ⟨c19, H⟩ := it_ H; have c19b0 := decide_eq_true c19; clear c19
       obtain ⟨c20, H⟩ := it_ H; have c20b0 := decide_eq_true c20
       try simp only [hl6_2] at c20b0
       clear c20; have H' := am H; clear H; have p233 : 0 ≤ (x8_2 : Int) := od_; have q233 : x8_2 < (x6_2.length : Int) := od_; obtain ⟨ad233, e233, hx233_0⟩ := Kd.at_int (Kd.R_reads' HO_6.out).2.2 x8_2 p233 q233; cases e233; replace p233 := eq_true p233; replace q233 := eq_true q233; obtain ⟨Ao21, co21, eo21⟩ := Kd.R_slice HO_7.out
       subst eo21
       go_wp2
       go_loopg [46] k2 (fun kq v46 w' => ∃ (x6_3 : List Int) (x46_3 : Int), v46 = .int .i64 x46_3 ∧ Aside0 (impl_EncodeWord.l1 kq l0 a1 x6_3 t220 x8_2 (rd x6_2 x8_2) t220 (t220.length : Int) x46_3 = some (r1, r2)) ∧ Aside0 (kq ≤ k2) ∧ Aside0 (Kd.R (Kd.int .u8) 5 w' w.heap.size (fun k_ => some k_ ≠ ((.slice Ao21 t220.length co21) : Value).ownBlock ∧ some k_ ≠ ((.slice Ao21 t220.length co21) : Value).ownBlock) (.slice (some ad233) x6_2.length co17) x6_3) ∧ Aside0 (Kd.R (Kd.int .u8) 5 w' w.heap.size (fun k_ => some k_ ≠ ((.slice (some ad233) x6_2.length co17) : Value).ownBlock) (.slice Ao21 t220.length co21) t220) ∧ Aside0 (Kd.R (Kd.int .u8) 5 w' w.heap.size (fun k_ => some k_ ≠ ((.slice (some ad233) x6_2.length co17) : Value).ownBlock) (.slice Ao21 t220.length co21) t220) ∧ Aside0 (Below w.heap.size w w'))
       case atStart => exact ⟨(x6_2), (0), rfl, H', ⟨Nat.le_refl _⟩, ⟨by (try simp only [hl6_2]); (with_reducible repeat (first | apply Kd.R_alloc | apply Kd.R_drewN | apply Kd.R_drew)); exact Kd.R_mono HO_6.out (fun _ hk => ⟨hk, hk⟩)⟩, ⟨by (try simp only [hl6_2]); (with_reducible repeat (first | apply Kd.R_alloc | apply Kd.R_drewN | apply Kd.R_drew)); exact HO_7.out⟩, ⟨by (try simp only [hl6_2]); (with_reducible repeat (first | apply Kd.R_alloc | apply Kd.R_drewN | apply Kd.R_drew)); exact HO_7.out⟩, ⟨zB HB.out⟩⟩
       case round =>
        clear H'; obtain ⟨x6_3, x46_3, rfl, HA, HK3, HO_6, HO_7, HO_44, HB⟩ := hrel; have hl6_3 := (Kd.R_reads' HO_6.out).1; rw [hl6_3] at HO_6
        (try simp only [hl6_3])
        (try simp only [hl6_3] at HO_7)
        (try simp only [hl6_3] at HO_44)
        cases gk with
        | zero => exact absurd HA.out (by simp [impl_EncodeWord.l1])
        | succ k3 =>
         have H := HA.out; clear HA
         simp only [impl_EncodeWord.l1] at H
         by_cases c22 : x46_3 < (t220.length : Int)
         ·rw [if_pos c22] at H; have c22b0 := decide_eq_true c22
          try simp only [hl6_2] at c22b0
          try simp only [hl6_3] at c22b0
          clear c22
          obtain ⟨c23, H⟩ := it_ H; have c23b0 := decide_eq_true c23; clear c23
          obtain ⟨c24, H⟩ := it_ H; have c24b0 := decide_eq_true c24
          try simp only [hl6_2] at c24b0
          try simp only [hl6_3] at c24b0
          clear c24; obtain ⟨ji25, hji25⟩ : ∃ j_ : Int, (wrap64 ((wrap64 (x8_2 - (wrap64 (2 * a1)))) + x46_3)) = j_ := ⟨_, rfl⟩
          replace H : (if 0 ≤ (ji25) then (if (ji25) < (x6_3.length : Int) then ((impl_Times.f k3 (rd x6_2 x8_2) (rd t220 x46_3)).bind fun t236 => (impl_EncodeWord.l1 k3 l0 a1 (x6_3.set ((ji25) : Int).toNat (Go.bits .xor .u8 (rd x6_3 (ji25)) t236)) t220 x8_2 (rd x6_2 x8_2) t220 (t220.length : Int) (wrap64 (x46_3 + 1)))) else (none)) else (none)) = some (r1, r2) := by first | (rw [hji25] at H; exact H) | (simp only [hji25] at H ⊢; exact H)
          have hji25w : (IntKind.i64.wrap ((wrap64 (x8_2 - (wrap64 (2 * a1)))) + x46_3)) = ji25 := (i64_w _).trans hji25
          try simp only [hji8] at hji25
          try simp only [hji8] at hji25w
          obtain ⟨c26, H⟩ := it_ H; have c26b0 := decide_eq_true c26; clear c26
          obtain ⟨c27, H⟩ := it_ H; have c27b0 := decide_eq_true c27
          try simp only [hl6_2] at c27b0
          try simp only [hl6_3] at c27b0
          clear c27; obtain ⟨t236, A28, H⟩ := bi_ H; (try rw [Option.bind_some] at H); generalize hy237 : (x6_3.set ((ji25) : Int).toNat (Go.bits .xor .u8 (rd x6_3 (ji25)) t236)) = y237 at H; have Ny237 := am hy237.symm; clear hy237; have H' := am H; clear H; have p234 : 0 ≤ (x46_3 : Int) := od_; have q234 : x46_3 < (t220.length : Int) := od_; obtain ⟨ad234, e234, hx234_0⟩ := Kd.at_int (Kd.R_reads' HO_44.out).2.2 x46_3 p234 q234; cases e234; replace p234 := eq_true p234; replace q234 := eq_true q234
          try go_wp2
          replace HO_6 := am (Kd.R_drew HO_6.out); replace HO_7 := am (Kd.R_drew HO_7.out); replace HO_44 := am (Kd.R_drew HO_44.out); replace HB := am (below_drew1 HB.out); have p235 : 0 ≤ ((ji25) : Int) := od_; have q235 : (ji25) < (x6_3.length : Int) := od_; obtain ⟨ad235, e235, hx235_0⟩ := Kd.at_int (Kd.R_reads' HO_6.out).2.2 (ji25) p235 q235; obtain rfl : ad233 = ad235 := (by injection e235); replace p235 := eq_true p235; replace q235 := eq_true q235
          refine start_ (n := 15) (S := fun w' => w'.cell? (ad233.add ((ji25)).toNat) = some (.int .u8 (rd x6_3 (ji25)))) (ds := [14]) #[false, false, false, false, false, false, false, false, false, false, false, false, false, false, false] (by kernel_rfl) rfl rfl (hx235_0) (fun hHeld => ?_); refine with_tabW impl_EncodeWord.tab12 impl_EncodeWord.bits12 (fun HT_ HW_ => ?_)
          generalize wr.drew = w30 at HO_6 HO_7 HO_44 HB hx235_0 hHeld ⊢
          refine pu_ (i := 0) (some 51) #[true, false, false, false, false, false, false, false, false, false, false, false, false, false, false] HT_ ?_
          refine pu_ (i := 1) (some 52) #[true, true, false, false, false, false, false, false, false, false, false, false, false, false, false] HT_ ?_
          refine pu_ (i := 2) (some 53) #[true, true, true, false, false, false, false, false, false, false, false, false, false, false, false] HT_ ?_
          refine pu_ (i := 3) (some 54) #[true, true, true, true, false, false, false, false, false, false, false, false, false, false, false] HT_ ?_
          refine pu_ (i := 4) (some 55) #[true, true, true, true, true, false, false, false, false, false, false, false, false, false, false] HT_ ?_
          refine pu_ (i := 5) (some 56) #[true, true, true, true, true, true, false, false, false, false, false, false, false, false, false] HT_ ?_
          refine pu_ (i := 6) (some 57) #[true, true, true, true, true, true, true, false, false, false, false, false, false, false, false] HT_ ?_
          refine pu_ (i := 7) (some 58) #[true, true, true, true, true, true, true, true, false, false, false, false, false, false, false] HT_ ?_
          refine pu_ (i := 9) (some 60) #[true, true, true, true, true, true, true, true, false, true, false, false, false, false, false] HT_ ?_
          refine pu_ (i := 10) (some 61) #[true, true, true, true, true, true, true, true, false, true, true, false, false, false, false] HT_ ?_
          refine ta_ (i := 8) (some 59) #[true, true, true, true, true, true, true, true, true, true, true, false, false, false, false] HT_ HW_ hHeld ?_
          refine one_ (i := 11) (N := some 62) #[true, true, true, true, true, true, true, true, true, true, true, true, false, false, false] rfl rfl (one_of HT_.out (by kernel_rfl)) (by decide) (fun K hK => ?_)
          refine goR_ Try.func48 #[.int .u8 (rd x6_2 x8_2), .int .u8 (rd t220 x46_3)] ?_
          with_reducible refine (impl_Times.calls k3 (rd x6_2 x8_2) (rd t220 x46_3) t236 _ A28.out).mono ?_
          rintro e w' ⟨rfl, ⟨nd, rfl⟩⟩
          refine ⟨_, rfl, ?_⟩
          have p29 : 0 ≤ ((ji25) : Int) := od_; have q29 : ((ji25) : Int) < ((x6_3.length : Int) : Int) := od_; obtain ⟨go29, co29, eo29, gb29, gl29, cl29, HG29⟩ := Kd.R_form HO_6.out (by omega)
          (first | cases eo29 | (injection eo29 with ea_ en_ ec_; (first | subst ea_ | (injection ea_ with ea_; subst ea_)); subst ec_; clear en_))
          have GB29 := am gb29; have GG29 := am HG29; clear gb29 gl29 HG29
          (first | simp only [add_plain] at hx233_0 | skip)
          (first | simp only [add_plain] at hx235_0 | skip)
          obtain ⟨hx29_0, hf29_0⟩ := Kd.R_celln 0 HO_6.out ((ji25) : Int) p29 q29; replace p29 := eq_true p29; replace q29 := eq_true q29; have HP31 := Kd.R_putn HO_6.out ((ji25) : Int) (Go.bits .xor .u8 (rd x6_3 (ji25)) t236); rw [← Ny237.out] at HP31; have HQ31 := am HP31; clear HP31
          refine hK.out _ _ (hHeld) (fun hHeld => ?_)
          clear hK K
          refine norm_ (a' := ?_) ?_ ?_
          rotate_left
          ·show Act.put _ (some 62) _ = _
           simp only [Act.put, List.setIfInBounds_toArray, List.set_cons_zero, List.set_cons_succ, i64_w, i32_w]; rfl
          refine pu_ (i := 12) (some 63) #[true, true, true, true, true, true, true, true, true, true, true, true, true, false, false] HT_ ?_
          refine pu_ (i := 13) (some 64) #[true, true, true, true, true, true, true, true, true, true, true, true, true, true, false] HT_ ?_
          refine last_ (i := 14) (N := none) #[true, true, true, true, true, true, true, true, true, true, true, true, true, true, true] rfl rfl (one_of HT_.out (by kernel_rfl)) (by decide) (fun K hK => ?_)
          refine skip_ (w1 := ?_) (by rfl) rfl ?_ ?_
          rotate_left
          ·go_simp; rfl
          refine hK.out _ _ ?_
          clear hK K
          refine done_ (done_of HT_.out (by kernel_rfl)) ?_
          try go_wp2
          (try simp only [← hl6_3])
          first | go_roundg k3 | (try rw [show (⟨go29, (x8_2).toNat, none⟩ : Addr) = (⟨go29, 0, none⟩ : Addr).add (x8_2).toNat from by simp [Addr.add]]; go_roundg k3)
          case measure => have := HJ2.out; have := HK2.out; have := HK3.out; omega
          case rel => exact ⟨(y237), (wrap64 (x46_3 + 1)), rf_, (by first | exact H' | (have H2_ := H'; simp only [hji8, hji25] at H2_ ⊢; exact H2_)), ⟨by have := HJ2.out; have := HK2.out; have := HK3.out; omega⟩, ⟨by (try simp only [hl6_2]); (try simp only [hl6_3]); (with_reducible repeat (first | apply Kd.R_alloc | apply Kd.R_drewN | apply Kd.R_drew)); exact HQ31.out⟩, ⟨by (try simp only [hl6_2]); (try simp only [hl6_3]); (with_reducible repeat (first | apply Kd.R_alloc | apply Kd.R_drewN | apply Kd.R_drew)); exact Kd.R_mono (Kd.R_far (p := ⟨go29, ((ji25) : Int).toNat, none⟩) (Kd.R_mono HO_7.out (fun k_ hk => (⟨hk, fun e_ => hk (by rw [e_]; rfl)⟩ : _ ∧ k_ ≠ go29))) (fun _ hk => hk.2) (.int .u8 (Go.bits .xor .u8 (rd x6_3 (ji25)) t236))) (fun _ hk => hk.1)⟩, ⟨by (try simp only [hl6_2]); (try simp only [hl6_3]); (with_reducible repeat (first | apply Kd.R_alloc | apply Kd.R_drewN | apply Kd.R_drew)); exact Kd.R_mono (Kd.R_far (p := ⟨go29, ((ji25) : Int).toNat, none⟩) (Kd.R_mono HO_44.out (fun k_ hk => (⟨hk, fun e_ => hk (by rw [e_]; rfl)⟩ : _ ∧ k_ ≠ go29))) (fun _ hk => hk.2) (.int .u8 (Go.bits .xor .u8 (rd x6_3 (ji25)) t236))) (fun _ hk => hk.1)⟩, ⟨by repeat (first | (with_reducible first | exact HB.out | apply below_alloc | apply pw_below_drewN | apply below_drew1 | refine below_set ?_ GB29.out) | exact HB.out)⟩⟩
         ·rw [if_neg c22] at H; have c22b0 := decide_eq_false c22
          try simp only [hl6_2] at c22b0
          try simp only [hl6_3] at c22b0
          clear c22; have H' := am H; clear H
          go_wp2
          (try simp only [← hl6_2, ← hl6_3])
          go_roundg k3
          case measure => have := HJ2.out; have := HK2.out; have := HK3.out; omega
          case rel => exact ⟨(x6_3), (wrap64 (x8_2 - 1)), rfl, (by first | exact H' | (have H2_ := H'; simp only [hji8] at H2_ ⊢; exact H2_)), ⟨by have := HJ2.out; have := HK2.out; have := HK3.out; omega⟩, ⟨by (try simp only [hl6_2]); (try simp only [hl6_3]); (with_reducible repeat (first | apply Kd.R_alloc | apply Kd.R_drewN | apply Kd.R_drew)); exact Kd.R_mono HO_6.out (fun _ hk => hk.1)⟩, ⟨by (try simp only [hl6_2]); (try simp only [hl6_3]); (with_reducible repeat (first | apply Kd.R_alloc | apply Kd.R_drewN | apply Kd.R_drew)); exact HO_7.out⟩, ⟨zB HB.out⟩⟩
      ·rw [if_neg c18] at H; have c18b0 : decide ((wrap64 (2 * a1)) ≤ x8_2) = false := decide_eq_false c18
       try simp only [hji8] at c18b0
       clear c18
       replace H : (if 0 ≤ (ji8) then (if (ji8) ≤ (x6_2.length : Int) then ((slices_Clone_byte_byte.f (x6_2.take ((ji8) : Int).toNat)).bind fun t227 => (if t227.length + l0.length < 140737488355328 then (some ((t227 ++ l0), true)) else (none))) else (none)) else (none)) = some (r1, r2) := by first | (rw [hji8] at H; exact H) | (simp only [hji8] at H ⊢; exact H)
       (try rw [hji8] at c18b0)
       obtain ⟨c33, H⟩ := it_ H; have c33b0 := eq_true c33; have c33b1 := decide_eq_true c33; clear c33
       obtain ⟨c34, H⟩ := it_ H; have c34b0 := eq_true c34; have c34b1 := decide_eq_true c34
       try simp only [hl6_2] at c34b1
       clear c34; (try rw [Option.bind_some] at H); generalize hy223 : (x6_2.take ((ji8) : Int).toNat) = y223 at H; have Ny223 := am hy223.symm; clear hy223; obtain ⟨t227, A35, H⟩ := bi_ H
       obtain ⟨c36, H⟩ := it_ H; have LMc36 := am c36; clear c36; obtain ⟨y230, hy230⟩ : ∃ y_ : List Int, y_ = (t227 ++ l0) := ⟨_, rfl⟩
       replace H : (some (y230, true)) = some (r1, r2) := by first | (rw [hy230]; exact H) | (have H2_ := (Option.bind_some _ _).symm.trans H; first | exact H2_ | (rw [hy230]; exact H2_)) | exact H
       have Ny230 := am hy230; clear hy230
       simp only [Option.some.injEq, Prod.mk.injEq] at H
       obtain ⟨rfl, rfl⟩ := H; have q37 : ((ji8) : Int) ≤ ((x6_2.length : Int) : Int) := od_; obtain ⟨i037, hi037, _, hsz37, _⟩ := info_parts info5; have hroom37 : x6_2.length ≤ co17 := (Kd.R_reads' HO_6.out).2.1; have hC37 : Kd.C (Kd.int .u8) _ Ao17 x6_2.length x6_2 := (Kd.R_reads' HO_6.out).2.2; have hcut37 := cut_to (P := Try.prog) 22 5 .i64 Try.underlying22 hi037 Ao17 x6_2.length co17 (ji8) (od_) q37 hroom37; have hr37 := Kd.C_take (m := ((ji8) : Int).toNat) hC37 (by omega)
       have hy37 : y223.length = ((ji8) : Int).toNat := (by rw [Ny223.out, List.length_take]; omega)
       rw [← Ny223.out] at hr37; rw [← hy37] at hcut37; have HR226 := am hr37; have HC226 := am (show y223.length ≤ co17 from by omega); clear hr37 hC37 hroom37 hi037 hsz37; have KY37 := am hy37; clear hy37; have KL37 := am (show ((ji8) : Int).toNat ≤ x6_2.length from by omega); replace q37 := eq_true q37
       go_wp2_with (first | ((with_reducible refine gate_callee (f := 49) rfl ?_); refine goesL_ (some 70) rfl rfl Try.func49 (by kernel_rfl) rfl #[.slice Ao17 y223.length co17] rfl (by (try simp only [List.map_toArray, List.map_cons, List.map_nil]); first | done | rfl | (simp only [List.length_drop, List.length_take]; rfl)) ?_; (with_reducible refine (slices_Clone_byte_byte.calls _ _ y223 t227 _ ?side1 ?side2 A35.out).mono ?_); (case side1 => repeat (first | exact (by repeat (first | (with_reducible exact HR226.out) | (with_reducible refine Kd.C_alloc ?_ _) | (with_reducible refine Kd.C_drewN ?_ _) | (with_reducible refine Kd.C_drew ?_) | exact HR226.out)) | (with_reducible refine Kd.C_alloc ?_ _) | (with_reducible refine Kd.C_drewN ?_ _) | (with_reducible refine Kd.C_drew ?_))); (case side2 => exact HC226.out); rintro e w38 ⟨v228, rfl, ho0, hb⟩; refine ⟨_, rfl, ?_⟩; have n0_ := Aside0.mk (Kd.R_elder' (by (with_reducible repeat (first | apply Kd.R_alloc | apply Kd.R_drewN | apply Kd.R_drew)); exact HO_6.out) (Kd.R_base ho0) hb); have n1_ := Aside0.mk (Kd.R_elder' (by (with_reducible repeat (first | apply Kd.R_alloc | apply Kd.R_drewN | apply Kd.R_drew)); exact HO_7.out) (Kd.R_base ho0) hb); have n2_ := Aside0.mk (Kd.R_lower (Kd.R_new' (Kd.R_new' ho0 (Kd.R_lt (by (with_reducible repeat (first | apply Kd.R_alloc | apply Kd.R_drewN | apply Kd.R_drew)); exact HO_6.out))) (Kd.R_lt (by (with_reducible repeat (first | apply Kd.R_alloc | apply Kd.R_drewN | apply Kd.R_drew)); exact HO_7.out))) (below_size (by repeat (first | (with_reducible first | exact HB.out | apply below_alloc | apply pw_below_drewN | apply below_drew1) | exact HB.out)))); have n3_ := Aside0.mk (Kd.C_below (by repeat (first | (with_reducible exact HR226.out) | (with_reducible refine Kd.C_alloc ?_ _) | (with_reducible refine Kd.C_drewN ?_ _) | (with_reducible refine Kd.C_drew ?_) | exact HR226.out)) hb); have n4_ := Aside0.mk (below_step (by repeat (first | (with_reducible first | exact HB.out | apply below_alloc | apply pw_below_drewN | apply below_drew1) | exact HB.out)) hb); clear HO_6; clear HO_7; clear HR226; clear HB; have HO_6 := n0_; have HO_7 := n1_; have HO229 := n2_; have HR226 := n3_; have HB := n4_; clear n0_ n1_ n2_ n3_ n4_; (try clear hb); (try clear hb2); (try clear hk); (try clear hi); (try clear ho0)) | ((with_reducible refine gate_builtin (b := .append) (xs := #[.tmp 70, .tmp 71]) rfl ?_); (try (refine gate_guard (by rfl) ?_; dsimp only)); at_builtin; refine Kd.R_append_rows (Kd.int .u8) (w0 := w) w.heap.size rfl (.tmp 70) (.tmp 71) 22 5 (.int .u8 0) 1 rfl Try.underlying22 info5 rfl (by decide) (by omega) v228 t227 l0 _ _ _ (fun k_ => some k_ ≠ (.slice Ao17 x6_2.length co17 : Value).ownBlock ∧ some k_ ≠ (v221 : Value).ownBlock) (fun _ => False) rfl rfl ?aO ?aR (fun _ _ h => h) (fun _ h => h.elim) ?aF ?aB ?aS ?aL ?_; (case aR => repeat (first | exact (Kd.C_below HR0.out HB.out) | (with_reducible refine Kd.C_alloc ?_ _) | (with_reducible refine Kd.C_drewN ?_ _) | (with_reducible refine Kd.C_drew ?_))); (case aB => exact (by repeat (first | (with_reducible first | exact HB.out | apply below_alloc | apply pw_below_drewN | apply below_drew1) | exact HB.out))); (case aF => exact (fun k_ hk => ⟨Kd.fresh' (Kd.R_lt (by (with_reducible repeat (first | apply Kd.R_alloc | apply Kd.R_drewN | apply Kd.R_drew)); exact HO_6.out)) k_ hk, Kd.fresh' (Kd.R_lt (by (with_reducible repeat (first | apply Kd.R_alloc | apply Kd.R_drewN | apply Kd.R_drew)); exact HO_7.out)) k_ hk⟩)); (case aO => exact (by (with_reducible repeat (first | apply Kd.R_alloc | apply Kd.R_drewN | apply Kd.R_drew)); exact Kd.R_mono HO229.out (fun _ hk => ⟨hk.1.2, hk.2⟩))); (case aS => exact (below_size (by repeat (first | (with_reducible first | exact HB.out | apply below_alloc | apply pw_below_drewN | apply below_drew1) | exact HB.out)))); (case aL => have := LMc36.out; omega); intro v231 w39 ho hb hg hat; rw [← Ny230.out] at ho; have n0_ := Aside0.mk (Kd.R_after (ok := (fun k_ => some k_ ≠ (v221 : Value).ownBlock)) (by (with_reducible repeat (first | apply Kd.R_alloc | apply Kd.R_drewN | apply Kd.R_drew)); exact HO_6.out) hg hat); have n1_ := Aside0.mk (Kd.R_after (ok := (fun k_ => some k_ ≠ (.slice Ao17 x6_2.length co17 : Value).ownBlock)) (by (with_reducible repeat (first | apply Kd.R_alloc | apply Kd.R_drewN | apply Kd.R_drew)); exact HO_7.out) hg hat); have n2_ := Aside0.mk (hb); have n3_ := Aside0.mk ((show Kd.C (Kd.int .u8) w39 Ao17 y223.length y223 from by rw [Ny223.out]; exact Kd.C_take (m := ((ji8) : Int).toNat) ((Kd.R_reads' (Kd.R_after (ok := (fun k_ => some k_ ≠ (v221 : Value).ownBlock)) (by (with_reducible repeat (first | apply Kd.R_alloc | apply Kd.R_drewN | apply Kd.R_drew)); exact HO_6.out) hg hat)).2.2) KL37.out)); have n4_ := Aside0.mk (ho); clear HO_6; clear HO_7; clear HB; clear HR226; clear HO229; have HO_6 := n0_; have HO_7 := n1_; have HB := n2_; have HR226 := n3_; have HO232 := n4_; clear n0_ n1_ n2_ n3_ n4_; clear ho hb hg hat))
       go_ret2
       exact ⟨_, by first | rfl | (simp [errW_none, errW_some] <;> rfl) | (simp only [← hji8, ← hji8]; first | rfl | (simp [errW_none, errW_some] <;> rfl)) | (simp [*, errW_none, errW_some] <;> rfl), zR (Kd.R_mono HO232.out (fun _ hk => trivial)), zB HB.out⟩

/-! ### spec_l1Inverse: function 53 -/
def spec_l1Inverse.f (k : Nat) (a0 : Int) : Option (Int) := if a0 = 0 then (some 0) else ((spec_l1Power.f k a0 254).bind fun t238 => (some t238))
theorem spec_l1Inverse.mono : ∀ a0 k, LeO (spec_l1Inverse.f k a0) (spec_l1Inverse.f (k + 1) a0) := by
 intro a0 k
 unfold spec_l1Inverse.f
 repeat' first | apply LeO.refl | apply LeO.none | apply LeO.ite | apply spec_l1Power.mono | (refine LeO.bind ?_ (fun _ => ?_))
set_option maxHeartbeats 8000000 in
set_option maxRecDepth 100000 in
theorem spec_l1Inverse.calls (k : Nat) (a0 : Int) (r : Int) (w : World) (h : spec_l1Inverse.f k a0 = some r) :
  Calls Try.prog 53 #[.int .u8 a0] w fun e w' => e = .returned (.int .u8 r) ∧ Drawn0 w w' := by
 have H : (if a0 = 0 then (some 0) else ((spec_l1Power.f k a0 254).bind fun t238 => (some t238))) = some r := h; clear h
 by_cases c2 : a0 = 0
 ·rw [if_pos c2] at H; have c2b0 : (a0 == 0) = true := beq_iff_eq.mpr c2; have c2b1 : (a0 != 0) = false := bne_eq_false_iff_eq.mpr c2; clear c2; obtain rfl := Option.some.inj H
  go_enter Try.func53, Try.ntmps53
  go_wp2
  go_ret
  exact ⟨by first | rfl | (simp; done) | (simp [*]; done), by repeat (first | exact Drawn0.refl _ | apply Drawn0.step)⟩
 ·rw [if_neg c2] at H; have c2b0 : (a0 == 0) = false := beq_eq_false_iff_ne.mpr c2; have c2b1 : (a0 != 0) = true := bne_iff_ne.mpr c2; obtain ⟨t238, A3, H⟩ := bi_ H; obtain rfl := Option.some.inj H
  go_enter Try.func53, Try.ntmps53
  go_wp2_with (first | ((with_reducible refine gate_callee (f := 54) rfl ?_); refine goL_ (some 6) Try.func54 #[.int .u8 a0, .int .i64 254] ?_; (with_reducible refine (spec_l1Power.calls k a0 254 t238 _ A3.out).mono ?_); rintro e w' ⟨rfl, ⟨nd, rfl⟩⟩; refine ⟨_, rfl, ?_⟩))
  go_ret
  exact ⟨by first | rfl | (simp; done) | (simp [*]; done), by repeat (first | exact Drawn0.refl _ | apply Drawn0.step)⟩

end Go.Proofs.Ytbloniemhkfnlaa.PFnSpaced
