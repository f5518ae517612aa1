/- A law's functions as plain Lean functions, each with the walk that shows that the code computes it: written by this session's program wip/tools/ppmake.py. -/
import Derived.Test.YtimajkahadhhhaaKZ
import Derived.Test.YtimajkahadhhhaaPFnExactSolveDropsx0
import Derived.Test.YtimajkahadhhhaaPFnExactSolveDropsx12
import Derived.Test.YtimajkahadhhhaaPFnExactSolveDropsx13
namespace Go.Proofs.Ytimajkahadhhhaa.PFnExactSolveDrops
open Go.RowKit Go.Proofs.YtimajkahadhhhaaW.PrintWords Go.Proofs.YtimajkahadhhhaaW.PrintLast Go.Proofs.YtimajkahadhhhaaW.PrintMore
attribute [local go_sem] max2_int min2_int max_two min_two max_three min_three max_four min_four   -- for this text's walks alone
set_option linter.unusedVariables false
set_option linter.unusedSimpArgs false

/-! ### impl_rankOf: function 50 -/
def impl_rankOf.f (k : Nat) (l0 : List (List Int)) : Option (Int) := if (l0.length : Int) = 0 then (some 0) else ((slices_Clone_rows.f l0).bind fun t299 => (if 0 < (l0.length : Int) then ((impl_eliminate.f k t299 ((rd_L5 l0 0).length : Int)).bind fun t303 => (some t303.2)) else (none)))
theorem impl_rankOf.mono : ∀ a0 k, LeO (impl_rankOf.f k a0) (impl_rankOf.f (k + 1) a0) := by
 intro a0 k
 unfold impl_rankOf.f
 repeat' first | apply LeO.refl | apply LeO.none | apply LeO.ite | apply impl_eliminate.mono | (refine LeO.bind ?_ (fun _ => ?_))
def impl_rankOf.T3 : Bool × List (List Nat × List Nat) := (true, [([], []), ([0], [0]), ([], []), ([2], [2]), ([3], [3]), ([4], [4]), ([1, 5, 1], [1, 5]), ([6, 6, 0, 1, 2, 3, 4, 5, 6], [6])])
def impl_rankOf.B3 : List Nat := [0, 1, 0, 4, 12, 28, 63, 127]
theorem impl_rankOf.tab3 : rtab .any (opsOf Try.f50 3) = impl_rankOf.T3 := by kernel_rfl
theorem impl_rankOf.bits3 : waitsOk impl_rankOf.T3.2 impl_rankOf.B3 = true := by kernel_rfl
set_option maxHeartbeats 8000000 in
set_option maxRecDepth 100000 in
theorem impl_rankOf.calls (k : Nat) (A0 : Option Addr) (c0 : Nat) (l0 : List (List Int)) (r : Int) (w : World) (hr0 : Kd.C (Kd.slice 5 (Kd.int .u8)) w A0 l0.length l0) (hc0 : l0.length ≤ c0) (h : impl_rankOf.f k l0 = some r) :
  Calls Try.prog 50 #[.slice A0 l0.length c0] w fun e w' => e = .returned (.int .i64 r) ∧ Below w.heap.size w w' := by
 have HR0 := am hr0; have HC0 := am hc0; clear hr0 hc0; have HB := am (Below.refl w.heap.size w); have H : (if (l0.length : Int) = 0 then (some 0) else ((slices_Clone_rows.f l0).bind fun t299 => (if 0 < (l0.length : Int) then ((impl_eliminate.f k t299 ((rd_L5 l0 0).length : Int)).bind fun t303 => (some t303.2)) else (none)))) = some r := h; clear h
 by_cases c2 : (l0.length : Int) = 0
 ·rw [if_pos c2] at H; have c2b0 : ((l0.length : Int) == 0) = true := beq_iff_eq.mpr c2; have c2b1 : ((l0.length : Int) != 0) = false := bne_eq_false_iff_eq.mpr c2; clear c2; obtain rfl := Option.some.inj H
  go_enter Try.func50, Try.ntmps50
  go_wp2
  go_ret
  exact ⟨rfl, zB HB.out⟩
 ·rw [if_neg c2] at H; have c2b0 : ((l0.length : Int) == 0) = false := beq_eq_false_iff_ne.mpr c2; have c2b1 : ((l0.length : Int) != 0) = true := bne_iff_ne.mpr c2
  have c2b2 : ¬ (l0 = []) := fun h_ => c2 (by rw [h_]; rfl)
  obtain ⟨t299, A3, H⟩ := bi_ H
  obtain ⟨c4, H⟩ := it_ H; have c4b0 := decide_eq_true c4; have c4b1 : decide (0 < l0.length) = true := decide_eq_true (by omega); clear c4; obtain ⟨t303, A5, H⟩ := bi_ H; obtain rfl := Option.some.inj H
  go_enter Try.func50, Try.ntmps50
  try go_wp2
  replace HB := am (below_drew1 HB.out); have p302 : 0 ≤ (0 : Int) := (by omega); have q302 : 0 < (l0.length : Int) := od_; obtain ⟨ad302, A302_0, c302_0, e302, hx302_0, hl302_0, hi302_0⟩ := at_L5 HR0.out 0 p302 q302; have hw302_0 := hx302_0
  (try rw [show ((0 : Int)).toNat = 0 from rfl] at hw302_0)
  (try rw [show 0 * 1 = 0 from rfl] at hw302_0)
  (try rw [Addr.add_zero'] at hw302_0)
  cases e302; have qi302 : (0 < l0.length) = True := eq_true (by omega)
  (try rw [show ((0 : Int)).toNat = 0 from rfl] at hx302_0)
  (try rw [Addr.add_zero'] at hx302_0)
  replace hx302_0 := (HB.out.cell (World.block_lt_of_cell? w _ hx302_0)).trans hx302_0; have HR302_0 := am hi302_0; have HC302_0 := am hl302_0; clear hi302_0 hl302_0; replace p302 := eq_true p302; replace q302 := eq_true q302
  refine start_ (n := 8) (S := fun w' => w'.cell? ad302 = some (.slice A302_0 (rd_L5 l0 0).length c302_0)) (ds := []) #[false, false, false, false, false, false, false, false] (by kernel_rfl) rfl rfl (((HB.out.cell (World.block_lt_of_cell? w _ hw302_0)).trans hw302_0)) (fun hHeld => ?_); refine with_tabW impl_rankOf.tab3 impl_rankOf.bits3 (fun HT_ HW_ => ?_)
  generalize w.drew = w6 at HB HR302_0 hx302_0 hHeld ⊢
  refine pu_ (i := 0) (some 6) #[true, false, false, false, false, false, false, false] HT_ ?_
  refine pu_ (i := 2) (some 8) #[true, false, true, false, false, false, false, false] HT_ ?_
  refine pu_ (i := 3) (some 9) #[true, false, true, true, false, false, false, false] HT_ ?_
  refine ta_ (i := 4) (some 10) #[true, false, true, true, true, false, false, false] HT_ HW_ hHeld ?_
  refine pu_ (i := 5) (some 11) #[true, false, true, true, true, true, false, false] HT_ ?_
  refine one_ (i := 1) (N := some 7) #[true, true, true, true, true, true, false, false] rfl rfl (one_of HT_.out (by kernel_rfl)) (by decide) (fun K hK => ?_)
  refine goR_ Try.func65 #[.slice (some ad302) l0.length c0] ?_
  with_reducible refine (slices_Clone_rows.calls (fun k_ => k_ < w.heap.size) _ _ l0 t299 _ ?side1 A3.out).mono ?_
  (case side1 => exact Kd.V_mk HC0.out (Kd.F_below (Kd.C_F (Kd.heap_slice 5 (Kd.heap_int .u8)) HR0.out) (zB HB.out)))
  rintro e w7 ⟨v300, rfl, ho0, hb⟩
  refine ⟨_, rfl, ?_⟩
  have HO301 := am (Kd.N_lower (Kd.N_mono (ok' := fun k_ => True) ho0 (fun k_ hk_ => trivial)) (zs_ HB.out)); replace HB := am (below_step (zB HB.out) hb); (try clear hb); (try clear ho0); obtain ⟨Ao8, co8, eo8⟩ := Kd.N_slice HO301.out
  (first | subst eo8 | (injection eo8 with f1_ f2_ f3_; have f4_ := f1_.symm; have f5_ := f3_.symm; clear f1_ f2_ f3_; subst f4_; subst f5_))
  refine hK.out _ _ (((HB.out.cell (World.block_lt_of_cell? w _ hw302_0)).trans hw302_0)) (fun hHeld => ?_)
  clear hK K
  refine norm_ (a' := ?_) ?_ ?_
  rotate_left
  ·show Act.put _ (some 7) _ = _
   simp only [Act.put, List.setIfInBounds_toArray, List.set_cons_zero, List.set_cons_succ, i64_w, i32_w]; rfl
  refine one_ (i := 6) (N := some 12) #[true, true, true, true, true, true, true, false] rfl rfl (one_of HT_.out (by kernel_rfl)) (by decide) (fun K hK => ?_)
  refine goR_ Try.func81 #[.slice Ao8 t299.length co8, .int .i64 ((rd_L5 l0 0).length : Int)] ?_
  with_reducible refine (impl_eliminate.calls k _ t299 ((rd_L5 l0 0).length : Int) t303.2 t303.1 w _ ?side1 ?side2 A5.out).mono ?_
  (case side1 => exact (zB HB.out))
  (case side2 => exact (zN HO301.out))
  rintro e w9 ⟨rfl, ho0, hb⟩
  refine ⟨_, rfl, ?_⟩
  have n1_ := am hb; clear HO301 HB; have HB := n1_; clear n1_ hb ho0
  refine hK.out _ _ (((HB.out.cell (World.block_lt_of_cell? w _ hw302_0)).trans hw302_0)) (fun hHeld => ?_)
  clear hK K
  refine norm_ (a' := ?_) ?_ ?_
  rotate_left
  ·show Act.put _ (some 12) _ = _
   simp only [Act.put, List.setIfInBounds_toArray, List.set_cons_zero, List.set_cons_succ, i64_w, i32_w]; rfl
  refine pu_ (i := 7) (some 2) #[true, true, true, true, true, true, true, true] HT_ ?_
  refine done_ (done_of HT_.out (by kernel_rfl)) ?_
  try go_wp2
  go_ret
  exact ⟨rfl, zB HB.out⟩

/-! ### impl_identity: function 87 -/
def impl_identity.l0 : Nat → Int → List (List Int) → Int → Int → Option ((List (List Int)))
 | 0, _, _, _, _ => none
 | k + 1, x0, x3, x7, x8 => if x8 < x7 then (if 0 ≤ x0 then (if (x0 : Int).toNat ≤ 281474976710656 then ((some (List.replicate (x0 : Int).toNat 0 : List Int)).bind fun y307 => (if 0 ≤ x8 then (if x8 < (y307.length : Int) then (if x3.length < 5864062014805 then (impl_identity.l0 k x0 (x3 ++ [(y307.set (x8 : Int).toNat 1)]) x7 (wrap64 (x8 + 1))) else (none)) else (none)) else (none))) else (none)) else (none)) else (some x3)
def impl_identity.f (k : Nat) (a0 : Int) : Option ((List (List Int))) := impl_identity.l0 k a0 (([] : List (List Int))) a0 0
theorem impl_identity.mono_l : ∀ k, (∀ y0 y1 y2 y3, LeO (impl_identity.l0 k y0 y1 y2 y3) (impl_identity.l0 (k + 1) y0 y1 y2 y3))
 | 0 => fun _ _ _ _ r h => by simp [impl_identity.l0] at h
 | k + 1 => by
  have ih0 := impl_identity.mono_l k
  ·intro y0 y1 y2 y3
   unfold impl_identity.l0
   repeat' first | apply LeO.refl | apply LeO.none | apply LeO.ite | apply ih0 | (refine LeO.bind ?_ (fun _ => ?_))
theorem impl_identity.mono : ∀ a0 k, LeO (impl_identity.f k a0) (impl_identity.f (k + 1) a0) := by
 intro a0 k; have ih0 := impl_identity.mono_l k
 unfold impl_identity.f
 repeat' first | apply LeO.refl | apply LeO.none | apply LeO.ite | apply ih0 | (refine LeO.bind ?_ (fun _ => ?_))
set_option maxHeartbeats 8000000 in
set_option maxRecDepth 100000 in
theorem impl_identity.calls (k : Nat) (a0 : Int) (r : List (List Int)) (w : World) (h : impl_identity.f k a0 = some r) :
  Calls Try.prog 87 #[.int .i64 a0] w fun e w' => ∃ v0_ : Value, e = .returned (v0_) ∧ Kd.S (Kd.slice 5 (Kd.int .u8)) 75 w' w.heap.size (fun _ => True) v0_ r ∧ Below w.heap.size w w' := by
 have HB := am (Below.refl w.heap.size w); have H : (impl_identity.l0 k a0 (([] : List (List Int))) a0 0) = some r := h; clear h; obtain ⟨y304, hy304⟩ : ∃ y_ : List (List Int), y_ = (([] : List (List Int))) := ⟨_, rfl⟩
 replace H : (impl_identity.l0 k a0 y304 a0 0) = some r := by first | (rw [hy304]; exact H) | (have H2_ := (Option.bind_some _ _).symm.trans H; first | exact H2_ | (rw [hy304]; exact H2_)) | exact H
 have Ny304 := am hy304; clear hy304; have H' := am H; clear H
 go_enter Try.func87, Try.ntmps87
 go_wp2_with (first | ((with_reducible refine gate_dst (N := 6) rfl ?_); refine Kd.S_lit (Kd.slice 5 (Kd.int .u8)) _ 75 ?hg (N := 6) ?hd (xs := ([] : List (List Int))) (inner := []) (ok := fun _ => True) (okp := fun _ => True) ?hr ?hp (fun _ hk => hk) trivial (Below.refl _ _) (Nat.le_refl _) (by simp) ?_; (case hd => rfl); (case hg => rfl); (case hr => first | (go_simp; done) | (go_simp; rfl)); (case hp => exact (Reps.none _ _)); intro v305 w2 ho3 hb hg_ hnew_; clear hg_ hnew_; (first | rw [← Ny304.out] at ho3 | (simp only [Int.reduceToNat] at ho3; rw [← Ny304.out] at ho3)); have HO306 := am (Kd.S_lower ho3 (zs_ HB.out)); replace HB := am (below_step (zB HB.out) hb); clear hb ho3))
 go_loopg [3, 8] k (fun kq v3 v8 w' => ∃ (x3_1 : List (List Int)) (x8_1 : Int), v8 = .int .i64 x8_1 ∧ Aside0 (impl_identity.l0 kq a0 x3_1 a0 x8_1 = some r) ∧ Aside0 (kq ≤ k) ∧ Aside0 (Kd.S (Kd.slice 5 (Kd.int .u8)) 75 w' w.heap.size (fun _ => True) v3 x3_1) ∧ Aside0 (Below w.heap.size w w'))
 case atStart => exact ⟨(y304), (0), rfl, H', ⟨Nat.le_refl _⟩, ⟨zS HO306.out⟩, ⟨zB HB.out⟩⟩
 case round =>
  clear H'; obtain ⟨x3_1, x8_1, rfl, HA, HK1, HO_3, HB⟩ := hrel
  cases gk with
  | zero => exact absurd HA.out (by simp [impl_identity.l0])
  | succ k1 =>
   have H := HA.out; clear HA
   simp only [impl_identity.l0] at H
   by_cases c4 : x8_1 < a0
   ·rw [if_pos c4] at H; have c4b0 := decide_eq_true c4; clear c4
    obtain ⟨c5, H⟩ := it_ H; have c5b0 := eq_true c5; have c5b1 := decide_eq_true c5; clear c5
    obtain ⟨c6, H⟩ := it_ H; have c6b0 := eq_true c6; have c6b1 := decide_eq_true c6; clear c6; obtain ⟨y307, hy307⟩ : ∃ y_ : List Int, y_ = (List.replicate (a0 : Int).toNat 0) := ⟨_, rfl⟩
    replace H : (if 0 ≤ x8_1 then (if x8_1 < (y307.length : Int) then (if x3_1.length < 5864062014805 then (impl_identity.l0 k1 a0 (x3_1 ++ [(y307.set (x8_1 : Int).toNat 1)]) a0 (wrap64 (x8_1 + 1))) else (none)) else (none)) else (none)) = some r := by first | (rw [hy307]; exact H) | (have H2_ := (Option.bind_some _ _).symm.trans H; first | exact H2_ | (rw [hy307]; exact H2_)) | exact H
    have Ny307 := am hy307; clear hy307
    obtain ⟨c7, H⟩ := it_ H; have c7b0 := decide_eq_true c7; clear c7
    obtain ⟨c8, H⟩ := it_ H; have c8b0 := decide_eq_true c8; clear c8; obtain ⟨y310, hy310⟩ : ∃ y_ : List Int, y_ = (y307.set (x8_1 : Int).toNat 1) := ⟨_, rfl⟩
    replace H : (if x3_1.length < 5864062014805 then (impl_identity.l0 k1 a0 (x3_1 ++ [y310]) a0 (wrap64 (x8_1 + 1))) else (none)) = some r := by first | (rw [hy310]; exact H) | (have H2_ := (Option.bind_some _ _).symm.trans H; first | exact H2_ | (rw [hy310]; exact H2_)) | exact H
    have Ny310 := am hy310; clear hy310
    obtain ⟨c10, H⟩ := it_ H; have LMc10 := am c10; clear c10; obtain ⟨y311, hy311⟩ : ∃ y_ : List (List Int), y_ = (x3_1 ++ [y310]) := ⟨_, rfl⟩
    replace H : (impl_identity.l0 k1 a0 y311 a0 (wrap64 (x8_1 + 1))) = some r := by first | (rw [hy311]; exact H) | (have H2_ := (Option.bind_some _ _).symm.trans H; first | exact H2_ | (rw [hy311]; exact H2_)) | exact H
    have Ny311 := am hy311; clear hy311; have H' := am H; clear H
    go_wp2_with (first | ((with_reducible refine gate_dst (N := 12) rfl ?_); refine Kd.R_make (Kd.int .u8) _ 5 rfl (N := 12) rfl 75 _ _ rfl a0 rfl rfl Try.underlying75 (.int .u8 0) 1 info5 rfl (by decide) (by omega) 0 (ok := fun _ => True) (okp := fun _ => True) rfl (fun _ hk => hk) trivial (od_) (Nat.le_trans (Nat.mul_le_mul_right _ (od_ : a0.toNat ≤ 281474976710656)) (by omega)) (Below.refl _ _) (Nat.le_refl _) ?_; intro v308 w11 ho12 hb hg_ hnew_; clear hg_ hnew_; (first | rw [← Ny307.out] at ho12 | (simp only [Int.reduceToNat] at ho12; rw [← Ny307.out] at ho12)); replace HO_3 := am (Kd.S_elder' (zS HO_3.out) (Kd.R_base ho12) hb); have HO309 := am (Kd.R_lower ho12 (zs_ HB.out)); replace HB := am (below_step (zB HB.out) hb); clear hb ho12; have p9 : 0 ≤ (x8_1 : Int) := od_; have q9 : (x8_1 : Int) < ((y307.length : Int) : Int) := od_; obtain ⟨go9, co9, eo9, gb9, gl9, cl9, HG9⟩ := Kd.R_form HO309.out (by omega); (first | cases eo9 | (injection eo9 with ea_ en_ ec_; (first | subst ea_ | (injection ea_ with ea_; subst ea_)); subst ec_; clear en_)); have GB9 := am gb9; have GG9 := am HG9; clear gb9 gl9 HG9; obtain ⟨hx9_0, hf9_0⟩ := Kd.R_celln 0 HO309.out (x8_1 : Int) p9 q9; replace p9 := eq_true p9; replace q9 := eq_true q9; obtain ⟨hy13_, hz13_⟩ := Kd.R_celln 0 HO309.out (x8_1 : Int) (od_) (od_); have HP13 := Kd.R_putg HO309.out (x8_1 : Int) 1) | ((with_reducible refine gate_store (t := 5) (p := 15) rfl ?_); refine store_event (t := 5) (p := 15) (v := ?vo_w14) (w1 := (w11.setCell ⟨go9, (x8_1 : Int).toNat, none⟩ (.int .u8 1))) ?hg ?ho ?hn ?hr ?_; (case ho => rfl); (case hg => rfl); (case hn => rfl); (case hr => first | (go_simp; done) | (go_simp; rfl)); intro w14 hw; have hg : w11.grownBy w14 (some go9) := (by rw [hw]; exact HP13.2); have hp_ : Kd.R (Kd.int .u8) 5 w14 w.heap.size (fun _ => True) (.slice (some ⟨go9, 0, none⟩) y307.length co9) y310 := (by rw [hw, Ny310.out]; exact HP13.1); clear HP13; replace HO_3 := am (Kd.S_after (v := (.slice (some ⟨go9, 0, none⟩) y307.length co9)) (v1 := (.slice (some ⟨go9, 0, none⟩) y307.length co9)) (ok := (fun _ => True)) (zS HO_3.out) hg (.inl rfl)); replace HO309 := am (hp_); replace HB := am ((by rw [hw]; exact below_set (HB.out) GB9.out : Below w.heap.size w w14)); clear hg hw hp_) | ((with_reducible refine gate_builtin (b := .append) (xs := #[.tmp 16, .tmp 18]) rfl ?_); at_builtin; refine Kd.S_append (Kd.slice 5 (Kd.int .u8)) (w0 := w) w.heap.size rfl (.tmp 16) (.tmp 18) 69 75 (.slice none 0 0) 24 rfl Try.underlying69 info75 rfl (by decide) (by omega) u3 x3_1 y310 [.slice (some ⟨go9, 0, none⟩) y307.length co9] (fun _ => True) (fun k_ => some k_ = (.slice (some ⟨go9, 0, none⟩) y307.length co9 : Value).ownBlock) rfl rfl ?aP (fun k_ hk_ => ((Kd.R_mono (ok' := fun k_ => ((fun _ => True)) k_ ∧ some k_ ≠ (u3 : Value).ownBlock) (Kd.R_apart' (HO309.out) (Kd.S_typed HO_3.out) (by decide)) (fun k_ hk => ⟨trivial, hk.2⟩))).1 k_ hk_.symm) ?aF ?aO ?aB ?aS ?aL ?_; (case aP => exact Kd.M_row (Kd.R_mono (Kd.R_tight rfl (Kd.R_mono (ok' := fun k_ => ((fun _ => True)) k_ ∧ some k_ ≠ (u3 : Value).ownBlock) (Kd.R_apart' (HO309.out) (Kd.S_typed HO_3.out) (by decide)) (fun k_ hk => ⟨trivial, hk.2⟩))) (fun _ h_ => h_))); (case aB => exact (zB HB.out)); (case aF => exact (fun _ _ => trivial)); (case aO => exact (zS (Kd.S_mono HO_3.out (fun k_ hk => ⟨trivial, fun e_ => hk.2 e_⟩)))); (case aS => exact (zs_ HB.out)); (case aL => have := LMc10.out; omega); intro v312 w15 ho hb hg hat; rw [← Ny311.out] at ho; replace HB := am (hb); have HO313 := am (ho); (try clear HO_3); (try clear HO309); clear ho hb hg hat))
    go_roundg k1
    case measure => have := HK1.out; omega
    case rel => exact ⟨(y311), (wrap64 (x8_1 + 1)), rfl, H', ⟨by have := HK1.out; omega⟩, ⟨zS HO313.out⟩, ⟨zB HB.out⟩⟩
   ·rw [if_neg c4] at H; have c4b0 := decide_eq_false c4; clear c4; obtain rfl := Option.some.inj H
    go_wp2
    go_ret
    exact ⟨_, rfl, zS HO_3.out, zB HB.out⟩

/-! ### slices_Clone_byte_byte: function 88 -/
def slices_Clone_byte_byte.f (l0 : List Int) : Option (List Int) := (some (([] : List Int) : List Int)).bind fun y314 => (if y314.length + l0.length < 140737488355328 then (some (y314 ++ l0)) else (none))
set_option maxHeartbeats 8000000 in
set_option maxRecDepth 100000 in
theorem slices_Clone_byte_byte.calls (A0 : Option Addr) (c0 : Nat) (l0 : List Int) (r : List Int) (w : World) (hr0 : Kd.C (Kd.int .u8) w A0 l0.length l0) (hc0 : l0.length ≤ c0) (h : slices_Clone_byte_byte.f l0 = some r) :
  Calls Try.prog 88 #[.slice A0 l0.length c0] w fun e w' => ∃ v0_ : Value, e = .returned (v0_) ∧ Kd.R (Kd.int .u8) 5 w' w.heap.size (fun _ => True) v0_ r ∧ Below w.heap.size w w' := by
 have HR0 := am hr0; have HC0 := am hc0; clear hr0 hc0; have HB := am (Below.refl w.heap.size w); have H : ((some (([] : List Int) : List Int)).bind fun y314 => (if y314.length + l0.length < 140737488355328 then (some (y314 ++ l0)) else (none))) = some r := h; clear h; obtain ⟨y314, hy314⟩ : ∃ y_ : List Int, y_ = (([] : List Int)) := ⟨_, rfl⟩
 replace H : (if y314.length + l0.length < 140737488355328 then (some (y314 ++ l0)) else (none)) = some r := by first | (rw [hy314]; exact H) | (have H2_ := (Option.bind_some _ _).symm.trans H; first | exact H2_ | (rw [hy314]; exact H2_)) | exact H
 have Ny314 := am hy314; clear hy314
 obtain ⟨c2, H⟩ := it_ H; have LMc2 := am c2; clear c2; obtain ⟨y317, hy317⟩ : ∃ y_ : List Int, y_ = (y314 ++ l0) := ⟨_, rfl⟩
 replace H : (some y317) = some r := by first | (rw [hy317]; exact H) | (have H2_ := (Option.bind_some _ _).symm.trans H; first | exact H2_ | (rw [hy317]; exact H2_)) | exact H
 have Ny317 := am hy317; clear hy317; obtain rfl := Option.some.inj H
 have qN_ : ∀ (w : World) (a : Option Addr) (n c n' c' : Nat), (binOp .eql 75 (.slice a n c) (.slice none n' c')).run Try.prog w = .ok (.bool a.isNone) w := fun w a n c n' c' => Lib.run_eql_slice_nil w _ _ a n c n' c' Try.underlying75
 cases A0 with
 | none =>
  have hl0 : l0 = [] := by
   cases l0 with
   | nil => rfl
   | cons a_ l_ => obtain ⟨ad_, e_, _⟩ := HR0.out.2.2 (by simp); cases e_
  subst hl0
  have hy_ := Ny314.out; have hz_ := Ny317.out; rw [hy_] at hz_; have hz2_ : y317 = [] := hz_
  go_enter Try.func88, Try.ntmps88
  go_wp2
  go_ret
  exact ⟨_, rfl, by first | exact Kd.R_nil _ _ _ _ _ | (rw [hz2_]; exact Kd.R_nil _ _ _ _ _) | exact Kd.N_nil _ _ _ _ _ | (rw [hz2_]; exact Kd.N_nil _ _ _ _ _), HB.out⟩
 | some ad0_ =>
 go_enter Try.func88, Try.ntmps88
 go_wp2_with (first | ((with_reducible refine gate_dst (N := 5) rfl ?_); refine Kd.R_lit (Kd.int .u8) _ 5 ?hg (N := 5) ?hd (xs := ([] : List Int)) (inner := []) (ok := fun _ => True) (okp := fun _ => True) ?hr ?hp (fun _ hk => hk) trivial (Below.refl _ _) (Nat.le_refl _) (by simp) ?_; (case hd => rfl); (case hg => rfl); (case hr => first | (go_simp; done) | (go_simp; rfl)); (case hp => exact (Reps.none _ _)); intro v315 w3 ho4 hb hg_ hnew_; clear hg_ hnew_; (first | rw [← Ny314.out] at ho4 | (simp only [Int.reduceToNat] at ho4; rw [← Ny314.out] at ho4)); have HO316 := am (Kd.R_lower ho4 (zs_ HB.out)); replace HB := am (below_step (zB HB.out) hb); clear hb ho4) | ((with_reducible refine gate_builtin (b := .append) (xs := #[.tmp 5, .tmp 6]) rfl ?_); at_builtin; refine Kd.R_append_rows (Kd.int .u8) (w0 := w) w.heap.size rfl (.tmp 5) (.tmp 6) 75 5 (.int .u8 0) 1 rfl Try.underlying75 info5 rfl (by decide) (by omega) v315 y314 l0 _ _ _ (fun _ => True) (fun _ => False) rfl rfl ?aO ?aR (fun _ _ h => h) (fun _ h => h.elim) ?aF ?aB ?aS ?aL ?_; (case aR => exact zC (Kd.C_below HR0.out HB.out)); (case aB => exact (zB HB.out)); (case aF => exact (fun _ _ => trivial)); (case aO => exact (zR HO316.out)); (case aS => exact (zs_ HB.out)); (case aL => have := LMc2.out; omega); intro v318 w5 ho hb hg hat; rw [← Ny317.out] at ho; replace HB := am (hb); have HO319 := am (ho); (try clear HO316); clear ho hb hg hat))
 go_ret
 exact ⟨_, rfl, zR HO319.out, zB HB.out⟩

/-! ### impl_inverseOf: function 66 -/
mutual
def impl_inverseOf.l0 : Nat → List (List Int) → Int → List (List Int) → List (List Int) → Int → Int → Option ((List (List Int)) × Bool)
 | 0, _, _, _, _, _, _ => none
 | k + 1, x0, x4, x5, x15, x16, x17 => if x17 < x16 then (if 0 ≤ x17 then (if x17 < (x15.length : Int) then (if x17 < (x0.length : Int) then ((slices_Clone_byte_byte.f (rd_L5 x0 x17)).bind fun t145 => (if t145.length + (rd_L5 x15 x17).length < 140737488355328 then (if x5.length < 5864062014805 then (impl_inverseOf.l0 k x0 x4 (x5 ++ [(t145 ++ (rd_L5 x15 x17))]) x15 x16 (wrap64 (x17 + 1))) else (none)) else (none))) else (none)) else (none)) else (none)) else ((impl_eliminate.f k x5 x4).bind fun bt154 => (if bt154.2 < x4 then (some (([] : List (List Int)), false)) else (impl_inverseOf.l1 k x4 (([] : List (List Int))) bt154.1 (bt154.1.length : Int) 0)))
def impl_inverseOf.l1 : Nat → Int → List (List Int) → List (List Int) → Int → Int → Option ((List (List Int)) × Bool)
 | 0, _, _, _, _, _ => none
 | k + 1, x4, x8, x39, x40, x41 => if x41 < x40 then (if 0 ≤ x41 then (if x41 < (x39.length : Int) then (if 0 ≤ x4 then (if x4 ≤ ((rd_L5 x39 x41).length : Int) then ((slices_Clone_byte_byte.f ((rd_L5 x39 x41).drop (x4 : Int).toNat)).bind fun t167 => (if x8.length < 5864062014805 then (impl_inverseOf.l1 k x4 (x8 ++ [t167]) x39 x40 (wrap64 (x41 + 1))) else (none))) else (none)) else (none)) else (none)) else (none)) else (some (x8, true))
end
def impl_inverseOf.f (k : Nat) (l0 : List (List Int)) : Option ((List (List Int)) × Bool) := (impl_identity.f k (l0.length : Int)).bind fun t140 => (impl_inverseOf.l0 k l0 (l0.length : Int) (([] : List (List Int))) t140 (t140.length : Int) 0)
theorem impl_inverseOf.mono_l : ∀ k, (∀ y0 y1 y2 y3 y4 y5, LeO (impl_inverseOf.l0 k y0 y1 y2 y3 y4 y5) (impl_inverseOf.l0 (k + 1) y0 y1 y2 y3 y4 y5)) ∧ (∀ y0 y1 y2 y3 y4, LeO (impl_inverseOf.l1 k y0 y1 y2 y3 y4) (impl_inverseOf.l1 (k + 1) y0 y1 y2 y3 y4))
 | 0 => ⟨fun _ _ _ _ _ _ r h => by simp [impl_inverseOf.l0] at h, fun _ _ _ _ _ r h => by simp [impl_inverseOf.l1] at h⟩
 | k + 1 => by
  obtain ⟨ih0, ih1⟩ := impl_inverseOf.mono_l k
  refine ⟨?_, ?_⟩
  ·intro y0 y1 y2 y3 y4 y5
   unfold impl_inverseOf.l0
   repeat' first | apply LeO.refl | apply LeO.none | apply LeO.ite | apply ih0 | apply ih1 | apply impl_eliminate.mono | apply impl_identity.mono | (refine LeO.bind ?_ (fun _ => ?_))
  ·intro y0 y1 y2 y3 y4
   unfold impl_inverseOf.l1
   repeat' first | apply LeO.refl | apply LeO.none | apply LeO.ite | apply ih0 | apply ih1 | apply impl_eliminate.mono | apply impl_identity.mono | (refine LeO.bind ?_ (fun _ => ?_))
theorem impl_inverseOf.mono : ∀ a0 k, LeO (impl_inverseOf.f k a0) (impl_inverseOf.f (k + 1) a0) := by
 intro a0 k; obtain ⟨ih0, ih1⟩ := impl_inverseOf.mono_l k
 unfold impl_inverseOf.f
 repeat' first | apply LeO.refl | apply LeO.none | apply LeO.ite | apply ih0 | apply ih1 | apply impl_eliminate.mono | apply impl_identity.mono | (refine LeO.bind ?_ (fun _ => ?_))
set_option maxHeartbeats 8000000 in
set_option maxRecDepth 100000 in
theorem impl_inverseOf.calls0 (k : Nat) (A0 : Option Addr) (c0 : Nat) (l0 : List (List Int)) (r1 : List (List Int)) (r2 : Bool) (w : World) (hr0 : Kd.C (Kd.slice 5 (Kd.int .u8)) w A0 l0.length l0) (hc0 : l0.length ≤ c0) (h : impl_inverseOf.f k l0 = some (r1, r2)) :
  Calls Try.prog 66 #[.slice A0 l0.length c0] w fun e w' => ∃ v0_ : Value, e = .returned (.tuple #[v0_, .bool r2]) ∧ Kd.N (Kd.slice 5 (Kd.int .u8)) 75 w' w.heap.size (fun k_ => (w.heap.size ≤ k_)) v0_ r1 ∧ Below w.heap.size w w' := by
 have HR0 := am hr0; have HC0 := am hc0; clear hr0 hc0; have HB := am (Below.refl w.heap.size w); have H : ((impl_identity.f k (l0.length : Int)).bind fun t140 => (impl_inverseOf.l0 k l0 (l0.length : Int) (([] : List (List Int))) t140 (t140.length : Int) 0)) = some (r1, r2) := h; clear h; obtain ⟨y137, hy137⟩ : ∃ y_ : List (List Int), y_ = (([] : List (List Int))) := ⟨_, rfl⟩
 replace H : ((impl_identity.f k (l0.length : Int)).bind fun t140 => (impl_inverseOf.l0 k l0 (l0.length : Int) y137 t140 (t140.length : Int) 0)) = some (r1, r2) := by first | (rw [hy137]; exact H) | (have H2_ := (Option.bind_some _ _).symm.trans H; first | exact H2_ | (rw [hy137]; exact H2_)) | exact H
 have Ny137 := am hy137; clear hy137; obtain ⟨t140, A2, H⟩ := bi_ H; have H' := am H; clear H
 go_enter Try.func66, Try.ntmps66
 go_wp2_with (first | ((with_reducible refine gate_dst (N := 13) rfl ?_); refine Kd.N_lit (Kd.slice 5 (Kd.int .u8)) _ 75 ?hg (N' := 13) ?hd (xs := ([] : List (List Int))) (inner := []) (ok := (fun k_ => (w.heap.size ≤ k_))) (okp := (fun k_ => (w.heap.size ≤ k_))) ?hr ?hp (fun _ hk => hk) ((show ∀ k_, w.heap.size ≤ k_ → (fun k_ => (w.heap.size ≤ k_)) k_ from fun k_ hk => (Nat.le_trans (zs_ HB.out) hk)) _ (Nat.le_refl _)) (Below.refl _ _) (Nat.le_refl _) (by simp) ?_; (case hd => rfl); (case hg => rfl); (case hr => first | (go_simp; done) | (go_simp; rfl)); (case hp => exact (Reps.none _ _)); intro v138 w3 ho4 hb hg_ hnew_; clear hg_ hnew_; (first | rw [← Ny137.out] at ho4 | (simp only [Int.reduceToNat] at ho4; rw [← Ny137.out] at ho4)); have HO139 := am (Kd.N_lower ho4 (zs_ HB.out)); replace HB := am (below_step (zB HB.out) hb); clear hb ho4) | ((with_reducible refine gate_callee (f := 87) rfl ?_); refine goL_ (some 15) Try.func87 #[.int .i64 (l0.length : Int)] ?_; (with_reducible refine (impl_identity.calls k (l0.length : Int) t140 _ A2.out).mono ?_); rintro e w5 ⟨v141, rfl, ho0, hb⟩; refine ⟨_, rfl, ?_⟩; have HO142 := am (Kd.N_lower (Kd.N_mono (ok' := fun k_ => (w.heap.size ≤ k_) ∧ some k_ ≠ (v138 : Value).ownBlock) (Kd.S_N (Kd.S_bound ho0)) (fun k_ hk_ => ⟨(Nat.le_trans (zs_ HB.out) hk_.2.1), (Kd.fresh' (Kd.N_lt (zN HO139.out)) k_ hk_.2.1)⟩)) (zs_ HB.out)); replace HO139 := am (Kd.N_elder' (zN HO139.out) (Kd.S_base ho0) hb); replace HB := am (below_step (zB HB.out) hb); (try clear hb); (try clear ho0); obtain ⟨Ao6, co6, eo6⟩ := Kd.N_slice HO142.out; subst eo6))
 go_loopg [5, 17] k (fun kq v5 v17 w' => ∃ (x5_1 : List (List Int)) (x17_1 : Int), v17 = .int .i64 x17_1 ∧ Aside0 (impl_inverseOf.l0 kq l0 (l0.length : Int) x5_1 t140 (t140.length : Int) x17_1 = some (r1, r2)) ∧ Aside0 (kq ≤ k) ∧ Aside0 (Kd.N (Kd.slice 5 (Kd.int .u8)) 75 w' w.heap.size (fun k_ => (w.heap.size ≤ k_) ∧ some k_ ≠ ((.slice Ao6 t140.length co6) : Value).ownBlock) v5 x5_1) ∧ Aside0 (Kd.N (Kd.slice 5 (Kd.int .u8)) 75 w' w.heap.size (fun k_ => (w.heap.size ≤ k_) ∧ some k_ ≠ (v5 : Value).ownBlock) (.slice Ao6 t140.length co6) t140) ∧ Aside0 (Below w.heap.size w w'))
 case atStart => exact ⟨(y137), (0), rfl, H', ⟨Nat.le_refl _⟩, ⟨zN HO139.out⟩, ⟨zN HO142.out⟩, ⟨zB HB.out⟩⟩
 case round =>
  clear H'; obtain ⟨x5_1, x17_1, rfl, HA, HK1, HO_5, HO_15, HB⟩ := hrel
  cases gk with
  | zero => exact absurd HA.out (by simp [impl_inverseOf.l0])
  | succ k1 =>
   have H := HA.out; clear HA
   simp only [impl_inverseOf.l0] at H
   by_cases c7 : x17_1 < (t140.length : Int)
   ·rw [if_pos c7] at H; have c7b0 := decide_eq_true c7; clear c7
    obtain ⟨c8, H⟩ := it_ H; have c8b0 := decide_eq_true c8; clear c8
    obtain ⟨c9, H⟩ := it_ H; have c9b0 := decide_eq_true c9; clear c9
    obtain ⟨c10, H⟩ := it_ H; have c10b0 := decide_eq_true c10; clear c10; obtain ⟨t145, A11, H⟩ := bi_ H
    obtain ⟨c12, H⟩ := it_ H; have LMc12 := am c12; clear c12; obtain ⟨y148, hy148⟩ : ∃ y_ : List Int, y_ = (t145 ++ (rd_L5 t140 x17_1)) := ⟨_, rfl⟩
    replace H : (if x5_1.length < 5864062014805 then (impl_inverseOf.l0 k1 l0 (l0.length : Int) (x5_1 ++ [y148]) t140 (t140.length : Int) (wrap64 (x17_1 + 1))) else (none)) = some (r1, r2) := by first | (rw [hy148]; exact H) | (have H2_ := (Option.bind_some _ _).symm.trans H; first | exact H2_ | (rw [hy148]; exact H2_)) | exact H
    have Ny148 := am hy148; clear hy148
    obtain ⟨c13, H⟩ := it_ H; have LMc13 := am c13; clear c13; obtain ⟨y151, hy151⟩ : ∃ y_ : List (List Int), y_ = (x5_1 ++ [y148]) := ⟨_, rfl⟩
    replace H : (impl_inverseOf.l0 k1 l0 (l0.length : Int) y151 t140 (t140.length : Int) (wrap64 (x17_1 + 1))) = some (r1, r2) := by first | (rw [hy151]; exact H) | (have H2_ := (Option.bind_some _ _).symm.trans H; first | exact H2_ | (rw [hy151]; exact H2_)) | exact H
    have Ny151 := am hy151; clear hy151; have H' := am H; clear H; have p143 : 0 ≤ (x17_1 : Int) := od_; have q143 : x17_1 < (t140.length : Int) := od_; obtain ⟨ad143, A143_0, c143_0, e143, hx143_0, hl143_0, hi143_0⟩ := at_L5 (Kd.N_reads' HO_15.out).2.2 x17_1 p143 q143; cases e143
    obtain ⟨ce143, hce143, hMe143, hcc143⟩ := Kd.N_get HO_15.out [] x17_1 p143 (by first | exact q143 | exact od_ | (have e_ := (Kd.N_reads' HO_15.out).1; omega))
    obtain ⟨ua143_0, uc143_0, rfl, ul143_0, ge143_0⟩ := Kd.FK_slice_open hMe143; have hv143_0 := hcc143 0 _ rfl; rw [Nat.add_zero, show ((Kd.slice 5 (Kd.int .u8))).sz = 1 from rfl, Nat.mul_one] at hv143_0; replace hv143_0 := Option.some.inj (hv143_0.symm.trans hx143_0)
    injection hv143_0 with hva_ hvn_ hvc_
    rw [hva_] at ge143_0; rw [hvc_] at ul143_0; have HL143_0 := am (show Kd.V (Kd.int .u8) 5 _ w.heap.size _ _ (rd_L5 t140 x17_1) from Kd.V_mk ul143_0 ge143_0); clear hva_ hvn_ hvc_ ge143_0 ul143_0; clear hcc143 hce143; have HR143_0 := am hi143_0; have HC143_0 := am hl143_0; clear hi143_0 hl143_0; replace p143 := eq_true p143; replace q143 := eq_true q143; have p144 : 0 ≤ (x17_1 : Int) := od_; have q144 : x17_1 < (l0.length : Int) := od_; obtain ⟨ad144, A144_0, c144_0, e144, hx144_0, hl144_0, hi144_0⟩ := at_L5 HR0.out x17_1 p144 q144; cases e144; replace hx144_0 := (HB.out.cell (World.block_lt_of_cell? w _ hx144_0)).trans hx144_0; have HR144_0 := am hi144_0; have HC144_0 := am hl144_0; clear hi144_0 hl144_0; replace p144 := eq_true p144; replace q144 := eq_true q144
    go_wp2_with (first | ((with_reducible refine gate_callee (f := 88) rfl ?_); refine goesL_ (some 27) rfl rfl Try.func88 (by kernel_rfl) rfl #[.slice A144_0 (rd_L5 l0 x17_1).length c144_0] rfl (by (try simp only [List.map_toArray, List.map_cons, List.map_nil]); first | done | rfl | (simp only [List.length_drop, List.length_take]; rfl)) ?_; (with_reducible refine (slices_Clone_byte_byte.calls _ _ (rd_L5 l0 x17_1) t145 _ ?side1 ?side2 A11.out).mono ?_); (case side1 => repeat (first | exact (Kd.C_below HR144_0.out HB.out) | (with_reducible refine Kd.C_alloc ?_ _) | (with_reducible refine Kd.C_drewN ?_ _) | (with_reducible refine Kd.C_drew ?_))); (case side2 => exact HC144_0.out); rintro e w14 ⟨v146, rfl, ho0, hb⟩; refine ⟨_, rfl, ?_⟩; have n0_ := Aside0.mk (Kd.N_elder' (by (with_reducible repeat (first | apply Kd.N_alloc | apply Kd.N_drewN | apply Kd.N_drew)); exact HO_5.out) (Kd.R_base ho0) hb); have n1_ := Aside0.mk (Kd.N_elder' (by (with_reducible repeat (first | apply Kd.N_alloc | apply Kd.N_drewN | apply Kd.N_drew)); exact HO_15.out) (Kd.R_base ho0) hb); have n2_ := Aside0.mk (Kd.V_elder' (by (with_reducible repeat (first | apply Kd.V_alloc | apply Kd.V_drewN | apply Kd.V_drew)); exact HL143_0.out) (Kd.R_base ho0) hb); have n3_ := Aside0.mk (Kd.R_lower (Kd.R_newM (M := fun k_ => (w.heap.size ≤ k_)) ho0 (below_size (by repeat (first | (with_reducible first | exact HB.out | apply below_alloc | apply pw_below_drewN | apply below_drew1) | exact HB.out))) (fun k_ h_ => h_)) (below_size (by repeat (first | (with_reducible first | exact HB.out | apply below_alloc | apply pw_below_drewN | apply below_drew1) | exact HB.out)))); have n4_ := Aside0.mk (Kd.C_below (by repeat (first | (with_reducible exact HR143_0.out) | (with_reducible refine Kd.C_alloc ?_ _) | (with_reducible refine Kd.C_drewN ?_ _) | (with_reducible refine Kd.C_drew ?_) | exact HR143_0.out)) hb); have n5_ := Aside0.mk (below_step (by repeat (first | (with_reducible first | exact HB.out | apply below_alloc | apply pw_below_drewN | apply below_drew1) | exact HB.out)) hb); clear HO_5; clear HO_15; clear HL143_0; clear HR143_0; clear HB; have HO_5 := n0_; have HO_15 := n1_; have HL143_0 := n2_; have HO147 := n3_; have HR143_0 := n4_; have HB := n5_; clear n0_ n1_ n2_ n3_ n4_ n5_; (try clear hb); (try clear hb2); (try clear hk); (try clear hi); (try clear ho0)) | ((with_reducible refine gate_builtin (b := .append) (xs := #[.tmp 27, .tmp 28]) rfl ?_); at_builtin; refine Kd.R_append_rows (Kd.int .u8) (w0 := w) w.heap.size rfl (.tmp 27) (.tmp 28) 75 5 (.int .u8 0) 1 rfl Try.underlying75 info5 rfl (by decide) (by omega) v146 t145 (rd_L5 t140 x17_1) _ _ _ (fun k_ => (w.heap.size ≤ k_)) (fun _ => False) rfl rfl ?aO ?aR (fun _ _ h => h) (fun _ h => h.elim) ?aF ?aB ?aS ?aL ?_; (case aR => repeat (first | exact (by repeat (first | (with_reducible exact HR143_0.out) | (with_reducible refine Kd.C_alloc ?_ _) | (with_reducible refine Kd.C_drewN ?_ _) | (with_reducible refine Kd.C_drew ?_) | exact HR143_0.out)) | (with_reducible refine Kd.C_alloc ?_ _) | (with_reducible refine Kd.C_drewN ?_ _) | (with_reducible refine Kd.C_drew ?_))); (case aB => exact (by repeat (first | (with_reducible first | exact HB.out | apply below_alloc | apply pw_below_drewN | apply below_drew1) | exact HB.out))); (case aF => exact (fun k_ hk => (Nat.le_trans (below_size (by repeat (first | (with_reducible first | exact HB.out | apply below_alloc | apply pw_below_drewN | apply below_drew1) | exact HB.out))) hk))); (case aO => exact (by (with_reducible repeat (first | apply Kd.R_alloc | apply Kd.R_drewN | apply Kd.R_drew)); exact Kd.R_mono HO147.out (fun _ hk => hk.1))); (case aS => exact (below_size (by repeat (first | (with_reducible first | exact HB.out | apply below_alloc | apply pw_below_drewN | apply below_drew1) | exact HB.out)))); (case aL => have := LMc12.out; omega); intro v149 w15 ho hb hg hat; rw [← Ny148.out] at ho; have n0_ := Aside0.mk (Kd.N_afterv (ok := (fun k_ => (w.heap.size ≤ k_) ∧ some k_ ≠ (.slice (some ad143) t140.length co6 : Value).ownBlock)) (by (with_reducible repeat (first | apply Kd.N_alloc | apply Kd.N_drewN | apply Kd.N_drew)); exact HO_5.out) hg hat); have n1_ := Aside0.mk (Kd.N_afterv (ok := (fun k_ => (w.heap.size ≤ k_) ∧ some k_ ≠ (u5 : Value).ownBlock)) (by (with_reducible repeat (first | apply Kd.N_alloc | apply Kd.N_drewN | apply Kd.N_drew)); exact HO_15.out) hg hat); have n2_ := Aside0.mk (Kd.V_afterv (ok := (fun k_ => (w.heap.size ≤ k_) ∧ some k_ ≠ (u5 : Value).ownBlock ∧ some k_ ≠ (.slice (some ad143) t140.length co6 : Value).ownBlock)) (by (with_reducible repeat (first | apply Kd.V_alloc | apply Kd.V_drewN | apply Kd.V_drew)); exact Kd.V_mono HL143_0.out (fun _ hk => ⟨⟨hk.1.1.1, ⟨hk.1.1.2, hk.1.2⟩⟩, hk.2⟩)) hg hat); have n3_ := Aside0.mk (hb); have n4_ := Aside0.mk (ho); clear HO_5; clear HO_15; clear HL143_0; clear HB; clear HO147; have HO_5 := n0_; have HO_15 := n1_; have HL143_0 := n2_; have HB := n3_; have HO150 := n4_; clear n0_ n1_ n2_ n3_ n4_; clear ho hb hg hat; obtain ⟨Ao17, co17, eo17⟩ := Kd.R_slice HO150.out; subst eo17) | ((with_reducible refine gate_builtin (b := .append) (xs := #[.tmp 22, .tmp 30]) rfl ?_); at_builtin; refine Kd.N_append (Kd.slice 5 (Kd.int .u8)) (w0 := w) w.heap.size rfl (.tmp 22) (.tmp 30) 69 75 (.slice none 0 0) 24 rfl Try.underlying69 info75 rfl (by decide) (by omega) u5 x5_1 y148 [.slice Ao17 y148.length co17] (fun k_ => (w.heap.size ≤ k_) ∧ some k_ ≠ (.slice (some ad143) t140.length co6 : Value).ownBlock) (fun k_ => ((fun k_ => (w.heap.size ≤ k_) ∧ some k_ ≠ (.slice (some ad143) t140.length co6 : Value).ownBlock)) k_ ∧ some k_ ≠ (u5 : Value).ownBlock) rfl rfl ?aP (fun _ hk => hk) ?aF ?aO ?aB ?aS ?aL ?_; (case aP => exact (Kd.FK_of_M (Kd.M_row (Kd.R_mono (ok' := (fun k_ => ((fun k_ => (w.heap.size ≤ k_) ∧ some k_ ≠ (.slice (some ad143) t140.length co6 : Value).ownBlock)) k_ ∧ some k_ ≠ (u5 : Value).ownBlock)) (Kd.R_apart' (Kd.R_apart' (HO150.out) (Kd.N_typed HO_15.out) (by decide)) (Kd.N_typed HO_5.out) (by decide)) (fun k_ hk => ⟨⟨hk.1.1, hk.1.2⟩, hk.2⟩))))); (case aB => exact (by repeat (first | (with_reducible first | exact HB.out | apply below_alloc | apply pw_below_drewN | apply below_drew1) | exact HB.out))); (case aF => exact (fun k_ hk => ⟨(Nat.le_trans (below_size (by repeat (first | (with_reducible first | exact HB.out | apply below_alloc | apply pw_below_drewN | apply below_drew1) | exact HB.out))) hk), Kd.fresh' (Kd.N_lt (by (with_reducible repeat (first | apply Kd.N_alloc | apply Kd.N_drewN | apply Kd.N_drew)); exact HO_15.out)) k_ hk⟩)); (case aO => exact (by (with_reducible repeat (first | apply Kd.N_alloc | apply Kd.N_drewN | apply Kd.N_drew)); exact Kd.N_mono HO_5.out (fun _ hk => ⟨hk.1.1, hk.1.2⟩))); (case aS => exact (below_size (by repeat (first | (with_reducible first | exact HB.out | apply below_alloc | apply pw_below_drewN | apply below_drew1) | exact HB.out)))); (case aL => have := LMc13.out; omega); intro v152 w16 ho hb hg hat; rw [← Ny151.out] at ho; have n0_ := Aside0.mk (Kd.N_afterv (ok := (fun k_ => (w.heap.size ≤ k_) ∧ some k_ ≠ (.slice Ao17 y148.length co17 : Value).ownBlock)) (by (with_reducible repeat (first | apply Kd.N_alloc | apply Kd.N_drewN | apply Kd.N_drew)); exact Kd.N_mono HO_15.out (fun _ hk => ⟨⟨hk.1.1, hk.2⟩, hk.1.2⟩)) hg hat); have n1_ := Aside0.mk (Kd.V_afterv (ok := (fun k_ => (w.heap.size ≤ k_) ∧ some k_ ≠ (.slice (some ad143) t140.length co6 : Value).ownBlock ∧ some k_ ≠ (.slice Ao17 y148.length co17 : Value).ownBlock)) (by (with_reducible repeat (first | apply Kd.V_alloc | apply Kd.V_drewN | apply Kd.V_drew)); exact Kd.V_mono HL143_0.out (fun _ hk => ⟨⟨hk.1.1, ⟨hk.1.2.2, hk.2⟩⟩, hk.1.2.1⟩)) hg hat); have n2_ := Aside0.mk (hb); have n3_ := Aside0.mk (ho); clear HO_15; clear HL143_0; clear HB; clear HO_5; clear HO150; have HO_15 := n0_; have HL143_0 := n1_; have HB := n2_; have HO153 := n3_; clear n0_ n1_ n2_ n3_; clear ho hb hg hat))
    go_roundg k1
    case measure => have := HK1.out; omega
    case rel => exact ⟨(y151), (wrap64 (x17_1 + 1)), rfl, H', ⟨by have := HK1.out; omega⟩, ⟨zN HO153.out⟩, ⟨zN (Kd.N_mono HO_15.out (fun _ hk => ⟨hk.1.1, hk.2⟩))⟩, ⟨zB HB.out⟩⟩
   ·rw [if_neg c7] at H; have c7b0 := decide_eq_false c7; clear c7; obtain ⟨⟨t154, t155⟩, A18, H⟩ := bi_ H; dsimp only at H
    by_cases c19 : t155 < (l0.length : Int)
    ·rw [if_pos c19] at H; have c19b0 := decide_eq_true c19; clear c19
     simp only [Option.some.injEq, Prod.mk.injEq] at H
     obtain ⟨rfl, rfl⟩ := H; obtain ⟨Ao20, co20, eo20⟩ := Kd.N_slice HO_5.out
     subst eo20
     go_wp2_with (first | ((with_reducible refine gate_callee (f := 81) rfl ?_); refine goL_ (some 35) Try.func81 #[.slice Ao20 x5_1.length co20, .int .i64 (l0.length : Int)] ?_; (with_reducible refine (impl_eliminate.calls k1 (.slice Ao20 x5_1.length co20) x5_1 (l0.length : Int) t155 t154 w _ ?sB ?sN A18.out).mono ?_); (case sB => exact (zB HB.out)); (case sN => exact Kd.N_mono HO_5.out (fun _ _ => trivial)); rintro e w21 ⟨rfl, ho0, hb⟩; refine ⟨_, rfl, ?_⟩; have n2_ := am hb; clear HO_5 HO_15 HB; have HB := n2_; clear n2_ hb ho0))
     go_ret2
     exact ⟨_, rfl, by first | exact Kd.S_nil _ _ _ _ _ | exact Kd.N_nil _ _ _ _ _ | exact Kd.V_nil _ _ _ _ _ | exact Kd.Q_nil _ _ _ _ _ | exact Kd.R_nil _ _ _ _ _, zB HB.out⟩
    ·rw [if_neg c19] at H; have c19b0 := decide_eq_false c19; clear c19; obtain ⟨y158, hy158⟩ : ∃ y_ : List (List Int), y_ = (([] : List (List Int))) := ⟨_, rfl⟩
     replace H : (impl_inverseOf.l1 k1 (l0.length : Int) y158 t154 (t154.length : Int) 0) = some (r1, r2) := by first | (rw [hy158]; exact H) | (have H2_ := (Option.bind_some _ _).symm.trans H; first | exact H2_ | (rw [hy158]; exact H2_)) | exact H
     have Ny158 := am hy158; clear hy158; have H' := am H; clear H; obtain ⟨Ao22, co22, eo22⟩ := Kd.N_slice HO_5.out
     subst eo22
     go_wp2_with (first | ((with_reducible refine gate_callee (f := 81) rfl ?_); refine goL_ (some 35) Try.func81 #[.slice Ao22 x5_1.length co22, .int .i64 (l0.length : Int)] ?_; (with_reducible refine (impl_eliminate.calls k1 (.slice Ao22 x5_1.length co22) x5_1 (l0.length : Int) t155 t154 w _ ?sB ?sN A18.out).mono ?_); (case sB => exact (zB HB.out)); (case sN => exact Kd.N_mono HO_5.out (fun _ _ => trivial)); rintro e w23 ⟨rfl, ho0, hb⟩; refine ⟨_, rfl, ?_⟩; have hln_ := (Kd.N_reads' ho0).1; rw [hln_] at ho0 ⊢; have n1_ := am (Kd.N_mono ho0 (fun k_ _ => Nat.zero_le k_) : Kd.N _ _ _ _ (fun k_ => 0 ≤ k_) _ _); have n2_ := am hb; clear HO_5 HO_15 HB; have HO157 := n1_; have HB := n2_; clear n1_ n2_ hb ho0) | ((with_reducible refine gate_dst (N := 38) rfl ?_); refine Kd.N_lit (Kd.slice 5 (Kd.int .u8)) _ 75 ?hg (N' := 38) ?hd (xs := ([] : List (List Int))) (inner := []) (ok := (fun k_ => (w.heap.size ≤ k_) ∧ some k_ ≠ (.slice Ao22 t154.length co22 : Value).ownBlock)) (okp := (fun k_ => (w.heap.size ≤ k_) ∧ some k_ ≠ (.slice Ao22 t154.length co22 : Value).ownBlock)) ?hr ?hp (fun _ hk => hk) ((show ∀ k_, w23.heap.size ≤ k_ → (fun k_ => (w.heap.size ≤ k_) ∧ some k_ ≠ (.slice Ao22 t154.length co22 : Value).ownBlock) k_ from fun k_ hk => ⟨(Nat.le_trans (zs_ HB.out) hk), Kd.fresh' (Kd.N_lt HO157.out) k_ hk⟩) _ (Nat.le_refl _)) (Below.refl _ _) (Nat.le_refl _) (by simp) ?_; (case hd => rfl); (case hg => rfl); (case hr => first | (go_simp; done) | (go_simp; rfl)); (case hp => exact (Reps.none _ _)); intro v159 w24 ho25 hb hg_ hnew_; clear hg_ hnew_; (first | rw [← Ny158.out] at ho25 | (simp only [Int.reduceToNat] at ho25; rw [← Ny158.out] at ho25)); have n2_ := am (Kd.N_elder' HO157.out (Kd.N_base ho25) hb); have n3_ := am (Kd.N_lower ho25 (zs_ HB.out)); have n4_ := am (below_step (zB HB.out) hb); clear HO157; clear HB; have HO157 := n2_; have HO160 := n3_; have HB := n4_; clear n2_ n3_ n4_; clear hb ho25))
     go_loopg [8, 41] k1 (fun kq v8 v41 w' => ∃ (x8_2 : List (List Int)) (x41_2 : Int), v41 = .int .i64 x41_2 ∧ Aside0 (impl_inverseOf.l1 kq (l0.length : Int) x8_2 t154 (t154.length : Int) x41_2 = some (r1, r2)) ∧ Aside0 (kq ≤ k1) ∧ Aside0 (Kd.N (Kd.slice 5 (Kd.int .u8)) 75 w' w.heap.size (fun k_ => (w.heap.size ≤ k_) ∧ some k_ ≠ ((.slice Ao22 t154.length co22) : Value).ownBlock) v8 x8_2) ∧ Aside0 (Kd.N (Kd.slice 5 (Kd.int .u8)) 75 w' w.heap.size (fun k_ => (0 ≤ k_) ∧ some k_ ≠ (v8 : Value).ownBlock) (.slice Ao22 t154.length co22) t154) ∧ Aside0 (Below w.heap.size w w'))
     case atStart => exact ⟨(y158), (0), rfl, H', ⟨Nat.le_refl _⟩, ⟨zN (Kd.N_mono HO160.out (fun _ hk => ⟨hk.1, hk.2⟩))⟩, ⟨zN (Kd.N_mono HO157.out (fun _ hk => ⟨hk.1, hk.2⟩))⟩, ⟨zB HB.out⟩⟩
     case round =>
      clear H'; obtain ⟨x8_2, x41_2, rfl, HA, HK2, HO_8, HO_39, HB⟩ := hrel
      cases gk with
      | zero => exact absurd HA.out (by simp [impl_inverseOf.l1])
      | succ k2 =>
       have H := HA.out; clear HA
       simp only [impl_inverseOf.l1] at H
       by_cases c27 : x41_2 < (t154.length : Int)
       ·rw [if_pos c27] at H; have c27b0 := decide_eq_true c27; clear c27
        obtain ⟨c28, H⟩ := it_ H; have c28b0 := decide_eq_true c28; clear c28
        obtain ⟨c29, H⟩ := it_ H; have c29b0 := decide_eq_true c29; clear c29
        obtain ⟨c30, H⟩ := it_ H; have c30b0 := eq_true c30; have c30b1 := decide_eq_true c30; clear c30
        obtain ⟨c31, H⟩ := it_ H; have c31b0 := eq_true c31; have c31b1 := decide_eq_true c31; clear c31; obtain ⟨y162, hy162⟩ : ∃ y_ : List Int, y_ = ((rd_L5 t154 x41_2).drop ((l0.length : Int) : Int).toNat) := ⟨_, rfl⟩
        replace H : ((slices_Clone_byte_byte.f y162).bind fun t167 => (if x8_2.length < 5864062014805 then (impl_inverseOf.l1 k2 (l0.length : Int) (x8_2 ++ [t167]) t154 (t154.length : Int) (wrap64 (x41_2 + 1))) else (none))) = some (r1, r2) := by first | (rw [hy162]; exact H) | (have H2_ := (Option.bind_some _ _).symm.trans H; first | exact H2_ | (rw [hy162]; exact H2_)) | exact H
        have Ny162 := am hy162; clear hy162; obtain ⟨t167, A32, H⟩ := bi_ H
        obtain ⟨c33, H⟩ := it_ H; have LMc33 := am c33; clear c33; obtain ⟨y170, hy170⟩ : ∃ y_ : List (List Int), y_ = (x8_2 ++ [t167]) := ⟨_, rfl⟩
        replace H : (impl_inverseOf.l1 k2 (l0.length : Int) y170 t154 (t154.length : Int) (wrap64 (x41_2 + 1))) = some (r1, r2) := by first | (rw [hy170]; exact H) | (have H2_ := (Option.bind_some _ _).symm.trans H; first | exact H2_ | (rw [hy170]; exact H2_)) | exact H
        have Ny170 := am hy170; clear hy170; have H' := am H; clear H; have p161 : 0 ≤ (x41_2 : Int) := od_; have q161 : x41_2 < (t154.length : Int) := od_; obtain ⟨ad161, A161_0, c161_0, e161, hx161_0, hl161_0, hi161_0⟩ := at_L5 (Kd.N_reads' HO_39.out).2.2 x41_2 p161 q161; cases e161
        obtain ⟨ce161, hce161, hMe161, hcc161⟩ := Kd.N_get HO_39.out [] x41_2 p161 (by first | exact q161 | exact od_ | (have e_ := (Kd.N_reads' HO_39.out).1; omega))
        obtain ⟨ua161_0, uc161_0, rfl, ul161_0, ge161_0⟩ := Kd.FK_slice_open hMe161; have hv161_0 := hcc161 0 _ rfl; rw [Nat.add_zero, show ((Kd.slice 5 (Kd.int .u8))).sz = 1 from rfl, Nat.mul_one] at hv161_0; replace hv161_0 := Option.some.inj (hv161_0.symm.trans hx161_0)
        injection hv161_0 with hva_ hvn_ hvc_
        rw [hva_] at ge161_0; rw [hvc_] at ul161_0; have HL161_0 := am (show Kd.V (Kd.int .u8) 5 _ w.heap.size _ _ (rd_L5 t154 x41_2) from Kd.V_mk ul161_0 ge161_0); clear hva_ hvn_ hvc_ ge161_0 ul161_0; clear hcc161 hce161; have HR161_0 := am hi161_0; have HC161_0 := am hl161_0; clear hi161_0 hl161_0; replace p161 := eq_true p161; replace q161 := eq_true q161; have q34 : ((l0.length : Int) : Int) ≤ (((rd_L5 t154 x41_2).length : Int) : Int) := od_; obtain ⟨i034, hi034, _, hsz34, _⟩ := info_parts info5; have hroom34 : (rd_L5 t154 x41_2).length ≤ c161_0 := HC161_0.out; have hC34 : Kd.F (Kd.int .u8) _ _ A161_0 (rd_L5 t154 x41_2).length (rd_L5 t154 x41_2) := (Kd.V_at (base := w.heap.size) HL161_0.out).2.2; have q034 : (0 : Int) ≤ ((l0.length : Int) : Int) := od_; have hcut34 := cut_from (P := Try.prog) 75 5 .i64 Try.underlying75 hi034 1 hsz34 A161_0 (rd_L5 t154 x41_2).length c161_0 (l0.length : Int) q034 q34; have hr34 := Kd.F_cut (m := ((l0.length : Int) : Int).toNat) (c := c161_0) hC34 (by omega) hroom34; obtain ⟨A34, hA34⟩ : ∃ A1, A1 = (if c161_0 = ((l0.length : Int) : Int).toNat then A161_0 else (A161_0 : Option Addr).map (·.add (((l0.length : Int) : Int).toNat * 1))) := ⟨_, rfl⟩; obtain ⟨c34, hc34⟩ : ∃ c1, c1 = c161_0 - ((l0.length : Int) : Int).toNat := ⟨_, rfl⟩; have hy34 : y162.length = (rd_L5 t154 x41_2).length - ((l0.length : Int) : Int).toNat := (by rw [Ny162.out, List.length_drop] <;> omega); rw [show (rd_L5 t154 x41_2).drop ((l0.length : Int) : Int).toNat = y162 from Ny162.out.symm] at hr34
        replace hr34 : Kd.F (Kd.int .u8) _ _ A34 y162.length y162 := (by rw [hA34]; exact hr34)
        rw [← hy34, ← hA34, ← hc34] at hcut34
        have HO166 := am (show Kd.V (Kd.int .u8) 5 _ w.heap.size _ (.slice A34 y162.length c34) y162 from Kd.V_mk (by rw [hy34, hc34]; exact Nat.sub_le_sub_right hroom34 _) hr34)
        have HC166 := am (show y162.length ≤ c34 from by rw [hy34, hc34]; exact Nat.sub_le_sub_right hroom34 _)
        clear hr34 hC34 hroom34 hi034 hsz34 hc34; have KY34 := am hy34; have KA34 := am hA34; clear hy34 hA34; replace q34 := eq_true q34
        go_wp2_with (first | ((with_reducible refine gate_callee (f := 88) rfl ?_); refine goL_ (some 49) Try.func88 #[.slice A34 y162.length c34] ?_; (with_reducible refine (slices_Clone_byte_byte.calls _ _ y162 t167 _ ?side1 ?side2 A32.out).mono ?_); (case side1 => exact zC ((Kd.V_reads' HO166.out).2.2)); (case side2 => exact (Kd.V_reads' HO166.out).2.1); rintro e w35 ⟨v168, rfl, ho0, hb⟩; refine ⟨_, rfl, ?_⟩; replace HO_8 := am (Kd.N_elder' (zN HO_8.out) (Kd.R_base ho0) hb); replace HO_39 := am (Kd.N_elder' (zN HO_39.out) (Kd.R_base ho0) hb); replace HL161_0 := am (Kd.V_elder' (zV HL161_0.out) (Kd.R_base ho0) hb); replace HO166 := am (Kd.V_elder' (zV HO166.out) (Kd.R_base ho0) hb); have HO169 := am (Kd.R_lower (Kd.R_newM (M := fun k_ => (w.heap.size ≤ k_)) ho0 (zs_ HB.out) (fun k_ h_ => h_)) (zs_ HB.out)); replace HR161_0 := am (Kd.C_below (zC HR161_0.out) hb); replace HB := am (below_step (zB HB.out) hb); (try clear hb); (try clear ho0); obtain ⟨Ao37, co37, eo37⟩ := Kd.R_slice HO169.out; subst eo37) | ((with_reducible refine gate_builtin (b := .append) (xs := #[.tmp 45, .tmp 50]) rfl ?_); at_builtin; refine Kd.N_append (Kd.slice 5 (Kd.int .u8)) (w0 := w) w.heap.size rfl (.tmp 45) (.tmp 50) 69 75 (.slice none 0 0) 24 rfl Try.underlying69 info75 rfl (by decide) (by omega) u8 x8_2 t167 [.slice Ao37 t167.length co37] (fun k_ => (w.heap.size ≤ k_) ∧ some k_ ≠ (.slice (some ad161) t154.length co22 : Value).ownBlock) (fun k_ => ((fun k_ => (w.heap.size ≤ k_) ∧ some k_ ≠ (.slice (some ad161) t154.length co22 : Value).ownBlock)) k_ ∧ some k_ ≠ (u8 : Value).ownBlock) rfl rfl ?aP (fun _ hk => hk) ?aF ?aO ?aB ?aS ?aL ?_; (case aP => exact (Kd.FK_of_M (Kd.M_row (Kd.R_mono (ok' := (fun k_ => ((fun k_ => (w.heap.size ≤ k_) ∧ some k_ ≠ (.slice (some ad161) t154.length co22 : Value).ownBlock)) k_ ∧ some k_ ≠ (u8 : Value).ownBlock)) (Kd.R_apart' (Kd.R_apart' (HO169.out) (Kd.N_typed HO_39.out) (by decide)) (Kd.N_typed HO_8.out) (by decide)) (fun k_ hk => ⟨⟨hk.1.1.1, hk.1.2⟩, hk.2⟩))))); (case aB => exact (zB HB.out)); (case aF => exact (fun k_ hk => ⟨(Nat.le_trans (zs_ HB.out) hk), Kd.fresh' (Kd.N_lt (zN HO_39.out)) k_ hk⟩)); (case aO => exact (zN (Kd.N_mono HO_8.out (fun _ hk => ⟨hk.1.1, hk.1.2⟩)))); (case aS => exact (zs_ HB.out)); (case aL => have := LMc33.out; omega); intro v171 w36 ho hb hg hat; rw [← Ny170.out] at ho; replace HO_39 := am (Kd.N_afterv (ok := (fun k_ => (0 ≤ k_) ∧ some k_ ≠ (.slice Ao37 t167.length co37 : Value).ownBlock)) (zN (Kd.N_mono HO_39.out (fun _ hk => ⟨⟨hk.1.1, hk.2⟩, hk.1.2⟩))) hg hat); replace HL161_0 := am (Kd.V_afterv (ok := (fun k_ => (0 ≤ k_) ∧ some k_ ≠ (.slice (some ad161) t154.length co22 : Value).ownBlock ∧ some k_ ≠ (.slice Ao37 t167.length co37 : Value).ownBlock)) (zV (Kd.V_mono HL161_0.out (fun _ hk => ⟨⟨hk.1.1.1, ⟨hk.1.2, hk.2⟩⟩, hk.1.1.2⟩))) hg hat); replace HO166 := am (Kd.V_afterv (ok := (fun k_ => (0 ≤ k_) ∧ some k_ ≠ (.slice (some ad161) t154.length co22 : Value).ownBlock ∧ some k_ ≠ (.slice Ao37 t167.length co37 : Value).ownBlock)) (zV (Kd.V_mono HO166.out (fun _ hk => ⟨⟨hk.1.1.1, ⟨hk.1.2, hk.2⟩⟩, hk.1.1.2⟩))) hg hat); replace HB := am (hb); have HO172 := am (ho); (try clear HO_8); (try clear HO169); clear ho hb hg hat))
        go_roundg k2
        case measure => have := HK1.out; have := HK2.out; omega
        case rel => exact ⟨(y170), (wrap64 (x41_2 + 1)), rfl, H', ⟨by have := HK1.out; have := HK2.out; omega⟩, ⟨zN HO172.out⟩, ⟨zN (Kd.N_mono HO_39.out (fun _ hk => ⟨hk.1.1, hk.2⟩))⟩, ⟨zB HB.out⟩⟩
       ·rw [if_neg c27] at H; have c27b0 := decide_eq_false c27; clear c27
        simp only [Option.some.injEq, Prod.mk.injEq] at H
        obtain ⟨rfl, rfl⟩ := H
        go_wp2
        go_ret2
        exact ⟨_, rfl, zN (Kd.N_mono HO_8.out (fun _ hk => hk.1)), zB HB.out⟩
theorem impl_inverseOf.calls (k : Nat) (A0 : Option Addr) (c0 : Nat) (l0 : List (List Int)) (r1 : List (List Int)) (r2 : Bool) (w : World) (hr0 : Kd.C (Kd.slice 5 (Kd.int .u8)) w A0 l0.length l0) (hc0 : l0.length ≤ c0) (h : impl_inverseOf.f k l0 = some (r1, r2)) :
  Calls Try.prog 66 #[.slice A0 l0.length c0] w fun e w' => ∃ v0_ : Value, e = .returned (.tuple #[v0_, .bool r2]) ∧ Kd.V (Kd.slice 5 (Kd.int .u8)) 75 w' w.heap.size (fun k_ => (w.heap.size ≤ k_)) v0_ r1 ∧ Below w.heap.size w w' := by
 refine (impl_inverseOf.calls0 k A0 c0 l0 r1 r2 w hr0 hc0 h).mono ?_
 rintro e w' ⟨v0_, he, h0, hb⟩
 exact ⟨v0_, he, Kd.N_V h0, hb⟩

/-! ### conv_bytes: function 147 -/
def conv_bytes.f (a0 : ByteArray) : Option (List Int) := if a0.size ≤ 9223372036854775807 then some (bytesOf a0) else none
/-- The conversion of a string to bytes, where it stands: what holds of its value and of the world behind it. -/
def ConvB (e : TypeId) (s : ByteArray) (w : World) (Q : Ending → World → Prop) : Prop := Q (.returned (.slice (some ⟨w.heap.size, 0, none⟩) s.size (grownCap w s.size 0 e))) (Lib.bytesWorld w e s)
theorem ConvB.mono {e : TypeId} {s : ByteArray} {w : World} {Q Q' : Ending → World → Prop} (h : ConvB e s w Q) (hi : ∀ x w', Q x w' → Q' x w') : ConvB e s w Q' := hi _ _ h
theorem conv_goes {P : Program} {ops : Array Oper} {Q : Exit → Act → World → Prop} {rest : List Oper} {o : Oper} {a : Act} {w : World} (N : Option Tmp) (hd : o.dst = N) (hg : o.guard = none) (src dst e : TypeId) {u : TypeDesc} (hs : P.underlying src = some u) (ht : P.underlying dst = some (.slice e)) (he : P.underlying e = some (.int .u8)) (x : Operand) (s : ByteArray) (ho : o.op = .convert src dst x) (hx : a.eval x = .string s)
  (h : ConvB e s w fun e' w' => ∃ v, e' = .returned v ∧ wpList P ops Q rest (a.put N v) w') : wpList P ops Q (o :: rest) a w := by
 obtain ⟨v, hv, hk⟩ := h
 injection hv with hv
 subst hv
 subst hd
 refine Kd.event_run hg ?_ hk
 unfold execOp
 rw [ho]
 simp only [hx]
 simp [print_bytes src dst e hs ht he s w]
theorem conv_V (e : TypeId) (s : ByteArray) (hs : s.size ≤ 9223372036854775807) (w : World) (base cap : Nat) (hc : s.size ≤ cap) : Kd.V (Kd.int .u8) e (Lib.bytesWorld w e s) base (fun _ => True) (.slice (some ⟨w.heap.size, 0, none⟩) s.size cap) (bytesOf s) := by
 refine ⟨_, cap, by rw [bytesOf_length], by rw [bytesOf_length]; exact hc, fun W' hW => ?_⟩
 refine Kd.C_of_reads (d := 0) ?_
 have hr := bytes_reads w e s hs
 refine ⟨rfl, by rw [bytesOf_length]; exact hs, fun hp => ?_⟩
 rw [bytesOf_length] at hp; obtain ⟨ad, ea, hcell⟩ := hr.2.2 hp
 refine ⟨ad, ea, fun j hj => ?_⟩
 rw [bytesOf_length] at hj; have h1 := hcell j hj; have hb := World.block_lt_of_cell? _ _ h1; have e2 := hW (ad.add j).block trivial hb; rw [← h1]
 simp only [World.cell?, e2]
theorem conv_bytes.calls (a0 : ByteArray) (r : List Int) (w : World) (h : conv_bytes.f a0 = some r) :
  ConvB 5 a0 w fun e w' => ∃ v, e = .returned v ∧ Kd.V (Kd.int .u8) 5 w' w.heap.size (fun _ => True) v r ∧ Below w.heap.size w w' := by
 unfold conv_bytes.f at h
 by_cases h1 : a0.size ≤ 9223372036854775807
 case neg => rw [if_neg h1] at h; cases h
 rw [if_pos h1] at h
 injection h with h
 subst h
 exact ⟨_, rfl, conv_V _ a0 h1 w _ _ (grownCap_ge _ _ _ _), bytes_below (Below.refl _ _) (Nat.le_refl _) _ _⟩

/-! ### impl_sumOf: function 83 -/
def impl_sumOf.f (k : Nat) (a0 : ByteArray) (a1 : ByteArray) : Option (ByteArray) := (conv_bytes.f a0).bind fun t320 => ((conv_bytes.f a1).bind fun t323 => ((impl_added.f k t320 t323).bind fun t326 => (some (strOfNums t326))))
theorem impl_sumOf.mono : ∀ a0 a1 k, LeO (impl_sumOf.f k a0 a1) (impl_sumOf.f (k + 1) a0 a1) := by
 intro a0 a1 k
 unfold impl_sumOf.f
 repeat' first | apply LeO.refl | apply LeO.none | apply LeO.ite | apply impl_added.mono | (refine LeO.bind ?_ (fun _ => ?_))
set_option maxHeartbeats 8000000 in
set_option maxRecDepth 100000 in
theorem impl_sumOf.calls (k : Nat) (a0 : ByteArray) (a1 : ByteArray) (r : ByteArray) (w : World) (h : impl_sumOf.f k a0 a1 = some r) :
  Calls Try.prog 83 #[.string a0, .string a1] w fun e w' => e = .returned (.string r) ∧ Below w.heap.size w w' := by
 have HB := am (Below.refl w.heap.size w); have H : ((conv_bytes.f a0).bind fun t320 => ((conv_bytes.f a1).bind fun t323 => ((impl_added.f k t320 t323).bind fun t326 => (some (strOfNums t326))))) = some r := h; clear h; obtain ⟨t320, A3, H⟩ := bi_ H; obtain ⟨t323, A4, H⟩ := bi_ H; obtain ⟨t326, A5, H⟩ := bi_ H; obtain rfl := Option.some.inj H
 go_enter Try.func83, Try.ntmps83
 go_wp2_with (first | ((with_reducible refine gate_dst (N := 6) rfl ?_); refine conv_goes (some 6) rfl rfl 9 75 5 Try.underlying9 Try.underlying75 Try.underlying5 _ a0 rfl rfl ?_; (with_reducible refine (conv_bytes.calls a0 t320 _ A3.out).mono ?_); rintro e w6 ⟨v321, rfl, ho0, hb⟩; refine ⟨_, rfl, ?_⟩; have HO322 := am (Kd.V_lower (Kd.V_mono (ok' := fun k_ => True) ho0 (fun k_ hk_ => trivial)) (zs_ HB.out)); replace HB := am (below_step (zB HB.out) hb); (try clear hb); (try clear ho0)) | ((with_reducible refine gate_dst (N := 8) rfl ?_); refine conv_goes (some 8) rfl rfl 9 75 5 Try.underlying9 Try.underlying75 Try.underlying5 _ a1 rfl rfl ?_; (with_reducible refine (conv_bytes.calls a1 t323 _ A4.out).mono ?_); rintro e w7 ⟨v324, rfl, ho0, hb⟩; refine ⟨_, rfl, ?_⟩; replace HO322 := am (Kd.V_below (zV HO322.out) hb); have HO325 := am (Kd.V_lower (Kd.V_mono (ok' := fun k_ => True) ho0 (fun k_ hk_ => trivial)) (zs_ HB.out)); replace HB := am (below_step (zB HB.out) hb); (try clear hb); (try clear ho0); obtain ⟨Ao8, co8, eo8⟩ := Kd.V_slice HO322.out; subst eo8; obtain ⟨Ao9, co9, eo9⟩ := Kd.V_slice HO325.out; subst eo9) | ((with_reducible refine gate_callee (f := 101) rfl ?_); refine goL_ (some 9) Try.func101 #[.slice Ao8 t320.length co8, .slice Ao9 t323.length co9] ?_; (with_reducible refine (impl_added.calls k _ _ t320 _ _ t323 t326 _ ?side1 ?side2 ?side3 ?side4 A5.out).mono ?_); (case side1 => exact zC ((Kd.V_reads' HO322.out).2.2)); (case side2 => exact (Kd.V_reads' HO322.out).2.1); (case side3 => exact zC ((Kd.V_reads' HO325.out).2.2)); (case side4 => exact (Kd.V_reads' HO325.out).2.1); rintro e w10 ⟨v327, rfl, ho0, hb⟩; refine ⟨_, rfl, ?_⟩; replace HO322 := am (Kd.V_elder' (zV HO322.out) (Kd.R_base ho0) hb); replace HO325 := am (Kd.V_elder' (zV HO325.out) (Kd.R_base ho0) hb); have HO328 := am (Kd.R_lower ho0 (zs_ HB.out)); replace HB := am (below_step (zB HB.out) hb); (try clear hb); (try clear ho0); have hcv11 := own_string (P := Try.prog) Try.underlying75 Try.underlying5 Try.underlying9 (Kd.own_of_R HO328.out)))
 go_ret
 exact ⟨rfl, zB HB.out⟩

/-! ### impl_timesOf: function 89 -/
def impl_timesOf.f (k : Nat) (a0 : Int) (a1 : ByteArray) : Option (ByteArray) := (conv_bytes.f a1).bind fun t329 => ((impl_scaled.f k a0 t329).bind fun t332 => (some (strOfNums t332)))
theorem impl_timesOf.mono : ∀ a0 a1 k, LeO (impl_timesOf.f k a0 a1) (impl_timesOf.f (k + 1) a0 a1) := by
 intro a0 a1 k
 unfold impl_timesOf.f
 repeat' first | apply LeO.refl | apply LeO.none | apply LeO.ite | apply impl_scaled.mono | (refine LeO.bind ?_ (fun _ => ?_))
set_option maxHeartbeats 8000000 in
set_option maxRecDepth 100000 in
theorem impl_timesOf.calls (k : Nat) (a0 : Int) (a1 : ByteArray) (r : ByteArray) (w : World) (h : impl_timesOf.f k a0 a1 = some r) :
  Calls Try.prog 89 #[.int .u8 a0, .string a1] w fun e w' => e = .returned (.string r) ∧ Below w.heap.size w w' := by
 have HB := am (Below.refl w.heap.size w); have H : ((conv_bytes.f a1).bind fun t329 => ((impl_scaled.f k a0 t329).bind fun t332 => (some (strOfNums t332)))) = some r := h; clear h; obtain ⟨t329, A3, H⟩ := bi_ H; obtain ⟨t332, A4, H⟩ := bi_ H; obtain rfl := Option.some.inj H
 go_enter Try.func89, Try.ntmps89
 go_wp2_with (first | ((with_reducible refine gate_dst (N := 7) rfl ?_); refine conv_goes (some 7) rfl rfl 9 75 5 Try.underlying9 Try.underlying75 Try.underlying5 _ a1 rfl rfl ?_; (with_reducible refine (conv_bytes.calls a1 t329 _ A3.out).mono ?_); rintro e w5 ⟨v330, rfl, ho0, hb⟩; refine ⟨_, rfl, ?_⟩; have HO331 := am (Kd.V_lower (Kd.V_mono (ok' := fun k_ => True) ho0 (fun k_ hk_ => trivial)) (zs_ HB.out)); replace HB := am (below_step (zB HB.out) hb); (try clear hb); (try clear ho0); obtain ⟨Ao6, co6, eo6⟩ := Kd.V_slice HO331.out; subst eo6) | ((with_reducible refine gate_callee (f := 99) rfl ?_); refine goL_ (some 8) Try.func99 #[.int .u8 a0, .slice Ao6 t329.length co6] ?_; (with_reducible refine (impl_scaled.calls k a0 _ _ t329 t332 _ ?side1 ?side2 A4.out).mono ?_); (case side1 => exact zC ((Kd.V_reads' HO331.out).2.2)); (case side2 => exact (Kd.V_reads' HO331.out).2.1); rintro e w7 ⟨v333, rfl, ho0, hb⟩; refine ⟨_, rfl, ?_⟩; replace HO331 := am (Kd.V_elder' (zV HO331.out) (Kd.R_base ho0) hb); have HO334 := am (Kd.R_lower ho0 (zs_ HB.out)); replace HB := am (below_step (zB HB.out) hb); (try clear hb); (try clear ho0); have hcv8 := own_string (P := Try.prog) Try.underlying75 Try.underlying5 Try.underlying9 (Kd.own_of_R HO334.out)))
 go_ret
 exact ⟨rfl, zB HB.out⟩

end Go.Proofs.Ytimajkahadhhhaa.PFnExactSolveDrops
