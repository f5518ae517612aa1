/- A law's functions as plain Lean functions, each with the walk that shows that the code computes it: written by this session's program wip/tools/ppmake.py. -/
import Derived.Test.YtimajkahadhhhaaKZ
import Derived.Test.YtimajkahadhhhaaPFnExactSolveDropsx0
import Derived.Test.YtimajkahadhhhaaPFnExactSolveDropsx14
namespace Go.Proofs.Ytimajkahadhhhaa.PFnExactSolveDrops
open Go.RowKit Go.Proofs.YtimajkahadhhhaaW.PrintWords Go.Proofs.YtimajkahadhhhaaW.PrintLast Go.Proofs.YtimajkahadhhhaaW.PrintMore
attribute [local go_sem] max2_int min2_int max_two min_two max_three min_three max_four min_four   -- for this text's walks alone
set_option linter.unusedVariables false
set_option linter.unusedSimpArgs false

/-! ### impl_combined: function 67 -/
mutual
def impl_combined.l0 : Nat → List ByteArray → List ByteArray → List (List Int) → Int → Int → Option (List ByteArray)
 | 0, _, _, _, _, _ => none
 | k + 1, x1, x5, x12, x13, x14 => if x14 < x13 then (if 0 ≤ x14 then (if x14 < (x12.length : Int) then (if 0 < (x1.length : Int) then (if 0 ≤ ((rdOf ByteArray.empty x1 0).size : Int) then (if (((rdOf ByteArray.empty x1 0).size : Int) : Int).toNat ≤ 281474976710656 then (impl_combined.l1 k x1 x5 (rd_L5 x12 x14) (strOfNums (List.replicate (((rdOf ByteArray.empty x1 0).size : Int) : Int).toNat 0)) x12 x13 x14 x1 (x1.length : Int) 0) else (none)) else (none)) else (none)) else (none)) else (none)) else (some x5)
def impl_combined.l1 : Nat → List ByteArray → List ByteArray → List Int → ByteArray → List (List Int) → Int → Int → List ByteArray → Int → Int → Option (List ByteArray)
 | 0, _, _, _, _, _, _, _, _, _, _ => none
 | k + 1, x1, x5, x7, x8, x12, x13, x14, x24, x25, x26 => if x26 < x25 then (if 0 ≤ x26 then (if x26 < (x24.length : Int) then (if x26 < (x7.length : Int) then ((impl_timesOf.f k (rd x7 x26) (rdOf ByteArray.empty x24 x26)).bind fun t345 => ((impl_sumOf.f k x8 t345).bind fun t346 => (impl_combined.l1 k x1 x5 x7 t346 x12 x13 x14 x24 x25 (wrap64 (x26 + 1))))) else (none)) else (none)) else (none)) else (if x5.length < 8796093022208 then (impl_combined.l0 k x1 (x5 ++ [x8]) x12 x13 (wrap64 (x14 + 1))) else (none))
end
def impl_combined.f (k : Nat) (l0 : List (List Int)) (l1 : List ByteArray) : Option (List ByteArray) := impl_combined.l0 k l1 (([] : List ByteArray)) l0 (l0.length : Int) 0
theorem impl_combined.mono_l : ∀ k, (∀ y0 y1 y2 y3 y4, LeO (impl_combined.l0 k y0 y1 y2 y3 y4) (impl_combined.l0 (k + 1) y0 y1 y2 y3 y4)) ∧ (∀ y0 y1 y2 y3 y4 y5 y6 y7 y8 y9, LeO (impl_combined.l1 k y0 y1 y2 y3 y4 y5 y6 y7 y8 y9) (impl_combined.l1 (k + 1) y0 y1 y2 y3 y4 y5 y6 y7 y8 y9))
 | 0 => ⟨fun _ _ _ _ _ r h => by simp [impl_combined.l0] at h, fun _ _ _ _ _ _ _ _ _ _ r h => by simp [impl_combined.l1] at h⟩
 | k + 1 => by
  obtain ⟨ih0, ih1⟩ := impl_combined.mono_l k
  refine ⟨?_, ?_⟩
  ·intro y0 y1 y2 y3 y4
   unfold impl_combined.l0
   repeat' first | apply LeO.refl | apply LeO.none | apply LeO.ite | apply ih0 | apply ih1 | apply impl_sumOf.mono | apply impl_timesOf.mono | (refine LeO.bind ?_ (fun _ => ?_))
  ·intro y0 y1 y2 y3 y4 y5 y6 y7 y8 y9
   unfold impl_combined.l1
   repeat' first | apply LeO.refl | apply LeO.none | apply LeO.ite | apply ih0 | apply ih1 | apply impl_sumOf.mono | apply impl_timesOf.mono | (refine LeO.bind ?_ (fun _ => ?_))
theorem impl_combined.mono : ∀ a0 a1 k, LeO (impl_combined.f k a0 a1) (impl_combined.f (k + 1) a0 a1) := by
 intro a0 a1 k; obtain ⟨ih0, ih1⟩ := impl_combined.mono_l k
 unfold impl_combined.f
 repeat' first | apply LeO.refl | apply LeO.none | apply LeO.ite | apply ih0 | apply ih1 | apply impl_sumOf.mono | apply impl_timesOf.mono | (refine LeO.bind ?_ (fun _ => ?_))
set_option maxHeartbeats 8000000 in
set_option maxRecDepth 100000 in
theorem impl_combined.calls (k : Nat) (A0 : Option Addr) (c0 : Nat) (l0 : List (List Int)) (A1 : Option Addr) (c1 : Nat) (l1 : List ByteArray) (r : List ByteArray) (w : World) (hr0 : Kd.C (Kd.slice 5 (Kd.int .u8)) w A0 l0.length l0) (hc0 : l0.length ≤ c0) (hr1 : Kd.C Kd.string w A1 l1.length l1) (hc1 : l1.length ≤ c1) (h : impl_combined.f k l0 l1 = some r) :
  Calls Try.prog 67 #[.slice A0 l0.length c0, .slice A1 l1.length c1] w fun e w' => ∃ v0_ : Value, e = .returned (v0_) ∧ Kd.R Kd.string 9 w' w.heap.size (fun _ => True) v0_ r ∧ Below w.heap.size w w' := by
 have HR0 := am hr0; have HC0 := am hc0; clear hr0 hc0; have HR1 := am hr1; have HC1 := am hc1; clear hr1 hc1; have HB := am (Below.refl w.heap.size w); have H : (impl_combined.l0 k l1 (([] : List ByteArray)) l0 (l0.length : Int) 0) = some r := h; clear h; obtain ⟨y335, hy335⟩ : ∃ y_ : List ByteArray, y_ = (([] : List ByteArray)) := ⟨_, rfl⟩
 replace H : (impl_combined.l0 k l1 y335 l0 (l0.length : Int) 0) = some r := by first | (rw [hy335]; exact H) | (have H2_ := (Option.bind_some _ _).symm.trans H; first | exact H2_ | (rw [hy335]; exact H2_)) | exact H
 have Ny335 := am hy335; clear hy335; have H' := am H; clear H
 go_enter Try.func67, Try.ntmps67
 go_wp2_with (first | ((with_reducible refine gate_dst (N := 11) rfl ?_); refine Kd.R_lit Kd.string _ 9 ?hg (N := 11) ?hd (xs := ([] : List ByteArray)) (inner := []) (ok := fun _ => True) (okp := fun _ => True) ?hr ?hp (fun _ hk => hk) trivial (Below.refl _ _) (Nat.le_refl _) (by simp) ?_; (case hd => rfl); (case hg => rfl); (case hr => first | (go_simp; done) | (go_simp; rfl)); (case hp => exact (Reps.none _ _)); intro v336 w3 ho4 hb hg_ hnew_; clear hg_ hnew_; (first | rw [← Ny335.out] at ho4 | (simp only [Int.reduceToNat] at ho4; rw [← Ny335.out] at ho4)); have HO337 := am (Kd.R_lower ho4 (zs_ HB.out)); replace HB := am (below_step (zB HB.out) hb); clear hb ho4))
 go_loopg [5, 14] k (fun kq v5 v14 w' => ∃ (x5_1 : List ByteArray) (x14_1 : Int), v14 = .int .i64 x14_1 ∧ Aside0 (impl_combined.l0 kq l1 x5_1 l0 (l0.length : Int) x14_1 = some r) ∧ Aside0 (kq ≤ k) ∧ Aside0 (Kd.R Kd.string 9 w' w.heap.size (fun _ => True) v5 x5_1) ∧ Aside0 (Below w.heap.size w w'))
 case atStart => exact ⟨(y335), (0), rfl, H', ⟨Nat.le_refl _⟩, ⟨zR HO337.out⟩, ⟨zB HB.out⟩⟩
 case round =>
  clear H'; obtain ⟨x5_1, x14_1, rfl, HA, HK1, HO_5, HB⟩ := hrel
  cases gk with
  | zero => exact absurd HA.out (by simp [impl_combined.l0])
  | succ k1 =>
   have H := HA.out; clear HA
   simp only [impl_combined.l0] at H
   by_cases c5 : x14_1 < (l0.length : Int)
   ·rw [if_pos c5] at H; have c5b0 := decide_eq_true c5; clear c5
    obtain ⟨c6, H⟩ := it_ H; have c6b0 := decide_eq_true c6; clear c6
    obtain ⟨c7, H⟩ := it_ H; have c7b0 := decide_eq_true c7; clear c7
    obtain ⟨c8, H⟩ := it_ H; have c8b0 := decide_eq_true c8; have c8b1 : decide (0 < l1.length) = true := decide_eq_true (by omega); clear c8
    obtain ⟨c9, H⟩ := it_ H; have c9b0 := eq_true c9; have c9b1 := decide_eq_true c9; clear c9
    obtain ⟨c10, H⟩ := it_ H; have c10b0 := eq_true c10; have c10b1 := decide_eq_true c10
    try simp only [Int.toNat_natCast] at c10b1
    clear c10; obtain ⟨y340, hy340⟩ : ∃ y_ : List Int, y_ = (List.replicate (((rdOf ByteArray.empty l1 0).size : Int) : Int).toNat 0) := ⟨_, rfl⟩
    replace H : (impl_combined.l1 k1 l1 x5_1 (rd_L5 l0 x14_1) (strOfNums y340) l0 (l0.length : Int) x14_1 l1 (l1.length : Int) 0) = some r := by first | (rw [hy340]; with_reducible exact H) | (have H2_ := (Option.bind_some _ _).symm.trans H; rw [hy340]; with_reducible exact H2_) | (have H2_ := (Option.bind_some _ _).symm.trans H; with_reducible exact H2_) | with_reducible exact H | (rw [hy340]; exact H) | exact H
    have Ny340 := Aside0.mk hy340; clear hy340; have H' := Aside0.mk H; clear H; have p338 : 0 ≤ (x14_1 : Int) := of_decide_eq_true (by first | (with_reducible assumption) | assumption); have q338 : x14_1 < (l0.length : Int) := of_decide_eq_true (by first | (with_reducible assumption) | assumption); obtain ⟨ad338, A338_0, c338_0, e338, hx338_0, hl338_0, hi338_0⟩ := at_L5 HR0.out x14_1 p338 q338; cases e338; replace hx338_0 := (HB.out.cell (World.block_lt_of_cell? w _ hx338_0)).trans hx338_0; have HR338_0 := Aside0.mk hi338_0; have HC338_0 := Aside0.mk hl338_0; clear hi338_0 hl338_0; replace p338 := eq_true p338; replace q338 := eq_true q338; have p339 : 0 ≤ (0 : Int) := (by omega); have q339 : 0 < (l1.length : Int) := of_decide_eq_true (by first | (with_reducible assumption) | assumption); obtain ⟨ad339, e339, hx339_0⟩ := Kd.at_string HR1.out 0 p339 q339; cases e339; have qi339 : (0 < l1.length) = True := eq_true (by omega)
    (try rw [show ((0 : Int)).toNat = 0 from rfl] at hx339_0)
    (try rw [Addr.add_zero'] at hx339_0)
    replace hx339_0 := (HB.out.cell (World.block_lt_of_cell? w _ hx339_0)).trans hx339_0; replace p339 := eq_true p339; replace q339 := eq_true q339
    go_wp2_with (first | ((with_reducible refine gate_dst (N := 22) rfl ?_); refine Kd.R_make (Kd.int .u8) _ 5 rfl (N := 22) rfl 75 _ _ rfl ((rdOf ByteArray.empty l1 0).size : Int) rfl rfl Try.underlying75 (.int .u8 0) 1 info5 rfl (by decide) (by omega) 0 (ok := fun _ => True) (okp := fun _ => True) rfl (fun _ hk => hk) trivial (of_decide_eq_true (by first | (with_reducible assumption) | assumption)) (Nat.le_trans (Nat.mul_le_mul_right _ (of_decide_eq_true (by first | (with_reducible assumption) | assumption) : ((rdOf ByteArray.empty l1 0).size : Int).toNat ≤ 281474976710656)) (by omega)) (Below.refl _ _) (Nat.le_refl _) ?_; intro v341 w11 ho12 hb hg_ hnew_; clear hg_ hnew_; (first | rw [← Ny340.out] at ho12 | (simp only [Int.reduceToNat] at ho12; rw [← Ny340.out] at ho12)); have n0_ := Aside0.mk (Kd.R_below (by (with_reducible repeat (first | apply Kd.R_alloc | apply Kd.R_drewN | apply Kd.R_drew)); exact HO_5.out) hb); have n1_ := Aside0.mk (Kd.R_lower ho12 (below_size (by repeat (first | (with_reducible first | exact HB.out | apply below_alloc | apply pw_below_drewN | apply below_drew1) | exact HB.out)))); have n2_ := Aside0.mk (below_step (by repeat (first | (with_reducible first | exact HB.out | apply below_alloc | apply pw_below_drewN | apply below_drew1) | exact HB.out)) hb); clear HO_5; clear HB; have HO_5 := n0_; have HO342 := n1_; have HB := n2_; clear n0_ n1_ n2_; clear hb ho12; have hcv13 := own_string (P := Try.prog) Try.underlying75 Try.underlying5 Try.underlying9 (Kd.own_of_R HO342.out)))
    go_loopg [8, 26] k1 (fun kq v8 v26 w' => ∃ (x8_2 : ByteArray) (x26_2 : Int), v8 = .string x8_2 ∧ v26 = .int .i64 x26_2 ∧ Aside0 (impl_combined.l1 kq l1 x5_1 (rd_L5 l0 x14_1) x8_2 l0 (l0.length : Int) x14_1 l1 (l1.length : Int) x26_2 = some r) ∧ Aside0 (kq ≤ k1) ∧ Aside0 (Kd.R Kd.string 9 w' w.heap.size (fun _ => True) u5 x5_1) ∧ Aside0 (Below w.heap.size w w'))
    case atStart => exact ⟨(strOfNums y340), (0), rfl, rfl, H', ⟨Nat.le_refl _⟩, ⟨zR HO_5.out⟩, ⟨zB HB.out⟩⟩
    case round =>
     clear H'; (try clear hcv1); (try clear hcv13); obtain ⟨x8_2, x26_2, rfl, rfl, HA, HK2, HO_5, HB⟩ := hrel
     cases gk with
     | zero => exact absurd HA.out (by simp [impl_combined.l1])
     | succ k2 =>
      have H := HA.out; clear HA
      simp only [impl_combined.l1] at H
      by_cases c14 : x26_2 < (l1.length : Int)
      ·rw [if_pos c14] at H; have c14b0 := decide_eq_true c14; clear c14
       obtain ⟨c15, H⟩ := it_ H; have c15b0 := decide_eq_true c15; clear c15
       obtain ⟨c16, H⟩ := it_ H; have c16b0 := decide_eq_true c16; clear c16
       obtain ⟨c17, H⟩ := it_ H; have c17b0 := decide_eq_true c17; clear c17; obtain ⟨t345, A18, H⟩ := bi_ H; obtain ⟨t346, A19, H⟩ := bi_ H; have H' := am H; clear H; have p343 : 0 ≤ (x26_2 : Int) := od_; have q343 : x26_2 < (l1.length : Int) := od_; obtain ⟨ad343, e343, hx343_0⟩ := Kd.at_string HR1.out x26_2 p343 q343; obtain rfl : ad339 = ad343 := (by injection e343); replace hx343_0 := (HB.out.cell (World.block_lt_of_cell? w _ hx343_0)).trans hx343_0; replace p343 := eq_true p343; replace q343 := eq_true q343; have p344 : 0 ≤ (x26_2 : Int) := od_; have q344 : x26_2 < ((rd_L5 l0 x14_1).length : Int) := od_; obtain ⟨ad344, e344, hx344_0⟩ := Kd.at_int HR338_0.out x26_2 p344 q344; cases e344; replace hx344_0 := (HB.out.cell (World.block_lt_of_cell? w _ hx344_0)).trans hx344_0; replace p344 := eq_true p344; replace q344 := eq_true q344
       go_wp2_with (first | ((with_reducible refine gate_callee (f := 89) rfl ?_); refine goL_ (some 37) Try.func89 #[.int .u8 (rd (rd_L5 l0 x14_1) x26_2), .string (rdOf ByteArray.empty l1 x26_2)] ?_; (with_reducible refine (impl_timesOf.calls k2 (rd (rd_L5 l0 x14_1) x26_2) (rdOf ByteArray.empty l1 x26_2) t345 _ A18.out).mono ?_); rintro e w20 ⟨rfl, hb⟩; refine ⟨_, rfl, ?_⟩; replace HO_5 := am (Kd.R_below (zR HO_5.out) hb); replace HB := am (below_step (zB HB.out) hb); (try clear hb); (try clear hb2); (try clear hk); (try clear hi)) | ((with_reducible refine gate_callee (f := 83) rfl ?_); refine goL_ (some 38) Try.func83 #[.string x8_2, .string t345] ?_; (with_reducible refine (impl_sumOf.calls k2 x8_2 t345 t346 _ A19.out).mono ?_); rintro e w21 ⟨rfl, hb⟩; refine ⟨_, rfl, ?_⟩; replace HO_5 := am (Kd.R_below (zR HO_5.out) hb); replace HB := am (below_step (zB HB.out) hb); (try clear hb); (try clear hb2); (try clear hk); (try clear hi)))
       go_roundg k2
       case measure => have := HK1.out; have := HK2.out; omega
       case rel => exact ⟨(t346), (wrap64 (x26_2 + 1)), rfl, rfl, H', ⟨by have := HK1.out; have := HK2.out; omega⟩, ⟨zR HO_5.out⟩, ⟨zB HB.out⟩⟩
      ·rw [if_neg c14] at H; have c14b0 := decide_eq_false c14; clear c14
       obtain ⟨c22, H⟩ := it_ H; have LMc22 := am c22; clear c22; obtain ⟨y347, hy347⟩ : ∃ y_ : List ByteArray, y_ = (x5_1 ++ [x8_2]) := ⟨_, rfl⟩
       replace H : (impl_combined.l0 k2 l1 y347 l0 (l0.length : Int) (wrap64 (x14_1 + 1))) = some r := by first | (rw [hy347]; exact H) | (have H2_ := (Option.bind_some _ _).symm.trans H; first | exact H2_ | (rw [hy347]; exact H2_)) | exact H
       have Ny347 := am hy347; clear hy347; have H' := am H; clear H
       go_wp2_with (first | ((with_reducible refine gate_builtin (b := .append) (xs := #[.tmp 40, .tmp 42]) rfl ?_); at_builtin; refine Kd.R_append Kd.string (w0 := w) w.heap.size rfl (.tmp 40) (.tmp 42) 30 9 (.string ⟨#[]⟩) 16 rfl Try.underlying30 info9 rfl (by decide) (by omega) u5 x5_1 x8_2 [.string x8_2] (fun _ => True) (fun _ => False) rfl rfl ?aP (fun _ hk => hk.elim) ?aF ?aO ?aB ?aS ?aL ?_; (case aP => exact rfl); (case aB => exact (zB HB.out)); (case aF => exact (fun _ _ => trivial)); (case aO => exact (zR HO_5.out)); (case aS => exact (zs_ HB.out)); (case aL => have := LMc22.out; omega); intro v348 w23 ho hb hg hat; rw [← Ny347.out] at ho; replace HB := am (hb); have HO349 := am (ho); (try clear HO_5); clear ho hb hg hat))
       go_roundg k2
       case measure => have := HK1.out; have := HK2.out; omega
       case rel => exact ⟨(y347), (wrap64 (x14_1 + 1)), rfl, H', ⟨by have := HK1.out; have := HK2.out; omega⟩, ⟨zR HO349.out⟩, ⟨zB HB.out⟩⟩
   ·rw [if_neg c5] at H; have c5b0 := decide_eq_false c5; clear c5; obtain rfl := Option.some.inj H
    go_wp2
    go_ret
    exact ⟨_, rfl, zR HO_5.out, zB HB.out⟩

end Go.Proofs.Ytimajkahadhhhaa.PFnExactSolveDrops
