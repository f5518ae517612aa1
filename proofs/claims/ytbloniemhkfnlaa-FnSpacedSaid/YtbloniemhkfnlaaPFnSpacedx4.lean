/- A law's functions as plain Lean functions, each with the walk that shows that the code computes it: written by this session's program wip/tools/ppmake.py. -/
import Derived.Test.YtbloniemhkfnlaaKZ
import Derived.Test.YtbloniemhkfnlaaPFnSpacedx0
import Derived.Test.YtbloniemhkfnlaaPFnSpacedx1
import Derived.Test.YtbloniemhkfnlaaPFnSpacedx3
namespace Go.Proofs.Ytbloniemhkfnlaa.PFnSpaced
open Go.RowKit Go.Proofs.YtbloniemhkfnlaaW.PrintWords Go.Proofs.YtbloniemhkfnlaaW.PrintLast Go.Proofs.YtbloniemhkfnlaaW.PrintMore
attribute [local go_sem] max2_int min2_int max_two min_two max_three min_three max_four min_four   -- for this text's walks alone
set_option linter.unusedVariables false
set_option linter.unusedSimpArgs false

/-! ### spec_l8Left: function 46 -/
mutual
def spec_l8Left.l0 : Nat → List Int → List Int → Int → Option (List Int)
 | 0, _, _, _ => none
 | k + 1, x1, x5, x6 => if x6 ≥ (wrap64 ((x1.length : Int) - 1)) then (if 0 ≤ x6 then (if x6 < (x5.length : Int) then (spec_l8Left.l1 k x1 x5 x6 (rd x5 x6) x1 (x1.length : Int) 0) else (none)) else (none)) else (if 0 ≤ (wrap64 ((x1.length : Int) - 1)) then (if (wrap64 ((x1.length : Int) - 1)) ≤ (x5.length : Int) then (some (x5.take ((wrap64 ((x1.length : Int) - 1)) : Int).toNat)) else (none)) else (none))
def spec_l8Left.l1 : Nat → List Int → List Int → Int → Int → List Int → Int → Int → Option (List Int)
 | 0, _, _, _, _, _, _, _ => none
 | k + 1, x1, x5, x6, x7, x27, x28, x29 => if x29 < x28 then (if 0 ≤ x29 then (if x29 < (x27.length : Int) then (if 0 ≤ (wrap64 ((wrap64 ((wrap64 (x6 - (x1.length : Int))) + 1)) + x29)) then (if (wrap64 ((wrap64 ((wrap64 (x6 - (x1.length : Int))) + 1)) + x29)) < (x5.length : Int) then ((spec_l1Times.f k x7 (rd x27 x29)).bind fun t174 => (spec_l8Left.l1 k x1 (x5.set ((wrap64 ((wrap64 ((wrap64 (x6 - (x1.length : Int))) + 1)) + x29)) : Int).toNat (Go.bits .xor .u8 (rd x5 (wrap64 ((wrap64 ((wrap64 (x6 - (x1.length : Int))) + 1)) + x29))) t174)) x6 x7 x27 x28 (wrap64 (x29 + 1)))) else (none)) else (none)) else (none)) else (none)) else (spec_l8Left.l0 k x1 x5 (wrap64 (x6 - 1)))
end
def spec_l8Left.f (k : Nat) (l0 : List Int) (l1 : List Int) : Option (List Int) := (some (([] : List Int) : List Int)).bind fun y162 => (if y162.length + l0.length < 140737488355328 then ((some (y162 ++ l0 : List Int)).bind fun y165 => (spec_l8Left.l0 k l1 y165 (wrap64 ((y165.length : Int) - 1)))) else (none))
theorem spec_l8Left.mono_l : ∀ k, (∀ y0 y1 y2, LeO (spec_l8Left.l0 k y0 y1 y2) (spec_l8Left.l0 (k + 1) y0 y1 y2)) ∧ (∀ y0 y1 y2 y3 y4 y5 y6, LeO (spec_l8Left.l1 k y0 y1 y2 y3 y4 y5 y6) (spec_l8Left.l1 (k + 1) y0 y1 y2 y3 y4 y5 y6))
 | 0 => ⟨fun _ _ _ r h => by simp [spec_l8Left.l0] at h, fun _ _ _ _ _ _ _ r h => by simp [spec_l8Left.l1] at h⟩
 | k + 1 => by
  obtain ⟨ih0, ih1⟩ := spec_l8Left.mono_l k
  refine ⟨?_, ?_⟩
  ·intro y0 y1 y2
   unfold spec_l8Left.l0
   repeat' first | apply LeO.refl | apply LeO.none | apply LeO.ite | apply ih0 | apply ih1 | apply spec_l1Times.mono | (refine LeO.bind ?_ (fun _ => ?_))
  ·intro y0 y1 y2 y3 y4 y5 y6
   unfold spec_l8Left.l1
   repeat' first | apply LeO.refl | apply LeO.none | apply LeO.ite | apply ih0 | apply ih1 | apply spec_l1Times.mono | (refine LeO.bind ?_ (fun _ => ?_))
theorem spec_l8Left.mono : ∀ a0 a1 k, LeO (spec_l8Left.f k a0 a1) (spec_l8Left.f (k + 1) a0 a1) := by
 intro a0 a1 k; obtain ⟨ih0, ih1⟩ := spec_l8Left.mono_l k
 unfold spec_l8Left.f
 repeat' first | apply LeO.refl | apply LeO.none | apply LeO.ite | apply ih0 | apply ih1 | apply spec_l1Times.mono | (refine LeO.bind ?_ (fun _ => ?_))
def spec_l8Left.T9 : Bool × List (List Nat × List Nat) := (true, [([], []), ([], []), ([], []), ([2], [2]), ([1, 3], [1, 3]), ([4], [4]), ([], []), ([5, 6], [5, 6]), ([0, 7], [0, 7]), ([8], [8]), ([], []), ([], []), ([10, 11], [10, 11]), ([9, 12], [9, 12]), ([0, 7, 0, 1, 2, 3, 4, 5, 6, 7, 8, 9, 10, 11, 12, 13], [0, 7]), ([14, 13, 12, 0, 1, 2, 3, 4, 5, 6, 7, 8, 9, 10, 11, 12, 13], [13, 14])])
def spec_l8Left.B9 : List Nat := [0, 0, 0, 4, 14, 30, 0, 126, 255, 511, 0, 0, 3072, 8191, 16383, 32767]
theorem spec_l8Left.tab9 : rtab .any (opsOf Try.f46 9) = spec_l8Left.T9 := by kernel_rfl
theorem spec_l8Left.bits9 : waitsOk spec_l8Left.T9.2 spec_l8Left.B9 = true := by kernel_rfl
set_option maxHeartbeats 8000000 in
set_option maxRecDepth 100000 in
theorem spec_l8Left.calls (k : Nat) (A0 : Option Addr) (c0 : Nat) (l0 : List Int) (A1 : Option Addr) (c1 : Nat) (l1 : List Int) (r : List Int) (w : World) (hr0 : Kd.C (Kd.int .u8) w A0 l0.length l0) (hc0 : l0.length ≤ c0) (hr1 : Kd.C (Kd.int .u8) w A1 l1.length l1) (hc1 : l1.length ≤ c1) (h : spec_l8Left.f k l0 l1 = some r) :
  Calls Try.prog 46 #[.slice A0 l0.length c0, .slice A1 l1.length c1] w fun e w' => ∃ v0_ : Value, e = .returned (v0_) ∧ Kd.R (Kd.int .u8) 5 w' w.heap.size (fun _ => True) v0_ r ∧ Below w.heap.size w w' := by
 have HR0 := am hr0; have HC0 := am hc0; clear hr0 hc0; have HR1 := am hr1; have HC1 := am hc1; clear hr1 hc1; have HB := am (Below.refl w.heap.size w); have H : ((some (([] : List Int) : List Int)).bind fun y162 => (if y162.length + l0.length < 140737488355328 then ((some (y162 ++ l0 : List Int)).bind fun y165 => (spec_l8Left.l0 k l1 y165 (wrap64 ((y165.length : Int) - 1)))) else (none))) = some r := h; clear h; obtain ⟨y162, hy162⟩ : ∃ y_ : List Int, y_ = (([] : List Int)) := ⟨_, rfl⟩
 replace H : (if y162.length + l0.length < 140737488355328 then ((some (y162 ++ l0 : List Int)).bind fun y165 => (spec_l8Left.l0 k l1 y165 (wrap64 ((y165.length : Int) - 1)))) else (none)) = some r := by first | (rw [hy162]; exact H) | (have H2_ := (Option.bind_some _ _).symm.trans H; first | exact H2_ | (rw [hy162]; exact H2_)) | exact H
 have Ny162 := am hy162; clear hy162
 obtain ⟨c3, H⟩ := it_ H; have LMc3 := am c3; clear c3; obtain ⟨y165, hy165⟩ : ∃ y_ : List Int, y_ = (y162 ++ l0) := ⟨_, rfl⟩
 replace H : (spec_l8Left.l0 k l1 y165 (wrap64 ((y165.length : Int) - 1))) = some r := by first | (rw [hy165]; exact H) | (have H2_ := (Option.bind_some _ _).symm.trans H; first | exact H2_ | (rw [hy165]; exact H2_)) | exact H
 have Ny165 := am hy165; clear hy165; have H' := am H; clear H
 go_enter Try.func46, Try.ntmps46
 go_wp2_with (first | ((with_reducible refine gate_dst (N := 10) rfl ?_); refine Kd.R_lit (Kd.int .u8) _ 5 ?hg (N := 10) ?hd (xs := ([] : List Int)) (inner := []) (ok := fun _ => True) (okp := fun _ => True) ?hr ?hp (fun _ hk => hk) trivial (Below.refl _ _) (Nat.le_refl _) (by simp) ?_; (case hd => rfl); (case hg => rfl); (case hr => first | (go_simp; done) | (go_simp; rfl)); (case hp => exact (Reps.none _ _)); intro v163 w4 ho5 hb hg_ hnew_; clear hg_ hnew_; (first | rw [← Ny162.out] at ho5 | (simp only [Int.reduceToNat] at ho5; rw [← Ny162.out] at ho5)); have HO164 := am (Kd.R_lower ho5 (zs_ HB.out)); replace HB := am (below_step (zB HB.out) hb); clear hb ho5) | ((with_reducible refine gate_builtin (b := .append) (xs := #[.tmp 10, .tmp 11]) rfl ?_); at_builtin; refine Kd.R_append_rows (Kd.int .u8) (w0 := w) w.heap.size rfl (.tmp 10) (.tmp 11) 22 5 (.int .u8 0) 1 rfl Try.underlying22 info5 rfl (by decide) (by omega) v163 y162 l0 _ _ _ (fun _ => True) (fun _ => False) rfl rfl ?aO ?aR (fun _ _ h => h) (fun _ h => h.elim) ?aF ?aB ?aS ?aL ?_; (case aR => exact zC (Kd.C_below HR0.out HB.out)); (case aB => exact (zB HB.out)); (case aF => exact (fun _ _ => trivial)); (case aO => exact (zR HO164.out)); (case aS => exact (zs_ HB.out)); (case aL => have := LMc3.out; omega); intro v166 w6 ho hb hg hat; rw [← Ny165.out] at ho; replace HB := am (hb); have HO167 := am (ho); (try clear HO164); clear ho hb hg hat; obtain ⟨Ao7, co7, eo7⟩ := Kd.R_slice HO167.out; subst eo7))
 go_loopg [6] k (fun kq v6 w' => ∃ (x5_1 : List Int) (x6_1 : Int), v6 = .int .i64 x6_1 ∧ Aside0 (spec_l8Left.l0 kq l1 x5_1 x6_1 = some r) ∧ Aside0 (kq ≤ k) ∧ Aside0 (Kd.R (Kd.int .u8) 5 w' w.heap.size (fun _ => True) (.slice Ao7 y165.length co7) x5_1) ∧ Aside0 (Below w.heap.size w w'))
 case atStart => exact ⟨(y165), (wrap64 ((y165.length : Int) - 1)), rfl, H', ⟨Nat.le_refl _⟩, ⟨zR HO167.out⟩, ⟨zB HB.out⟩⟩
 case round =>
  clear H'; obtain ⟨x5_1, x6_1, rfl, HA, HK1, HO_5, HB⟩ := hrel; have hl5_1 := (Kd.R_reads' HO_5.out).1; rw [hl5_1] at HO_5
  (try simp only [hl5_1])
  cases gk with
  | zero => exact absurd HA.out (by simp [spec_l8Left.l0])
  | succ k1 =>
   have H := HA.out; clear HA
   simp only [spec_l8Left.l0] at H
   by_cases c8 : x6_1 ≥ (wrap64 ((l1.length : Int) - 1))
   ·rw [if_pos c8] at H; have c8b0 : decide ((wrap64 ((l1.length : Int) - 1)) ≤ x6_1) = true := decide_eq_true c8
    try simp only [hl5_1] at c8b0
    clear c8
    obtain ⟨c9, H⟩ := it_ H; have c9b0 := decide_eq_true c9; clear c9
    obtain ⟨c10, H⟩ := it_ H; have c10b0 := decide_eq_true c10
    try simp only [hl5_1] at c10b0
    clear c10; have H' := am H; clear H; have p171 : 0 ≤ (x6_1 : Int) := od_; have q171 : x6_1 < (x5_1.length : Int) := od_; obtain ⟨ad171, e171, hx171_0⟩ := Kd.at_int (Kd.R_reads' HO_5.out).2.2 x6_1 p171 q171; cases e171; replace p171 := eq_true p171; replace q171 := eq_true q171
    go_wp2
    go_loopg [29] k1 (fun kq v29 w' => ∃ (x5_2 : List Int) (x29_2 : Int), v29 = .int .i64 x29_2 ∧ Aside0 (spec_l8Left.l1 kq l1 x5_2 x6_1 (rd x5_1 x6_1) l1 (l1.length : Int) x29_2 = some r) ∧ Aside0 (kq ≤ k1) ∧ Aside0 (Kd.R (Kd.int .u8) 5 w' w.heap.size (fun _ => True) (.slice (some ad171) x5_1.length co7) x5_2) ∧ Aside0 (Below w.heap.size w w'))
    case atStart => exact ⟨(x5_1), (0), rfl, H', ⟨Nat.le_refl _⟩, ⟨by (try simp only [hl5_1]); (with_reducible repeat (first | apply Kd.R_alloc | apply Kd.R_drewN | apply Kd.R_drew)); exact HO_5.out⟩, ⟨zB HB.out⟩⟩
    case round =>
     clear H'; obtain ⟨x5_2, x29_2, rfl, HA, HK2, HO_5, HB⟩ := hrel; have hl5_2 := (Kd.R_reads' HO_5.out).1; rw [hl5_2] at HO_5
     (try simp only [hl5_2])
     cases gk with
     | zero => exact absurd HA.out (by simp [spec_l8Left.l1])
     | succ k2 =>
      have H := HA.out; clear HA
      simp only [spec_l8Left.l1] at H
      by_cases c11 : x29_2 < (l1.length : Int)
      ·rw [if_pos c11] at H; have c11b0 := decide_eq_true c11
       try simp only [hl5_1] at c11b0
       try simp only [hl5_2] at c11b0
       clear c11
       obtain ⟨c12, H⟩ := it_ H; have c12b0 := decide_eq_true c12; clear c12
       obtain ⟨c13, H⟩ := it_ H; have c13b0 := decide_eq_true c13
       try simp only [hl5_1] at c13b0
       try simp only [hl5_2] at c13b0
       clear c13; obtain ⟨ji14, hji14⟩ : ∃ j_ : Int, (wrap64 ((wrap64 ((wrap64 (x6_1 - (l1.length : Int))) + 1)) + x29_2)) = j_ := ⟨_, rfl⟩
       replace H : (if 0 ≤ (ji14) then (if (ji14) < (x5_2.length : Int) then ((spec_l1Times.f k2 (rd x5_1 x6_1) (rd l1 x29_2)).bind fun t174 => (spec_l8Left.l1 k2 l1 (x5_2.set ((ji14) : Int).toNat (Go.bits .xor .u8 (rd x5_2 (ji14)) t174)) x6_1 (rd x5_1 x6_1) l1 (l1.length : Int) (wrap64 (x29_2 + 1)))) else (none)) else (none)) = some r := by first | (rw [hji14] at H; exact H) | (simp only [hji14] at H ⊢; exact H)
       have hji14w : (IntKind.i64.wrap ((wrap64 ((wrap64 (x6_1 - (l1.length : Int))) + 1)) + x29_2)) = ji14 := (i64_w _).trans hji14
       obtain ⟨c15, H⟩ := it_ H; have c15b0 := decide_eq_true c15; clear c15
       obtain ⟨c16, H⟩ := it_ H; have c16b0 := decide_eq_true c16
       try simp only [hl5_1] at c16b0
       try simp only [hl5_2] at c16b0
       clear c16; obtain ⟨t174, A17, H⟩ := bi_ H; (try rw [Option.bind_some] at H); generalize hy175 : (x5_2.set ((ji14) : Int).toNat (Go.bits .xor .u8 (rd x5_2 (ji14)) t174)) = y175 at H; have Ny175 := am hy175.symm; clear hy175; have H' := am H; clear H; have p172 : 0 ≤ (x29_2 : Int) := od_; have q172 : x29_2 < (l1.length : Int) := od_; obtain ⟨ad172, e172, hx172_0⟩ := Kd.at_int HR1.out x29_2 p172 q172; cases e172; replace hx172_0 := (HB.out.cell (World.block_lt_of_cell? w _ hx172_0)).trans hx172_0; replace p172 := eq_true p172; replace q172 := eq_true q172
       try go_wp2
       replace HO_5 := am (Kd.R_drew HO_5.out); replace HB := am (below_drew1 HB.out); have p173 : 0 ≤ ((ji14) : Int) := od_; have q173 : (ji14) < (x5_2.length : Int) := od_; obtain ⟨ad173, e173, hx173_0⟩ := Kd.at_int (Kd.R_reads' HO_5.out).2.2 (ji14) p173 q173; obtain rfl : ad171 = ad173 := (by injection e173); replace p173 := eq_true p173; replace q173 := eq_true q173
       refine start_ (n := 16) (S := fun w' => w'.cell? (ad171.add ((ji14)).toNat) = some (.int .u8 (rd x5_2 (ji14)))) (ds := [15]) #[false, false, false, false, false, false, false, false, false, false, false, false, false, false, false, false] (by kernel_rfl) rfl rfl (hx173_0) (fun hHeld => ?_); refine with_tabW spec_l8Left.tab9 spec_l8Left.bits9 (fun HT_ HW_ => ?_)
       generalize wr.drew = w19 at HO_5 HB hx173_0 hHeld ⊢
       refine pu_ (i := 0) (some 34) #[true, false, false, false, false, false, false, false, false, false, false, false, false, false, false, false] HT_ ?_
       refine pu_ (i := 1) (some 35) #[true, true, false, false, false, false, false, false, false, false, false, false, false, false, false, false] HT_ ?_
       refine pu_ (i := 2) (some 36) #[true, true, true, false, false, false, false, false, false, false, false, false, false, false, false, false] HT_ ?_
       refine pu_ (i := 3) (some 37) #[true, true, true, true, false, false, false, false, false, false, false, false, false, false, false, false] HT_ ?_
       refine pu_ (i := 4) (some 38) #[true, true, true, true, true, false, false, false, false, false, false, false, false, false, false, false] HT_ ?_
       refine pu_ (i := 5) (some 39) #[true, true, true, true, true, true, false, false, false, false, false, false, false, false, false, false] HT_ ?_
       refine pu_ (i := 6) (some 40) #[true, true, true, true, true, true, true, false, false, false, false, false, false, false, false, false] HT_ ?_
       refine pu_ (i := 7) (some 41) #[true, true, true, true, true, true, true, true, false, false, false, false, false, false, false, false] HT_ ?_
       refine pu_ (i := 8) (some 42) #[true, true, true, true, true, true, true, true, true, false, false, false, false, false, false, false] HT_ ?_
       refine pu_ (i := 10) (some 44) #[true, true, true, true, true, true, true, true, true, false, true, false, false, false, false, false] HT_ ?_
       refine pu_ (i := 11) (some 45) #[true, true, true, true, true, true, true, true, true, false, true, true, false, false, false, false] HT_ ?_
       refine ta_ (i := 9) (some 43) #[true, true, true, true, true, true, true, true, true, true, true, true, false, false, false, false] HT_ HW_ hHeld ?_
       refine one_ (i := 12) (N := some 46) #[true, true, true, true, true, true, true, true, true, true, true, true, true, false, false, false] rfl rfl (one_of HT_.out (by kernel_rfl)) (by decide) (fun K hK => ?_)
       refine goR_ Try.func72 #[.int .u8 (rd x5_1 x6_1), .int .u8 (rd l1 x29_2)] ?_
       with_reducible refine (spec_l1Times.calls k2 (rd x5_1 x6_1) (rd l1 x29_2) t174 _ A17.out).mono ?_
       rintro e w' ⟨rfl, ⟨nd, rfl⟩⟩
       refine ⟨_, rfl, ?_⟩
       have p18 : 0 ≤ ((ji14) : Int) := od_; have q18 : ((ji14) : Int) < ((x5_2.length : Int) : Int) := od_; obtain ⟨go18, co18, eo18, gb18, gl18, cl18, HG18⟩ := Kd.R_form HO_5.out (by omega)
       (first | cases eo18 | (injection eo18 with ea_ en_ ec_; (first | subst ea_ | (injection ea_ with ea_; subst ea_)); subst ec_; clear en_))
       have GB18 := am gb18; have GG18 := am HG18; clear gb18 gl18 HG18
       (first | simp only [add_plain] at hx171_0 | skip)
       (first | simp only [add_plain] at hx173_0 | skip)
       obtain ⟨hx18_0, hf18_0⟩ := Kd.R_celln 0 HO_5.out ((ji14) : Int) p18 q18; replace p18 := eq_true p18; replace q18 := eq_true q18; have HP20 := Kd.R_putn HO_5.out ((ji14) : Int) (Go.bits .xor .u8 (rd x5_2 (ji14)) t174); rw [← Ny175.out] at HP20; have HQ20 := am HP20; clear HP20
       refine hK.out _ _ (hHeld) (fun hHeld => ?_)
       clear hK K
       refine norm_ (a' := ?_) ?_ ?_
       rotate_left
       ·show Act.put _ (some 46) _ = _
        simp only [Act.put, List.setIfInBounds_toArray, List.set_cons_zero, List.set_cons_succ, i64_w, i32_w]; rfl
       refine pu_ (i := 13) (some 47) #[true, true, true, true, true, true, true, true, true, true, true, true, true, true, false, false] HT_ ?_
       refine pu_ (i := 14) (some 48) #[true, true, true, true, true, true, true, true, true, true, true, true, true, true, true, false] HT_ ?_
       refine last_ (i := 15) (N := none) #[true, true, true, true, true, true, true, true, true, true, true, true, true, true, true, true] rfl rfl (one_of HT_.out (by kernel_rfl)) (by decide) (fun K hK => ?_)
       refine skip_ (w1 := ?_) (by rfl) rfl ?_ ?_
       rotate_left
       ·go_simp; rfl
       refine hK.out _ _ ?_
       clear hK K
       refine done_ (done_of HT_.out (by kernel_rfl)) ?_
       try go_wp2
       (try simp only [← hl5_2])
       first | go_roundg k2 | (try rw [show (⟨go18, (x6_1).toNat, none⟩ : Addr) = (⟨go18, 0, none⟩ : Addr).add (x6_1).toNat from by simp [Addr.add]]; go_roundg k2)
       case measure => have := HK1.out; have := HK2.out; omega
       case rel => exact ⟨(y175), (wrap64 (x29_2 + 1)), rf_, (by first | exact H' | (have H2_ := H'; simp only [hji14] at H2_ ⊢; exact H2_)), ⟨by have := HK1.out; have := HK2.out; omega⟩, ⟨by (try simp only [hl5_1]); (try simp only [hl5_2]); (with_reducible repeat (first | apply Kd.R_alloc | apply Kd.R_drewN | apply Kd.R_drew)); exact HQ20.out⟩, ⟨by repeat (first | (with_reducible first | exact HB.out | apply below_alloc | apply pw_below_drewN | apply below_drew1 | refine below_set ?_ GB18.out) | exact HB.out)⟩⟩
      ·rw [if_neg c11] at H; have c11b0 := decide_eq_false c11
       try simp only [hl5_1] at c11b0
       try simp only [hl5_2] at c11b0
       clear c11; have H' := am H; clear H
       go_wp2
       (try simp only [← hl5_1, ← hl5_2])
       go_roundg k2
       case measure => have := HK1.out; have := HK2.out; omega
       case rel => exact ⟨(x5_2), (wrap64 (x6_1 - 1)), rfl, H', ⟨by have := HK1.out; have := HK2.out; omega⟩, ⟨by (try simp only [hl5_1]); (try simp only [hl5_2]); (with_reducible repeat (first | apply Kd.R_alloc | apply Kd.R_drewN | apply Kd.R_drew)); exact HO_5.out⟩, ⟨zB HB.out⟩⟩
   ·rw [if_neg c8] at H; have c8b0 : decide ((wrap64 ((l1.length : Int) - 1)) ≤ x6_1) = false := decide_eq_false c8
    try simp only [hl5_1] at c8b0
    clear c8; obtain ⟨ji21, hji21⟩ : ∃ j_ : Int, (wrap64 ((l1.length : Int) - 1)) = j_ := ⟨_, rfl⟩
    replace H : (if 0 ≤ (ji21) then (if (ji21) ≤ (x5_1.length : Int) then (some (x5_1.take ((ji21) : Int).toNat)) else (none)) else (none)) = some r := by first | (rw [hji21] at H; exact H) | (simp only [hji21] at H ⊢; exact H)
    (try rw [hji21] at c8b0)
    have hji21w : (IntKind.i64.wrap ((l1.length : Int) - 1)) = ji21 := (i64_w _).trans hji21
    obtain ⟨c22, H⟩ := it_ H; have c22b0 := eq_true c22; have c22b1 := decide_eq_true c22; clear c22
    obtain ⟨c23, H⟩ := it_ H; have c23b0 := eq_true c23; have c23b1 := decide_eq_true c23
    try simp only [hl5_1] at c23b1
    clear c23; (try rw [Option.bind_some] at H); generalize hy168 : (x5_1.take ((ji21) : Int).toNat) = y168 at H; have Ny168 := am hy168.symm; clear hy168; obtain rfl := Option.some.inj H; have q24 : ((ji21) : Int) ≤ ((x5_1.length : Int) : Int) := od_; obtain ⟨i024, hi024, _, hsz24, _⟩ := info_parts info5; have hcut24 := cut_to (P := Try.prog) 22 5 .i64 Try.underlying22 hi024 Ao7 x5_1.length co7 (ji21) (od_) q24 (Kd.R_reads' HO_5.out).2.1; have hr24 := Kd.R_take (m := ((ji21) : Int).toNat) HO_5.out (by omega)
    have hy24 : y168.length = ((ji21) : Int).toNat := (by rw [Ny168.out, List.length_take]; omega)
    rw [← Ny168.out] at hr24; rw [← hy24] at hr24 hcut24; clear hy24 hi024 hsz24 HO_5; have HO170 := am hr24; clear hr24; replace q24 := eq_true q24
    go_wp2
    go_ret
    exact ⟨_, by first | rfl | (simp [errW_none, errW_some] <;> rfl) | (simp only [← hji21]; first | rfl | (simp [errW_none, errW_some] <;> rfl)) | (simp [*, errW_none, errW_some] <;> rfl), zR HO170.out, zB HB.out⟩

/-! ### spec_EncodeWord: function 22 -/
def spec_EncodeWord.j0 : Nat → List Int → Int → Bool → Option (List Int × Bool)
 | 0, _, _, _ => none
 | k + 1, x0, x1, x22 => if x22 = true then (some (([] : List Int), false)) else (if 0 ≤ (wrap64 (2 * x1)) then (if (wrap64 (2 * x1) : Int).toNat ≤ 281474976710656 then ((some (List.replicate (wrap64 (2 * x1) : Int).toNat 0 : List Int)).bind fun y177 => (if y177.length + x0.length < 140737488355328 then ((spec_l8Generator.f k x1).bind fun t183 => ((spec_l8Left.f k (y177 ++ x0) t183).bind fun t186 => (if t186.length + x0.length < 140737488355328 then (some ((t186 ++ x0), true)) else (none)))) else (none))) else (none)) else (none))
def spec_EncodeWord.f (k : Nat) (l0 : List Int) (a1 : Int) : Option (List Int × Bool) := (spec_l8T.f a1).bind fun t176 => (if t176 = true then (if (l0.length : Int) = 0 then (spec_EncodeWord.j0 k l0 a1 true) else (spec_EncodeWord.j0 k l0 a1 (decide ((wrap64 ((l0.length : Int) + (wrap64 (2 * a1)))) > 24)))) else (spec_EncodeWord.j0 k l0 a1 true))
theorem spec_EncodeWord.mono_l : ∀ k, (∀ y0 y1 y2, LeO (spec_EncodeWord.j0 k y0 y1 y2) (spec_EncodeWord.j0 (k + 1) y0 y1 y2))
 | 0 => fun _ _ _ r h => by simp [spec_EncodeWord.j0] at h
 | k + 1 => by
  have ih0 := spec_EncodeWord.mono_l k
  ·intro y0 y1 y2
   unfold spec_EncodeWord.j0
   repeat' first
   | (with_reducible exact ih0 _ _ _)
   | (with_reducible exact spec_l8Generator.mono _ _)
   | (with_reducible exact spec_l8Left.mono _ _ _)
   | (with_reducible exact LeO.refl _)
   | (with_reducible exact LeO.none _)
   | (with_reducible refine LeO.ite ?_ ?_)
   | (with_reducible refine LeO.bind ?_ (fun _ => ?_))
   | exact ih0 _ _ _
   | exact spec_l8Generator.mono _ _
   | exact spec_l8Left.mono _ _ _
   | exact LeO.none _
   | refine LeO.ite ?_ ?_
   | refine LeO.bind ?_ (fun _ => ?_)
theorem spec_EncodeWord.mono : ∀ a0 a1 k, LeO (spec_EncodeWord.f k a0 a1) (spec_EncodeWord.f (k + 1) a0 a1) := by
 intro a0 a1 k; have ih0 := spec_EncodeWord.mono_l k
 unfold spec_EncodeWord.f
 repeat' first | apply LeO.refl | apply LeO.none | apply LeO.ite | apply ih0 | apply spec_l8Generator.mono | apply spec_l8Left.mono | (refine LeO.bind ?_ (fun _ => ?_))
set_option maxHeartbeats 8000000 in
set_option maxRecDepth 100000 in
theorem spec_EncodeWord.calls (k : Nat) (A0 : Option Addr) (c0 : Nat) (l0 : List Int) (a1 : Int) (r1 : List Int) (r2 : Bool) (w : World) (hr0 : Kd.C (Kd.int .u8) w A0 l0.length l0) (hc0 : l0.length ≤ c0) (h : spec_EncodeWord.f k l0 a1 = some (r1, r2)) :
  Calls Try.prog 22 #[.slice A0 l0.length c0, .int .i64 a1] w fun e w' => ∃ v0_ : Value, e = .returned (.tuple #[v0_, .bool r2]) ∧ Kd.R (Kd.int .u8) 5 w' w.heap.size (fun _ => True) v0_ r1 ∧ Below w.heap.size w w' := by
 have HR0 := am hr0; have HC0 := am hc0; clear hr0 hc0; have HB := am (Below.refl w.heap.size w); have H : ((spec_l8T.f a1).bind fun t176 => (if t176 = true then (if (l0.length : Int) = 0 then (spec_EncodeWord.j0 k l0 a1 true) else (spec_EncodeWord.j0 k l0 a1 (decide ((wrap64 ((l0.length : Int) + (wrap64 (2 * a1)))) > 24)))) else (spec_EncodeWord.j0 k l0 a1 true))) = some (r1, r2) := h; clear h; have HC3 := am H; clear H
 go_enter Try.func22, Try.ntmps22
 go_upto_region 1 with (fail)
 go_cut [22] (fun v22 wc => ∃ (kq : Nat) (x22_2 : Bool), v22 = .bool x22_2 ∧ Aside0 (spec_EncodeWord.j0 kq l0 a1 x22_2 = some (r1, r2)) ∧ Aside0 (kq ≤ k) ∧ Aside0 (Below w.heap.size w wc))
 case first =>
  have H := HC3.out; clear HC3; obtain ⟨t176, A4, H⟩ := bi_ H
  by_cases c5 : t176 = true
  ·subst c5
   have H1 : (if (l0.length : Int) = 0 then (spec_EncodeWord.j0 k l0 a1 true) else (spec_EncodeWord.j0 k l0 a1 (decide ((wrap64 ((l0.length : Int) + (wrap64 (2 * a1)))) > 24)))) = some (r1, r2) := by rw [if_pos rfl] at H; exact H
   clear H; have H := H1; clear H1
   by_cases c6 : (l0.length : Int) = 0
   ·rw [if_pos c6] at H; have c6b0 : ((l0.length : Int) == 0) = true := beq_iff_eq.mpr c6; have c6b1 : ((l0.length : Int) != 0) = false := bne_eq_false_iff_eq.mpr c6; clear c6
    (first | rw [c6b0] | (simp only [i64_w, i32_w]; rw [c6b0]) | skip)
    have H' := am H; clear H
    go_wp2_with (first | ((with_reducible refine gate_callee (f := 36) rfl ?_); refine goL_ (some 8) Try.func36 #[.int .i64 a1] ?_; (with_reducible refine (spec_l8T.calls a1 true _ A4.out).mono ?_); rintro e w' ⟨rfl, ⟨nd, rfl⟩⟩; refine ⟨_, rfl, ?_⟩))
    go_meet
    case rel => exact ⟨_, (true), rfl, H', ⟨by first | omega | exact Nat.le_refl _⟩, ⟨zB HB.out⟩⟩
   ·rw [if_neg c6] at H; have c6b0 : ((l0.length : Int) == 0) = false := beq_eq_false_iff_ne.mpr c6; have c6b1 : ((l0.length : Int) != 0) = true := bne_iff_ne.mpr c6
    have c6b2 : ¬ (l0 = []) := fun h_ => c6 (by rw [h_]; rfl)
    (first | rw [c6b0] | (simp only [i64_w, i32_w]; rw [c6b0]) | skip)
    have H' := am H; clear H
    go_wp2_with (first | ((with_reducible refine gate_callee (f := 36) rfl ?_); refine goL_ (some 8) Try.func36 #[.int .i64 a1] ?_; (with_reducible refine (spec_l8T.calls a1 true _ A4.out).mono ?_); rintro e w' ⟨rfl, ⟨nd, rfl⟩⟩; refine ⟨_, rfl, ?_⟩))
    go_meet
    case rel => exact ⟨_, (decide ((wrap64 ((l0.length : Int) + (wrap64 (2 * a1)))) > 24)), rfl, H', ⟨by first | omega | exact Nat.le_refl _⟩, ⟨zB HB.out⟩⟩
  ·replace c5 := Bool.eq_false_iff.mpr c5
   subst c5
   have H1 : (spec_EncodeWord.j0 k l0 a1 true) = some (r1, r2) := by rw [if_neg (show ¬ (false = true) by decide)] at H; exact H
   clear H; have H := H1; clear H1; have H' := am H; clear H
   go_wp2_with (first | ((with_reducible refine gate_callee (f := 36) rfl ?_); refine goL_ (some 8) Try.func36 #[.int .i64 a1] ?_; (with_reducible refine (spec_l8T.calls a1 false _ A4.out).mono ?_); rintro e w' ⟨rfl, ⟨nd, rfl⟩⟩; refine ⟨_, rfl, ?_⟩))
   go_meet
   case rel => exact ⟨_, (true), rfl, H', ⟨by first | omega | exact Nat.le_refl _⟩, ⟨zB HB.out⟩⟩
 case rest =>
  clear HC3; obtain ⟨kq, x22_2, rfl, HA, HJ2, HB⟩ := hcut
  cases kq with
  | zero => exact absurd HA.out (by simp [spec_EncodeWord.j0])
  | succ kj2 =>
   have H := HA.out; clear HA
   simp only [spec_EncodeWord.j0] at H
   by_cases c7 : x22_2 = true
   ·subst c7
    have H1 : (some (([] : List Int), false)) = some (r1, r2) := by rw [if_pos rfl] at H; exact H
    clear H; have H := H1; clear H1
    simp only [Option.some.injEq, Prod.mk.injEq] at H
    obtain ⟨rfl, rfl⟩ := H
    go_wp2
    go_ret2
    exact ⟨_, rfl, by first | apply Kd.R_nil | apply Kd.N_nil | apply Kd.V_nil | apply Kd.Q_nil | apply Kd.S_nil, zB HB.out⟩
   ·replace c7 := Bool.eq_false_iff.mpr c7
    subst c7
    have H1 : (if 0 ≤ (wrap64 (2 * a1)) then (if (wrap64 (2 * a1) : Int).toNat ≤ 281474976710656 then ((some (List.replicate (wrap64 (2 * a1) : Int).toNat 0 : List Int)).bind fun y177 => (if y177.length + l0.length < 140737488355328 then ((spec_l8Generator.f kj2 a1).bind fun t183 => ((spec_l8Left.f kj2 (y177 ++ l0) t183).bind fun t186 => (if t186.length + l0.length < 140737488355328 then (some ((t186 ++ l0), true)) else (none)))) else (none))) else (none)) else (none)) = some (r1, r2) := by rw [if_neg (show ¬ (false = true) by decide)] at H; exact H
    clear H; have H := H1; clear H1; obtain ⟨ji8, hji8⟩ : ∃ j_ : Int, (wrap64 (2 * a1)) = j_ := ⟨_, rfl⟩
    replace H : (if 0 ≤ (ji8) then (if (ji8 : Int).toNat ≤ 281474976710656 then ((some (List.replicate (ji8 : Int).toNat 0 : List Int)).bind fun y177 => (if y177.length + l0.length < 140737488355328 then ((spec_l8Generator.f kj2 a1).bind fun t183 => ((spec_l8Left.f kj2 (y177 ++ l0) t183).bind fun t186 => (if t186.length + l0.length < 140737488355328 then (some ((t186 ++ l0), true)) else (none)))) else (none))) else (none)) else (none)) = some (r1, r2) := by first | (rw [hji8] at H; exact H) | (simp only [hji8] at H ⊢; exact H)
    have hji8w : (IntKind.i64.wrap (2 * a1)) = ji8 := (i64_w _).trans hji8
    obtain ⟨c9, H⟩ := it_ H; have c9b0 := eq_true c9; have c9b1 := decide_eq_true c9; clear c9
    obtain ⟨c10, H⟩ := it_ H; have c10b0 := eq_true c10; have c10b1 := decide_eq_true c10; clear c10; obtain ⟨y177, hy177⟩ : ∃ y_ : List Int, y_ = (List.replicate (ji8 : Int).toNat 0) := ⟨_, rfl⟩
    replace H : (if y177.length + l0.length < 140737488355328 then ((spec_l8Generator.f kj2 a1).bind fun t183 => ((spec_l8Left.f kj2 (y177 ++ l0) t183).bind fun t186 => (if t186.length + l0.length < 140737488355328 then (some ((t186 ++ l0), true)) else (none)))) else (none)) = some (r1, r2) := by first | (rw [hy177]; exact H) | (have H2_ := (Option.bind_some _ _).symm.trans H; first | exact H2_ | (rw [hy177]; exact H2_)) | exact H
    have Ny177 := am hy177; clear hy177
    obtain ⟨c11, H⟩ := it_ H; have LMc11 := am c11; clear c11; obtain ⟨y180, hy180⟩ : ∃ y_ : List Int, y_ = (y177 ++ l0) := ⟨_, rfl⟩
    replace H : ((spec_l8Generator.f kj2 a1).bind fun t183 => ((spec_l8Left.f kj2 y180 t183).bind fun t186 => (if t186.length + l0.length < 140737488355328 then (some ((t186 ++ l0), true)) else (none)))) = some (r1, r2) := by first | (rw [hy180]; exact H) | (have H2_ := (Option.bind_some _ _).symm.trans H; first | exact H2_ | (rw [hy180]; exact H2_)) | exact H
    have Ny180 := am hy180; clear hy180; obtain ⟨t183, A12, H⟩ := bi_ H; obtain ⟨t186, A13, H⟩ := bi_ H
    obtain ⟨c14, H⟩ := it_ H; have LMc14 := am c14; clear c14; obtain ⟨y189, hy189⟩ : ∃ y_ : List Int, y_ = (t186 ++ l0) := ⟨_, rfl⟩
    replace H : (some (y189, true)) = some (r1, r2) := by first | (rw [hy189]; exact H) | (have H2_ := (Option.bind_some _ _).symm.trans H; first | exact H2_ | (rw [hy189]; exact H2_)) | exact H
    have Ny189 := am hy189; clear hy189
    simp only [Option.some.injEq, Prod.mk.injEq] at H
    obtain ⟨rfl, rfl⟩ := H
    go_wp2_with (first | ((with_reducible refine gate_dst (N := 25) rfl ?_); (try (refine gate_guard (by rfl) ?_; dsimp only)); refine Kd.R_make (Kd.int .u8) _ 5 rfl (N := 25) rfl 22 _ _ rfl ji8 rfl rfl Try.underlying22 (.int .u8 0) 1 info5 rfl (by decide) (by omega) 0 (ok := fun _ => True) (okp := fun _ => True) rfl (fun _ hk => hk) trivial (od_) (Nat.le_trans (Nat.mul_le_mul_right _ (od_ : ji8.toNat ≤ 281474976710656)) (by omega)) (Below.refl _ _) (Nat.le_refl _) ?_; intro v178 w15 ho16 hb hg_ hnew_; clear hg_ hnew_; (first | rw [← Ny177.out] at ho16 | (simp only [Int.reduceToNat] at ho16; rw [← Ny177.out] at ho16)); have HO179 := am (Kd.R_lower ho16 (zs_ HB.out)); replace HB := am (below_step (zB HB.out) hb); clear hb ho16) | ((with_reducible refine gate_builtin (b := .append) (xs := #[.tmp 25, .tmp 26]) rfl ?_); (try (refine gate_guard (by rfl) ?_; dsimp only)); at_builtin; refine Kd.R_append_rows (Kd.int .u8) (w0 := w) w.heap.size rfl (.tmp 25) (.tmp 26) 22 5 (.int .u8 0) 1 rfl Try.underlying22 info5 rfl (by decide) (by omega) v178 y177 l0 _ _ _ (fun _ => True) (fun _ => False) rfl rfl ?aO ?aR (fun _ _ h => h) (fun _ h => h.elim) ?aF ?aB ?aS ?aL ?_; (case aR => exact zC (Kd.C_below HR0.out HB.out)); (case aB => exact (zB HB.out)); (case aF => exact (fun _ _ => trivial)); (case aO => exact (zR HO179.out)); (case aS => exact (zs_ HB.out)); (case aL => have := LMc11.out; omega); intro v181 w17 ho hb hg hat; rw [← Ny180.out] at ho; replace HB := am (hb); have HO182 := am (ho); (try clear HO179); clear ho hb hg hat) | ((with_reducible refine gate_callee (f := 37) rfl ?_); refine goL_ (some 30) Try.func37 #[.int .i64 a1] ?_; (with_reducible refine (spec_l8Generator.calls kj2 a1 t183 _ A12.out).mono ?_); rintro e w18 ⟨v184, rfl, ho0, hb⟩; refine ⟨_, rfl, ?_⟩; have HO185 := am (Kd.R_lower (Kd.R_new' ho0 (Kd.R_lt (zR HO182.out))) (zs_ HB.out)); replace HO182 := am (Kd.R_elder' (zR HO182.out) (Kd.R_base ho0) hb); replace HB := am (below_step (zB HB.out) hb); (try clear hb); (try clear ho0); obtain ⟨Ao19, co19, eo19⟩ := Kd.R_slice HO182.out; subst eo19; obtain ⟨Ao20, co20, eo20⟩ := Kd.R_slice HO185.out; subst eo20) | ((with_reducible refine gate_callee (f := 46) rfl ?_); refine goL_ (some 31) Try.func46 #[.slice Ao19 y180.length co19, .slice Ao20 t183.length co20] ?_; (with_reducible refine (spec_l8Left.calls kj2 _ _ y180 _ _ t183 t186 _ ?side1 ?side2 ?side3 ?side4 A13.out).mono ?_); (case side1 => exact zC ((Kd.R_reads' HO182.out).2.2)); (case side2 => exact (Kd.R_reads' HO182.out).2.1); (case side3 => exact zC ((Kd.R_reads' HO185.out).2.2)); (case side4 => exact (Kd.R_reads' HO185.out).2.1); rintro e w21 ⟨v187, rfl, ho0, hb⟩; refine ⟨_, rfl, ?_⟩; have HO188 := am (Kd.R_lower (Kd.R_new' (Kd.R_new' ho0 (Kd.R_lt (zR HO182.out))) (Kd.R_lt (zR HO185.out))) (zs_ HB.out)); replace HO182 := am (Kd.R_elder' (zR HO182.out) (Kd.R_base ho0) hb); replace HO185 := am (Kd.R_elder' (zR HO185.out) (Kd.R_base ho0) hb); replace HB := am (below_step (zB HB.out) hb); (try clear hb); (try clear ho0)) | ((with_reducible refine gate_builtin (b := .append) (xs := #[.tmp 31, .tmp 32]) rfl ?_); (try (refine gate_guard (by rfl) ?_; dsimp only)); at_builtin; refine Kd.R_append_rows (Kd.int .u8) (w0 := w) w.heap.size rfl (.tmp 31) (.tmp 32) 22 5 (.int .u8 0) 1 rfl Try.underlying22 info5 rfl (by decide) (by omega) v187 t186 l0 _ _ _ (fun k_ => some k_ ≠ (.slice Ao19 y180.length co19 : Value).ownBlock ∧ some k_ ≠ (.slice Ao20 t183.length co20 : Value).ownBlock) (fun _ => False) rfl rfl ?aO ?aR (fun _ _ h => h) (fun _ h => h.elim) ?aF ?aB ?aS ?aL ?_; (case aR => exact zC (Kd.C_below HR0.out HB.out)); (case aB => exact (zB HB.out)); (case aF => exact (fun k_ hk => ⟨Kd.fresh' (Kd.R_lt (zR HO182.out)) k_ hk, Kd.fresh' (Kd.R_lt (zR HO185.out)) k_ hk⟩)); (case aO => exact (zR (Kd.R_mono HO188.out (fun _ hk => ⟨hk.1.2, hk.2⟩)))); (case aS => exact (zs_ HB.out)); (case aL => have := LMc14.out; omega); intro v190 w22 ho hb hg hat; rw [← Ny189.out] at ho; replace HO182 := am (Kd.R_after (ok := (fun k_ => some k_ ≠ (.slice Ao20 t183.length co20 : Value).ownBlock)) (zR (Kd.R_mono HO182.out (fun _ hk => ⟨hk.1.2, hk.2⟩))) hg hat); replace HO185 := am (Kd.R_after (ok := (fun k_ => some k_ ≠ (.slice Ao19 y180.length co19 : Value).ownBlock)) (zR (Kd.R_mono HO185.out (fun _ hk => ⟨hk.1.2, hk.2⟩))) hg hat); replace HB := am (hb); have HO191 := am (ho); (try clear HO188); clear ho hb hg hat))
    go_ret2
    exact ⟨_, by first | rfl | (simp [errW_none, errW_some] <;> rfl) | (simp only [← hji8]; first | rfl | (simp [errW_none, errW_some] <;> rfl)) | (simp [*, errW_none, errW_some] <;> rfl), zR (Kd.R_mono HO191.out (fun _ hk => trivial)), zB HB.out⟩

end Go.Proofs.Ytbloniemhkfnlaa.PFnSpaced
