/- A law's functions as plain Lean functions, each with the walk that shows that the code computes it: written by this session's program wip/tools/ppmake.py. -/
import Derived.Test.YtimajkahadhhhaaKZ
import Derived.Test.YtimajkahadhhhaaPFnExactStepPeelx0
import Derived.Test.YtimajkahadhhhaaPFnExactStepPeelx3
namespace Go.Proofs.Ytimajkahadhhhaa.PFnExactStepPeel
open Go.RowKit Go.Proofs.YtimajkahadhhhaaW.PrintWords Go.Proofs.YtimajkahadhhhaaW.PrintLast Go.Proofs.YtimajkahadhhhaaW.PrintMore
attribute [local go_sem] max2_int min2_int max_two min_two max_three min_three max_four min_four   -- for this text's walks alone
set_option linter.unusedVariables false
set_option linter.unusedSimpArgs false

/-! ### spec_l6Plus: function 82 -/
def spec_l6Plus.l0 : Nat → Int → ByteArray → List Int → Int → Int → Option (ByteArray)
 | 0, _, _, _, _, _ => none
 | k + 1, x1, x2, x7, x12, x13 => if x13 < x12 then (if 0 ≤ x13 then (if x13 < (x7.length : Int) then (if x13 < (x2.size : Int) then ((spec_l1Times.f k x1 (bt x2 x13)).bind fun t152 => (spec_l6Plus.l0 k x1 x2 (x7.set (x13 : Int).toNat (Go.bits .xor .u8 (rd x7 x13) t152)) x12 (wrap64 (x13 + 1)))) else (none)) else (none)) else (none)) else (some (strOfNums x7))
def spec_l6Plus.f (k : Nat) (a0 : ByteArray) (a1 : Int) (a2 : ByteArray) : Option (ByteArray) := (conv_own.f a0).bind fun t148 => (spec_l6Plus.l0 k a1 a2 t148 (t148.length : Int) 0)
theorem spec_l6Plus.mono_l : ∀ k, (∀ y0 y1 y2 y3 y4, LeO (spec_l6Plus.l0 k y0 y1 y2 y3 y4) (spec_l6Plus.l0 (k + 1) y0 y1 y2 y3 y4))
 | 0 => fun _ _ _ _ _ r h => by simp [spec_l6Plus.l0] at h
 | k + 1 => by
  have ih0 := spec_l6Plus.mono_l k
  ·intro y0 y1 y2 y3 y4
   unfold spec_l6Plus.l0
   repeat' first | apply LeO.refl | apply LeO.none | apply LeO.ite | apply ih0 | apply spec_l1Times.mono | (refine LeO.bind ?_ (fun _ => ?_))
theorem spec_l6Plus.mono : ∀ a0 a1 a2 k, LeO (spec_l6Plus.f k a0 a1 a2) (spec_l6Plus.f (k + 1) a0 a1 a2) := by
 intro a0 a1 a2 k; have ih0 := spec_l6Plus.mono_l k
 unfold spec_l6Plus.f
 repeat' first | apply LeO.refl | apply LeO.none | apply LeO.ite | apply ih0 | apply spec_l1Times.mono | (refine LeO.bind ?_ (fun _ => ?_))
def spec_l6Plus.T5 : Bool × List (List Nat × List Nat) := (true, [([], []), ([], []), ([0, 1], [0, 1]), ([2], [2]), ([], []), ([], []), ([], []), ([5, 6], [5, 6]), ([4, 7], [4, 7]), ([3, 8], [3, 8]), ([0, 1, 0, 1, 2, 3, 4, 5, 6, 7, 8, 9], [0, 1]), ([10, 9, 8, 0, 1, 2, 3, 4, 5, 6, 7, 8, 9], [9, 10])])
def spec_l6Plus.B5 : List Nat := [0, 0, 3, 7, 0, 0, 0, 96, 240, 511, 1023, 2047]
theorem spec_l6Plus.tab5 : rtab .any (opsOf Try.f82 5) = spec_l6Plus.T5 := by kernel_rfl
theorem spec_l6Plus.bits5 : waitsOk spec_l6Plus.T5.2 spec_l6Plus.B5 = true := by kernel_rfl
set_option maxHeartbeats 8000000 in
set_option maxRecDepth 100000 in
theorem spec_l6Plus.calls (k : Nat) (a0 : ByteArray) (a1 : Int) (a2 : ByteArray) (r : ByteArray) (w : World) (h : spec_l6Plus.f k a0 a1 a2 = some r) :
  Calls Try.prog 82 #[.string a0, .int .u8 a1, .string a2] w fun e w' => e = .returned (.string r) ∧ Below w.heap.size w w' := by
 have HB := am (Below.refl w.heap.size w); have H : ((conv_own.f a0).bind fun t148 => (spec_l6Plus.l0 k a1 a2 t148 (t148.length : Int) 0)) = some r := h; clear h; obtain ⟨t148, A4, H⟩ := bi_ H; have H' := am H; clear H
 go_enter Try.func82, Try.ntmps82
 go_wp2_with (first | ((with_reducible refine gate_dst (N := 10) rfl ?_); refine conv_goes (some 10) rfl rfl 9 75 5 Try.underlying9 Try.underlying75 Try.underlying5 _ a0 rfl rfl ?_; (with_reducible refine (conv_own.calls a0 t148 _ A4.out).mono ?_); rintro e w5 ⟨v149, rfl, ho0, hb⟩; refine ⟨_, rfl, ?_⟩; have HO150 := am (KdW.R_lower ho0 (zs_ HB.out)); replace HB := am (below_step (zB HB.out) hb); (try clear hb); (try clear ho0); obtain ⟨Ao6, co6, eo6⟩ := KdW.R_slice HO150.out; subst eo6))
 go_loopg [13] k (fun kq v13 w' => ∃ (x7_1 : List Int) (x13_1 : Int), v13 = .int .i64 x13_1 ∧ Aside0 (spec_l6Plus.l0 kq a1 a2 x7_1 (t148.length : Int) x13_1 = some r) ∧ Aside0 (kq ≤ k) ∧ Aside0 (KdW.R (Kd.int .u8) 5 w' w.heap.size (fun _ => True) (.slice Ao6 t148.length co6) x7_1) ∧ Aside0 (Below w.heap.size w w'))
 case atStart => exact ⟨(t148), (0), rfl, H', ⟨Nat.le_refl _⟩, ⟨by (with_reducible repeat (first | apply KdW.R_alloc | apply KdW.R_drewN | apply KdW.R_drew)); exact HO150.out⟩, ⟨zB HB.out⟩⟩
 case round =>
  clear H'; obtain ⟨x7_1, x13_1, rfl, HA, HK1, HO_7, HB⟩ := hrel; have hl7_1 := (KdW.R_reads' HO_7.out).1; rw [hl7_1] at HO_7
  (try simp only [hl7_1])
  cases gk with
  | zero => exact absurd HA.out (by simp [spec_l6Plus.l0])
  | succ k1 =>
   have H := HA.out; clear HA
   simp only [spec_l6Plus.l0] at H
   by_cases c7 : x13_1 < (t148.length : Int)
   ·rw [if_pos c7] at H; have c7b0 := decide_eq_true c7
    try simp only [hl7_1] at c7b0
    clear c7
    obtain ⟨c8, H⟩ := it_ H; have c8b0 := decide_eq_true c8; clear c8
    obtain ⟨c9, H⟩ := it_ H; have c9b0 := decide_eq_true c9
    try simp only [hl7_1] at c9b0
    clear c9
    obtain ⟨c10, H⟩ := it_ H; have c10b0 := decide_eq_true c10; clear c10; obtain ⟨t152, A12, H⟩ := bi_ H; obtain ⟨y153, hy153⟩ : ∃ y_ : List Int, y_ = (x7_1.set (x13_1 : Int).toNat (Go.bits .xor .u8 (rd x7_1 x13_1) t152)) := ⟨_, rfl⟩
    replace H : (spec_l6Plus.l0 k1 a1 a2 y153 (t148.length : Int) (wrap64 (x13_1 + 1))) = some r := by first | (rw [hy153]; exact H) | (have H2_ := (Option.bind_some _ _).symm.trans H; first | exact H2_ | (rw [hy153]; exact H2_)) | exact H
    have Ny153 := am hy153; clear hy153; have H' := am H; clear H
    try go_wp2
    replace HO_7 := am (KdW.R_drew HO_7.out); replace HB := am (below_drew1 HB.out); have p151 : 0 ≤ (x13_1 : Int) := od_; have q151 : x13_1 < (x7_1.length : Int) := od_; obtain ⟨ad151, e151, hx151_0⟩ := Kd.at_int (KdW.R_reads' HO_7.out).2.2 x13_1 p151 q151; cases e151; replace p151 := eq_true p151; replace q151 := eq_true q151; have p11 : 0 ≤ (x13_1 : Int) := od_; have q11 : x13_1 < (a2.size : Int) := od_; have hx11 := bt_at a2 x13_1; replace p11 := eq_true p11; replace q11 := eq_true q11
    refine start_ (n := 12) (S := fun w' => w'.cell? (ad151.add (x13_1).toNat) = some (.int .u8 (rd x7_1 x13_1))) (ds := [11]) #[false, false, false, false, false, false, false, false, false, false, false, false] (by kernel_rfl) rfl rfl (hx151_0) (fun hHeld => ?_); refine with_tabW spec_l6Plus.tab5 spec_l6Plus.bits5 (fun HT_ HW_ => ?_)
    generalize wr.drew = w14 at HO_7 HB hx151_0 hHeld ⊢
    refine pu_ (i := 0) (some 16) #[true, false, false, false, false, false, false, false, false, false, false, false] HT_ ?_
    refine pu_ (i := 1) (some 17) #[true, true, false, false, false, false, false, false, false, false, false, false] HT_ ?_
    refine pu_ (i := 2) (some 18) #[true, true, true, false, false, false, false, false, false, false, false, false] HT_ ?_
    refine pu_ (i := 4) (some 20) #[true, true, true, false, true, false, false, false, false, false, false, false] HT_ ?_
    refine pu_ (i := 5) (some 21) #[true, true, true, false, true, true, false, false, false, false, false, false] HT_ ?_
    refine pu_ (i := 6) (some 22) #[true, true, true, false, true, true, true, false, false, false, false, false] HT_ ?_
    refine ta_ (i := 3) (some 19) #[true, true, true, true, true, true, true, false, false, false, false, false] HT_ HW_ hHeld ?_
    refine ta_ (i := 7) (some 23) #[true, true, true, true, true, true, true, true, false, false, false, false] HT_ HW_ hHeld ?_
    refine one_ (i := 8) (N := some 24) #[true, true, true, true, true, true, true, true, true, false, false, false] rfl rfl (one_of HT_.out (by kernel_rfl)) (by decide) (fun K hK => ?_)
    refine goR_ Try.func86 #[.int .u8 a1, .int .u8 (bt a2 x13_1)] ?_
    with_reducible refine (spec_l1Times.calls k1 a1 (bt a2 x13_1) t152 _ A12.out).mono ?_
    rintro e w' ⟨rfl, ⟨nd, rfl⟩⟩
    refine ⟨_, rfl, ?_⟩
    have p13 : 0 ≤ (x13_1 : Int) := od_; have q13 : (x13_1 : Int) < ((x7_1.length : Int) : Int) := od_; obtain ⟨go13, co13, eo13, gb13, gl13, cl13, HG13⟩ := KdW.R_form HO_7.out (by omega)
    (first | cases eo13 | (injection eo13 with ea_ en_ ec_; (first | subst ea_ | (injection ea_ with ea_; subst ea_)); subst ec_; clear en_))
    have GB13 := am gb13; have GG13 := am HG13; clear gb13 gl13 HG13
    (first | simp only [add_plain] at hx151_0 | skip)
    obtain ⟨hx13_0, hf13_0⟩ := KdW.R_celln 0 HO_7.out (x13_1 : Int) p13 q13; replace p13 := eq_true p13; replace q13 := eq_true q13; have HP15 := KdW.R_putn HO_7.out (x13_1 : Int) (Go.bits .xor .u8 (rd x7_1 x13_1) t152); rw [← Ny153.out] at HP15; have HQ15 := am HP15; clear HP15
    refine hK.out _ _ (hHeld) (fun hHeld => ?_)
    clear hK K
    refine norm_ (a' := ?_) ?_ ?_
    rotate_left
    ·show Act.put _ (some 24) _ = _
     simp only [Act.put, List.setIfInBounds_toArray, List.set_cons_zero, List.set_cons_succ, i64_w, i32_w]; rfl
    refine pu_ (i := 9) (some 25) #[true, true, true, true, true, true, true, true, true, true, false, false] HT_ ?_
    refine pu_ (i := 10) (some 26) #[true, true, true, true, true, true, true, true, true, true, true, false] HT_ ?_
    refine last_ (i := 11) (N := none) #[true, true, true, true, true, true, true, true, true, true, true, true] rfl rfl (one_of HT_.out (by kernel_rfl)) (by decide) (fun K hK => ?_)
    refine skip_ (w1 := ?_) (by rfl) rfl ?_ ?_
    rotate_left
    ·go_simp; rfl
    refine hK.out _ _ ?_
    clear hK K
    refine done_ (done_of HT_.out (by kernel_rfl)) ?_
    try go_wp2
    (try simp only [← hl7_1])
    go_roundg k1
    case measure => have := HK1.out; omega
    case rel => exact ⟨(y153), (wrap64 (x13_1 + 1)), rf_, H', ⟨by have := HK1.out; omega⟩, ⟨by (try simp only [hl7_1]); (with_reducible repeat (first | apply KdW.R_alloc | apply KdW.R_drewN | apply KdW.R_drew)); exact HQ15.out⟩, ⟨by repeat (first | (with_reducible first | exact HB.out | apply below_alloc | apply pw_below_drewN | apply below_drew1 | refine below_set ?_ GB13.out) | exact HB.out)⟩⟩
   ·rw [if_neg c7] at H; have c7b0 := decide_eq_false c7
    try simp only [hl7_1] at c7b0
    clear c7; obtain rfl := Option.some.inj H; have hcv16 := KdW.own_string (P := Try.prog) Try.underlying75 Try.underlying5 Try.underlying9 HO_7.out
    go_wp2
    go_ret
    exact ⟨rfl, zB HB.out⟩

end Go.Proofs.Ytimajkahadhhhaa.PFnExactStepPeel
