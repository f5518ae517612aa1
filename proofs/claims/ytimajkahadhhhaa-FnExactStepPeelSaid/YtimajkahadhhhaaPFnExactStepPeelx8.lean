/- A law's functions as plain Lean functions, each with the walk that shows that the code computes it: written by this session's program wip/tools/ppmake.py. -/
import Derived.Test.YtimajkahadhhhaaKZ
import Derived.Test.YtimajkahadhhhaaPFnExactStepPeelx0
import Derived.Test.YtimajkahadhhhaaPFnExactStepPeelx3
import Derived.Test.YtimajkahadhhhaaPFnExactStepPeelx7
namespace Go.Proofs.Ytimajkahadhhhaa.PFnExactStepPeel
open Go.RowKit Go.Proofs.YtimajkahadhhhaaW.PrintWords Go.Proofs.YtimajkahadhhhaaW.PrintLast Go.Proofs.YtimajkahadhhhaaW.PrintMore
attribute [local go_sem] max2_int min2_int max_two min_two max_three min_three max_four min_four   -- for this text's walks alone
set_option linter.unusedVariables false
set_option linter.unusedSimpArgs false

/-! ### impl_blocksOf: function 71 -/
/-- The next state of the drop's seed. -/
def nxS (s : Int) : Int := Int.tmod (wrap64 ((wrap64 (75 * s)) + 74)) 65537
/-- A list of numbers, sorted. -/
def sortI (l : List Int) : List Int := l.mergeSort fun x y => decide (x ≤ y)
/-- The block that holds one variable of type int. -/
def BoxI (W : World) (g : Nat) (s : Int) : Prop := W.heap[g]? = some (.cells #[.int .i64 s] 3 (0, 0))
theorem BoxI.cell {W : World} {g : Nat} {s : Int} (h : BoxI W g s) : W.cell? ⟨g, 0, none⟩ = some (.int .i64 s) ∧ W.frozen? ⟨g, 0, none⟩ = false := by
 unfold BoxI at h
 exact ⟨by simp [World.cell?, h], by simp [World.frozen?, h]⟩
theorem BoxI.set {W : World} {g : Nat} {s : Int} (h : BoxI W g s) (x : Int) : BoxI (W.setCell ⟨g, 0, none⟩ (.int .i64 x)) g x := by
 unfold BoxI at *
 simp only [World.setCell, Array.getElem?_modify, if_true, h, Option.map_some]
 rfl
theorem BoxI.lt {W : World} {g : Nat} {s : Int} (h : BoxI W g s) : g < W.heap.size := by
 unfold BoxI at h
 exact (Array.getElem?_eq_some_iff.mp h).1
theorem BoxI.grown {W W' : World} {g : Nat} {s : Int} {row : Option Nat} (h : BoxI W g s) (hg : W.grownBy W' row) (hne : some g ≠ row) : BoxI W' g s := (hg.block g h.lt hne).trans h
theorem BoxI.drewN {W : World} {g : Nat} {s : Int} (h : BoxI W g s) (n : Nat) : BoxI (W.drewN n) g s := h
set_option maxHeartbeats 4000000 in
set_option maxRecDepth 100000 in
theorem impl_blocksOf.next (B : Nat) (s : Int) (w : World) (hb : BoxI w B s) : Calls Try.prog 91 #[.pointer (some ⟨B, 0, none⟩)] w fun e w' => e = .returned (.int .i64 (nxS s)) ∧ w' = w.setCell ⟨B, 0, none⟩ (.int .i64 (nxS s)) := by
 obtain ⟨hc, hf⟩ := hb.cell; obtain ⟨hc2, hf2⟩ := (hb.set (nxS s)).cell; have hn : Int.tmod (wrap64 ((wrap64 (75 * s)) + 74)) 65537 = nxS s := rfl
 have hn2 : Int.tmod (IntKind.i64.wrap ((IntKind.i64.wrap (75 * s)) + 74)) 65537 = nxS s := by rw [i64_w, i64_w]; rfl
 go_enter Try.func91, Try.ntmps91
 go_wp2
 go_ret
 exact ⟨rfl, rfl⟩
theorem BoxI.below {W W' : World} {g : Nat} {s : Int} (h : BoxI W g s) (hb : Below W.heap.size W W') : BoxI W' g s := (hb.block g h.lt).trans h
theorem box_made (w : World) (a : Int) : BoxI (w.alloc (.cells #[.int .i64 a] 3)) w.heap.size a ∧ Below w.heap.size w (w.alloc (.cells #[.int .i64 a] 3)) := by
 refine ⟨?_, below_alloc (Below.refl _ _) _⟩
 unfold BoxI
 show (w.heap.push _)[w.heap.size]? = _
 exact Array.getElem?_push_size
theorem sort_big {n : Nat} (h : n ≤ 17592186044416) : n < 4611686018427387904 := by omega
theorem sort_own {w : World} {base : Nat} {ok : Nat → Prop} {v : Value} {l : List Int} (hR : Kd.R (Kd.int .i64) 3 w base ok v l) (hl : 0 < l.length) (hm : l.length ≤ 17592186044416) :
  Calls Try.prog 93 #[v] w fun e w' => e = .returned (.tuple #[]) ∧ Kd.R (Kd.int .i64) 3 w' base ok v (sortI l) ∧ w.grownBy w' v.ownBlock := by
 obtain ⟨g, cap, rfl, hb, hlt, hcs⟩ := Kd.R_form hR hl; have hmax := Kd.C_max (Kd.R_reads' hR).2.2; have ho := Kd.own_of_R hR
 rcases ho.2 with ⟨h, _⟩ | ⟨g', cap', cur, he, hb', hh, hn, hc, hs, ht⟩
 ·cases h
 obtain ⟨rfl, rfl⟩ : g = g' ∧ cap = cap' := by
  injection he with e1 e2 e3
  injection e1 with e1
  injection e1 with e1
  exact ⟨e1, e3⟩
 have hH : Sort.Holds (Value.int .i64) w g 0 l.toArray := by
  intro j hj
  have hj' : j < l.length := by simpa using hj
  have := Kd.R_cell 0 hR (j : Int) (by omega) (by omega); rw [Int.toNat_natCast] at this; rw [Nat.zero_add]
  refine ⟨this.1.trans ?_, this.2⟩
  simp [rdOf, hj']
 have hcap : l.length ≤ cur.size := by rw [hs]; omega
 refine (Try.slices_Sort_int g 0 cap l w hH hlt (sort_big hm)).mono fun e w' hh' => ?_
 obtain ⟨rfl, nd, os, rfl⟩ := hh'; have hlen : (sortI l).length = l.length := List.length_mergeSort _
 have hblk : ∀ k, k < w.heap.size → k ≠ g → (Sort.grow (Sort.putRow (Value.int .i64) (Sort.ahead w nd) g 0 (l.mergeSort fun x y => decide (x ≤ y)).toArray) os).heap[k]? = w.heap[k]? := by
  intro k hk hne; rw [Sort.heap_grow_old _ _ (by simpa using hk)]
  simp [Sort.putRow, Sort.mapBlock, Array.getElem?_modify, Ne.symm hne]
 have hnew : (Sort.grow (Sort.putRow (Value.int .i64) (Sort.ahead w nd) g 0 (l.mergeSort fun x y => decide (x ≤ y)).toArray) os).heap[g]? = some (.cells (Sort.putCells (Value.int .i64) 0 (sortI l).toArray cur) 3 (0, 0)) := by
  rw [Sort.heap_grow_old _ _ (by simpa using hlt)]
  simp only [Sort.putRow, Sort.mapBlock, Array.getElem?_modify, if_true, Sort.heap_ahead, hh, Option.map_some]
  rfl
 refine ⟨rfl, ?_, ⟨rfl, rfl, rfl, by simp, fun k hk hne => hblk k hk (fun e => hne (by rw [e]; rfl))⟩⟩
 have hown : (Sort.grow (Sort.putRow (Value.int .i64) (Sort.ahead w nd) g 0 (l.mergeSort fun x y => decide (x ≤ y)).toArray) os).ownsRow base 3 1 (.slice (some ⟨g, 0, none⟩) l.length cap) (sortI l).length (encs (Value.int .i64) (sortI l)) := by
  refine ⟨by simp [encs], .inr ⟨g, cap, _, by rw [hlen], hb, hnew, by rw [hlen]; exact hn, hc, by simpa [Sort.putCells] using hs, ?_⟩⟩
  apply List.ext_getElem?
  intro j
  by_cases hj : j < (sortI l).length
  ·rw [List.getElem?_take_of_lt (by omega)]
   have hj2 : j < cur.size := by omega
   simp [Sort.putCells, encs, hj, hj2]
  ·rw [List.getElem?_eq_none (by rw [List.length_take]; omega), List.getElem?_eq_none (by simp [encs]; omega)]
 have := Kd.R_of_own (h1 := fun _ => rfl) (ok := ok) hown (fun k hk => hR.1 k hk)
 exact this
mutual
def impl_blocksOf.l0 : Nat → Int → Int → List Int → Int → Int → Option (List Int)
 | 0, _, _, _, _, _ => none
 | k + 1, x1, x5, x7, x8, x9 => if x9 < 200 then (impl_blocksOf.j1 k x1 x5 x7 x8 x9 (decide ((x7.length : Int) < x8))) else (impl_blocksOf.j1 k x1 x5 x7 x8 x9 false)
def impl_blocksOf.j1 : Nat → Int → Int → List Int → Int → Int → Bool → Option (List Int)
 | 0, _, _, _, _, _, _ => none
 | k + 1, x1, x5, x7, x8, x9, x27 => if x27 = true then (if x1 = 0 then (none) else ((slices_Contains_int_int.f k x7 (Int.tmod (nxS x5) x1)).bind fun t226 => (if t226 = true then (impl_blocksOf.l0 k x1 (nxS x5) x7 x8 (wrap64 (x9 + 1))) else (if x7.length < 17592186044416 then (impl_blocksOf.l0 k x1 (nxS x5) (x7 ++ [Int.tmod (nxS x5) x1]) x8 (wrap64 (x9 + 1))) else (none))))) else (some x7)
end
def impl_blocksOf.f0 (k : Nat) (a0 : Int) (a1 : Int) : Option (List Int) := impl_blocksOf.l0 k a1 (nxS a0) (([] : List Int)) (mn a1 (wrap64 ((Int.tmod (nxS a0) 4) + 1))) 0
theorem impl_blocksOf.mono_l : ∀ k, (∀ y0 y1 y2 y3 y4, LeO (impl_blocksOf.l0 k y0 y1 y2 y3 y4) (impl_blocksOf.l0 (k + 1) y0 y1 y2 y3 y4)) ∧ (∀ y0 y1 y2 y3 y4 y5, LeO (impl_blocksOf.j1 k y0 y1 y2 y3 y4 y5) (impl_blocksOf.j1 (k + 1) y0 y1 y2 y3 y4 y5))
 | 0 => ⟨fun _ _ _ _ _ r h => by simp [impl_blocksOf.l0] at h, fun _ _ _ _ _ _ r h => by simp [impl_blocksOf.j1] at h⟩
 | k + 1 => by
  obtain ⟨ih0, ih1⟩ := impl_blocksOf.mono_l k
  refine ⟨?_, ?_⟩
  ·intro y0 y1 y2 y3 y4
   unfold impl_blocksOf.l0
   repeat' first | apply LeO.refl | apply LeO.none | apply LeO.ite | apply ih0 | apply ih1 | apply slices_Contains_int_int.mono | (refine LeO.bind ?_ (fun _ => ?_))
  ·intro y0 y1 y2 y3 y4 y5
   unfold impl_blocksOf.j1
   repeat' first | apply LeO.refl | apply LeO.none | apply LeO.ite | apply ih0 | apply ih1 | apply slices_Contains_int_int.mono | (refine LeO.bind ?_ (fun _ => ?_))
theorem impl_blocksOf.mono0 : ∀ a0 a1 k, LeO (impl_blocksOf.f0 k a0 a1) (impl_blocksOf.f0 (k + 1) a0 a1) := by
 intro a0 a1 k; obtain ⟨ih0, ih1⟩ := impl_blocksOf.mono_l k
 unfold impl_blocksOf.f0
 repeat' first | apply LeO.refl | apply LeO.none | apply LeO.ite | apply ih0 | apply ih1 | apply slices_Contains_int_int.mono | (refine LeO.bind ?_ (fun _ => ?_))
def impl_blocksOf.f (k : Nat) (a0 : Int) (a1 : Int) : Option (List Int) := (impl_blocksOf.f0 k a0 a1).bind fun l => if 0 < l.length then (if l.length ≤ 17592186044416 then some (sortI l) else none) else none
theorem impl_blocksOf.mono : ∀ a0 a1 k, LeO (impl_blocksOf.f k a0 a1) (impl_blocksOf.f (k + 1) a0 a1) := fun a0 a1 k => LeO.bind (impl_blocksOf.mono0 a0 a1 k) (fun _ => LeO.refl _)
set_option maxHeartbeats 8000000 in
set_option maxRecDepth 100000 in
theorem impl_blocksOf.calls (k : Nat) (a0 : Int) (a1 : Int) (r : List Int) (w : World) (h : impl_blocksOf.f k a0 a1 = some r) :
  Calls Try.prog 71 #[.int .i64 a0, .int .i64 a1] w fun e w' => ∃ v0_ : Value, e = .returned (v0_) ∧ Kd.R (Kd.int .i64) 3 w' w.heap.size (fun _ => True) v0_ r ∧ Below w.heap.size w w' := by
 have HB := am (Below.refl w.heap.size w)
 unfold impl_blocksOf.f at h
 obtain ⟨r0, h0, h⟩ := Option.bind_eq_some_iff.mp h
 by_cases hz : 0 < r0.length
 case neg => rw [if_neg hz] at h; cases h
 rw [if_pos hz] at h
 by_cases hy : r0.length ≤ 17592186044416
 case neg => rw [if_neg hy] at h; cases h
 rw [if_pos hy] at h
 injection h with h
 subst h
 have HY := am hy; clear hy; have HZ := am hz; clear hz; have H : (impl_blocksOf.l0 k a1 (nxS a0) (([] : List Int)) (mn a1 (wrap64 ((Int.tmod (nxS a0) 4) + 1))) 0) = some r0 := h0; clear h0; obtain ⟨y223, hy223⟩ : ∃ y_ : List Int, y_ = (([] : List Int)) := ⟨_, rfl⟩
 replace H : (impl_blocksOf.l0 k a1 (nxS a0) y223 (mn a1 (wrap64 ((Int.tmod (nxS a0) 4) + 1))) 0) = some r0 := by first | (rw [hy223]; exact H) | (have H2_ := (Option.bind_some _ _).symm.trans H; first | exact H2_ | (rw [hy223]; exact H2_)) | exact H
 have Ny223 := am hy223; clear hy223; obtain ⟨ji3, hji3⟩ : ∃ j_ : Int, (mn a1 (wrap64 ((Int.tmod (nxS a0) 4) + 1))) = j_ := ⟨_, rfl⟩
 replace H : (impl_blocksOf.l0 k a1 (nxS a0) y223 ji3 0) = some r0 := by first | (rw [hji3] at H; exact H) | (simp only [hji3] at H ⊢; exact H)
 have hji3_ : (if (wrap64 ((Int.tmod (nxS a0) 4) + 1)) < a1 then (wrap64 ((Int.tmod (nxS a0) 4) + 1)) else a1) = ji3 := hji3; have H' := am H; clear H
 go_enter Try.func71, Try.ntmps71
 have eg := enters_of Try.func91 (by kernel_rfl) rfl
 go_upto_region 2 with (fail)
 have BX := am (box_made w a0).1; clear HB; have HB := am (box_made w a0).2; generalize w.alloc (.cells #[.int .i64 a0] 3) = w1 at BX HB ⊢
 go_wp2_with (first | ((with_reducible refine gate_dst (N := 13) rfl ?_); (try (refine gate_guard (by rfl) ?_; dsimp only)); refine Kd.R_lit (Kd.int .i64) _ 3 ?hg (N := 13) ?hd (xs := ([] : List Int)) (inner := []) (ok := fun _ => True) (okp := fun _ => True) ?hr ?hp (fun _ hk => hk) trivial (Below.refl _ _) (Nat.le_refl _) (by simp) ?_; (case hd => rfl); (case hg => rfl); (case hr => first | (go_simp; done) | (go_simp; rfl)); (case hp => exact (Reps.none _ _)); intro v224 w4 ho5 hb hg_ hnew_; clear hg_ hnew_; (first | rw [← Ny223.out] at ho5 | (simp only [Int.reduceToNat] at ho5; rw [← Ny223.out] at ho5)); have hbb_ := hb; have n0_ := am (Kd.R_lower (Kd.R_mono (Kd.R_bound ho5) (fun k_ hk_ => (Nat.ne_of_gt (Nat.lt_of_lt_of_le BX.out.lt hk_.2.1) : k_ ≠ w.heap.size))) (zs_ HB.out)); have n1_ := am (below_step (zB HB.out) hb); have n2_ := am (BX.out.below hbb_); clear BX hbb_; have BX := n2_; clear n2_; clear HB; have HO225 := n0_; have HB := n1_; clear n0_ n1_; clear hb ho5) | (go_at_call 91; refine (impl_blocksOf.next w.heap.size a0 _ BX.out).mono ?_; rintro e w' ⟨rfl, hw_⟩; have n0_ := am (hw_ ▸ below_set (j := 0) (v := .int .i64 (nxS a0)) HB.out (Nat.le_refl _)); have n1_ := am (hw_ ▸ BX.out.set (nxS a0)); have n2_ := am (hw_ ▸ Kd.R_far HO225.out (p := ⟨w.heap.size, 0, none⟩) (fun k_ hk_ => hk_) (.int .i64 (nxS a0))); clear HB BX HO225 hw_; have HB := n0_; have BX := n1_; have HO225 := n2_; clear n0_ n1_ n2_))
 go_loopg [7, 9] k (fun kq v7 v9 w' => ∃ (x5_1 : Int) (x7_1 : List Int) (x9_1 : Int), v9 = .int .i64 x9_1 ∧ Aside0 (impl_blocksOf.l0 kq a1 x5_1 x7_1 ji3 x9_1 = some r0) ∧ Aside0 (kq ≤ k) ∧ Aside0 (Kd.R (Kd.int .i64) 3 w' w.heap.size (fun k_ => k_ ≠ w.heap.size) v7 x7_1) ∧ Aside0 (Below w.heap.size w w') ∧ Aside0 (BoxI w' w.heap.size x5_1))
 case atStart => exact ⟨(nxS a0), (y223), (0), rfl, H', ⟨Nat.le_refl _⟩, ⟨zR HO225.out⟩, ⟨zB HB.out⟩, ⟨BX.out⟩⟩
 case round =>
  clear H'; obtain ⟨x5_1, x7_1, x9_1, rfl, HA, HK1, HO_7, HB, BX⟩ := hrel
  cases gk with
  | zero => exact absurd HA.out (by simp [impl_blocksOf.l0])
  | succ k1 =>
   have H := HA.out; clear HA
   simp only [impl_blocksOf.l0] at H
   have HC6 := am H; clear H
   go_upto_region 6 with (fail)
   go_cut [27] (fun v27 wc => ∃ (kq : Nat) (x27_5 : Bool), v27 = .bool x27_5 ∧ Aside0 (impl_blocksOf.j1 kq a1 x5_1 x7_1 ji3 x9_1 x27_5 = some r0) ∧ Aside0 (kq ≤ k1) ∧ Aside0 (Kd.R (Kd.int .i64) 3 wc w.heap.size (fun k_ => k_ ≠ w.heap.size) u7 x7_1) ∧ Aside0 (Below w.heap.size w wc) ∧ Aside0 (BoxI wc w.heap.size x5_1))
   case first =>
    have H := HC6.out; clear HC6
    by_cases c7 : x9_1 < 200
    ·rw [if_pos c7] at H; have c7b0 := decide_eq_true c7; clear c7
     (first | rw [c7b0] | (simp only [i64_w, i32_w]; rw [c7b0]) | skip)
     have H' := am H; clear H; obtain ⟨Ao8, co8, eo8⟩ := Kd.R_slice HO_7.out
     subst eo8
     go_wp2
     go_meet
     case rel => exact ⟨_, (decide ((x7_1.length : Int) < ji3)), (by first | rfl | (simp; done) | (simp only [← hji3] <;> (first | rfl | simp)) | (simp [*]; done)), (by first | exact H' | (have H2_ := H'; simp only [hji3] at H2_ ⊢; exact H2_)), ⟨by have := HK1.out; first | omega | exact Nat.le_refl _⟩, ⟨zR HO_7.out⟩, ⟨zB HB.out⟩, ⟨BX.out⟩⟩
    ·rw [if_neg c7] at H; have c7b0 := decide_eq_false c7; clear c7
     (first | rw [c7b0] | (simp only [i64_w, i32_w]; rw [c7b0]) | skip)
     have H' := am H; clear H
     go_wp2
     go_meet
     case rel => exact ⟨_, (false), rfl, (by first | exact H' | (have H2_ := H'; simp only [hji3] at H2_ ⊢; exact H2_)), ⟨by have := HK1.out; first | omega | exact Nat.le_refl _⟩, ⟨zR HO_7.out⟩, ⟨zB HB.out⟩, ⟨BX.out⟩⟩
   case rest =>
    clear HC6; obtain ⟨kq, x27_5, rfl, HA, HJ5, HO_7, HB, BX⟩ := hcut
    cases kq with
    | zero => exact absurd HA.out (by simp [impl_blocksOf.j1])
    | succ kj5 =>
     have H := HA.out; clear HA
     simp only [impl_blocksOf.j1] at H
     by_cases c9 : x27_5 = true
     ·subst c9
      have H1 : (if a1 = 0 then (none) else ((slices_Contains_int_int.f kj5 x7_1 (Int.tmod (nxS x5_1) a1)).bind fun t226 => (if t226 = true then (impl_blocksOf.l0 kj5 a1 (nxS x5_1) x7_1 ji3 (wrap64 (x9_1 + 1))) else (if x7_1.length < 17592186044416 then (impl_blocksOf.l0 kj5 a1 (nxS x5_1) (x7_1 ++ [Int.tmod (nxS x5_1) a1]) ji3 (wrap64 (x9_1 + 1))) else (none))))) = some r0 := by rw [if_pos rfl] at H; exact H
      clear H; have H := H1; clear H1
      by_cases c10 : a1 = 0
      ·rw [if_pos c10] at H
       exact absurd H (by simp)
      ·rw [if_neg c10] at H; have c10b0 : (a1 == 0) = false := beq_eq_false_iff_ne.mpr c10; have c10b1 : (a1 != 0) = true := bne_iff_ne.mpr c10; obtain ⟨t226, A11, H⟩ := bi_ H
       by_cases c12 : t226 = true
       ·subst c12
        have H1 : (impl_blocksOf.l0 kj5 a1 (nxS x5_1) x7_1 ji3 (wrap64 (x9_1 + 1))) = some r0 := by rw [if_pos rfl] at H; exact H
        clear H; have H := H1; clear H1; have H' := am H; clear H; obtain ⟨Ao13, co13, eo13⟩ := Kd.R_slice HO_7.out
        subst eo13
        go_wp2_with (first | (go_at_call 91; refine (impl_blocksOf.next w.heap.size x5_1 _ BX.out).mono ?_; rintro e w' ⟨rfl, hw_⟩; have n0_ := am (hw_ ▸ below_set (j := 0) (v := .int .i64 (nxS x5_1)) HB.out (Nat.le_refl _)); have n1_ := am (hw_ ▸ BX.out.set (nxS x5_1)); have n2_ := am (hw_ ▸ Kd.R_far HO_7.out (p := ⟨w.heap.size, 0, none⟩) (fun k_ hk_ => hk_) (.int .i64 (nxS x5_1))); clear HB BX HO_7 hw_; have HB := n0_; have BX := n1_; have HO_7 := n2_; clear n0_ n1_ n2_) | ((with_reducible refine gate_callee (f := 92) rfl ?_); refine goL_ (some 36) Try.func92 #[.slice Ao13 x7_1.length co13, .int .i64 (Int.tmod (nxS x5_1) a1)] ?_; (with_reducible refine (slices_Contains_int_int.calls kj5 _ _ x7_1 (Int.tmod (nxS x5_1) a1) true _ ?side1 ?side2 A11.out).mono ?_); (case side1 => exact zC ((Kd.R_reads' HO_7.out).2.2)); (case side2 => exact (Kd.R_reads' HO_7.out).2.1); rintro e w' ⟨rfl, ⟨nd, rfl⟩⟩; refine ⟨_, rfl, ?_⟩))
        go_roundg kj5
        case measure => have := HK1.out; have := HJ5.out; omega
        case rel => exact ⟨(nxS x5_1), (x7_1), (wrap64 (x9_1 + 1)), rfl, (by first | exact H' | (have H2_ := H'; simp only [hji3] at H2_ ⊢; exact H2_)), ⟨by have := HK1.out; have := HJ5.out; omega⟩, ⟨zR HO_7.out⟩, ⟨zB HB.out⟩, ⟨BX.out⟩⟩
       ·replace c12 := Bool.eq_false_iff.mpr c12
        subst c12
        have H1 : (if x7_1.length < 17592186044416 then (impl_blocksOf.l0 kj5 a1 (nxS x5_1) (x7_1 ++ [Int.tmod (nxS x5_1) a1]) ji3 (wrap64 (x9_1 + 1))) else (none)) = some r0 := by rw [if_neg (show ¬ (false = true) by decide)] at H; exact H
        clear H; have H := H1; clear H1
        obtain ⟨c14, H⟩ := it_ H; have LMc14 := am c14; clear c14; obtain ⟨y227, hy227⟩ : ∃ y_ : List Int, y_ = (x7_1 ++ [Int.tmod (nxS x5_1) a1]) := ⟨_, rfl⟩
        replace H : (impl_blocksOf.l0 kj5 a1 (nxS x5_1) y227 ji3 (wrap64 (x9_1 + 1))) = some r0 := by first | (rw [hy227]; exact H) | (have H2_ := (Option.bind_some _ _).symm.trans H; first | exact H2_ | (rw [hy227]; exact H2_)) | exact H
        have Ny227 := am hy227; clear hy227; have H' := am H; clear H; obtain ⟨Ao15, co15, eo15⟩ := Kd.R_slice HO_7.out
        subst eo15
        go_wp2_with (first | (go_at_call 91; refine (impl_blocksOf.next w.heap.size x5_1 _ BX.out).mono ?_; rintro e w' ⟨rfl, hw_⟩; have n0_ := am (hw_ ▸ below_set (j := 0) (v := .int .i64 (nxS x5_1)) HB.out (Nat.le_refl _)); have n1_ := am (hw_ ▸ BX.out.set (nxS x5_1)); have n2_ := am (hw_ ▸ Kd.R_far HO_7.out (p := ⟨w.heap.size, 0, none⟩) (fun k_ hk_ => hk_) (.int .i64 (nxS x5_1))); clear HB BX HO_7 hw_; have HB := n0_; have BX := n1_; have HO_7 := n2_; clear n0_ n1_ n2_) | ((with_reducible refine gate_callee (f := 92) rfl ?_); refine goL_ (some 36) Try.func92 #[.slice Ao15 x7_1.length co15, .int .i64 (Int.tmod (nxS x5_1) a1)] ?_; (with_reducible refine (slices_Contains_int_int.calls kj5 _ _ x7_1 (Int.tmod (nxS x5_1) a1) false _ ?side1 ?side2 A11.out).mono ?_); (case side1 => exact zC ((Kd.R_reads' HO_7.out).2.2)); (case side2 => exact (Kd.R_reads' HO_7.out).2.1); rintro e w' ⟨rfl, ⟨nd, rfl⟩⟩; refine ⟨_, rfl, ?_⟩) | ((with_reducible refine gate_builtin (b := .append) (xs := #[.tmp 38, .tmp 40]) rfl ?_); (try (refine gate_guard (by rfl) ?_; dsimp only)); at_builtin; refine Kd.R_append (Kd.int .i64) (w0 := w) w.heap.size rfl (.tmp 38) (.tmp 40) 47 3 (.int .i64 0) 8 rfl Try.underlying47 info3 rfl (by decide) (by omega) (.slice Ao15 x7_1.length co15) x7_1 (Int.tmod (nxS x5_1) a1) [.int .i64 (Int.tmod (nxS x5_1) a1)] (fun k_ => k_ ≠ w.heap.size) (fun _ => False) rfl rfl ?aP (fun _ hk => hk.elim) ?aF ?aO ?aB ?aS ?aL ?_; (case aP => exact rfl); (case aB => exact (zB HB.out)); (case aF => exact (fun k_ hk_ => Nat.ne_of_gt (Nat.lt_of_lt_of_le BX.out.lt hk_))); (case aO => exact (zR HO_7.out)); (case aS => exact (zs_ HB.out)); (case aL => have := LMc14.out; omega); intro v228 w16 ho hb hg hat; rw [← Ny227.out] at ho; have n0_ := am (hb); have n1_ := am (ho); have n2_ := am ((BX.out.drewN _).grown hg (Kd.R_away HO_7.out (fun k_ hk_ => hk_))); clear BX; have BX := n2_; clear n2_; clear HB; clear HO_7; have HB := n0_; have HO229 := n1_; clear n0_ n1_; clear ho hb hg hat))
        go_roundg kj5
        case measure => have := HK1.out; have := HJ5.out; omega
        case rel => exact ⟨(nxS x5_1), (y227), (wrap64 (x9_1 + 1)), rfl, (by first | exact H' | (have H2_ := H'; simp only [hji3] at H2_ ⊢; exact H2_)), ⟨by have := HK1.out; have := HJ5.out; omega⟩, ⟨zR HO229.out⟩, ⟨zB HB.out⟩, ⟨BX.out⟩⟩
     ·replace c9 := Bool.eq_false_iff.mpr c9
      subst c9
      have H1 : (some x7_1) = some r0 := by rw [if_neg (show ¬ (false = true) by decide)] at H; exact H
      clear H; have H := H1; clear H1; obtain rfl := Option.some.inj H; obtain ⟨g7, cap7, eo7, hb7, hl7, hc7⟩ := Kd.R_form HO_7.out HZ.out
      subst eo7
      clear hb7 hl7 hc7
      go_wp2_with (first | (go_at_call 93; refine (sort_own HO_7.out HZ.out HY.out).mono ?_; rintro e w' ⟨rfl, hR, hg⟩; have n0_ := am hR; have n1_ := am (HB.out.grown hg (below_size HB.out) (fun k_ hk_ => Kd.R_base HO_7.out k_ hk_)); clear HB HO_7 BX hR hg; have HO_7 := n0_; have HB := n1_; clear n0_ n1_))
      go_ret
      exact ⟨_, rfl, Kd.R_mono HO_7.out (fun _ _ => trivial), HB.out⟩

/-! ### impl_added: function 101 -/
def impl_added.l0 : Nat → List Int → List Int → List Int → Int → Int → Option (List Int)
 | 0, _, _, _, _, _ => none
 | k + 1, x1, x5, x9, x10, x11 => if x11 < x10 then (if 0 ≤ x11 then (if x11 < (x9.length : Int) then (if x11 < (x1.length : Int) then (if x5.length < 140737488355328 then (impl_added.l0 k x1 (x5 ++ [Go.bits .xor .u8 (rd x9 x11) (rd x1 x11)]) x9 x10 (wrap64 (x11 + 1))) else (none)) else (none)) else (none)) else (none)) else (some x5)
def impl_added.f (k : Nat) (l0 : List Int) (l1 : List Int) : Option (List Int) := impl_added.l0 k l1 (([] : List Int)) l0 (l0.length : Int) 0
theorem impl_added.mono_l : ∀ k, (∀ y0 y1 y2 y3 y4, LeO (impl_added.l0 k y0 y1 y2 y3 y4) (impl_added.l0 (k + 1) y0 y1 y2 y3 y4))
 | 0 => fun _ _ _ _ _ r h => by simp [impl_added.l0] at h
 | k + 1 => by
  have ih0 := impl_added.mono_l k
  ·intro y0 y1 y2 y3 y4
   unfold impl_added.l0
   repeat' first | apply LeO.refl | apply LeO.none | apply LeO.ite | apply ih0 | (refine LeO.bind ?_ (fun _ => ?_))
theorem impl_added.mono : ∀ a0 a1 k, LeO (impl_added.f k a0 a1) (impl_added.f (k + 1) a0 a1) := by
 intro a0 a1 k; have ih0 := impl_added.mono_l k
 unfold impl_added.f
 repeat' first | apply LeO.refl | apply LeO.none | apply LeO.ite | apply ih0 | (refine LeO.bind ?_ (fun _ => ?_))
set_option maxHeartbeats 8000000 in
set_option maxRecDepth 100000 in
theorem impl_added.calls (k : Nat) (A0 : Option Addr) (c0 : Nat) (l0 : List Int) (A1 : Option Addr) (c1 : Nat) (l1 : List Int) (r : List Int) (w : World) (hr0 : Kd.C (Kd.int .u8) w A0 l0.length l0) (hc0 : l0.length ≤ c0) (hr1 : Kd.C (Kd.int .u8) w A1 l1.length l1) (hc1 : l1.length ≤ c1) (h : impl_added.f k l0 l1 = some r) :
  Calls Try.prog 101 #[.slice A0 l0.length c0, .slice A1 l1.length c1] w fun e w' => ∃ v0_ : Value, e = .returned (v0_) ∧ Kd.R (Kd.int .u8) 5 w' w.heap.size (fun _ => True) v0_ r ∧ Below w.heap.size w w' := by
 have HR0 := am hr0; have HC0 := am hc0; clear hr0 hc0; have HR1 := am hr1; have HC1 := am hc1; clear hr1 hc1; have HB := am (Below.refl w.heap.size w); have H : (impl_added.l0 k l1 (([] : List Int)) l0 (l0.length : Int) 0) = some r := h; clear h; obtain ⟨y245, hy245⟩ : ∃ y_ : List Int, y_ = (([] : List Int)) := ⟨_, rfl⟩
 replace H : (impl_added.l0 k l1 y245 l0 (l0.length : Int) 0) = some r := by first | (rw [hy245]; exact H) | (have H2_ := (Option.bind_some _ _).symm.trans H; first | exact H2_ | (rw [hy245]; exact H2_)) | exact H
 have Ny245 := am hy245; clear hy245; have H' := am H; clear H
 go_enter Try.func101, Try.ntmps101
 go_wp2_with (first | ((with_reducible refine gate_dst (N := 8) rfl ?_); refine Kd.R_lit (Kd.int .u8) _ 5 ?hg (N := 8) ?hd (xs := ([] : List Int)) (inner := []) (ok := fun _ => True) (okp := fun _ => True) ?hr ?hp (fun _ hk => hk) trivial (Below.refl _ _) (Nat.le_refl _) (by simp) ?_; (case hd => rfl); (case hg => rfl); (case hr => first | (go_simp; done) | (go_simp; rfl)); (case hp => exact (Reps.none _ _)); intro v246 w3 ho4 hb hg_ hnew_; clear hg_ hnew_; (first | rw [← Ny245.out] at ho4 | (simp only [Int.reduceToNat] at ho4; rw [← Ny245.out] at ho4)); have HO247 := am (Kd.R_lower ho4 (zs_ HB.out)); replace HB := am (below_step (zB HB.out) hb); clear hb ho4))
 go_loopg [5, 11] k (fun kq v5 v11 w' => ∃ (x5_1 : List Int) (x11_1 : Int), v11 = .int .i64 x11_1 ∧ Aside0 (impl_added.l0 kq l1 x5_1 l0 (l0.length : Int) x11_1 = some r) ∧ Aside0 (kq ≤ k) ∧ Aside0 (Kd.R (Kd.int .u8) 5 w' w.heap.size (fun _ => True) v5 x5_1) ∧ Aside0 (Below w.heap.size w w'))
 case atStart => exact ⟨(y245), (0), rfl, H', ⟨Nat.le_refl _⟩, ⟨zR HO247.out⟩, ⟨zB HB.out⟩⟩
 case round =>
  clear H'; obtain ⟨x5_1, x11_1, rfl, HA, HK1, HO_5, HB⟩ := hrel
  cases gk with
  | zero => exact absurd HA.out (by simp [impl_added.l0])
  | succ k1 =>
   have H := HA.out; clear HA
   simp only [impl_added.l0] at H
   by_cases c5 : x11_1 < (l0.length : Int)
   ·rw [if_pos c5] at H; have c5b0 := decide_eq_true c5; clear c5
    obtain ⟨c6, H⟩ := it_ H; have c6b0 := decide_eq_true c6; clear c6
    obtain ⟨c7, H⟩ := it_ H; have c7b0 := decide_eq_true c7; clear c7
    obtain ⟨c8, H⟩ := it_ H; have c8b0 := decide_eq_true c8; clear c8
    obtain ⟨c9, H⟩ := it_ H; have LMc9 := am c9; clear c9; obtain ⟨y250, hy250⟩ : ∃ y_ : List Int, y_ = (x5_1 ++ [Go.bits .xor .u8 (rd l0 x11_1) (rd l1 x11_1)]) := ⟨_, rfl⟩
    replace H : (impl_added.l0 k1 l1 y250 l0 (l0.length : Int) (wrap64 (x11_1 + 1))) = some r := by first | (rw [hy250]; exact H) | (have H2_ := (Option.bind_some _ _).symm.trans H; first | exact H2_ | (rw [hy250]; exact H2_)) | exact H
    have Ny250 := am hy250; clear hy250; have H' := am H; clear H; have p248 : 0 ≤ (x11_1 : Int) := od_; have q248 : x11_1 < (l0.length : Int) := od_; obtain ⟨ad248, e248, hx248_0⟩ := Kd.at_int HR0.out x11_1 p248 q248; cases e248; replace hx248_0 := (HB.out.cell (World.block_lt_of_cell? w _ hx248_0)).trans hx248_0; replace p248 := eq_true p248; replace q248 := eq_true q248; have p249 : 0 ≤ (x11_1 : Int) := od_; have q249 : x11_1 < (l1.length : Int) := od_; obtain ⟨ad249, e249, hx249_0⟩ := Kd.at_int HR1.out x11_1 p249 q249; cases e249; replace hx249_0 := (HB.out.cell (World.block_lt_of_cell? w _ hx249_0)).trans hx249_0; replace p249 := eq_true p249; replace q249 := eq_true q249
    go_wp2_with (first | ((with_reducible refine gate_builtin (b := .append) (xs := #[.tmp 16, .tmp 23]) rfl ?_); at_builtin; refine Kd.R_append (Kd.int .u8) (w0 := w) w.heap.size rfl (.tmp 16) (.tmp 23) 75 5 (.int .u8 0) 1 rfl Try.underlying75 info5 rfl (by decide) (by omega) u5 x5_1 (Go.bits .xor .u8 (rd l0 x11_1) (rd l1 x11_1)) [.int .u8 (Go.bits .xor .u8 (rd l0 x11_1) (rd l1 x11_1))] (fun _ => True) (fun _ => False) rfl rfl ?aP (fun _ hk => hk.elim) ?aF ?aO ?aB ?aS ?aL ?_; (case aP => exact rfl); (case aB => exact (zB HB.out)); (case aF => exact (fun _ _ => trivial)); (case aO => exact (zR HO_5.out)); (case aS => exact (zs_ HB.out)); (case aL => have := LMc9.out; omega); intro v251 w10 ho hb hg hat; rw [← Ny250.out] at ho; replace HB := am (hb); have HO252 := am (ho); (try clear HO_5); clear ho hb hg hat))
    go_roundg k1
    case measure => have := HK1.out; omega
    case rel => exact ⟨(y250), (wrap64 (x11_1 + 1)), rfl, H', ⟨by have := HK1.out; omega⟩, ⟨zR HO252.out⟩, ⟨zB HB.out⟩⟩
   ·rw [if_neg c5] at H; have c5b0 := decide_eq_false c5; clear c5; obtain rfl := Option.some.inj H
    go_wp2
    go_ret
    exact ⟨_, rfl, zR HO_5.out, zB HB.out⟩

/-! ### impl_sumOf: function 83 -/
def impl_sumOf.f (k : Nat) (a0 : ByteArray) (a1 : ByteArray) : Option (ByteArray) := (conv_bytes.f a0).bind fun t253 => ((conv_bytes.f a1).bind fun t256 => ((impl_added.f k t253 t256).bind fun t259 => (some (strOfNums t259))))
theorem impl_sumOf.mono : ∀ a0 a1 k, LeO (impl_sumOf.f k a0 a1) (impl_sumOf.f (k + 1) a0 a1) := by
 intro a0 a1 k
 unfold impl_sumOf.f
 repeat' first | apply LeO.refl | apply LeO.none | apply LeO.ite | apply impl_added.mono | (refine LeO.bind ?_ (fun _ => ?_))
set_option maxHeartbeats 8000000 in
set_option maxRecDepth 100000 in
theorem impl_sumOf.calls (k : Nat) (a0 : ByteArray) (a1 : ByteArray) (r : ByteArray) (w : World) (h : impl_sumOf.f k a0 a1 = some r) :
  Calls Try.prog 83 #[.string a0, .string a1] w fun e w' => e = .returned (.string r) ∧ Below w.heap.size w w' := by
 have HB := am (Below.refl w.heap.size w); have H : ((conv_bytes.f a0).bind fun t253 => ((conv_bytes.f a1).bind fun t256 => ((impl_added.f k t253 t256).bind fun t259 => (some (strOfNums t259))))) = some r := h; clear h; obtain ⟨t253, A3, H⟩ := bi_ H; obtain ⟨t256, A4, H⟩ := bi_ H; obtain ⟨t259, A5, H⟩ := bi_ H; obtain rfl := Option.some.inj H
 go_enter Try.func83, Try.ntmps83
 go_wp2_with (first | ((with_reducible refine gate_dst (N := 6) rfl ?_); refine conv_goes (some 6) rfl rfl 9 75 5 Try.underlying9 Try.underlying75 Try.underlying5 _ a0 rfl rfl ?_; (with_reducible refine (conv_bytes.calls a0 t253 _ A3.out).mono ?_); rintro e w6 ⟨v254, rfl, ho0, hb⟩; refine ⟨_, rfl, ?_⟩; have HO255 := am (Kd.V_lower (Kd.V_mono (ok' := fun k_ => True) ho0 (fun k_ hk_ => trivial)) (zs_ HB.out)); replace HB := am (below_step (zB HB.out) hb); (try clear hb); (try clear ho0)) | ((with_reducible refine gate_dst (N := 8) rfl ?_); refine conv_goes (some 8) rfl rfl 9 75 5 Try.underlying9 Try.underlying75 Try.underlying5 _ a1 rfl rfl ?_; (with_reducible refine (conv_bytes.calls a1 t256 _ A4.out).mono ?_); rintro e w7 ⟨v257, rfl, ho0, hb⟩; refine ⟨_, rfl, ?_⟩; replace HO255 := am (Kd.V_below (zV HO255.out) hb); have HO258 := am (Kd.V_lower (Kd.V_mono (ok' := fun k_ => True) ho0 (fun k_ hk_ => trivial)) (zs_ HB.out)); replace HB := am (below_step (zB HB.out) hb); (try clear hb); (try clear ho0); obtain ⟨Ao8, co8, eo8⟩ := Kd.V_slice HO255.out; subst eo8; obtain ⟨Ao9, co9, eo9⟩ := Kd.V_slice HO258.out; subst eo9) | ((with_reducible refine gate_callee (f := 101) rfl ?_); refine goL_ (some 9) Try.func101 #[.slice Ao8 t253.length co8, .slice Ao9 t256.length co9] ?_; (with_reducible refine (impl_added.calls k _ _ t253 _ _ t256 t259 _ ?side1 ?side2 ?side3 ?side4 A5.out).mono ?_); (case side1 => exact zC ((Kd.V_reads' HO255.out).2.2)); (case side2 => exact (Kd.V_reads' HO255.out).2.1); (case side3 => exact zC ((Kd.V_reads' HO258.out).2.2)); (case side4 => exact (Kd.V_reads' HO258.out).2.1); rintro e w10 ⟨v260, rfl, ho0, hb⟩; refine ⟨_, rfl, ?_⟩; replace HO255 := am (Kd.V_elder' (zV HO255.out) (Kd.R_base ho0) hb); replace HO258 := am (Kd.V_elder' (zV HO258.out) (Kd.R_base ho0) hb); have HO261 := am (Kd.R_lower ho0 (zs_ HB.out)); replace HB := am (below_step (zB HB.out) hb); (try clear hb); (try clear ho0); have hcv11 := own_string (P := Try.prog) Try.underlying75 Try.underlying5 Try.underlying9 (Kd.own_of_R HO261.out)))
 go_ret
 exact ⟨rfl, zB HB.out⟩

end Go.Proofs.Ytimajkahadhhhaa.PFnExactStepPeel
