/- A law's functions as plain Lean functions, each with the walk that shows that the code computes it: written by this session's program wip/tools/ppmake.py. -/
import Derived.Laws.RangeString
import Derived.Lib.OthersKept
import Derived.Test.YtaofmiigbhfnbaaDoorPFnViterbix0
import Derived.Test.YtaofmiigbhfnbaaDoorPFnViterbix1
import Derived.Test.YtaofmiigbhfnbaaDoorPFnViterbix4
import Derived.Test.YtaofmiigbhfnbaaDoorPFnViterbix5
import Derived.Test.YtaofmiigbhfnbaaDoorPFnViterbix6
import Derived.Test.YtaofmiigbhfnbaaDoorPFnViterbix7
import Derived.Test.YtaofmiigbhfnbaaDoorPFnViterbix8
namespace Go.Proofs.YtaofmiigbhfnbaaDoor.PFnViterbi
open Go.RowKit Go.Proofs.YtaofmiigbhfnbaaDoorW.PrintWords Go.Proofs.YtaofmiigbhfnbaaDoorW.PrintLast Go.Proofs.YtaofmiigbhfnbaaDoorW.PrintMore
attribute [local go_sem] max2_int min2_int max_two min_two max_three min_three max_four min_four   -- for this text's walks alone
set_option linter.unusedVariables false
set_option linter.unusedSimpArgs false

attribute [local go_sem high] eqA39
/-! ### laws_FnViterbi: function 9 -/
theorem iter_event {P : Program} {ops : Array Oper} {Q : Exit → Act → World → Prop} {rest : List Oper} {o : Oper} {a : Act} {W : World} {s : ByteArray} (hgd : o.guard = none) {N : Tmp} (_hd : o.dst = some N)
    (hrun : (execOp a.eval o).run P W = .ok (.value (.pointer (some ⟨W.heap.size, 0, none⟩))) (W.alloc (.stringIter s 0)))
    (h : ∀ g, g = W.heap.size → ∀ w1 : World, w1.heap[g]? = some (.stringIter s 0) → Below W.heap.size W w1 → wpList P ops Q rest (a.put o.dst (.pointer (some ⟨g, 0, none⟩))) w1) : wpList P ops Q (o :: rest) a W :=
  Kd.event_run hgd hrun (h _ rfl _ (blk_new W _) (below_alloc (Below.refl _ _) _))
theorem vit_base {d : Kd Int} {e : Nat} {w : World} {base : Nat} {ok : Nat → Prop} {g n cap : Nat} {xs : List Int} (h : KdW.R d e w base ok (.slice (some ⟨g, 0, none⟩) n cap) xs) : base ≤ g := by
  obtain ⟨g_, cap_, cur, fr, hv, hb, _⟩ := h
  injection hv with h1 _ _
  injection h1 with h1
  injection h1 with h1 _ _
  omega
mutual
def laws_FnViterbi.j0 : Nat → List Int → ByteArray → Bool → List (S39) → List (S39) → Bool → ByteArray → Int → Option (Bool)
  | 0, _, _, _, _, _, _, _, _ => none
  | k + 1, x1, x5, x7, x10, x12, x74, x251000, x251001 => if x74 = true then (some false) else (laws_FnViterbi.l0 k x1 x5 x7 x10 x12 (x10.length : Int) 0 x251000 x251001)
def laws_FnViterbi.l0 : Nat → List Int → ByteArray → Bool → List (S39) → List (S39) → Int → Int → ByteArray → Int → Option (Bool)
  | 0, _, _, _, _, _, _, _, _, _ => none
  | k + 1, x1, x5, x7, x10, x12, x76, x77, x251000, x251001 => if x77 < x76 then (if 0 ≤ x77 then (if x77 < (x10.length : Int) then (if x77 < (x12.length : Int) then (if (!((((rd_T39 x10 x77).f0).toList) == (((rd_T39 x12 x77).f0).toList)) || (!(((rd_T39 x10 x77).f1) == ((rd_T39 x12 x77).f1)))) = true then (some false) else (laws_FnViterbi.l0 k x1 x5 x7 x10 x12 x76 (wrap64 (x77 + 1)) x251000 x251001)) else (none)) else (none)) else (none)) else (if x7 = true then ((impl_CostOf.f k x251000 x5).bind fun bt265 => (if bt265.2 = true then (laws_FnViterbi.j2 k x1 x5 (bt265.1 != x251001) x251000 x251001) else (laws_FnViterbi.j2 k x1 x5 true x251000 x251001))) else (some (x251001 == 0)))
def laws_FnViterbi.j2 : Nat → List Int → ByteArray → Bool → ByteArray → Int → Option (Bool)
  | 0, _, _, _, _, _ => none
  | k + 1, x1, x5, x109, x251000, x251001 => if x109 = true then (some false) else (if 0 ≤ (x251000.size : Int) then (if ((x251000.size : Int) : Int).toNat ≤ 281474976710656 then (laws_FnViterbi.l1 k x1 x5 (List.replicate ((x251000.size : Int) : Int).toNat 0) 0 x251000 x251001) else (none)) else (none))
def laws_FnViterbi.l1 : Nat → List Int → ByteArray → List Int → Int → ByteArray → Int → Option (Bool)
  | 0, _, _, _, _, _, _ => none
  | k + 1, x1, x5, x17, x18, x251000, x251001 => if x18 < 8 then (laws_FnViterbi.l2 k x1 x5 x17 x18 (x17.length : Int) 0 x251000 x251001) else (laws_FnViterbi.l3 k x5 (x251000.size : Int) 0 x251000 x251001)
def laws_FnViterbi.l2 : Nat → List Int → ByteArray → List Int → Int → Int → Int → ByteArray → Int → Option (Bool)
  | 0, _, _, _, _, _, _, _, _ => none
  | k + 1, x1, x5, x17, x18, x119, x120, x251000, x251001 => if x120 < x119 then (if 0 ≤ x120 then (if x120 < (x17.length : Int) then ((some (x17.set (x120 : Int).toNat 48 : List Int)).bind fun y270 => (if (wrap64 (x120 + (wrap64 (x18 * (x17.length : Int))))) < (x1.length : Int) then (if 0 ≤ (wrap64 (x120 + (wrap64 (x18 * (x17.length : Int))))) then (laws_FnViterbi.l2 k x1 x5 (y270.set (x120 : Int).toNat ((48 + (Int.tmod (rd x1 (wrap64 (x120 + (wrap64 (x18 * (x17.length : Int)))))) 2)) % 256)) x18 x119 (wrap64 (x120 + 1)) x251000 x251001) else (none)) else (laws_FnViterbi.l2 k x1 x5 y270 x18 x119 (wrap64 (x120 + 1)) x251000 x251001))) else (none)) else (none)) else ((impl_CostOf.f k (strOfNums x17) x5).bind fun bt273 => (if bt273.2 = true then (if bt273.1 < x251001 then (some false) else (if bt273.1 = x251001 then (if (Op.bytesLess ((strOfNums x17).toList) x251000.toList) = true then (some false) else (laws_FnViterbi.l1 k x1 x5 x17 (wrap64 (x18 + 1)) x251000 x251001)) else (laws_FnViterbi.l1 k x1 x5 x17 (wrap64 (x18 + 1)) x251000 x251001))) else (some false)))
def laws_FnViterbi.l3 : Nat → ByteArray → Int → Int → ByteArray → Int → Option (Bool)
  | 0, _, _, _, _, _ => none
  | k + 1, x5, x176, x177, x251000, x251001 => if x177 < x176 then (if (bt x251000 x177) < 128 then ((conv_bytes.f x251000).bind fun t275 => (if 0 ≤ x177 then (if x177 < (t275.length : Int) then ((impl_CostOf.f k (strOfNums (t275.set (x177 : Int).toNat (Go.bits .xor .u8 (rd t275 x177) 1))) x5).bind fun bt280 => (if bt280.2 = true then (if bt280.1 < x251001 then (some false) else (laws_FnViterbi.l3 k x5 x176 (wrap64 (x177 + 1)) x251000 x251001)) else (some false))) else (none)) else (none))) else (none)) else (some true)
end
def laws_FnViterbi.f (k : Nat) (l0 : List Int) (l1 : List Int) : Option (Bool) := if (wrap64 ((l0.length : Int) + (l1.length : Int))) > 1048576 then (some true) else ((spec_DrawDecodeBits.f k l0).bind fun t246 => ((impl_DecodeBits.f k t246).bind fun bt247 => ((spec_DecodeBits.f k t246).bind fun bt251 => ((impl_BestPaths.f k t246).bind fun bt255 => ((spec_BestPaths.f k t246).bind fun bt259 => (if (bt247.2.2 != bt251.2.2) = true then (laws_FnViterbi.j0 k l1 t246 bt247.2.2 bt255.1 bt259.1 true bt247.1 bt247.2.1) else (if (!(bt247.1.toList == bt251.1.toList) || (!(bt247.2.1 == bt251.2.1))) = true then (laws_FnViterbi.j0 k l1 t246 bt247.2.2 bt255.1 bt259.1 true bt247.1 bt247.2.1) else (if (bt255.2 != bt259.2) = true then (laws_FnViterbi.j0 k l1 t246 bt247.2.2 bt255.1 bt259.1 true bt247.1 bt247.2.1) else (laws_FnViterbi.j0 k l1 t246 bt247.2.2 bt255.1 bt259.1 ((bt255.1.length : Int) != (bt259.1.length : Int)) bt247.1 bt247.2.1)))))))))
theorem laws_FnViterbi.mono_l : ∀ k, (∀ y0 y1 y2 y3 y4 y5 y6 y7, LeO (laws_FnViterbi.j0 k y0 y1 y2 y3 y4 y5 y6 y7) (laws_FnViterbi.j0 (k + 1) y0 y1 y2 y3 y4 y5 y6 y7)) ∧ (∀ y0 y1 y2 y3 y4 y5 y6 y7 y8, LeO (laws_FnViterbi.l0 k y0 y1 y2 y3 y4 y5 y6 y7 y8) (laws_FnViterbi.l0 (k + 1) y0 y1 y2 y3 y4 y5 y6 y7 y8)) ∧ (∀ y0 y1 y2 y3 y4, LeO (laws_FnViterbi.j2 k y0 y1 y2 y3 y4) (laws_FnViterbi.j2 (k + 1) y0 y1 y2 y3 y4)) ∧ (∀ y0 y1 y2 y3 y4 y5, LeO (laws_FnViterbi.l1 k y0 y1 y2 y3 y4 y5) (laws_FnViterbi.l1 (k + 1) y0 y1 y2 y3 y4 y5)) ∧ (∀ y0 y1 y2 y3 y4 y5 y6 y7, LeO (laws_FnViterbi.l2 k y0 y1 y2 y3 y4 y5 y6 y7) (laws_FnViterbi.l2 (k + 1) y0 y1 y2 y3 y4 y5 y6 y7)) ∧ (∀ y0 y1 y2 y3 y4, LeO (laws_FnViterbi.l3 k y0 y1 y2 y3 y4) (laws_FnViterbi.l3 (k + 1) y0 y1 y2 y3 y4))
  | 0 => ⟨fun _ _ _ _ _ _ _ _ r h => by simp [laws_FnViterbi.j0] at h, fun _ _ _ _ _ _ _ _ _ r h => by simp [laws_FnViterbi.l0] at h, fun _ _ _ _ _ r h => by simp [laws_FnViterbi.j2] at h, fun _ _ _ _ _ _ r h => by simp [laws_FnViterbi.l1] at h, fun _ _ _ _ _ _ _ _ r h => by simp [laws_FnViterbi.l2] at h, fun _ _ _ _ _ r h => by simp [laws_FnViterbi.l3] at h⟩
  | k + 1 => by
    obtain ⟨ih0, ih1, ih2, ih3, ih4, ih5⟩ := laws_FnViterbi.mono_l k
    refine ⟨?_, ?_, ?_, ?_, ?_, ?_⟩
    · intro y0 y1 y2 y3 y4 y5 y6 y7
      unfold laws_FnViterbi.j0
      repeat' first
      | (with_reducible exact ih0 _ _ _ _ _ _ _ _)
      | (with_reducible exact ih1 _ _ _ _ _ _ _ _ _)
      | (with_reducible exact ih2 _ _ _ _ _)
      | (with_reducible exact ih3 _ _ _ _ _ _)
      | (with_reducible exact ih4 _ _ _ _ _ _ _ _)
      | (with_reducible exact ih5 _ _ _ _ _)
      | (with_reducible exact impl_BestPaths.mono _ _)
      | (with_reducible exact impl_CostOf.mono _ _ _)
      | (with_reducible exact impl_DecodeBits.mono _ _)
      | (with_reducible exact spec_BestPaths.mono _ _)
      | (with_reducible exact spec_DecodeBits.mono _ _)
      | (with_reducible exact spec_DrawDecodeBits.mono _ _)
      | (with_reducible exact LeO.refl _)
      | (with_reducible exact LeO.none _)
      | (with_reducible refine LeO.ite ?_ ?_)
      | (with_reducible refine LeO.bind ?_ (fun _ => ?_))
      | exact ih0 _ _ _ _ _ _ _ _
      | exact ih1 _ _ _ _ _ _ _ _ _
      | exact ih2 _ _ _ _ _
      | exact ih3 _ _ _ _ _ _
      | exact ih4 _ _ _ _ _ _ _ _
      | exact ih5 _ _ _ _ _
      | exact impl_BestPaths.mono _ _
      | exact impl_CostOf.mono _ _ _
      | exact impl_DecodeBits.mono _ _
      | exact spec_BestPaths.mono _ _
      | exact spec_DecodeBits.mono _ _
      | exact spec_DrawDecodeBits.mono _ _
      | exact LeO.none _
      | refine LeO.ite ?_ ?_
      | refine LeO.bind ?_ (fun _ => ?_)
    · intro y0 y1 y2 y3 y4 y5 y6 y7 y8
      unfold laws_FnViterbi.l0
      repeat' first
      | (with_reducible exact ih0 _ _ _ _ _ _ _ _)
      | (with_reducible exact ih1 _ _ _ _ _ _ _ _ _)
      | (with_reducible exact ih2 _ _ _ _ _)
      | (with_reducible exact ih3 _ _ _ _ _ _)
      | (with_reducible exact ih4 _ _ _ _ _ _ _ _)
      | (with_reducible exact ih5 _ _ _ _ _)
      | (with_reducible exact impl_BestPaths.mono _ _)
      | (with_reducible exact impl_CostOf.mono _ _ _)
      | (with_reducible exact impl_DecodeBits.mono _ _)
      | (with_reducible exact spec_BestPaths.mono _ _)
      | (with_reducible exact spec_DecodeBits.mono _ _)
      | (with_reducible exact spec_DrawDecodeBits.mono _ _)
      | (with_reducible exact LeO.refl _)
      | (with_reducible exact LeO.none _)
      | (with_reducible refine LeO.ite ?_ ?_)
      | (with_reducible refine LeO.bind ?_ (fun _ => ?_))
      | exact ih0 _ _ _ _ _ _ _ _
      | exact ih1 _ _ _ _ _ _ _ _ _
      | exact ih2 _ _ _ _ _
      | exact ih3 _ _ _ _ _ _
      | exact ih4 _ _ _ _ _ _ _ _
      | exact ih5 _ _ _ _ _
      | exact impl_BestPaths.mono _ _
      | exact impl_CostOf.mono _ _ _
      | exact impl_DecodeBits.mono _ _
      | exact spec_BestPaths.mono _ _
      | exact spec_DecodeBits.mono _ _
      | exact spec_DrawDecodeBits.mono _ _
      | exact LeO.none _
      | refine LeO.ite ?_ ?_
      | refine LeO.bind ?_ (fun _ => ?_)
    · intro y0 y1 y2 y3 y4
      unfold laws_FnViterbi.j2
      repeat' first
      | (with_reducible exact ih0 _ _ _ _ _ _ _ _)
      | (with_reducible exact ih1 _ _ _ _ _ _ _ _ _)
      | (with_reducible exact ih2 _ _ _ _ _)
      | (with_reducible exact ih3 _ _ _ _ _ _)
      | (with_reducible exact ih4 _ _ _ _ _ _ _ _)
      | (with_reducible exact ih5 _ _ _ _ _)
      | (with_reducible exact impl_BestPaths.mono _ _)
      | (with_reducible exact impl_CostOf.mono _ _ _)
      | (with_reducible exact impl_DecodeBits.mono _ _)
      | (with_reducible exact spec_BestPaths.mono _ _)
      | (with_reducible exact spec_DecodeBits.mono _ _)
      | (with_reducible exact spec_DrawDecodeBits.mono _ _)
      | (with_reducible exact LeO.refl _)
      | (with_reducible exact LeO.none _)
      | (with_reducible refine LeO.ite ?_ ?_)
      | (with_reducible refine LeO.bind ?_ (fun _ => ?_))
      | exact ih0 _ _ _ _ _ _ _ _
      | exact ih1 _ _ _ _ _ _ _ _ _
      | exact ih2 _ _ _ _ _
      | exact ih3 _ _ _ _ _ _
      | exact ih4 _ _ _ _ _ _ _ _
      | exact ih5 _ _ _ _ _
      | exact impl_BestPaths.mono _ _
      | exact impl_CostOf.mono _ _ _
      | exact impl_DecodeBits.mono _ _
      | exact spec_BestPaths.mono _ _
      | exact spec_DecodeBits.mono _ _
      | exact spec_DrawDecodeBits.mono _ _
      | exact LeO.none _
      | refine LeO.ite ?_ ?_
      | refine LeO.bind ?_ (fun _ => ?_)
    · intro y0 y1 y2 y3 y4 y5
      unfold laws_FnViterbi.l1
      repeat' first
      | (with_reducible exact ih0 _ _ _ _ _ _ _ _)
      | (with_reducible exact ih1 _ _ _ _ _ _ _ _ _)
      | (with_reducible exact ih2 _ _ _ _ _)
      | (with_reducible exact ih3 _ _ _ _ _ _)
      | (with_reducible exact ih4 _ _ _ _ _ _ _ _)
      | (with_reducible exact ih5 _ _ _ _ _)
      | (with_reducible exact impl_BestPaths.mono _ _)
      | (with_reducible exact impl_CostOf.mono _ _ _)
      | (with_reducible exact impl_DecodeBits.mono _ _)
      | (with_reducible exact spec_BestPaths.mono _ _)
      | (with_reducible exact spec_DecodeBits.mono _ _)
      | (with_reducible exact spec_DrawDecodeBits.mono _ _)
      | (with_reducible exact LeO.refl _)
      | (with_reducible exact LeO.none _)
      | (with_reducible refine LeO.ite ?_ ?_)
      | (with_reducible refine LeO.bind ?_ (fun _ => ?_))
      | exact ih0 _ _ _ _ _ _ _ _
      | exact ih1 _ _ _ _ _ _ _ _ _
      | exact ih2 _ _ _ _ _
      | exact ih3 _ _ _ _ _ _
      | exact ih4 _ _ _ _ _ _ _ _
      | exact ih5 _ _ _ _ _
      | exact impl_BestPaths.mono _ _
      | exact impl_CostOf.mono _ _ _
      | exact impl_DecodeBits.mono _ _
      | exact spec_BestPaths.mono _ _
      | exact spec_DecodeBits.mono _ _
      | exact spec_DrawDecodeBits.mono _ _
      | exact LeO.none _
      | refine LeO.ite ?_ ?_
      | refine LeO.bind ?_ (fun _ => ?_)
    · intro y0 y1 y2 y3 y4 y5 y6 y7
      unfold laws_FnViterbi.l2
      repeat' first
      | (with_reducible exact ih0 _ _ _ _ _ _ _ _)
      | (with_reducible exact ih1 _ _ _ _ _ _ _ _ _)
      | (with_reducible exact ih2 _ _ _ _ _)
      | (with_reducible exact ih3 _ _ _ _ _ _)
      | (with_reducible exact ih4 _ _ _ _ _ _ _ _)
      | (with_reducible exact ih5 _ _ _ _ _)
      | (with_reducible exact impl_BestPaths.mono _ _)
      | (with_reducible exact impl_CostOf.mono _ _ _)
      | (with_reducible exact impl_DecodeBits.mono _ _)
      | (with_reducible exact spec_BestPaths.mono _ _)
      | (with_reducible exact spec_DecodeBits.mono _ _)
      | (with_reducible exact spec_DrawDecodeBits.mono _ _)
      | (with_reducible exact LeO.refl _)
      | (with_reducible exact LeO.none _)
      | (with_reducible refine LeO.ite ?_ ?_)
      | (with_reducible refine LeO.bind ?_ (fun _ => ?_))
      | exact ih0 _ _ _ _ _ _ _ _
      | exact ih1 _ _ _ _ _ _ _ _ _
      | exact ih2 _ _ _ _ _
      | exact ih3 _ _ _ _ _ _
      | exact ih4 _ _ _ _ _ _ _ _
      | exact ih5 _ _ _ _ _
      | exact impl_BestPaths.mono _ _
      | exact impl_CostOf.mono _ _ _
      | exact impl_DecodeBits.mono _ _
      | exact spec_BestPaths.mono _ _
      | exact spec_DecodeBits.mono _ _
      | exact spec_DrawDecodeBits.mono _ _
      | exact LeO.none _
      | refine LeO.ite ?_ ?_
      | refine LeO.bind ?_ (fun _ => ?_)
    · intro y0 y1 y2 y3 y4
      unfold laws_FnViterbi.l3
      repeat' first
      | (with_reducible exact ih0 _ _ _ _ _ _ _ _)
      | (with_reducible exact ih1 _ _ _ _ _ _ _ _ _)
      | (with_reducible exact ih2 _ _ _ _ _)
      | (with_reducible exact ih3 _ _ _ _ _ _)
      | (with_reducible exact ih4 _ _ _ _ _ _ _ _)
      | (with_reducible exact ih5 _ _ _ _ _)
      | (with_reducible exact impl_BestPaths.mono _ _)
      | (with_reducible exact impl_CostOf.mono _ _ _)
      | (with_reducible exact impl_DecodeBits.mono _ _)
      | (with_reducible exact spec_BestPaths.mono _ _)
      | (with_reducible exact spec_DecodeBits.mono _ _)
      | (with_reducible exact spec_DrawDecodeBits.mono _ _)
      | (with_reducible exact LeO.refl _)
      | (with_reducible exact LeO.none _)
      | (with_reducible refine LeO.ite ?_ ?_)
      | (with_reducible refine LeO.bind ?_ (fun _ => ?_))
      | exact ih0 _ _ _ _ _ _ _ _
      | exact ih1 _ _ _ _ _ _ _ _ _
      | exact ih2 _ _ _ _ _
      | exact ih3 _ _ _ _ _ _
      | exact ih4 _ _ _ _ _ _ _ _
      | exact ih5 _ _ _ _ _
      | exact impl_BestPaths.mono _ _
      | exact impl_CostOf.mono _ _ _
      | exact impl_DecodeBits.mono _ _
      | exact spec_BestPaths.mono _ _
      | exact spec_DecodeBits.mono _ _
      | exact spec_DrawDecodeBits.mono _ _
      | exact LeO.none _
      | refine LeO.ite ?_ ?_
      | refine LeO.bind ?_ (fun _ => ?_)
theorem laws_FnViterbi.mono : ∀ a0 a1 k, LeO (laws_FnViterbi.f k a0 a1) (laws_FnViterbi.f (k + 1) a0 a1) := by
  intro a0 a1 k
  obtain ⟨ih0, ih1, ih2, ih3, ih4, ih5⟩ := laws_FnViterbi.mono_l k
  unfold laws_FnViterbi.f
  repeat' first
      | (with_reducible exact ih0 _ _ _ _ _ _ _ _)
      | (with_reducible exact ih1 _ _ _ _ _ _ _ _ _)
      | (with_reducible exact ih2 _ _ _ _ _)
      | (with_reducible exact ih3 _ _ _ _ _ _)
      | (with_reducible exact ih4 _ _ _ _ _ _ _ _)
      | (with_reducible exact ih5 _ _ _ _ _)
      | (with_reducible exact impl_BestPaths.mono _ _)
      | (with_reducible exact impl_CostOf.mono _ _ _)
      | (with_reducible exact impl_DecodeBits.mono _ _)
      | (with_reducible exact spec_BestPaths.mono _ _)
      | (with_reducible exact spec_DecodeBits.mono _ _)
      | (with_reducible exact spec_DrawDecodeBits.mono _ _)
      | (with_reducible exact LeO.refl _)
      | (with_reducible exact LeO.none _)
      | (with_reducible refine LeO.ite ?_ ?_)
      | (with_reducible refine LeO.bind ?_ (fun _ => ?_))
      | exact ih0 _ _ _ _ _ _ _ _
      | exact ih1 _ _ _ _ _ _ _ _ _
      | exact ih2 _ _ _ _ _
      | exact ih3 _ _ _ _ _ _
      | exact ih4 _ _ _ _ _ _ _ _
      | exact ih5 _ _ _ _ _
      | exact impl_BestPaths.mono _ _
      | exact impl_CostOf.mono _ _ _
      | exact impl_DecodeBits.mono _ _
      | exact spec_BestPaths.mono _ _
      | exact spec_DecodeBits.mono _ _
      | exact spec_DrawDecodeBits.mono _ _
      | exact LeO.none _
      | refine LeO.ite ?_ ?_
      | refine LeO.bind ?_ (fun _ => ?_)
set_option maxHeartbeats 8000000 in
set_option maxRecDepth 100000 in
theorem laws_FnViterbi.calls (k : Nat) (A0 : Option Addr) (c0 : Nat) (l0 : List Int) (A1 : Option Addr) (c1 : Nat) (l1 : List Int) (r : Bool) (w : World) (hr0 : Kd.C (Kd.int .u8) w A0 l0.length l0) (hc0 : l0.length ≤ c0) (hr1 : Kd.C (Kd.int .u8) w A1 l1.length l1) (hc1 : l1.length ≤ c1) (h : laws_FnViterbi.f k l0 l1 = some r) :
    Calls Tryd.prog 9 #[.slice A0 l0.length c0, .slice A1 l1.length c1] w fun e w' => e = .returned (.bool r) ∧ Below w.heap.size w w' := by
  have hu39 := Tryd.underlying39
  have HR0 := Aside0.mk hr0
  have HC0 := Aside0.mk hc0
  clear hr0 hc0
  have HR1 := Aside0.mk hr1
  have HC1 := Aside0.mk hc1
  clear hr1 hc1
  have HB := Aside0.mk (Below.refl w.heap.size w)
  have H : (if (wrap64 ((l0.length : Int) + (l1.length : Int))) > 1048576 then (some true) else ((spec_DrawDecodeBits.f k l0).bind fun t246 => ((impl_DecodeBits.f k t246).bind fun bt247 => ((spec_DecodeBits.f k t246).bind fun bt251 => ((impl_BestPaths.f k t246).bind fun bt255 => ((spec_BestPaths.f k t246).bind fun bt259 => (if (bt247.2.2 != bt251.2.2) = true then (laws_FnViterbi.j0 k l1 t246 bt247.2.2 bt255.1 bt259.1 true bt247.1 bt247.2.1) else (if (!(bt247.1.toList == bt251.1.toList) || (!(bt247.2.1 == bt251.2.1))) = true then (laws_FnViterbi.j0 k l1 t246 bt247.2.2 bt255.1 bt259.1 true bt247.1 bt247.2.1) else (if (bt255.2 != bt259.2) = true then (laws_FnViterbi.j0 k l1 t246 bt247.2.2 bt255.1 bt259.1 true bt247.1 bt247.2.1) else (laws_FnViterbi.j0 k l1 t246 bt247.2.2 bt255.1 bt259.1 ((bt255.1.length : Int) != (bt259.1.length : Int)) bt247.1 bt247.2.1)))))))))) = some r := h
  clear h
  by_cases c3 : (wrap64 ((l0.length : Int) + (l1.length : Int))) > 1048576
  · rw [if_pos c3] at H
    have c3b0 : decide (1048576 < (wrap64 ((l0.length : Int) + (l1.length : Int)))) = true := decide_eq_true c3
    clear c3
    obtain rfl := Option.some.inj H
    go_enter Tryd.func9, Tryd.ntmps9
    go_wp2
    repeat (go_quiet (fail); try go_wp2)
    go_ret
    exact ⟨by first | rfl | (simp [errW_none, errW_some] <;> rfl) | (simp [*, errW_none, errW_some] <;> rfl), by repeat (first | (with_reducible first | exact HB.out | apply below_alloc | apply pw_below_drewN | apply below_drew1) | exact HB.out)⟩
  · rw [if_neg c3] at H
    have c3b0 : decide (1048576 < (wrap64 ((l0.length : Int) + (l1.length : Int)))) = false := decide_eq_false c3
    clear c3
    replace H := Option.bind_eq_some_iff.mp H
    obtain ⟨t246, A40, H⟩ := H
    replace H : ((impl_DecodeBits.f k t246).bind fun bt247 => ((spec_DecodeBits.f k t246).bind fun bt251 => ((impl_BestPaths.f k t246).bind fun bt255 => ((spec_BestPaths.f k t246).bind fun bt259 => (if (bt247.2.2 != bt251.2.2) = true then (laws_FnViterbi.j0 k l1 t246 bt247.2.2 bt255.1 bt259.1 true bt247.1 bt247.2.1) else (if (!(bt247.1.toList == bt251.1.toList) || (!(bt247.2.1 == bt251.2.1))) = true then (laws_FnViterbi.j0 k l1 t246 bt247.2.2 bt255.1 bt259.1 true bt247.1 bt247.2.1) else (if (bt255.2 != bt259.2) = true then (laws_FnViterbi.j0 k l1 t246 bt247.2.2 bt255.1 bt259.1 true bt247.1 bt247.2.1) else (laws_FnViterbi.j0 k l1 t246 bt247.2.2 bt255.1 bt259.1 ((bt255.1.length : Int) != (bt259.1.length : Int)) bt247.1 bt247.2.1)))))))) = some r := H
    have A4 := Aside0.mk A40
    clear A40
    replace H := Option.bind_eq_some_iff.mp H
    obtain ⟨⟨t247, t248, t249⟩, A50, H⟩ := H
    replace H : ((spec_DecodeBits.f k t246).bind fun bt251 => ((impl_BestPaths.f k t246).bind fun bt255 => ((spec_BestPaths.f k t246).bind fun bt259 => (if (t249 != bt251.2.2) = true then (laws_FnViterbi.j0 k l1 t246 t249 bt255.1 bt259.1 true t247 t248) else (if (!(t247.toList == bt251.1.toList) || (!(t248 == bt251.2.1))) = true then (laws_FnViterbi.j0 k l1 t246 t249 bt255.1 bt259.1 true t247 t248) else (if (bt255.2 != bt259.2) = true then (laws_FnViterbi.j0 k l1 t246 t249 bt255.1 bt259.1 true t247 t248) else (laws_FnViterbi.j0 k l1 t246 t249 bt255.1 bt259.1 ((bt255.1.length : Int) != (bt259.1.length : Int)) t247 t248))))))) = some r := H
    have A5 := Aside0.mk A50
    clear A50
    replace H := Option.bind_eq_some_iff.mp H
    obtain ⟨⟨t251, t252, t253⟩, A60, H⟩ := H
    replace H : ((impl_BestPaths.f k t246).bind fun bt255 => ((spec_BestPaths.f k t246).bind fun bt259 => (if (t249 != t253) = true then (laws_FnViterbi.j0 k l1 t246 t249 bt255.1 bt259.1 true t247 t248) else (if (!(t247.toList == t251.toList) || (!(t248 == t252))) = true then (laws_FnViterbi.j0 k l1 t246 t249 bt255.1 bt259.1 true t247 t248) else (if (bt255.2 != bt259.2) = true then (laws_FnViterbi.j0 k l1 t246 t249 bt255.1 bt259.1 true t247 t248) else (laws_FnViterbi.j0 k l1 t246 t249 bt255.1 bt259.1 ((bt255.1.length : Int) != (bt259.1.length : Int)) t247 t248)))))) = some r := H
    have A6 := Aside0.mk A60
    clear A60
    replace H := Option.bind_eq_some_iff.mp H
    obtain ⟨⟨t255, t256⟩, A70, H⟩ := H
    replace H : ((spec_BestPaths.f k t246).bind fun bt259 => (if (t249 != t253) = true then (laws_FnViterbi.j0 k l1 t246 t249 t255 bt259.1 true t247 t248) else (if (!(t247.toList == t251.toList) || (!(t248 == t252))) = true then (laws_FnViterbi.j0 k l1 t246 t249 t255 bt259.1 true t247 t248) else (if (t256 != bt259.2) = true then (laws_FnViterbi.j0 k l1 t246 t249 t255 bt259.1 true t247 t248) else (laws_FnViterbi.j0 k l1 t246 t249 t255 bt259.1 ((t255.length : Int) != (bt259.1.length : Int)) t247 t248))))) = some r := H
    have A7 := Aside0.mk A70
    clear A70
    replace H := Option.bind_eq_some_iff.mp H
    obtain ⟨⟨t259, t260⟩, A80, H⟩ := H
    replace H : (if (t249 != t253) = true then (laws_FnViterbi.j0 k l1 t246 t249 t255 t259 true t247 t248) else (if (!(t247.toList == t251.toList) || (!(t248 == t252))) = true then (laws_FnViterbi.j0 k l1 t246 t249 t255 t259 true t247 t248) else (if (t256 != t260) = true then (laws_FnViterbi.j0 k l1 t246 t249 t255 t259 true t247 t248) else (laws_FnViterbi.j0 k l1 t246 t249 t255 t259 ((t255.length : Int) != (t259.length : Int)) t247 t248)))) = some r := H
    have A8 := Aside0.mk A80
    clear A80
    have HC9 := Aside0.mk H
    clear H
    go_enter Tryd.func9, Tryd.ntmps9
    go_upto_region 8 with (first | (go_at_call 29; (with_reducible refine (spec_DrawDecodeBits.calls k _ _ l0 t246 _ ?side1 ?side2 A4.out).mono ?_); (case side1 => repeat (first | exact HR0.out | (with_reducible refine Kd.C_alloc ?_ _) | (with_reducible refine Kd.C_drewN ?_ _) | (with_reducible refine Kd.C_drew ?_))); (case side2 => exact HC0.out); rintro e w10 ⟨rfl, hb⟩; have n0_ := Aside0.mk (below_step (by repeat (first | (with_reducible first | exact HB.out | apply below_alloc | apply pw_below_drewN | apply below_drew1) | exact HB.out)) hb); clear HB; have HB := n0_; clear n0_; (try clear hb); (try clear hb2); (try clear hk); (try clear hi)) | (go_at_call 27; (with_reducible refine (impl_DecodeBits.calls k t246 t247 t248 t249 _ A5.out).mono ?_); rintro e w11 ⟨rfl, hb⟩; have n0_ := Aside0.mk (below_step (by repeat (first | (with_reducible first | exact HB.out | apply below_alloc | apply pw_below_drewN | apply below_drew1) | exact HB.out)) hb); clear HB; have HB := n0_; clear n0_; (try clear hb); (try clear hb2); (try clear hk); (try clear hi)) | ((with_reducible refine gate_dst (N := 6) rfl ?_); (try (refine gate_guard (by rfl) ?_; dsimp only)); refine box_event ?hg (N := 6) ?hd (cs := #[.string (⟨#[]⟩ : ByteArray), .int .i64 0]) (t := 39) ?hr ?_; (case hd => rfl); (case hg => rfl); (case hr => first | (go_simp; done) | (go_simp; rfl)); intro gb250 hg w12 hbox hb; have n0_ := Aside0.mk (below_step (by repeat (first | (with_reducible first | exact HB.out | apply below_alloc | apply pw_below_drewN | apply below_drew1) | exact HB.out)) hb); have n1_ := Aside0.mk (hbox); have n2_ := Aside0.mk ((by rw [hg]; exact (below_size (by repeat (first | (with_reducible first | exact HB.out | apply below_alloc | apply pw_below_drewN | apply below_drew1) | exact HB.out))) : w.heap.size ≤ gb250)); have n3_ := Aside0.mk ((by rw [hg]; exact (below_size (by repeat (first | (with_reducible first | exact HB.out | apply below_alloc | apply pw_below_drewN | apply below_drew1) | exact HB.out))) : w.heap.size ≤ gb250)); clear HB; have HB := n0_; have BK250 := n1_; have GW250 := n2_; have GE250 := n3_; clear n0_ n1_ n2_ n3_; clear hb hbox hg; have hcz13_0 : w12.cell? ⟨gb250, 0, none⟩ = some (.string (⟨#[]⟩ : ByteArray)) := (blk_cell BK250.out 0).trans rfl; have hcz13_1 : w12.cell? ⟨gb250, 1, none⟩ = some (.int .i64 0) := (blk_cell BK250.out 1).trans rfl; have hfz13_0 := blk_frozen BK250.out 0; have hfz13_1 := blk_frozen BK250.out 1) | (go_at_call 26; (with_reducible refine (spec_DecodeBits.calls k t246 t251 t252 t253 _ A6.out).mono ?_); rintro e w14 ⟨rfl, hb⟩; have n0_ := Aside0.mk (blk_below (g := gb250) (o := .cells #[.string t247, .int .i64 t248] 39 (0, 0)) (by (with_reducible repeat (first | refine blk_drewN ?_ _ | refine blk_drew ?_ | refine blk_alloc ?_ _)); refine blk_put (cs := #[.string t247, .int .i64 0]) ?_ 1 _ rfl; (with_reducible repeat (first | refine blk_drewN ?_ _ | refine blk_drew ?_ | refine blk_alloc ?_ _)); refine blk_put (cs := #[.string (⟨#[]⟩ : ByteArray), .int .i64 0]) ?_ 0 _ rfl; (with_reducible repeat (first | refine blk_drewN ?_ _ | refine blk_drew ?_ | refine blk_alloc ?_ _)); exact BK250.out) hb); have n1_ := Aside0.mk (below_step (by repeat (first | (with_reducible first | exact HB.out | apply below_alloc | apply pw_below_drewN | apply below_drew1 | refine below_set ?_ GE250.out) | exact HB.out)) hb); clear BK250; clear HB; have BK250 := n0_; have HB := n1_; clear n0_ n1_; (try clear hb); (try clear hb2); (try clear hk); (try clear hi)) | ((with_reducible refine gate_dst (N := 8) rfl ?_); (try (refine gate_guard (by rfl) ?_; dsimp only)); refine box_event ?hg (N := 8) ?hd (cs := #[.string (⟨#[]⟩ : ByteArray), .int .i64 0]) (t := 39) ?hr ?_; (case hd => rfl); (case hg => rfl); (case hr => first | (go_simp; done) | (go_simp; rfl)); intro gb254 hg w15 hbox hb; have n0_ := Aside0.mk (blk_below (g := gb250) (o := .cells #[.string t247, .int .i64 t248] 39 (0, 0)) (by (with_reducible repeat (first | refine blk_drewN ?_ _ | refine blk_drew ?_ | refine blk_alloc ?_ _)); exact BK250.out) hb); have n1_ := Aside0.mk (below_step (by repeat (first | (with_reducible first | exact HB.out | apply below_alloc | apply pw_below_drewN | apply below_drew1 | refine below_set ?_ GE250.out) | exact HB.out)) hb); have n2_ := Aside0.mk (hbox); have n3_ := Aside0.mk ((by rw [hg]; exact (below_size (by repeat (first | (with_reducible first | exact HB.out | apply below_alloc | apply pw_below_drewN | apply below_drew1 | refine below_set ?_ GE250.out) | exact HB.out))) : w.heap.size ≤ gb254)); have n4_ := Aside0.mk ((by rw [hg]; exact (below_size (by repeat (first | (with_reducible first | exact HB.out | apply below_alloc | apply pw_below_drewN | apply below_drew1 | refine below_set ?_ GE250.out) | exact HB.out))) : w.heap.size ≤ gb254)); have n5_ := Aside0.mk ((by rw [hg]; exact Nat.ne_of_lt (blk_lt (g := gb250) (o := .cells #[.string t247, .int .i64 t248] 39 (0, 0)) (by (with_reducible repeat (first | refine blk_drewN ?_ _ | refine blk_drew ?_ | refine blk_alloc ?_ _)); exact BK250.out)) : gb250 ≠ gb254)); have n6_ := Aside0.mk ((by rw [hg]; exact Nat.ne_of_gt (blk_lt (g := gb250) (o := .cells #[.string t247, .int .i64 t248] 39 (0, 0)) (by (with_reducible repeat (first | refine blk_drewN ?_ _ | refine blk_drew ?_ | refine blk_alloc ?_ _)); exact BK250.out)) : gb254 ≠ gb250)); clear BK250; clear HB; have BK250 := n0_; have HB := n1_; have BK254 := n2_; have GW254 := n3_; have GE254 := n4_; have NB250_254 := n5_; have NB254_250 := n6_; clear n0_ n1_ n2_ n3_ n4_ n5_ n6_; clear hb hbox hg; have hnb16 := NB254_250.out; have hnc16 := NB250_254.out; have hcz17_0 : w15.cell? ⟨gb254, 0, none⟩ = some (.string (⟨#[]⟩ : ByteArray)) := (blk_cell BK254.out 0).trans rfl; have hcz17_1 : w15.cell? ⟨gb254, 1, none⟩ = some (.int .i64 0) := (blk_cell BK254.out 1).trans rfl; have hfz17_0 := blk_frozen BK254.out 0; have hfz17_1 := blk_frozen BK254.out 1) | (go_at_call 18; (with_reducible refine (impl_BestPaths.calls k t246 t255 t256 _ A7.out).mono ?_); rintro e w18 ⟨v257, rfl, ho0, hb⟩; have n0_ := Aside0.mk (Kd.R_lower (Kd.R_newB (Kd.R_newB ho0 (g := gb250) (o := .cells #[.string t247, .int .i64 t248] 39 (0, 0)) (by (with_reducible repeat (first | refine blk_drewN ?_ _ | refine blk_drew ?_ | refine blk_alloc ?_ _)); refine blk_far ?_ NB250_254.out _; (with_reducible repeat (first | refine blk_drewN ?_ _ | refine blk_drew ?_ | refine blk_alloc ?_ _)); refine blk_far ?_ NB250_254.out _; (with_reducible repeat (first | refine blk_drewN ?_ _ | refine blk_drew ?_ | refine blk_alloc ?_ _)); exact BK250.out)) (g := gb254) (o := .cells #[.string t251, .int .i64 t252] 39 (0, 0)) (by (with_reducible repeat (first | refine blk_drewN ?_ _ | refine blk_drew ?_ | refine blk_alloc ?_ _)); refine blk_put (cs := #[.string t251, .int .i64 0]) ?_ 1 _ rfl; (with_reducible repeat (first | refine blk_drewN ?_ _ | refine blk_drew ?_ | refine blk_alloc ?_ _)); refine blk_put (cs := #[.string (⟨#[]⟩ : ByteArray), .int .i64 0]) ?_ 0 _ rfl; (with_reducible repeat (first | refine blk_drewN ?_ _ | refine blk_drew ?_ | refine blk_alloc ?_ _)); exact BK254.out)) (below_size (by repeat (first | (with_reducible first | exact HB.out | apply below_alloc | apply pw_below_drewN | apply below_drew1 | refine below_set ?_ GE250.out | refine below_set ?_ GE254.out) | exact HB.out)))); have n1_ := Aside0.mk (blk_below (g := gb250) (o := .cells #[.string t247, .int .i64 t248] 39 (0, 0)) (by (with_reducible repeat (first | refine blk_drewN ?_ _ | refine blk_drew ?_ | refine blk_alloc ?_ _)); refine blk_far ?_ NB250_254.out _; (with_reducible repeat (first | refine blk_drewN ?_ _ | refine blk_drew ?_ | refine blk_alloc ?_ _)); refine blk_far ?_ NB250_254.out _; (with_reducible repeat (first | refine blk_drewN ?_ _ | refine blk_drew ?_ | refine blk_alloc ?_ _)); exact BK250.out) hb); have n2_ := Aside0.mk (blk_below (g := gb254) (o := .cells #[.string t251, .int .i64 t252] 39 (0, 0)) (by (with_reducible repeat (first | refine blk_drewN ?_ _ | refine blk_drew ?_ | refine blk_alloc ?_ _)); refine blk_put (cs := #[.string t251, .int .i64 0]) ?_ 1 _ rfl; (with_reducible repeat (first | refine blk_drewN ?_ _ | refine blk_drew ?_ | refine blk_alloc ?_ _)); refine blk_put (cs := #[.string (⟨#[]⟩ : ByteArray), .int .i64 0]) ?_ 0 _ rfl; (with_reducible repeat (first | refine blk_drewN ?_ _ | refine blk_drew ?_ | refine blk_alloc ?_ _)); exact BK254.out) hb); have n3_ := Aside0.mk (below_step (by repeat (first | (with_reducible first | exact HB.out | apply below_alloc | apply pw_below_drewN | apply below_drew1 | refine below_set ?_ GE250.out | refine below_set ?_ GE254.out) | exact HB.out)) hb); clear BK250; clear BK254; clear HB; have HO258 := n0_; have BK250 := n1_; have BK254 := n2_; have HB := n3_; clear n0_ n1_ n2_ n3_; (try clear hb); (try clear hb2); (try clear hk); (try clear hi); (try clear ho0)) | (go_at_call 17; (with_reducible refine (spec_BestPaths.calls k t246 t259 t260 _ A8.out).mono ?_); rintro e w19 ⟨v261, rfl, ho0, hb⟩; have n0_ := Aside0.mk (Kd.R_elder' (by (with_reducible repeat (first | apply Kd.R_alloc | apply Kd.R_drewN | apply Kd.R_drew)); exact HO258.out) (Kd.R_base ho0) hb); have n1_ := Aside0.mk (Kd.R_lower (Kd.R_newB (Kd.R_newB (Kd.R_new' ho0 (Kd.R_lt (by (with_reducible repeat (first | apply Kd.R_alloc | apply Kd.R_drewN | apply Kd.R_drew)); exact HO258.out))) (g := gb250) (o := .cells #[.string t247, .int .i64 t248] 39 (0, 0)) (by (with_reducible repeat (first | refine blk_drewN ?_ _ | refine blk_drew ?_ | refine blk_alloc ?_ _)); exact BK250.out)) (g := gb254) (o := .cells #[.string t251, .int .i64 t252] 39 (0, 0)) (by (with_reducible repeat (first | refine blk_drewN ?_ _ | refine blk_drew ?_ | refine blk_alloc ?_ _)); exact BK254.out)) (below_size (by repeat (first | (with_reducible first | exact HB.out | apply below_alloc | apply pw_below_drewN | apply below_drew1 | refine below_set ?_ GE250.out | refine below_set ?_ GE254.out) | exact HB.out)))); have n2_ := Aside0.mk (blk_below (g := gb250) (o := .cells #[.string t247, .int .i64 t248] 39 (0, 0)) (by (with_reducible repeat (first | refine blk_drewN ?_ _ | refine blk_drew ?_ | refine blk_alloc ?_ _)); exact BK250.out) hb); have n3_ := Aside0.mk (blk_below (g := gb254) (o := .cells #[.string t251, .int .i64 t252] 39 (0, 0)) (by (with_reducible repeat (first | refine blk_drewN ?_ _ | refine blk_drew ?_ | refine blk_alloc ?_ _)); exact BK254.out) hb); have n4_ := Aside0.mk (below_step (by repeat (first | (with_reducible first | exact HB.out | apply below_alloc | apply pw_below_drewN | apply below_drew1 | refine below_set ?_ GE250.out | refine below_set ?_ GE254.out) | exact HB.out)) hb); clear HO258; clear BK250; clear BK254; clear HB; have HO258 := n0_; have HO262 := n1_; have BK250 := n2_; have BK254 := n3_; have HB := n4_; clear n0_ n1_ n2_ n3_ n4_; (try clear hb); (try clear hb2); (try clear hk); (try clear hi); (try clear ho0)))
    repeat (go_quiet (first | (go_at_call 29; (with_reducible refine (spec_DrawDecodeBits.calls k _ _ l0 t246 _ ?side1 ?side2 A4.out).mono ?_); (case side1 => repeat (first | exact HR0.out | (with_reducible refine Kd.C_alloc ?_ _) | (with_reducible refine Kd.C_drewN ?_ _) | (with_reducible refine Kd.C_drew ?_))); (case side2 => exact HC0.out); rintro e w10 ⟨rfl, hb⟩; have n0_ := Aside0.mk (below_step (by repeat (first | (with_reducible first | exact HB.out | apply below_alloc | apply pw_below_drewN | apply below_drew1) | exact HB.out)) hb); clear HB; have HB := n0_; clear n0_; (try clear hb); (try clear hb2); (try clear hk); (try clear hi)) | (go_at_call 27; (with_reducible refine (impl_DecodeBits.calls k t246 t247 t248 t249 _ A5.out).mono ?_); rintro e w11 ⟨rfl, hb⟩; have n0_ := Aside0.mk (below_step (by repeat (first | (with_reducible first | exact HB.out | apply below_alloc | apply pw_below_drewN | apply below_drew1) | exact HB.out)) hb); clear HB; have HB := n0_; clear n0_; (try clear hb); (try clear hb2); (try clear hk); (try clear hi)) | ((with_reducible refine gate_dst (N := 6) rfl ?_); (try (refine gate_guard (by rfl) ?_; dsimp only)); refine box_event ?hg (N := 6) ?hd (cs := #[.string (⟨#[]⟩ : ByteArray), .int .i64 0]) (t := 39) ?hr ?_; (case hd => rfl); (case hg => rfl); (case hr => first | (go_simp; done) | (go_simp; rfl)); intro gb250 hg w12 hbox hb; have n0_ := Aside0.mk (below_step (by repeat (first | (with_reducible first | exact HB.out | apply below_alloc | apply pw_below_drewN | apply below_drew1) | exact HB.out)) hb); have n1_ := Aside0.mk (hbox); have n2_ := Aside0.mk ((by rw [hg]; exact (below_size (by repeat (first | (with_reducible first | exact HB.out | apply below_alloc | apply pw_below_drewN | apply below_drew1) | exact HB.out))) : w.heap.size ≤ gb250)); have n3_ := Aside0.mk ((by rw [hg]; exact (below_size (by repeat (first | (with_reducible first | exact HB.out | apply below_alloc | apply pw_below_drewN | apply below_drew1) | exact HB.out))) : w.heap.size ≤ gb250)); clear HB; have HB := n0_; have BK250 := n1_; have GW250 := n2_; have GE250 := n3_; clear n0_ n1_ n2_ n3_; clear hb hbox hg; have hcz13_0 : w12.cell? ⟨gb250, 0, none⟩ = some (.string (⟨#[]⟩ : ByteArray)) := (blk_cell BK250.out 0).trans rfl; have hcz13_1 : w12.cell? ⟨gb250, 1, none⟩ = some (.int .i64 0) := (blk_cell BK250.out 1).trans rfl; have hfz13_0 := blk_frozen BK250.out 0; have hfz13_1 := blk_frozen BK250.out 1) | (go_at_call 26; (with_reducible refine (spec_DecodeBits.calls k t246 t251 t252 t253 _ A6.out).mono ?_); rintro e w14 ⟨rfl, hb⟩; have n0_ := Aside0.mk (blk_below (g := gb250) (o := .cells #[.string t247, .int .i64 t248] 39 (0, 0)) (by (with_reducible repeat (first | refine blk_drewN ?_ _ | refine blk_drew ?_ | refine blk_alloc ?_ _)); refine blk_put (cs := #[.string t247, .int .i64 0]) ?_ 1 _ rfl; (with_reducible repeat (first | refine blk_drewN ?_ _ | refine blk_drew ?_ | refine blk_alloc ?_ _)); refine blk_put (cs := #[.string (⟨#[]⟩ : ByteArray), .int .i64 0]) ?_ 0 _ rfl; (with_reducible repeat (first | refine blk_drewN ?_ _ | refine blk_drew ?_ | refine blk_alloc ?_ _)); exact BK250.out) hb); have n1_ := Aside0.mk (below_step (by repeat (first | (with_reducible first | exact HB.out | apply below_alloc | apply pw_below_drewN | apply below_drew1 | refine below_set ?_ GE250.out) | exact HB.out)) hb); clear BK250; clear HB; have BK250 := n0_; have HB := n1_; clear n0_ n1_; (try clear hb); (try clear hb2); (try clear hk); (try clear hi)) | ((with_reducible refine gate_dst (N := 8) rfl ?_); (try (refine gate_guard (by rfl) ?_; dsimp only)); refine box_event ?hg (N := 8) ?hd (cs := #[.string (⟨#[]⟩ : ByteArray), .int .i64 0]) (t := 39) ?hr ?_; (case hd => rfl); (case hg => rfl); (case hr => first | (go_simp; done) | (go_simp; rfl)); intro gb254 hg w15 hbox hb; have n0_ := Aside0.mk (blk_below (g := gb250) (o := .cells #[.string t247, .int .i64 t248] 39 (0, 0)) (by (with_reducible repeat (first | refine blk_drewN ?_ _ | refine blk_drew ?_ | refine blk_alloc ?_ _)); exact BK250.out) hb); have n1_ := Aside0.mk (below_step (by repeat (first | (with_reducible first | exact HB.out | apply below_alloc | apply pw_below_drewN | apply below_drew1 | refine below_set ?_ GE250.out) | exact HB.out)) hb); have n2_ := Aside0.mk (hbox); have n3_ := Aside0.mk ((by rw [hg]; exact (below_size (by repeat (first | (with_reducible first | exact HB.out | apply below_alloc | apply pw_below_drewN | apply below_drew1 | refine below_set ?_ GE250.out) | exact HB.out))) : w.heap.size ≤ gb254)); have n4_ := Aside0.mk ((by rw [hg]; exact (below_size (by repeat (first | (with_reducible first | exact HB.out | apply below_alloc | apply pw_below_drewN | apply below_drew1 | refine below_set ?_ GE250.out) | exact HB.out))) : w.heap.size ≤ gb254)); have n5_ := Aside0.mk ((by rw [hg]; exact Nat.ne_of_lt (blk_lt (g := gb250) (o := .cells #[.string t247, .int .i64 t248] 39 (0, 0)) (by (with_reducible repeat (first | refine blk_drewN ?_ _ | refine blk_drew ?_ | refine blk_alloc ?_ _)); exact BK250.out)) : gb250 ≠ gb254)); have n6_ := Aside0.mk ((by rw [hg]; exact Nat.ne_of_gt (blk_lt (g := gb250) (o := .cells #[.string t247, .int .i64 t248] 39 (0, 0)) (by (with_reducible repeat (first | refine blk_drewN ?_ _ | refine blk_drew ?_ | refine blk_alloc ?_ _)); exact BK250.out)) : gb254 ≠ gb250)); clear BK250; clear HB; have BK250 := n0_; have HB := n1_; have BK254 := n2_; have GW254 := n3_; have GE254 := n4_; have NB250_254 := n5_; have NB254_250 := n6_; clear n0_ n1_ n2_ n3_ n4_ n5_ n6_; clear hb hbox hg; have hnb16 := NB254_250.out; have hnc16 := NB250_254.out; have hcz17_0 : w15.cell? ⟨gb254, 0, none⟩ = some (.string (⟨#[]⟩ : ByteArray)) := (blk_cell BK254.out 0).trans rfl; have hcz17_1 : w15.cell? ⟨gb254, 1, none⟩ = some (.int .i64 0) := (blk_cell BK254.out 1).trans rfl; have hfz17_0 := blk_frozen BK254.out 0; have hfz17_1 := blk_frozen BK254.out 1) | (go_at_call 18; (with_reducible refine (impl_BestPaths.calls k t246 t255 t256 _ A7.out).mono ?_); rintro e w18 ⟨v257, rfl, ho0, hb⟩; have n0_ := Aside0.mk (Kd.R_lower (Kd.R_newB (Kd.R_newB ho0 (g := gb250) (o := .cells #[.string t247, .int .i64 t248] 39 (0, 0)) (by (with_reducible repeat (first | refine blk_drewN ?_ _ | refine blk_drew ?_ | refine blk_alloc ?_ _)); refine blk_far ?_ NB250_254.out _; (with_reducible repeat (first | refine blk_drewN ?_ _ | refine blk_drew ?_ | refine blk_alloc ?_ _)); refine blk_far ?_ NB250_254.out _; (with_reducible repeat (first | refine blk_drewN ?_ _ | refine blk_drew ?_ | refine blk_alloc ?_ _)); exact BK250.out)) (g := gb254) (o := .cells #[.string t251, .int .i64 t252] 39 (0, 0)) (by (with_reducible repeat (first | refine blk_drewN ?_ _ | refine blk_drew ?_ | refine blk_alloc ?_ _)); refine blk_put (cs := #[.string t251, .int .i64 0]) ?_ 1 _ rfl; (with_reducible repeat (first | refine blk_drewN ?_ _ | refine blk_drew ?_ | refine blk_alloc ?_ _)); refine blk_put (cs := #[.string (⟨#[]⟩ : ByteArray), .int .i64 0]) ?_ 0 _ rfl; (with_reducible repeat (first | refine blk_drewN ?_ _ | refine blk_drew ?_ | refine blk_alloc ?_ _)); exact BK254.out)) (below_size (by repeat (first | (with_reducible first | exact HB.out | apply below_alloc | apply pw_below_drewN | apply below_drew1 | refine below_set ?_ GE250.out | refine below_set ?_ GE254.out) | exact HB.out)))); have n1_ := Aside0.mk (blk_below (g := gb250) (o := .cells #[.string t247, .int .i64 t248] 39 (0, 0)) (by (with_reducible repeat (first | refine blk_drewN ?_ _ | refine blk_drew ?_ | refine blk_alloc ?_ _)); refine blk_far ?_ NB250_254.out _; (with_reducible repeat (first | refine blk_drewN ?_ _ | refine blk_drew ?_ | refine blk_alloc ?_ _)); refine blk_far ?_ NB250_254.out _; (with_reducible repeat (first | refine blk_drewN ?_ _ | refine blk_drew ?_ | refine blk_alloc ?_ _)); exact BK250.out) hb); have n2_ := Aside0.mk (blk_below (g := gb254) (o := .cells #[.string t251, .int .i64 t252] 39 (0, 0)) (by (with_reducible repeat (first | refine blk_drewN ?_ _ | refine blk_drew ?_ | refine blk_alloc ?_ _)); refine blk_put (cs := #[.string t251, .int .i64 0]) ?_ 1 _ rfl; (with_reducible repeat (first | refine blk_drewN ?_ _ | refine blk_drew ?_ | refine blk_alloc ?_ _)); refine blk_put (cs := #[.string (⟨#[]⟩ : ByteArray), .int .i64 0]) ?_ 0 _ rfl; (with_reducible repeat (first | refine blk_drewN ?_ _ | refine blk_drew ?_ | refine blk_alloc ?_ _)); exact BK254.out) hb); have n3_ := Aside0.mk (below_step (by repeat (first | (with_reducible first | exact HB.out | apply below_alloc | apply pw_below_drewN | apply below_drew1 | refine below_set ?_ GE250.out | refine below_set ?_ GE254.out) | exact HB.out)) hb); clear BK250; clear BK254; clear HB; have HO258 := n0_; have BK250 := n1_; have BK254 := n2_; have HB := n3_; clear n0_ n1_ n2_ n3_; (try clear hb); (try clear hb2); (try clear hk); (try clear hi); (try clear ho0)) | (go_at_call 17; (with_reducible refine (spec_BestPaths.calls k t246 t259 t260 _ A8.out).mono ?_); rintro e w19 ⟨v261, rfl, ho0, hb⟩; have n0_ := Aside0.mk (Kd.R_elder' (by (with_reducible repeat (first | apply Kd.R_alloc | apply Kd.R_drewN | apply Kd.R_drew)); exact HO258.out) (Kd.R_base ho0) hb); have n1_ := Aside0.mk (Kd.R_lower (Kd.R_newB (Kd.R_newB (Kd.R_new' ho0 (Kd.R_lt (by (with_reducible repeat (first | apply Kd.R_alloc | apply Kd.R_drewN | apply Kd.R_drew)); exact HO258.out))) (g := gb250) (o := .cells #[.string t247, .int .i64 t248] 39 (0, 0)) (by (with_reducible repeat (first | refine blk_drewN ?_ _ | refine blk_drew ?_ | refine blk_alloc ?_ _)); exact BK250.out)) (g := gb254) (o := .cells #[.string t251, .int .i64 t252] 39 (0, 0)) (by (with_reducible repeat (first | refine blk_drewN ?_ _ | refine blk_drew ?_ | refine blk_alloc ?_ _)); exact BK254.out)) (below_size (by repeat (first | (with_reducible first | exact HB.out | apply below_alloc | apply pw_below_drewN | apply below_drew1 | refine below_set ?_ GE250.out | refine below_set ?_ GE254.out) | exact HB.out)))); have n2_ := Aside0.mk (blk_below (g := gb250) (o := .cells #[.string t247, .int .i64 t248] 39 (0, 0)) (by (with_reducible repeat (first | refine blk_drewN ?_ _ | refine blk_drew ?_ | refine blk_alloc ?_ _)); exact BK250.out) hb); have n3_ := Aside0.mk (blk_below (g := gb254) (o := .cells #[.string t251, .int .i64 t252] 39 (0, 0)) (by (with_reducible repeat (first | refine blk_drewN ?_ _ | refine blk_drew ?_ | refine blk_alloc ?_ _)); exact BK254.out) hb); have n4_ := Aside0.mk (below_step (by repeat (first | (with_reducible first | exact HB.out | apply below_alloc | apply pw_below_drewN | apply below_drew1 | refine below_set ?_ GE250.out | refine below_set ?_ GE254.out) | exact HB.out)) hb); clear HO258; clear BK250; clear BK254; clear HB; have HO258 := n0_; have HO262 := n1_; have BK250 := n2_; have BK254 := n3_; have HB := n4_; clear n0_ n1_ n2_ n3_ n4_; (try clear hb); (try clear hb2); (try clear hk); (try clear hi); (try clear ho0))); go_upto_region 8 with (first | (go_at_call 29; (with_reducible refine (spec_DrawDecodeBits.calls k _ _ l0 t246 _ ?side1 ?side2 A4.out).mono ?_); (case side1 => repeat (first | exact HR0.out | (with_reducible refine Kd.C_alloc ?_ _) | (with_reducible refine Kd.C_drewN ?_ _) | (with_reducible refine Kd.C_drew ?_))); (case side2 => exact HC0.out); rintro e w10 ⟨rfl, hb⟩; have n0_ := Aside0.mk (below_step (by repeat (first | (with_reducible first | exact HB.out | apply below_alloc | apply pw_below_drewN | apply below_drew1) | exact HB.out)) hb); clear HB; have HB := n0_; clear n0_; (try clear hb); (try clear hb2); (try clear hk); (try clear hi)) | (go_at_call 27; (with_reducible refine (impl_DecodeBits.calls k t246 t247 t248 t249 _ A5.out).mono ?_); rintro e w11 ⟨rfl, hb⟩; have n0_ := Aside0.mk (below_step (by repeat (first | (with_reducible first | exact HB.out | apply below_alloc | apply pw_below_drewN | apply below_drew1) | exact HB.out)) hb); clear HB; have HB := n0_; clear n0_; (try clear hb); (try clear hb2); (try clear hk); (try clear hi)) | ((with_reducible refine gate_dst (N := 6) rfl ?_); (try (refine gate_guard (by rfl) ?_; dsimp only)); refine box_event ?hg (N := 6) ?hd (cs := #[.string (⟨#[]⟩ : ByteArray), .int .i64 0]) (t := 39) ?hr ?_; (case hd => rfl); (case hg => rfl); (case hr => first | (go_simp; done) | (go_simp; rfl)); intro gb250 hg w12 hbox hb; have n0_ := Aside0.mk (below_step (by repeat (first | (with_reducible first | exact HB.out | apply below_alloc | apply pw_below_drewN | apply below_drew1) | exact HB.out)) hb); have n1_ := Aside0.mk (hbox); have n2_ := Aside0.mk ((by rw [hg]; exact (below_size (by repeat (first | (with_reducible first | exact HB.out | apply below_alloc | apply pw_below_drewN | apply below_drew1) | exact HB.out))) : w.heap.size ≤ gb250)); have n3_ := Aside0.mk ((by rw [hg]; exact (below_size (by repeat (first | (with_reducible first | exact HB.out | apply below_alloc | apply pw_below_drewN | apply below_drew1) | exact HB.out))) : w.heap.size ≤ gb250)); clear HB; have HB := n0_; have BK250 := n1_; have GW250 := n2_; have GE250 := n3_; clear n0_ n1_ n2_ n3_; clear hb hbox hg; have hcz13_0 : w12.cell? ⟨gb250, 0, none⟩ = some (.string (⟨#[]⟩ : ByteArray)) := (blk_cell BK250.out 0).trans rfl; have hcz13_1 : w12.cell? ⟨gb250, 1, none⟩ = some (.int .i64 0) := (blk_cell BK250.out 1).trans rfl; have hfz13_0 := blk_frozen BK250.out 0; have hfz13_1 := blk_frozen BK250.out 1) | (go_at_call 26; (with_reducible refine (spec_DecodeBits.calls k t246 t251 t252 t253 _ A6.out).mono ?_); rintro e w14 ⟨rfl, hb⟩; have n0_ := Aside0.mk (blk_below (g := gb250) (o := .cells #[.string t247, .int .i64 t248] 39 (0, 0)) (by (with_reducible repeat (first | refine blk_drewN ?_ _ | refine blk_drew ?_ | refine blk_alloc ?_ _)); refine blk_put (cs := #[.string t247, .int .i64 0]) ?_ 1 _ rfl; (with_reducible repeat (first | refine blk_drewN ?_ _ | refine blk_drew ?_ | refine blk_alloc ?_ _)); refine blk_put (cs := #[.string (⟨#[]⟩ : ByteArray), .int .i64 0]) ?_ 0 _ rfl; (with_reducible repeat (first | refine blk_drewN ?_ _ | refine blk_drew ?_ | refine blk_alloc ?_ _)); exact BK250.out) hb); have n1_ := Aside0.mk (below_step (by repeat (first | (with_reducible first | exact HB.out | apply below_alloc | apply pw_below_drewN | apply below_drew1 | refine below_set ?_ GE250.out) | exact HB.out)) hb); clear BK250; clear HB; have BK250 := n0_; have HB := n1_; clear n0_ n1_; (try clear hb); (try clear hb2); (try clear hk); (try clear hi)) | ((with_reducible refine gate_dst (N := 8) rfl ?_); (try (refine gate_guard (by rfl) ?_; dsimp only)); refine box_event ?hg (N := 8) ?hd (cs := #[.string (⟨#[]⟩ : ByteArray), .int .i64 0]) (t := 39) ?hr ?_; (case hd => rfl); (case hg => rfl); (case hr => first | (go_simp; done) | (go_simp; rfl)); intro gb254 hg w15 hbox hb; have n0_ := Aside0.mk (blk_below (g := gb250) (o := .cells #[.string t247, .int .i64 t248] 39 (0, 0)) (by (with_reducible repeat (first | refine blk_drewN ?_ _ | refine blk_drew ?_ | refine blk_alloc ?_ _)); exact BK250.out) hb); have n1_ := Aside0.mk (below_step (by repeat (first | (with_reducible first | exact HB.out | apply below_alloc | apply pw_below_drewN | apply below_drew1 | refine below_set ?_ GE250.out) | exact HB.out)) hb); have n2_ := Aside0.mk (hbox); have n3_ := Aside0.mk ((by rw [hg]; exact (below_size (by repeat (first | (with_reducible first | exact HB.out | apply below_alloc | apply pw_below_drewN | apply below_drew1 | refine below_set ?_ GE250.out) | exact HB.out))) : w.heap.size ≤ gb254)); have n4_ := Aside0.mk ((by rw [hg]; exact (below_size (by repeat (first | (with_reducible first | exact HB.out | apply below_alloc | apply pw_below_drewN | apply below_drew1 | refine below_set ?_ GE250.out) | exact HB.out))) : w.heap.size ≤ gb254)); have n5_ := Aside0.mk ((by rw [hg]; exact Nat.ne_of_lt (blk_lt (g := gb250) (o := .cells #[.string t247, .int .i64 t248] 39 (0, 0)) (by (with_reducible repeat (first | refine blk_drewN ?_ _ | refine blk_drew ?_ | refine blk_alloc ?_ _)); exact BK250.out)) : gb250 ≠ gb254)); have n6_ := Aside0.mk ((by rw [hg]; exact Nat.ne_of_gt (blk_lt (g := gb250) (o := .cells #[.string t247, .int .i64 t248] 39 (0, 0)) (by (with_reducible repeat (first | refine blk_drewN ?_ _ | refine blk_drew ?_ | refine blk_alloc ?_ _)); exact BK250.out)) : gb254 ≠ gb250)); clear BK250; clear HB; have BK250 := n0_; have HB := n1_; have BK254 := n2_; have GW254 := n3_; have GE254 := n4_; have NB250_254 := n5_; have NB254_250 := n6_; clear n0_ n1_ n2_ n3_ n4_ n5_ n6_; clear hb hbox hg; have hnb16 := NB254_250.out; have hnc16 := NB250_254.out; have hcz17_0 : w15.cell? ⟨gb254, 0, none⟩ = some (.string (⟨#[]⟩ : ByteArray)) := (blk_cell BK254.out 0).trans rfl; have hcz17_1 : w15.cell? ⟨gb254, 1, none⟩ = some (.int .i64 0) := (blk_cell BK254.out 1).trans rfl; have hfz17_0 := blk_frozen BK254.out 0; have hfz17_1 := blk_frozen BK254.out 1) | (go_at_call 18; (with_reducible refine (impl_BestPaths.calls k t246 t255 t256 _ A7.out).mono ?_); rintro e w18 ⟨v257, rfl, ho0, hb⟩; have n0_ := Aside0.mk (Kd.R_lower (Kd.R_newB (Kd.R_newB ho0 (g := gb250) (o := .cells #[.string t247, .int .i64 t248] 39 (0, 0)) (by (with_reducible repeat (first | refine blk_drewN ?_ _ | refine blk_drew ?_ | refine blk_alloc ?_ _)); refine blk_far ?_ NB250_254.out _; (with_reducible repeat (first | refine blk_drewN ?_ _ | refine blk_drew ?_ | refine blk_alloc ?_ _)); refine blk_far ?_ NB250_254.out _; (with_reducible repeat (first | refine blk_drewN ?_ _ | refine blk_drew ?_ | refine blk_alloc ?_ _)); exact BK250.out)) (g := gb254) (o := .cells #[.string t251, .int .i64 t252] 39 (0, 0)) (by (with_reducible repeat (first | refine blk_drewN ?_ _ | refine blk_drew ?_ | refine blk_alloc ?_ _)); refine blk_put (cs := #[.string t251, .int .i64 0]) ?_ 1 _ rfl; (with_reducible repeat (first | refine blk_drewN ?_ _ | refine blk_drew ?_ | refine blk_alloc ?_ _)); refine blk_put (cs := #[.string (⟨#[]⟩ : ByteArray), .int .i64 0]) ?_ 0 _ rfl; (with_reducible repeat (first | refine blk_drewN ?_ _ | refine blk_drew ?_ | refine blk_alloc ?_ _)); exact BK254.out)) (below_size (by repeat (first | (with_reducible first | exact HB.out | apply below_alloc | apply pw_below_drewN | apply below_drew1 | refine below_set ?_ GE250.out | refine below_set ?_ GE254.out) | exact HB.out)))); have n1_ := Aside0.mk (blk_below (g := gb250) (o := .cells #[.string t247, .int .i64 t248] 39 (0, 0)) (by (with_reducible repeat (first | refine blk_drewN ?_ _ | refine blk_drew ?_ | refine blk_alloc ?_ _)); refine blk_far ?_ NB250_254.out _; (with_reducible repeat (first | refine blk_drewN ?_ _ | refine blk_drew ?_ | refine blk_alloc ?_ _)); refine blk_far ?_ NB250_254.out _; (with_reducible repeat (first | refine blk_drewN ?_ _ | refine blk_drew ?_ | refine blk_alloc ?_ _)); exact BK250.out) hb); have n2_ := Aside0.mk (blk_below (g := gb254) (o := .cells #[.string t251, .int .i64 t252] 39 (0, 0)) (by (with_reducible repeat (first | refine blk_drewN ?_ _ | refine blk_drew ?_ | refine blk_alloc ?_ _)); refine blk_put (cs := #[.string t251, .int .i64 0]) ?_ 1 _ rfl; (with_reducible repeat (first | refine blk_drewN ?_ _ | refine blk_drew ?_ | refine blk_alloc ?_ _)); refine blk_put (cs := #[.string (⟨#[]⟩ : ByteArray), .int .i64 0]) ?_ 0 _ rfl; (with_reducible repeat (first | refine blk_drewN ?_ _ | refine blk_drew ?_ | refine blk_alloc ?_ _)); exact BK254.out) hb); have n3_ := Aside0.mk (below_step (by repeat (first | (with_reducible first | exact HB.out | apply below_alloc | apply pw_below_drewN | apply below_drew1 | refine below_set ?_ GE250.out | refine below_set ?_ GE254.out) | exact HB.out)) hb); clear BK250; clear BK254; clear HB; have HO258 := n0_; have BK250 := n1_; have BK254 := n2_; have HB := n3_; clear n0_ n1_ n2_ n3_; (try clear hb); (try clear hb2); (try clear hk); (try clear hi); (try clear ho0)) | (go_at_call 17; (with_reducible refine (spec_BestPaths.calls k t246 t259 t260 _ A8.out).mono ?_); rintro e w19 ⟨v261, rfl, ho0, hb⟩; have n0_ := Aside0.mk (Kd.R_elder' (by (with_reducible repeat (first | apply Kd.R_alloc | apply Kd.R_drewN | apply Kd.R_drew)); exact HO258.out) (Kd.R_base ho0) hb); have n1_ := Aside0.mk (Kd.R_lower (Kd.R_newB (Kd.R_newB (Kd.R_new' ho0 (Kd.R_lt (by (with_reducible repeat (first | apply Kd.R_alloc | apply Kd.R_drewN | apply Kd.R_drew)); exact HO258.out))) (g := gb250) (o := .cells #[.string t247, .int .i64 t248] 39 (0, 0)) (by (with_reducible repeat (first | refine blk_drewN ?_ _ | refine blk_drew ?_ | refine blk_alloc ?_ _)); exact BK250.out)) (g := gb254) (o := .cells #[.string t251, .int .i64 t252] 39 (0, 0)) (by (with_reducible repeat (first | refine blk_drewN ?_ _ | refine blk_drew ?_ | refine blk_alloc ?_ _)); exact BK254.out)) (below_size (by repeat (first | (with_reducible first | exact HB.out | apply below_alloc | apply pw_below_drewN | apply below_drew1 | refine below_set ?_ GE250.out | refine below_set ?_ GE254.out) | exact HB.out)))); have n2_ := Aside0.mk (blk_below (g := gb250) (o := .cells #[.string t247, .int .i64 t248] 39 (0, 0)) (by (with_reducible repeat (first | refine blk_drewN ?_ _ | refine blk_drew ?_ | refine blk_alloc ?_ _)); exact BK250.out) hb); have n3_ := Aside0.mk (blk_below (g := gb254) (o := .cells #[.string t251, .int .i64 t252] 39 (0, 0)) (by (with_reducible repeat (first | refine blk_drewN ?_ _ | refine blk_drew ?_ | refine blk_alloc ?_ _)); exact BK254.out) hb); have n4_ := Aside0.mk (below_step (by repeat (first | (with_reducible first | exact HB.out | apply below_alloc | apply pw_below_drewN | apply below_drew1 | refine below_set ?_ GE250.out | refine below_set ?_ GE254.out) | exact HB.out)) hb); clear HO258; clear BK250; clear BK254; clear HB; have HO258 := n0_; have HO262 := n1_; have BK250 := n2_; have BK254 := n3_; have HB := n4_; clear n0_ n1_ n2_ n3_ n4_; (try clear hb); (try clear hb2); (try clear hk); (try clear hi); (try clear ho0))))
    (try simp only [Act.put, List.setIfInBounds_toArray, List.set_cons_zero, List.set_cons_succ])
    go_cut [74] (fun v74 wc => ∃ (kq : Nat) (x74_8 : Bool), v74 = .bool x74_8 ∧ Aside0 (laws_FnViterbi.j0 kq l1 t246 t249 t255 t259 x74_8 t247 t248 = some r) ∧ Aside0 (kq ≤ k) ∧ Aside0 (Kd.R k39 39 wc w.heap.size (fun k_ => some k_ ≠ (v261 : Value).ownBlock ∧ k_ ≠ gb250 ∧ k_ ≠ gb254) v257 t255) ∧ Aside0 (Kd.R k39 39 wc w.heap.size (fun k_ => some k_ ≠ (v257 : Value).ownBlock ∧ k_ ≠ gb250 ∧ k_ ≠ gb254) v261 t259) ∧ Aside0 (wc.heap[gb250]? = some (.cells #[.string t247, .int .i64 t248] 39 (0, 0))) ∧ Aside0 (wc.heap[gb254]? = some (.cells #[.string t251, .int .i64 t252] 39 (0, 0))) ∧ Aside0 (Below w.heap.size w wc))
    case first =>
      have H := HC9.out
      clear HC9
      by_cases c20 : (t249 != t253) = true
      · rw [if_pos c20] at H
        have c20b0 : (t249 != t253) = true := c20
        (try (have c20b1 : decide (t249 = t253) = false := by simpa using c20))
        (try (have c20b2 : (t249 == t253) = false := by simpa using c20))
        (try (have c20b3 : ¬ (t249 = t253) := by simpa using c20))
        clear c20
        (first | rw [c20b0] | (simp only [i64_w, i32_w]; rw [c20b0]) | skip)
        have H' := Aside0.mk H
        clear H
        go_wp2
        repeat (go_quiet (fail); try go_wp2)
        go_meet
        case rel => exact ⟨_, (true), (by first | rfl | (simp; done) | (simp [*]; done)), H', ⟨by first | omega | exact Nat.le_refl _⟩, ⟨by (with_reducible repeat (first | apply Kd.R_alloc | apply Kd.R_drewN | apply Kd.R_drew)); exact Kd.R_mono HO258.out (fun _ hk => ⟨hk.2, ⟨hk.1.1.2, hk.1.2⟩⟩)⟩, ⟨by (with_reducible repeat (first | apply Kd.R_alloc | apply Kd.R_drewN | apply Kd.R_drew)); exact Kd.R_mono HO262.out (fun _ hk => ⟨hk.1.1.2, ⟨hk.1.2, hk.2⟩⟩)⟩, ⟨by (with_reducible repeat (first | refine blk_drewN ?_ _ | refine blk_drew ?_ | refine blk_alloc ?_ _)); exact BK250.out⟩, ⟨by (with_reducible repeat (first | refine blk_drewN ?_ _ | refine blk_drew ?_ | refine blk_alloc ?_ _)); exact BK254.out⟩, ⟨by repeat (first | (with_reducible first | exact HB.out | apply below_alloc | apply pw_below_drewN | apply below_drew1 | refine below_set ?_ GE250.out | refine below_set ?_ GE254.out) | exact HB.out)⟩⟩
      · rw [if_neg c20] at H
        have c20b0 : (t249 != t253) = false := by simpa using c20
        (try (have c20b1 : decide (t249 = t253) = true := by simpa using c20))
        (try (have c20b2 : (t249 == t253) = true := by simpa using c20))
        clear c20
        (first | rw [c20b0] | (simp only [i64_w, i32_w]; rw [c20b0]) | skip)
        by_cases c21 : (!(t247.toList == t251.toList) || (!(t248 == t252))) = true
        · rw [if_pos c21] at H
          have c21b0 : (!(t247.toList == t251.toList) || (!(t248 == t252))) = true := c21
          clear c21
          have H' := Aside0.mk H
          clear H
          have hnb22 := NB250_254.out
          have hnc22 := NB254_250.out
          have hcz23_0 : w19.cell? ⟨gb250, 0, none⟩ = some (.string t247) := (blk_cell BK250.out 0).trans rfl
          have hcz23_1 : w19.cell? ⟨gb250, 1, none⟩ = some (.int .i64 t248) := (blk_cell BK250.out 1).trans rfl
          have hfz23_0 := blk_frozen BK250.out 0
          have hfz23_1 := blk_frozen BK250.out 1
          have hcz24_0 : w19.cell? ⟨gb254, 0, none⟩ = some (.string t251) := (blk_cell BK254.out 0).trans rfl
          have hcz24_1 : w19.cell? ⟨gb254, 1, none⟩ = some (.int .i64 t252) := (blk_cell BK254.out 1).trans rfl
          have hfz24_0 := blk_frozen BK254.out 0
          have hfz24_1 := blk_frozen BK254.out 1
          go_wp2
          repeat (go_quiet (fail); try go_wp2)
          go_meet
          case rel => exact ⟨_, (true), (by first | rfl | (simp; done) | (simp [*]; done)), H', ⟨by first | omega | exact Nat.le_refl _⟩, ⟨by (with_reducible repeat (first | apply Kd.R_alloc | apply Kd.R_drewN | apply Kd.R_drew)); exact Kd.R_mono HO258.out (fun _ hk => ⟨hk.2, ⟨hk.1.1.2, hk.1.2⟩⟩)⟩, ⟨by (with_reducible repeat (first | apply Kd.R_alloc | apply Kd.R_drewN | apply Kd.R_drew)); exact Kd.R_mono HO262.out (fun _ hk => ⟨hk.1.1.2, ⟨hk.1.2, hk.2⟩⟩)⟩, ⟨by (with_reducible repeat (first | refine blk_drewN ?_ _ | refine blk_drew ?_ | refine blk_alloc ?_ _)); exact BK250.out⟩, ⟨by (with_reducible repeat (first | refine blk_drewN ?_ _ | refine blk_drew ?_ | refine blk_alloc ?_ _)); exact BK254.out⟩, ⟨by repeat (first | (with_reducible first | exact HB.out | apply below_alloc | apply pw_below_drewN | apply below_drew1 | refine below_set ?_ GE250.out | refine below_set ?_ GE254.out) | exact HB.out)⟩⟩
        · rw [if_neg c21] at H
          have c21b0 : (!(t247.toList == t251.toList) || (!(t248 == t252))) = false := by simpa using c21
          clear c21
          by_cases c25 : (t256 != t260) = true
          · rw [if_pos c25] at H
            have c25b0 : (t256 != t260) = true := c25
            (try (have c25b1 : decide (t256 = t260) = false := by simpa using c25))
            (try (have c25b2 : (t256 == t260) = false := by simpa using c25))
            (try (have c25b3 : ¬ (t256 = t260) := by simpa using c25))
            clear c25
            have H' := Aside0.mk H
            clear H
            have hnb26 := NB250_254.out
            have hnc26 := NB254_250.out
            have hcz27_0 : w19.cell? ⟨gb250, 0, none⟩ = some (.string t247) := (blk_cell BK250.out 0).trans rfl
            have hcz27_1 : w19.cell? ⟨gb250, 1, none⟩ = some (.int .i64 t248) := (blk_cell BK250.out 1).trans rfl
            have hfz27_0 := blk_frozen BK250.out 0
            have hfz27_1 := blk_frozen BK250.out 1
            have hcz28_0 : w19.cell? ⟨gb254, 0, none⟩ = some (.string t251) := (blk_cell BK254.out 0).trans rfl
            have hcz28_1 : w19.cell? ⟨gb254, 1, none⟩ = some (.int .i64 t252) := (blk_cell BK254.out 1).trans rfl
            have hfz28_0 := blk_frozen BK254.out 0
            have hfz28_1 := blk_frozen BK254.out 1
            go_wp2
            repeat (go_quiet (fail); try go_wp2)
            go_meet
            case rel => exact ⟨_, (true), (by first | rfl | (simp; done) | (simp [*]; done)), H', ⟨by first | omega | exact Nat.le_refl _⟩, ⟨by (with_reducible repeat (first | apply Kd.R_alloc | apply Kd.R_drewN | apply Kd.R_drew)); exact Kd.R_mono HO258.out (fun _ hk => ⟨hk.2, ⟨hk.1.1.2, hk.1.2⟩⟩)⟩, ⟨by (with_reducible repeat (first | apply Kd.R_alloc | apply Kd.R_drewN | apply Kd.R_drew)); exact Kd.R_mono HO262.out (fun _ hk => ⟨hk.1.1.2, ⟨hk.1.2, hk.2⟩⟩)⟩, ⟨by (with_reducible repeat (first | refine blk_drewN ?_ _ | refine blk_drew ?_ | refine blk_alloc ?_ _)); exact BK250.out⟩, ⟨by (with_reducible repeat (first | refine blk_drewN ?_ _ | refine blk_drew ?_ | refine blk_alloc ?_ _)); exact BK254.out⟩, ⟨by repeat (first | (with_reducible first | exact HB.out | apply below_alloc | apply pw_below_drewN | apply below_drew1 | refine below_set ?_ GE250.out | refine below_set ?_ GE254.out) | exact HB.out)⟩⟩
          · rw [if_neg c25] at H
            have c25b0 : (t256 != t260) = false := by simpa using c25
            (try (have c25b1 : decide (t256 = t260) = true := by simpa using c25))
            (try (have c25b2 : (t256 == t260) = true := by simpa using c25))
            clear c25
            have H' := Aside0.mk H
            clear H
            have hnb29 := NB250_254.out
            have hnc29 := NB254_250.out
            have hcz30_0 : w19.cell? ⟨gb250, 0, none⟩ = some (.string t247) := (blk_cell BK250.out 0).trans rfl
            have hcz30_1 : w19.cell? ⟨gb250, 1, none⟩ = some (.int .i64 t248) := (blk_cell BK250.out 1).trans rfl
            have hfz30_0 := blk_frozen BK250.out 0
            have hfz30_1 := blk_frozen BK250.out 1
            have hcz31_0 : w19.cell? ⟨gb254, 0, none⟩ = some (.string t251) := (blk_cell BK254.out 0).trans rfl
            have hcz31_1 : w19.cell? ⟨gb254, 1, none⟩ = some (.int .i64 t252) := (blk_cell BK254.out 1).trans rfl
            have hfz31_0 := blk_frozen BK254.out 0
            have hfz31_1 := blk_frozen BK254.out 1
            obtain ⟨Ao32, co32, eo32⟩ := Kd.R_slice HO258.out
            subst eo32
            obtain ⟨Ao33, co33, eo33⟩ := Kd.R_slice HO262.out
            subst eo33
            go_wp2
            repeat (go_quiet (fail); try go_wp2)
            go_meet
            case rel => exact ⟨_, (((t255.length : Int) != (t259.length : Int))), (by first | rfl | (simp; done) | (simp [*]; done)), H', ⟨by first | omega | exact Nat.le_refl _⟩, ⟨by (with_reducible repeat (first | apply Kd.R_alloc | apply Kd.R_drewN | apply Kd.R_drew)); exact Kd.R_mono HO258.out (fun _ hk => ⟨hk.2, ⟨hk.1.1.2, hk.1.2⟩⟩)⟩, ⟨by (with_reducible repeat (first | apply Kd.R_alloc | apply Kd.R_drewN | apply Kd.R_drew)); exact Kd.R_mono HO262.out (fun _ hk => ⟨hk.1.1.2, ⟨hk.1.2, hk.2⟩⟩)⟩, ⟨by (with_reducible repeat (first | refine blk_drewN ?_ _ | refine blk_drew ?_ | refine blk_alloc ?_ _)); exact BK250.out⟩, ⟨by (with_reducible repeat (first | refine blk_drewN ?_ _ | refine blk_drew ?_ | refine blk_alloc ?_ _)); exact BK254.out⟩, ⟨by repeat (first | (with_reducible first | exact HB.out | apply below_alloc | apply pw_below_drewN | apply below_drew1 | refine below_set ?_ GE250.out | refine below_set ?_ GE254.out) | exact HB.out)⟩⟩
    case rest =>
      clear HC9
      try clear c1
      try clear c2
      try clear p2
      try clear c3
      try clear c3b0
      try clear p6
      try clear c9
      try clear c16
      try clear c20
      try clear c20b0
      try clear c20b1
      try clear c20b2
      try clear c21
      try clear c21b0
      try clear c22
      try clear c25
      try clear c25b0
      try clear c25b1
      try clear c25b2
      try clear c26
      try clear c29
      try clear hcz13_0
      try clear hcz13_1
      try clear hcz17_0
      try clear hcz17_1
      try clear hcz23_0
      try clear hcz23_1
      try clear hcz24_0
      try clear hcz24_1
      try clear hcz27_0
      try clear hcz27_1
      try clear hcz28_0
      try clear hcz28_1
      try clear hcz30_0
      try clear hcz30_1
      try clear hcz31_0
      try clear hcz31_1
      try clear hfz13_0
      try clear hfz13_1
      try clear hfz17_0
      try clear hfz17_1
      try clear hfz23_0
      try clear hfz23_1
      try clear hfz24_0
      try clear hfz24_1
      try clear hfz27_0
      try clear hfz27_1
      try clear hfz28_0
      try clear hfz28_1
      try clear hfz30_0
      try clear hfz30_1
      try clear hfz31_0
      try clear hfz31_1
      obtain ⟨kq, x74_8, rfl, HA, HJ8, HO_10, HO_12, BK250, BK254, HB⟩ := hcut
      cases kq with
      | zero => exact absurd HA.out (by simp [laws_FnViterbi.j0])
      | succ kj8 =>
        have H := HA.out
        clear HA
        simp only [laws_FnViterbi.j0] at H
        by_cases c34 : x74_8 = true
        · subst c34
          have H1 : (some false) = some r := by rw [if_pos rfl] at H; exact H
          clear H
          have H := H1
          clear H1
          obtain rfl := Option.some.inj H
          go_wp2
          repeat (go_quiet (fail); try go_wp2)
          go_ret
          exact ⟨by first | rfl | (simp [errW_none, errW_some] <;> rfl) | (simp [*, errW_none, errW_some] <;> rfl), by repeat (first | (with_reducible first | exact HB.out | apply below_alloc | apply pw_below_drewN | apply below_drew1 | refine below_set ?_ GE250.out | refine below_set ?_ GE254.out) | exact HB.out)⟩
        · replace c34 := Bool.eq_false_iff.mpr c34
          subst c34
          have H1 : (laws_FnViterbi.l0 kj8 l1 t246 t249 t255 t259 (t255.length : Int) 0 t247 t248) = some r := by rw [if_neg (show ¬ (false = true) by decide)] at H; exact H
          clear H
          have H := H1
          clear H1
          have H' := Aside0.mk H
          clear H
          obtain ⟨Ao35, co35, eo35⟩ := Kd.R_slice HO_10.out
          subst eo35
          go_wp2
          repeat (go_quiet (fail); try go_wp2)
          go_loopg [77] kj8 (fun kq v77 w' => ∃ (x77_2 : Int), v77 = .int .i64 x77_2 ∧ Aside0 (laws_FnViterbi.l0 kq l1 t246 t249 t255 t259 (t255.length : Int) x77_2 t247 t248 = some r) ∧ Aside0 (kq ≤ kj8) ∧ Aside0 (Kd.R k39 39 w' w.heap.size (fun k_ => some k_ ≠ (v261 : Value).ownBlock ∧ k_ ≠ gb250 ∧ k_ ≠ gb254) (.slice Ao35 t255.length co35) t255) ∧ Aside0 (Kd.R k39 39 w' w.heap.size (fun k_ => some k_ ≠ ((.slice Ao35 t255.length co35) : Value).ownBlock ∧ k_ ≠ gb250 ∧ k_ ≠ gb254) v261 t259) ∧ Aside0 (w'.heap[gb250]? = some (.cells #[.string t247, .int .i64 t248] 39 (0, 0))) ∧ Aside0 (w'.heap[gb254]? = some (.cells #[.string t251, .int .i64 t252] 39 (0, 0))) ∧ Aside0 (Below w.heap.size w w'))
          case atStart => exact ⟨(0), (by first | rfl | (simp; done) | (simp [*]; done)), H', ⟨Nat.le_refl _⟩, ⟨by (with_reducible repeat (first | apply Kd.R_alloc | apply Kd.R_drewN | apply Kd.R_drew)); exact HO_10.out⟩, ⟨by (with_reducible repeat (first | apply Kd.R_alloc | apply Kd.R_drewN | apply Kd.R_drew)); exact HO_12.out⟩, ⟨by (with_reducible repeat (first | refine blk_drewN ?_ _ | refine blk_drew ?_ | refine blk_alloc ?_ _)); exact BK250.out⟩, ⟨by (with_reducible repeat (first | refine blk_drewN ?_ _ | refine blk_drew ?_ | refine blk_alloc ?_ _)); exact BK254.out⟩, ⟨by repeat (first | (with_reducible first | exact HB.out | apply below_alloc | apply pw_below_drewN | apply below_drew1 | refine below_set ?_ GE250.out | refine below_set ?_ GE254.out) | exact HB.out)⟩⟩
          case round =>
            clear H'
            try clear c1
            try clear c2
            try clear p2
            try clear c3
            try clear c3b0
            try clear p6
            try clear c9
            try clear c16
            try clear c20
            try clear c20b0
            try clear c20b1
            try clear c20b2
            try clear c21
            try clear c21b0
            try clear c22
            try clear c25
            try clear c25b0
            try clear c25b1
            try clear c25b2
            try clear c26
            try clear c29
            try clear c34
            try clear hcz13_0
            try clear hcz13_1
            try clear hcz17_0
            try clear hcz17_1
            try clear hcz23_0
            try clear hcz23_1
            try clear hcz24_0
            try clear hcz24_1
            try clear hcz27_0
            try clear hcz27_1
            try clear hcz28_0
            try clear hcz28_1
            try clear hcz30_0
            try clear hcz30_1
            try clear hcz31_0
            try clear hcz31_1
            try clear hfz13_0
            try clear hfz13_1
            try clear hfz17_0
            try clear hfz17_1
            try clear hfz23_0
            try clear hfz23_1
            try clear hfz24_0
            try clear hfz24_1
            try clear hfz27_0
            try clear hfz27_1
            try clear hfz28_0
            try clear hfz28_1
            try clear hfz30_0
            try clear hfz30_1
            try clear hfz31_0
            try clear hfz31_1
            try clear p2
            try clear p6
            obtain ⟨x77_2, rfl, HA, HK2, HO_10, HO_12, BK250, BK254, HB⟩ := hrel
            cases gk with
            | zero => exact absurd HA.out (by simp [laws_FnViterbi.l0])
            | succ k2 =>
              have H := HA.out
              clear HA
              simp only [laws_FnViterbi.l0] at H
              by_cases c36 : x77_2 < (t255.length : Int)
              · rw [if_pos c36] at H
                have c36b0 : decide (x77_2 < (t255.length : Int)) = true := decide_eq_true c36
                clear c36
                by_cases c37 : 0 ≤ x77_2
                · rw [if_pos c37] at H
                  have c37b0 : decide (0 ≤ x77_2) = true := decide_eq_true c37
                  clear c37
                  by_cases c38 : x77_2 < (t255.length : Int)
                  · rw [if_pos c38] at H
                    have c38b0 : decide (x77_2 < (t255.length : Int)) = true := decide_eq_true c38
                    clear c38
                    by_cases c39 : x77_2 < (t259.length : Int)
                    · rw [if_pos c39] at H
                      have c39b0 : decide (x77_2 < (t259.length : Int)) = true := decide_eq_true c39
                      clear c39
                      by_cases c40 : (!((((rd_T39 t255 x77_2).f0).toList) == (((rd_T39 t259 x77_2).f0).toList)) || (!(((rd_T39 t255 x77_2).f1) == ((rd_T39 t259 x77_2).f1)))) = true
                      · rw [if_pos c40] at H
                        have c40b0 : (!((((rd_T39 t255 x77_2).f0).toList) == (((rd_T39 t259 x77_2).f0).toList)) || (!(((rd_T39 t255 x77_2).f1) == ((rd_T39 t259 x77_2).f1)))) = true := c40
                        clear c40
                        obtain rfl := Option.some.inj H
                        have p263 : 0 ≤ (x77_2 : Int) := of_decide_eq_true (by first | (with_reducible assumption) | assumption)
                        have q263 : x77_2 < (t255.length : Int) := of_decide_eq_true (by first | (with_reducible assumption) | assumption)
                        obtain ⟨ad263, e263, hx263_0, hx263_1⟩ := at_T39 (Kd.R_reads' HO_10.out).2.2 x77_2 p263 q263
                        cases e263
                        replace p263 := eq_true p263
                        replace q263 := eq_true q263
                        obtain ⟨Ao41, co41, eo41⟩ := Kd.R_slice HO_12.out
                        subst eo41
                        have p264 : 0 ≤ (x77_2 : Int) := of_decide_eq_true (by first | (with_reducible assumption) | assumption)
                        have q264 : x77_2 < (t259.length : Int) := of_decide_eq_true (by first | (with_reducible assumption) | assumption)
                        obtain ⟨ad264, e264, hx264_0, hx264_1⟩ := at_T39 (Kd.R_reads' HO_12.out).2.2 x77_2 p264 q264
                        cases e264
                        replace p264 := eq_true p264
                        replace q264 := eq_true q264
                        go_wp2
                        repeat (go_quiet (fail); try go_wp2)
                        go_ret
                        exact ⟨by first | rfl | (simp [errW_none, errW_some] <;> rfl) | (simp [*, errW_none, errW_some] <;> rfl), by repeat (first | (with_reducible first | exact HB.out | apply below_alloc | apply pw_below_drewN | apply below_drew1 | refine below_set ?_ GE250.out | refine below_set ?_ GE254.out) | exact HB.out)⟩
                      · rw [if_neg c40] at H
                        have c40b0 : (!((((rd_T39 t255 x77_2).f0).toList) == (((rd_T39 t259 x77_2).f0).toList)) || (!(((rd_T39 t255 x77_2).f1) == ((rd_T39 t259 x77_2).f1)))) = false := by simpa using c40
                        clear c40
                        have H' := Aside0.mk H
                        clear H
                        have p263 : 0 ≤ (x77_2 : Int) := of_decide_eq_true (by first | (with_reducible assumption) | assumption)
                        have q263 : x77_2 < (t255.length : Int) := of_decide_eq_true (by first | (with_reducible assumption) | assumption)
                        obtain ⟨ad263, e263, hx263_0, hx263_1⟩ := at_T39 (Kd.R_reads' HO_10.out).2.2 x77_2 p263 q263
                        cases e263
                        replace p263 := eq_true p263
                        replace q263 := eq_true q263
                        obtain ⟨Ao42, co42, eo42⟩ := Kd.R_slice HO_12.out
                        subst eo42
                        have p264 : 0 ≤ (x77_2 : Int) := of_decide_eq_true (by first | (with_reducible assumption) | assumption)
                        have q264 : x77_2 < (t259.length : Int) := of_decide_eq_true (by first | (with_reducible assumption) | assumption)
                        obtain ⟨ad264, e264, hx264_0, hx264_1⟩ := at_T39 (Kd.R_reads' HO_12.out).2.2 x77_2 p264 q264
                        cases e264
                        replace p264 := eq_true p264
                        replace q264 := eq_true q264
                        go_wp2
                        repeat (go_quiet (fail); try go_wp2)
                        go_roundg k2
                        case measure => have := HJ8.out; have := HK2.out; omega
                        case rel => exact ⟨(wrap64 (x77_2 + 1)), (by first | rfl | (simp; done) | (simp [*]; done)), H', ⟨by have := HJ8.out; have := HK2.out; omega⟩, ⟨by (with_reducible repeat (first | apply Kd.R_alloc | apply Kd.R_drewN | apply Kd.R_drew)); exact HO_10.out⟩, ⟨by (with_reducible repeat (first | apply Kd.R_alloc | apply Kd.R_drewN | apply Kd.R_drew)); exact HO_12.out⟩, ⟨by (with_reducible repeat (first | refine blk_drewN ?_ _ | refine blk_drew ?_ | refine blk_alloc ?_ _)); exact BK250.out⟩, ⟨by (with_reducible repeat (first | refine blk_drewN ?_ _ | refine blk_drew ?_ | refine blk_alloc ?_ _)); exact BK254.out⟩, ⟨by repeat (first | (with_reducible first | exact HB.out | apply below_alloc | apply pw_below_drewN | apply below_drew1 | refine below_set ?_ GE250.out | refine below_set ?_ GE254.out) | exact HB.out)⟩⟩
                    · rw [if_neg c39] at H
                      exact absurd H (by simp)
                  · rw [if_neg c38] at H
                    exact absurd H (by simp)
                · rw [if_neg c37] at H
                  exact absurd H (by simp)
              · rw [if_neg c36] at H
                have c36b0 : decide (x77_2 < (t255.length : Int)) = false := decide_eq_false c36
                clear c36
                by_cases c43 : t249 = true
                · subst c43
                  have H1 : ((impl_CostOf.f k2 t247 t246).bind fun bt265 => (if bt265.2 = true then (laws_FnViterbi.j2 k2 l1 t246 (bt265.1 != t248) t247 t248) else (laws_FnViterbi.j2 k2 l1 t246 true t247 t248))) = some r := by rw [if_pos rfl] at H; exact H
                  clear H
                  have H := H1
                  clear H1
                  replace H := Option.bind_eq_some_iff.mp H
                  obtain ⟨⟨t265, t266⟩, A440, H⟩ := H
                  replace H : (if t266 = true then (laws_FnViterbi.j2 k2 l1 t246 (t265 != t248) t247 t248) else (laws_FnViterbi.j2 k2 l1 t246 true t247 t248)) = some r := H
                  have A44 := Aside0.mk A440
                  clear A440
                  have HC45 := Aside0.mk H
                  clear H
                  have hnb46 := NB250_254.out
                  have hnc46 := NB254_250.out
                  have hcz47_0 : wr.cell? ⟨gb250, 0, none⟩ = some (.string t247) := (blk_cell BK250.out 0).trans rfl
                  have hcz47_1 : wr.cell? ⟨gb250, 1, none⟩ = some (.int .i64 t248) := (blk_cell BK250.out 1).trans rfl
                  have hfz47_0 := blk_frozen BK250.out 0
                  have hfz47_1 := blk_frozen BK250.out 1
                  go_upto_region 19 with (first | (go_at_call 25; (with_reducible refine (impl_CostOf.calls k2 t247 t246 t265 t266 _ A44.out).mono ?_); rintro e w48 ⟨rfl, hb⟩; have n0_ := Aside0.mk (Kd.R_below (by (with_reducible repeat (first | apply Kd.R_alloc | apply Kd.R_drewN | apply Kd.R_drew)); exact HO_10.out) hb); have n1_ := Aside0.mk (Kd.R_below (by (with_reducible repeat (first | apply Kd.R_alloc | apply Kd.R_drewN | apply Kd.R_drew)); exact HO_12.out) hb); have n2_ := Aside0.mk (blk_below (g := gb250) (o := .cells #[.string t247, .int .i64 t248] 39 (0, 0)) (by (with_reducible repeat (first | refine blk_drewN ?_ _ | refine blk_drew ?_ | refine blk_alloc ?_ _)); exact BK250.out) hb); have n3_ := Aside0.mk (blk_below (g := gb254) (o := .cells #[.string t251, .int .i64 t252] 39 (0, 0)) (by (with_reducible repeat (first | refine blk_drewN ?_ _ | refine blk_drew ?_ | refine blk_alloc ?_ _)); exact BK254.out) hb); have n4_ := Aside0.mk (below_step (by repeat (first | (with_reducible first | exact HB.out | apply below_alloc | apply pw_below_drewN | apply below_drew1 | refine below_set ?_ GE250.out | refine below_set ?_ GE254.out) | exact HB.out)) hb); clear HO_10; clear HO_12; clear BK250; clear BK254; clear HB; have HO_10 := n0_; have HO_12 := n1_; have BK250 := n2_; have BK254 := n3_; have HB := n4_; clear n0_ n1_ n2_ n3_ n4_; (try clear hb); (try clear hb2); (try clear hk); (try clear hi)))
                  repeat (go_quiet (first | (go_at_call 25; (with_reducible refine (impl_CostOf.calls k2 t247 t246 t265 t266 _ A44.out).mono ?_); rintro e w48 ⟨rfl, hb⟩; have n0_ := Aside0.mk (Kd.R_below (by (with_reducible repeat (first | apply Kd.R_alloc | apply Kd.R_drewN | apply Kd.R_drew)); exact HO_10.out) hb); have n1_ := Aside0.mk (Kd.R_below (by (with_reducible repeat (first | apply Kd.R_alloc | apply Kd.R_drewN | apply Kd.R_drew)); exact HO_12.out) hb); have n2_ := Aside0.mk (blk_below (g := gb250) (o := .cells #[.string t247, .int .i64 t248] 39 (0, 0)) (by (with_reducible repeat (first | refine blk_drewN ?_ _ | refine blk_drew ?_ | refine blk_alloc ?_ _)); exact BK250.out) hb); have n3_ := Aside0.mk (blk_below (g := gb254) (o := .cells #[.string t251, .int .i64 t252] 39 (0, 0)) (by (with_reducible repeat (first | refine blk_drewN ?_ _ | refine blk_drew ?_ | refine blk_alloc ?_ _)); exact BK254.out) hb); have n4_ := Aside0.mk (below_step (by repeat (first | (with_reducible first | exact HB.out | apply below_alloc | apply pw_below_drewN | apply below_drew1 | refine below_set ?_ GE250.out | refine below_set ?_ GE254.out) | exact HB.out)) hb); clear HO_10; clear HO_12; clear BK250; clear BK254; clear HB; have HO_10 := n0_; have HO_12 := n1_; have BK250 := n2_; have BK254 := n3_; have HB := n4_; clear n0_ n1_ n2_ n3_ n4_; (try clear hb); (try clear hb2); (try clear hk); (try clear hi))); go_upto_region 19 with (first | (go_at_call 25; (with_reducible refine (impl_CostOf.calls k2 t247 t246 t265 t266 _ A44.out).mono ?_); rintro e w48 ⟨rfl, hb⟩; have n0_ := Aside0.mk (Kd.R_below (by (with_reducible repeat (first | apply Kd.R_alloc | apply Kd.R_drewN | apply Kd.R_drew)); exact HO_10.out) hb); have n1_ := Aside0.mk (Kd.R_below (by (with_reducible repeat (first | apply Kd.R_alloc | apply Kd.R_drewN | apply Kd.R_drew)); exact HO_12.out) hb); have n2_ := Aside0.mk (blk_below (g := gb250) (o := .cells #[.string t247, .int .i64 t248] 39 (0, 0)) (by (with_reducible repeat (first | refine blk_drewN ?_ _ | refine blk_drew ?_ | refine blk_alloc ?_ _)); exact BK250.out) hb); have n3_ := Aside0.mk (blk_below (g := gb254) (o := .cells #[.string t251, .int .i64 t252] 39 (0, 0)) (by (with_reducible repeat (first | refine blk_drewN ?_ _ | refine blk_drew ?_ | refine blk_alloc ?_ _)); exact BK254.out) hb); have n4_ := Aside0.mk (below_step (by repeat (first | (with_reducible first | exact HB.out | apply below_alloc | apply pw_below_drewN | apply below_drew1 | refine below_set ?_ GE250.out | refine below_set ?_ GE254.out) | exact HB.out)) hb); clear HO_10; clear HO_12; clear BK250; clear BK254; clear HB; have HO_10 := n0_; have HO_12 := n1_; have BK250 := n2_; have BK254 := n3_; have HB := n4_; clear n0_ n1_ n2_ n3_ n4_; (try clear hb); (try clear hb2); (try clear hk); (try clear hi))))
                  (try simp only [Act.put, List.setIfInBounds_toArray, List.set_cons_zero, List.set_cons_succ])
                  go_cut [109] (fun v109 wc => ∃ (kq : Nat) (x109_44 : Bool), v109 = .bool x109_44 ∧ Aside0 (laws_FnViterbi.j2 kq l1 t246 x109_44 t247 t248 = some r) ∧ Aside0 (kq ≤ k2) ∧ Aside0 (wc.heap[gb250]? = some (.cells #[.string t247, .int .i64 t248] 39 (0, 0))) ∧ Aside0 (wc.heap[gb254]? = some (.cells #[.string t251, .int .i64 t252] 39 (0, 0))) ∧ Aside0 (Below w.heap.size w wc))
                  case first =>
                    have H := HC45.out
                    clear HC45
                    by_cases c49 : t266 = true
                    · subst c49
                      have H1 : (laws_FnViterbi.j2 k2 l1 t246 (t265 != t248) t247 t248) = some r := by rw [if_pos rfl] at H; exact H
                      clear H
                      have H := H1
                      clear H1
                      have H' := Aside0.mk H
                      clear H
                      have hnb50 := NB250_254.out
                      have hnc50 := NB254_250.out
                      have hcz51_0 : w48.cell? ⟨gb250, 0, none⟩ = some (.string t247) := (blk_cell BK250.out 0).trans rfl
                      have hcz51_1 : w48.cell? ⟨gb250, 1, none⟩ = some (.int .i64 t248) := (blk_cell BK250.out 1).trans rfl
                      have hfz51_0 := blk_frozen BK250.out 0
                      have hfz51_1 := blk_frozen BK250.out 1
                      go_wp2
                      repeat (go_quiet (fail); try go_wp2)
                      go_meet
                      case rel => exact ⟨_, ((t265 != t248)), (by first | rfl | (simp; done) | (simp [*]; done)), H', ⟨by have := HJ8.out; have := HK2.out; first | omega | exact Nat.le_refl _⟩, ⟨by (with_reducible repeat (first | refine blk_drewN ?_ _ | refine blk_drew ?_ | refine blk_alloc ?_ _)); exact BK250.out⟩, ⟨by (with_reducible repeat (first | refine blk_drewN ?_ _ | refine blk_drew ?_ | refine blk_alloc ?_ _)); exact BK254.out⟩, ⟨by repeat (first | (with_reducible first | exact HB.out | apply below_alloc | apply pw_below_drewN | apply below_drew1 | refine below_set ?_ GE250.out | refine below_set ?_ GE254.out) | exact HB.out)⟩⟩
                    · replace c49 := Bool.eq_false_iff.mpr c49
                      subst c49
                      have H1 : (laws_FnViterbi.j2 k2 l1 t246 true t247 t248) = some r := by rw [if_neg (show ¬ (false = true) by decide)] at H; exact H
                      clear H
                      have H := H1
                      clear H1
                      have H' := Aside0.mk H
                      clear H
                      go_wp2
                      repeat (go_quiet (fail); try go_wp2)
                      go_meet
                      case rel => exact ⟨_, (true), (by first | rfl | (simp; done) | (simp [*]; done)), H', ⟨by have := HJ8.out; have := HK2.out; first | omega | exact Nat.le_refl _⟩, ⟨by (with_reducible repeat (first | refine blk_drewN ?_ _ | refine blk_drew ?_ | refine blk_alloc ?_ _)); exact BK250.out⟩, ⟨by (with_reducible repeat (first | refine blk_drewN ?_ _ | refine blk_drew ?_ | refine blk_alloc ?_ _)); exact BK254.out⟩, ⟨by repeat (first | (with_reducible first | exact HB.out | apply below_alloc | apply pw_below_drewN | apply below_drew1 | refine below_set ?_ GE250.out | refine below_set ?_ GE254.out) | exact HB.out)⟩⟩
                  case rest =>
                    clear HC45
                    try clear c1
                    try clear c2
                    try clear p2
                    try clear q2
                    try clear hx2
                    try clear c3
                    try clear c3b0
                    try clear c4
                    try clear c5
                    try clear p6
                    try clear c9
                    try clear c16
                    try clear c20
                    try clear c20b0
                    try clear c20b1
                    try clear c20b2
                    try clear c21
                    try clear c21b0
                    try clear c22
                    try clear c25
                    try clear c25b0
                    try clear c25b1
                    try clear c25b2
                    try clear c26
                    try clear p26
                    try clear q26
                    try clear hx26
                    try clear c29
                    try clear c34
                    try clear c36
                    try clear c36b0
                    try clear c37
                    try clear c37b0
                    try clear c38
                    try clear c38b0
                    try clear c39
                    try clear c39b0
                    try clear c40
                    try clear c40b0
                    try clear c43
                    try clear c46
                    try clear c49
                    try clear c50
                    try clear hcz13_0
                    try clear hcz13_1
                    try clear hcz17_0
                    try clear hcz17_1
                    try clear hcz23_0
                    try clear hcz23_1
                    try clear hcz24_0
                    try clear hcz24_1
                    try clear hcz27_0
                    try clear hcz27_1
                    try clear hcz28_0
                    try clear hcz28_1
                    try clear hcz30_0
                    try clear hcz30_1
                    try clear hcz31_0
                    try clear hcz31_1
                    try clear hcz47_0
                    try clear hcz47_1
                    try clear hcz51_0
                    try clear hcz51_1
                    try clear hfz13_0
                    try clear hfz13_1
                    try clear hfz17_0
                    try clear hfz17_1
                    try clear hfz23_0
                    try clear hfz23_1
                    try clear hfz24_0
                    try clear hfz24_1
                    try clear hfz27_0
                    try clear hfz27_1
                    try clear hfz28_0
                    try clear hfz28_1
                    try clear hfz30_0
                    try clear hfz30_1
                    try clear hfz31_0
                    try clear hfz31_1
                    try clear hfz47_0
                    try clear hfz47_1
                    try clear hfz51_0
                    try clear hfz51_1
                    try clear hx263_0
                    try clear hx263_1
                    try clear hx264_0
                    try clear hx264_1
                    try clear p2
                    try clear p263
                    try clear p264
                    try clear p6
                    try clear q263
                    try clear q264
                    obtain ⟨kq, x109_44, rfl, HA, HJ44, BK250, BK254, HB⟩ := hcut
                    cases kq with
                    | zero => exact absurd HA.out (by simp [laws_FnViterbi.j2])
                    | succ kj44 =>
                      have H := HA.out
                      clear HA
                      simp only [laws_FnViterbi.j2] at H
                      by_cases c52 : x109_44 = true
                      · subst c52
                        have H1 : (some false) = some r := by rw [if_pos rfl] at H; exact H
                        clear H
                        have H := H1
                        clear H1
                        obtain rfl := Option.some.inj H
                        go_wp2
                        repeat (go_quiet (fail); try go_wp2)
                        go_ret
                        exact ⟨by first | rfl | (simp [errW_none, errW_some] <;> rfl) | (simp [*, errW_none, errW_some] <;> rfl), by repeat (first | (with_reducible first | exact HB.out | apply below_alloc | apply pw_below_drewN | apply below_drew1 | refine below_set ?_ GE250.out | refine below_set ?_ GE254.out) | exact HB.out)⟩
                      · replace c52 := Bool.eq_false_iff.mpr c52
                        subst c52
                        have H1 : (if 0 ≤ (t247.size : Int) then (if ((t247.size : Int) : Int).toNat ≤ 281474976710656 then (laws_FnViterbi.l1 kj44 l1 t246 (List.replicate ((t247.size : Int) : Int).toNat 0) 0 t247 t248) else (none)) else (none)) = some r := by rw [if_neg (show ¬ (false = true) by decide)] at H; exact H
                        clear H
                        have H := H1
                        clear H1
                        by_cases c53 : 0 ≤ (t247.size : Int)
                        · rw [if_pos c53] at H
                          have c53b0 := eq_true c53
                          have c53b1 : decide (0 ≤ (t247.size : Int)) = true := decide_eq_true c53
                          clear c53
                          by_cases c54 : ((t247.size : Int) : Int).toNat ≤ 281474976710656
                          · rw [if_pos c54] at H
                            have c54b0 := eq_true c54
                            have c54b1 : decide (((t247.size : Int) : Int).toNat ≤ 281474976710656) = true := decide_eq_true c54
                            try simp only [Int.toNat_natCast] at c54b1
                            clear c54
                            obtain ⟨y267, hy267⟩ : ∃ y_ : List Int, y_ = (List.replicate ((t247.size : Int) : Int).toNat 0) := ⟨_, rfl⟩
                            replace H : (laws_FnViterbi.l1 kj44 l1 t246 y267 0 t247 t248) = some r := by first | (rw [hy267]; with_reducible exact H) | (have H2_ := (Option.bind_some _ _).symm.trans H; rw [hy267]; with_reducible exact H2_) | (have H2_ := (Option.bind_some _ _).symm.trans H; with_reducible exact H2_) | with_reducible exact H | (rw [hy267]; exact H) | exact H
                            have Ny267 := Aside0.mk hy267
                            clear hy267
                            have H' := Aside0.mk H
                            clear H
                            have hnb55 := NB250_254.out
                            have hnc55 := NB254_250.out
                            have hcz56_0 : wc.cell? ⟨gb250, 0, none⟩ = some (.string t247) := (blk_cell BK250.out 0).trans rfl
                            have hcz56_1 : wc.cell? ⟨gb250, 1, none⟩ = some (.int .i64 t248) := (blk_cell BK250.out 1).trans rfl
                            have hfz56_0 := blk_frozen BK250.out 0
                            have hfz56_1 := blk_frozen BK250.out 1
                            go_wp2_with (first | ((with_reducible refine gate_dst (N := 113) rfl ?_); (try (refine gate_guard (by rfl) ?_; dsimp only)); refine Kd.R_make (Kd.int .u8) _ 5 rfl (N := 113) rfl 43 _ _ rfl (t247.size : Int) rfl rfl Tryd.underlying43 (.int .u8 0) 1 info5 rfl (by decide) (by omega) 0 (ok := fun _ => True) (okp := fun _ => True) rfl (fun _ hk => hk) trivial (of_decide_eq_true (by first | (with_reducible assumption) | assumption)) (Nat.le_trans (Nat.mul_le_mul_right _ (of_decide_eq_true (by first | (with_reducible assumption) | assumption) : (t247.size : Int).toNat ≤ 281474976710656)) (by omega)) (Below.refl _ _) (Nat.le_refl _) ?_; intro v268 w57 ho58 hb hg_ hnew_; clear hg_ hnew_; (first | rw [← Ny267.out] at ho58 | (simp only [Int.reduceToNat] at ho58; rw [← Ny267.out] at ho58)); have n0_ := Aside0.mk (Kd.R_lower ho58 (below_size (by repeat (first | (with_reducible first | exact HB.out | apply below_alloc | apply pw_below_drewN | apply below_drew1 | refine below_set ?_ GE250.out | refine below_set ?_ GE254.out) | exact HB.out)))); have n1_ := Aside0.mk (blk_below (g := gb250) (o := .cells #[.string t247, .int .i64 t248] 39 (0, 0)) (by (with_reducible repeat (first | refine blk_drewN ?_ _ | refine blk_drew ?_ | refine blk_alloc ?_ _)); exact BK250.out) hb); have n2_ := Aside0.mk (blk_below (g := gb254) (o := .cells #[.string t251, .int .i64 t252] 39 (0, 0)) (by (with_reducible repeat (first | refine blk_drewN ?_ _ | refine blk_drew ?_ | refine blk_alloc ?_ _)); exact BK254.out) hb); have n3_ := Aside0.mk (below_step (by repeat (first | (with_reducible first | exact HB.out | apply below_alloc | apply pw_below_drewN | apply below_drew1 | refine below_set ?_ GE250.out | refine below_set ?_ GE254.out) | exact HB.out)) hb); clear BK250; clear BK254; clear HB; have HO269 := n0_; have BK250 := n1_; have BK254 := n2_; have HB := n3_; clear n0_ n1_ n2_ n3_; clear hb ho58))
                            repeat (go_quiet (first | ((with_reducible refine gate_dst (N := 113) rfl ?_); (try (refine gate_guard (by rfl) ?_; dsimp only)); refine Kd.R_make (Kd.int .u8) _ 5 rfl (N := 113) rfl 43 _ _ rfl (t247.size : Int) rfl rfl Tryd.underlying43 (.int .u8 0) 1 info5 rfl (by decide) (by omega) 0 (ok := fun _ => True) (okp := fun _ => True) rfl (fun _ hk => hk) trivial (of_decide_eq_true (by first | (with_reducible assumption) | assumption)) (Nat.le_trans (Nat.mul_le_mul_right _ (of_decide_eq_true (by first | (with_reducible assumption) | assumption) : (t247.size : Int).toNat ≤ 281474976710656)) (by omega)) (Below.refl _ _) (Nat.le_refl _) ?_; intro v268 w57 ho58 hb hg_ hnew_; clear hg_ hnew_; (first | rw [← Ny267.out] at ho58 | (simp only [Int.reduceToNat] at ho58; rw [← Ny267.out] at ho58)); have n0_ := Aside0.mk (Kd.R_lower ho58 (below_size (by repeat (first | (with_reducible first | exact HB.out | apply below_alloc | apply pw_below_drewN | apply below_drew1 | refine below_set ?_ GE250.out | refine below_set ?_ GE254.out) | exact HB.out)))); have n1_ := Aside0.mk (blk_below (g := gb250) (o := .cells #[.string t247, .int .i64 t248] 39 (0, 0)) (by (with_reducible repeat (first | refine blk_drewN ?_ _ | refine blk_drew ?_ | refine blk_alloc ?_ _)); exact BK250.out) hb); have n2_ := Aside0.mk (blk_below (g := gb254) (o := .cells #[.string t251, .int .i64 t252] 39 (0, 0)) (by (with_reducible repeat (first | refine blk_drewN ?_ _ | refine blk_drew ?_ | refine blk_alloc ?_ _)); exact BK254.out) hb); have n3_ := Aside0.mk (below_step (by repeat (first | (with_reducible first | exact HB.out | apply below_alloc | apply pw_below_drewN | apply below_drew1 | refine below_set ?_ GE250.out | refine below_set ?_ GE254.out) | exact HB.out)) hb); clear BK250; clear BK254; clear HB; have HO269 := n0_; have BK250 := n1_; have BK254 := n2_; have HB := n3_; clear n0_ n1_ n2_ n3_; clear hb ho58)); try go_wp2_with (first | ((with_reducible refine gate_dst (N := 113) rfl ?_); (try (refine gate_guard (by rfl) ?_; dsimp only)); refine Kd.R_make (Kd.int .u8) _ 5 rfl (N := 113) rfl 43 _ _ rfl (t247.size : Int) rfl rfl Tryd.underlying43 (.int .u8 0) 1 info5 rfl (by decide) (by omega) 0 (ok := fun _ => True) (okp := fun _ => True) rfl (fun _ hk => hk) trivial (of_decide_eq_true (by first | (with_reducible assumption) | assumption)) (Nat.le_trans (Nat.mul_le_mul_right _ (of_decide_eq_true (by first | (with_reducible assumption) | assumption) : (t247.size : Int).toNat ≤ 281474976710656)) (by omega)) (Below.refl _ _) (Nat.le_refl _) ?_; intro v268 w57 ho58 hb hg_ hnew_; clear hg_ hnew_; (first | rw [← Ny267.out] at ho58 | (simp only [Int.reduceToNat] at ho58; rw [← Ny267.out] at ho58)); have n0_ := Aside0.mk (Kd.R_lower ho58 (below_size (by repeat (first | (with_reducible first | exact HB.out | apply below_alloc | apply pw_below_drewN | apply below_drew1 | refine below_set ?_ GE250.out | refine below_set ?_ GE254.out) | exact HB.out)))); have n1_ := Aside0.mk (blk_below (g := gb250) (o := .cells #[.string t247, .int .i64 t248] 39 (0, 0)) (by (with_reducible repeat (first | refine blk_drewN ?_ _ | refine blk_drew ?_ | refine blk_alloc ?_ _)); exact BK250.out) hb); have n2_ := Aside0.mk (blk_below (g := gb254) (o := .cells #[.string t251, .int .i64 t252] 39 (0, 0)) (by (with_reducible repeat (first | refine blk_drewN ?_ _ | refine blk_drew ?_ | refine blk_alloc ?_ _)); exact BK254.out) hb); have n3_ := Aside0.mk (below_step (by repeat (first | (with_reducible first | exact HB.out | apply below_alloc | apply pw_below_drewN | apply below_drew1 | refine below_set ?_ GE250.out | refine below_set ?_ GE254.out) | exact HB.out)) hb); clear BK250; clear BK254; clear HB; have HO269 := n0_; have BK250 := n1_; have BK254 := n2_; have HB := n3_; clear n0_ n1_ n2_ n3_; clear hb ho58)))
                            go_loopg [18] kj44 (fun kq v18 w' => ∃ (x17_4 : List Int) (x18_4 : Int), v18 = .int .i64 x18_4 ∧ Aside0 (laws_FnViterbi.l1 kq l1 t246 x17_4 x18_4 t247 t248 = some r) ∧ Aside0 (kq ≤ kj44) ∧ Aside0 (Kd.R (Kd.int .u8) 5 w' w.heap.size (fun _ => True) v268 x17_4) ∧ Aside0 (w'.heap[gb250]? = some (.cells #[.string t247, .int .i64 t248] 39 (0, 0))) ∧ Aside0 (w'.heap[gb254]? = some (.cells #[.string t251, .int .i64 t252] 39 (0, 0))) ∧ Aside0 (Below w.heap.size w w'))
                            case atStart => exact ⟨(y267), (0), (by first | rfl | (simp; done) | (simp [*]; done)), H', ⟨Nat.le_refl _⟩, ⟨by (with_reducible repeat (first | apply Kd.R_alloc | apply Kd.R_drewN | apply Kd.R_drew)); exact HO269.out⟩, ⟨by (with_reducible repeat (first | refine blk_drewN ?_ _ | refine blk_drew ?_ | refine blk_alloc ?_ _)); exact BK250.out⟩, ⟨by (with_reducible repeat (first | refine blk_drewN ?_ _ | refine blk_drew ?_ | refine blk_alloc ?_ _)); exact BK254.out⟩, ⟨by repeat (first | (with_reducible first | exact HB.out | apply below_alloc | apply pw_below_drewN | apply below_drew1 | refine below_set ?_ GE250.out | refine below_set ?_ GE254.out) | exact HB.out)⟩⟩
                            case round =>
                              clear H'
                              try clear c1
                              try clear c2
                              try clear p2
                              try clear q2
                              try clear hx2
                              try clear c3
                              try clear c3b0
                              try clear c4
                              try clear c5
                              try clear p6
                              try clear c9
                              try clear c16
                              try clear c20
                              try clear c20b0
                              try clear c20b1
                              try clear c20b2
                              try clear c21
                              try clear c21b0
                              try clear c22
                              try clear c25
                              try clear c25b0
                              try clear c25b1
                              try clear c25b2
                              try clear c26
                              try clear p26
                              try clear q26
                              try clear hx26
                              try clear c29
                              try clear c34
                              try clear c36
                              try clear c36b0
                              try clear c37
                              try clear c37b0
                              try clear c38
                              try clear c38b0
                              try clear c39
                              try clear c39b0
                              try clear c40
                              try clear c40b0
                              try clear c43
                              try clear c46
                              try clear c49
                              try clear c50
                              try clear c52
                              try clear c53
                              try clear c53b0
                              try clear c53b1
                              try clear c54
                              try clear c54b0
                              try clear c54b1
                              try clear c55
                              try clear hcz13_0
                              try clear hcz13_1
                              try clear hcz17_0
                              try clear hcz17_1
                              try clear hcz23_0
                              try clear hcz23_1
                              try clear hcz24_0
                              try clear hcz24_1
                              try clear hcz27_0
                              try clear hcz27_1
                              try clear hcz28_0
                              try clear hcz28_1
                              try clear hcz30_0
                              try clear hcz30_1
                              try clear hcz31_0
                              try clear hcz31_1
                              try clear hcz47_0
                              try clear hcz47_1
                              try clear hcz51_0
                              try clear hcz51_1
                              try clear hcz56_0
                              try clear hcz56_1
                              try clear hfz13_0
                              try clear hfz13_1
                              try clear hfz17_0
                              try clear hfz17_1
                              try clear hfz23_0
                              try clear hfz23_1
                              try clear hfz24_0
                              try clear hfz24_1
                              try clear hfz27_0
                              try clear hfz27_1
                              try clear hfz28_0
                              try clear hfz28_1
                              try clear hfz30_0
                              try clear hfz30_1
                              try clear hfz31_0
                              try clear hfz31_1
                              try clear hfz47_0
                              try clear hfz47_1
                              try clear hfz51_0
                              try clear hfz51_1
                              try clear hfz56_0
                              try clear hfz56_1
                              try clear hx263_0
                              try clear hx263_1
                              try clear hx264_0
                              try clear hx264_1
                              try clear p2
                              try clear p26
                              try clear p263
                              try clear p264
                              try clear p6
                              try clear q2
                              try clear q26
                              try clear q263
                              try clear q264
                              obtain ⟨x17_4, x18_4, rfl, HA, HK4, HO_17, BK250, BK254, HB⟩ := hrel
                              cases gk with
                              | zero => exact absurd HA.out (by simp [laws_FnViterbi.l1])
                              | succ k4 =>
                                have H := HA.out
                                clear HA
                                simp only [laws_FnViterbi.l1] at H
                                by_cases c59 : x18_4 < 8
                                · rw [if_pos c59] at H
                                  have c59b0 : decide (x18_4 < 8) = true := decide_eq_true c59
                                  clear c59
                                  have H' := Aside0.mk H
                                  clear H
                                  obtain ⟨Ao60, co60, eo60⟩ := Kd.R_slice HO_17.out
                                  subst eo60
                                  go_wp2
                                  repeat (go_quiet (fail); try go_wp2)
                                  go_loopg [120] k4 (fun kq v120 w' => ∃ (x17_5 : List Int) (x120_5 : Int), v120 = .int .i64 x120_5 ∧ Aside0 (laws_FnViterbi.l2 kq l1 t246 x17_5 x18_4 (x17_4.length : Int) x120_5 t247 t248 = some r) ∧ Aside0 (kq ≤ k4) ∧ Aside0 (Kd.R (Kd.int .u8) 5 w' w.heap.size (fun _ => True) (.slice Ao60 x17_4.length co60) x17_5) ∧ Aside0 (w'.heap[gb250]? = some (.cells #[.string t247, .int .i64 t248] 39 (0, 0))) ∧ Aside0 (w'.heap[gb254]? = some (.cells #[.string t251, .int .i64 t252] 39 (0, 0))) ∧ Aside0 (Below w.heap.size w w'))
                                  case atStart => exact ⟨(x17_4), (0), (by first | rfl | (simp; done) | (simp [*]; done)), H', ⟨Nat.le_refl _⟩, ⟨by (with_reducible repeat (first | apply Kd.R_alloc | apply Kd.R_drewN | apply Kd.R_drew)); exact HO_17.out⟩, ⟨by (with_reducible repeat (first | refine blk_drewN ?_ _ | refine blk_drew ?_ | refine blk_alloc ?_ _)); exact BK250.out⟩, ⟨by (with_reducible repeat (first | refine blk_drewN ?_ _ | refine blk_drew ?_ | refine blk_alloc ?_ _)); exact BK254.out⟩, ⟨by repeat (first | (with_reducible first | exact HB.out | apply below_alloc | apply pw_below_drewN | apply below_drew1 | refine below_set ?_ GE250.out | refine below_set ?_ GE254.out) | exact HB.out)⟩⟩
                                  case round =>
                                    clear H'
                                    try clear c1
                                    try clear c2
                                    try clear p2
                                    try clear q2
                                    try clear hx2
                                    try clear c3
                                    try clear c3b0
                                    try clear c4
                                    try clear c5
                                    try clear p6
                                    try clear c9
                                    try clear c16
                                    try clear c20
                                    try clear c20b0
                                    try clear c20b1
                                    try clear c20b2
                                    try clear c21
                                    try clear c21b0
                                    try clear c22
                                    try clear c25
                                    try clear c25b0
                                    try clear c25b1
                                    try clear c25b2
                                    try clear c26
                                    try clear p26
                                    try clear q26
                                    try clear hx26
                                    try clear c29
                                    try clear c34
                                    try clear c36
                                    try clear c36b0
                                    try clear c37
                                    try clear c37b0
                                    try clear c38
                                    try clear c38b0
                                    try clear c39
                                    try clear c39b0
                                    try clear c40
                                    try clear c40b0
                                    try clear c43
                                    try clear c46
                                    try clear c49
                                    try clear c50
                                    try clear c52
                                    try clear c53
                                    try clear c53b0
                                    try clear c53b1
                                    try clear c54
                                    try clear c54b0
                                    try clear c54b1
                                    try clear c55
                                    try clear c59
                                    try clear c59b0
                                    try clear hcz13_0
                                    try clear hcz13_1
                                    try clear hcz17_0
                                    try clear hcz17_1
                                    try clear hcz23_0
                                    try clear hcz23_1
                                    try clear hcz24_0
                                    try clear hcz24_1
                                    try clear hcz27_0
                                    try clear hcz27_1
                                    try clear hcz28_0
                                    try clear hcz28_1
                                    try clear hcz30_0
                                    try clear hcz30_1
                                    try clear hcz31_0
                                    try clear hcz31_1
                                    try clear hcz47_0
                                    try clear hcz47_1
                                    try clear hcz51_0
                                    try clear hcz51_1
                                    try clear hcz56_0
                                    try clear hcz56_1
                                    try clear hfz13_0
                                    try clear hfz13_1
                                    try clear hfz17_0
                                    try clear hfz17_1
                                    try clear hfz23_0
                                    try clear hfz23_1
                                    try clear hfz24_0
                                    try clear hfz24_1
                                    try clear hfz27_0
                                    try clear hfz27_1
                                    try clear hfz28_0
                                    try clear hfz28_1
                                    try clear hfz30_0
                                    try clear hfz30_1
                                    try clear hfz31_0
                                    try clear hfz31_1
                                    try clear hfz47_0
                                    try clear hfz47_1
                                    try clear hfz51_0
                                    try clear hfz51_1
                                    try clear hfz56_0
                                    try clear hfz56_1
                                    try clear hx263_0
                                    try clear hx263_1
                                    try clear hx264_0
                                    try clear hx264_1
                                    try clear p2
                                    try clear p26
                                    try clear p263
                                    try clear p264
                                    try clear p6
                                    try clear q2
                                    try clear q26
                                    try clear q263
                                    try clear q264
                                    obtain ⟨x17_5, x120_5, rfl, HA, HK5, HO_17, BK250, BK254, HB⟩ := hrel
                                    have hl17_5 := (Kd.R_reads' HO_17.out).1
                                    rw [hl17_5] at HO_17
                                    (try simp only [hl17_5])
                                    (try simp only [hl17_5] at BK250)
                                    (try simp only [hl17_5] at BK254)
                                    cases gk with
                                    | zero => exact absurd HA.out (by simp [laws_FnViterbi.l2])
                                    | succ k5 =>
                                      have H := HA.out
                                      clear HA
                                      simp only [laws_FnViterbi.l2] at H
                                      by_cases c61 : x120_5 < (x17_4.length : Int)
                                      · rw [if_pos c61] at H
                                        have c61b0 : decide (x120_5 < (x17_4.length : Int)) = true := decide_eq_true c61
                                        try simp only [hl17_5] at c61b0
                                        clear c61
                                        by_cases c62 : 0 ≤ x120_5
                                        · rw [if_pos c62] at H
                                          have c62b0 : decide (0 ≤ x120_5) = true := decide_eq_true c62
                                          clear c62
                                          by_cases c63 : x120_5 < (x17_5.length : Int)
                                          · rw [if_pos c63] at H
                                            have c63b0 : decide (x120_5 < (x17_5.length : Int)) = true := decide_eq_true c63
                                            try simp only [hl17_5] at c63b0
                                            clear c63
                                            obtain ⟨y270, hy270⟩ : ∃ y_ : List Int, y_ = (x17_5.set (x120_5 : Int).toNat 48) := ⟨_, rfl⟩
                                            replace H : (if (wrap64 (x120_5 + (wrap64 (x18_4 * (x17_5.length : Int))))) < (l1.length : Int) then (if 0 ≤ (wrap64 (x120_5 + (wrap64 (x18_4 * (x17_5.length : Int))))) then (laws_FnViterbi.l2 k5 l1 t246 (y270.set (x120_5 : Int).toNat ((48 + (Int.tmod (rd l1 (wrap64 (x120_5 + (wrap64 (x18_4 * (x17_5.length : Int)))))) 2)) % 256)) x18_4 (x17_4.length : Int) (wrap64 (x120_5 + 1)) t247 t248) else (none)) else (laws_FnViterbi.l2 k5 l1 t246 y270 x18_4 (x17_4.length : Int) (wrap64 (x120_5 + 1)) t247 t248)) = some r := by first | (rw [hy270]; with_reducible exact H) | (have H2_ := (Option.bind_some _ _).symm.trans H; rw [hy270]; with_reducible exact H2_) | (have H2_ := (Option.bind_some _ _).symm.trans H; with_reducible exact H2_) | with_reducible exact H | (rw [hy270]; exact H) | exact H
                                            have Ny270 := Aside0.mk hy270
                                            clear hy270
                                            by_cases c65 : (wrap64 (x120_5 + (wrap64 (x18_4 * (x17_5.length : Int))))) < (l1.length : Int)
                                            · rw [if_pos c65] at H
                                              have c65b0 : decide ((wrap64 (x120_5 + (wrap64 (x18_4 * (x17_5.length : Int))))) < (l1.length : Int)) = true := decide_eq_true c65
                                              try simp only [hl17_5] at c65b0
                                              clear c65
                                              obtain ⟨ji66, hji66⟩ : ∃ j_ : Int, (wrap64 (x120_5 + (wrap64 (x18_4 * (x17_5.length : Int))))) = j_ := ⟨_, rfl⟩
                                              replace H : (if 0 ≤ (ji66) then (laws_FnViterbi.l2 k5 l1 t246 (y270.set (x120_5 : Int).toNat ((48 + (Int.tmod (rd l1 (ji66)) 2)) % 256)) x18_4 (x17_4.length : Int) (wrap64 (x120_5 + 1)) t247 t248) else (none)) = some r := by first | (rw [hji66] at H; exact H) | (simp only [hji66] at H ⊢; exact H)
                                              (try rw [hji66] at c65b0)
                                              have hji66w : (IntKind.i64.wrap (x120_5 + (wrap64 (x18_4 * (x17_5.length : Int))))) = ji66 := (i64_w _).trans hji66
                                              by_cases c67 : 0 ≤ (ji66)
                                              · rw [if_pos c67] at H
                                                have c67b0 : decide (0 ≤ (ji66)) = true := decide_eq_true c67
                                                clear c67
                                                obtain ⟨y272, hy272⟩ : ∃ y_ : List Int, y_ = (y270.set (x120_5 : Int).toNat ((48 + (Int.tmod (rd l1 (ji66)) 2)) % 256)) := ⟨_, rfl⟩
                                                replace H : (laws_FnViterbi.l2 k5 l1 t246 y272 x18_4 (x17_4.length : Int) (wrap64 (x120_5 + 1)) t247 t248) = some r := by first | (rw [hy272]; with_reducible exact H) | (have H2_ := (Option.bind_some _ _).symm.trans H; rw [hy272]; with_reducible exact H2_) | (have H2_ := (Option.bind_some _ _).symm.trans H; with_reducible exact H2_) | with_reducible exact H | (rw [hy272]; exact H) | exact H
                                                have Ny272 := Aside0.mk hy272
                                                clear hy272
                                                have H' := Aside0.mk H
                                                clear H
                                                have p64 : 0 ≤ (x120_5 : Int) := of_decide_eq_true (by first | (with_reducible assumption) | assumption)
                                                have q64 : (x120_5 : Int) < ((x17_5.length : Int) : Int) := of_decide_eq_true (by first | (with_reducible assumption) | assumption)
                                                obtain ⟨go64, co64, eo64, gb64, gl64, cl64, HG64⟩ := Kd.R_form HO_17.out (by omega)
                                                (first | cases eo64 | (injection eo64 with ea_ en_ ec_; (first | subst ea_ | (injection ea_ with ea_; subst ea_)); subst ec_; clear en_))
                                                have GB64 := Aside0.mk gb64
                                                have GG64 := Aside0.mk HG64
                                                clear gb64 gl64 HG64
                                                obtain ⟨hx64_0, hf64_0⟩ := Kd.R_celln 0 HO_17.out (x120_5 : Int) p64 q64
                                                replace p64 := eq_true p64
                                                replace q64 := eq_true q64
                                                have HP69 := Kd.R_putg HO_17.out (x120_5 : Int) 48
                                                go_wp2_with (first | ((with_reducible refine gate_store (t := 5) (p := 125) rfl ?_); (try (rw [drewN_self wr]; generalize hq_ : World.drewN wr _ = wr; have n0_ := Aside0.mk (Kd.R_at hq_ HO_17.out); have n1_ := Aside0.mk (blk_at hq_ BK250.out); have n2_ := Aside0.mk (blk_at hq_ BK254.out); have n3_ := Aside0.mk (below_at hq_ HB.out); clear hq_ HO_17 BK250 BK254 HB; have HO_17 := n0_; have BK250 := n1_; have BK254 := n2_; have HB := n3_; clear n0_ n1_ n2_ n3_; (try (have HP69 := Kd.R_putg HO_17.out (x120_5 : Int) 48)))); refine store_event (t := 5) (p := 125) (v := ?vo_w70) (w1 := (wr.setCell ⟨go64, (x120_5 : Int).toNat, none⟩ (.int .u8 48))) ?hg ?ho ?hn ?hr ?_; (case ho => rfl); (case hg => rfl); (case hn => rfl); (case hr => first | (go_simp; done) | (go_simp; rfl)); intro w70 hw; have hg : wr.grownBy w70 (some go64) := (by rw [hw]; exact HP69.2); have hp_ : Kd.R (Kd.int .u8) 5 w70 w.heap.size (fun _ => True) (.slice (some ⟨go64, 0, none⟩) x17_5.length co60) y270 := (by rw [hw, Ny270.out]; exact HP69.1); clear HP69; have n0_ := Aside0.mk (hp_); have n1_ := Aside0.mk (blk_grown (g := gb250) (o := .cells #[.string t247, .int .i64 t248] 39 (0, 0)) (by (with_reducible repeat (first | refine blk_drewN ?_ _ | refine blk_drew ?_ | refine blk_alloc ?_ _)); exact BK250.out) hg (Kd.R_ne HO_17.out BK250.out (by decide))); have n2_ := Aside0.mk (blk_grown (g := gb254) (o := .cells #[.string t251, .int .i64 t252] 39 (0, 0)) (by (with_reducible repeat (first | refine blk_drewN ?_ _ | refine blk_drew ?_ | refine blk_alloc ?_ _)); exact BK254.out) hg (Kd.R_ne HO_17.out BK254.out (by decide))); have n3_ := Aside0.mk ((by rw [hw]; exact below_set (HB.out) GB64.out : Below w.heap.size w w70)); clear HO_17; clear BK250; clear BK254; clear HB; have HO_17 := n0_; have BK250 := n1_; have BK254 := n2_; have HB := n3_; clear n0_ n1_ n2_ n3_; clear hg hw hp_; have p271 : 0 ≤ ((ji66) : Int) := of_decide_eq_true (by first | (with_reducible assumption) | assumption); have q271 : (ji66) < (l1.length : Int) := of_decide_eq_true (by first | (with_reducible assumption) | assumption); obtain ⟨ad271, e271, hx271_0⟩ := Kd.at_int HR1.out (ji66) p271 q271; cases e271; replace hx271_0 := (HB.out.cell (World.block_lt_of_cell? w _ hx271_0)).trans hx271_0; replace p271 := eq_true p271; replace q271 := eq_true q271; have p68 : 0 ≤ (x120_5 : Int) := of_decide_eq_true (by first | (with_reducible assumption) | assumption); have q68 : (x120_5 : Int) < ((x17_5.length : Int) : Int) := of_decide_eq_true (by first | (with_reducible assumption) | assumption); obtain ⟨hx68_0, hf68_0⟩ := Kd.R_celln 0 HO_17.out (x120_5 : Int) p68 q68; replace p68 := eq_true p68; replace q68 := eq_true q68; obtain ⟨hy71_, hz71_⟩ := Kd.R_celln 0 HO_17.out (x120_5 : Int) (of_decide_eq_true (by first | (with_reducible assumption) | assumption)) (of_decide_eq_true (by first | (with_reducible assumption) | assumption)); have HP71 := Kd.R_putg HO_17.out (x120_5 : Int) ((48 + (Int.tmod (rd l1 (ji66)) 2)) % 256)) | ((with_reducible refine gate_store (t := 5) (p := 144) rfl ?_); (try (rw [drewN_self w70]; generalize hq_ : World.drewN w70 _ = w70; have n0_ := Aside0.mk (Kd.R_at hq_ HO_17.out); have n1_ := Aside0.mk (blk_at hq_ BK250.out); have n2_ := Aside0.mk (blk_at hq_ BK254.out); have n3_ := Aside0.mk (below_at hq_ HB.out); clear hq_ HO_17 BK250 BK254 HB; have HO_17 := n0_; have BK250 := n1_; have BK254 := n2_; have HB := n3_; clear n0_ n1_ n2_ n3_; (try (obtain ⟨hy71_, hz71_⟩ := Kd.R_celln 0 HO_17.out (x120_5 : Int) (of_decide_eq_true (by first | (with_reducible assumption) | assumption)) (of_decide_eq_true (by first | (with_reducible assumption) | assumption)))); (try (have HP71 := Kd.R_putg HO_17.out (x120_5 : Int) ((48 + (Int.tmod (rd l1 (ji66)) 2)) % 256))))); refine store_event (t := 5) (p := 144) (v := ?vo_w72) (w1 := (w70.setCell ⟨go64, (x120_5 : Int).toNat, none⟩ (.int .u8 ((48 + (Int.tmod (rd l1 (ji66)) 2)) % 256)))) ?hg ?ho ?hn ?hr ?_; (case ho => rfl); (case hg => rfl); (case hn => rfl); (case hr => first | (go_simp; done) | (go_simp; rfl)); intro w72 hw; have hg : w70.grownBy w72 (some go64) := (by rw [hw]; exact HP71.2); have hp_ : Kd.R (Kd.int .u8) 5 w72 w.heap.size (fun _ => True) (.slice (some ⟨go64, 0, none⟩) x17_5.length co60) y272 := (by rw [hw, Ny272.out]; exact HP71.1); clear HP71; have n0_ := Aside0.mk (hp_); have n1_ := Aside0.mk (blk_grown (g := gb250) (o := .cells #[.string t247, .int .i64 t248] 39 (0, 0)) (by (with_reducible repeat (first | refine blk_drewN ?_ _ | refine blk_drew ?_ | refine blk_alloc ?_ _)); exact BK250.out) hg (Kd.R_ne HO_17.out BK250.out (by decide))); have n2_ := Aside0.mk (blk_grown (g := gb254) (o := .cells #[.string t251, .int .i64 t252] 39 (0, 0)) (by (with_reducible repeat (first | refine blk_drewN ?_ _ | refine blk_drew ?_ | refine blk_alloc ?_ _)); exact BK254.out) hg (Kd.R_ne HO_17.out BK254.out (by decide))); have n3_ := Aside0.mk ((by rw [hw]; exact below_set (HB.out) GB64.out : Below w.heap.size w w72)); clear HO_17; clear BK250; clear BK254; clear HB; have HO_17 := n0_; have BK250 := n1_; have BK254 := n2_; have HB := n3_; clear n0_ n1_ n2_ n3_; clear hg hw hp_))
                                                repeat (go_quiet (first | ((with_reducible refine gate_store (t := 5) (p := 125) rfl ?_); (try (rw [drewN_self wr]; generalize hq_ : World.drewN wr _ = wr; have n0_ := Aside0.mk (Kd.R_at hq_ HO_17.out); have n1_ := Aside0.mk (blk_at hq_ BK250.out); have n2_ := Aside0.mk (blk_at hq_ BK254.out); have n3_ := Aside0.mk (below_at hq_ HB.out); clear hq_ HO_17 BK250 BK254 HB; have HO_17 := n0_; have BK250 := n1_; have BK254 := n2_; have HB := n3_; clear n0_ n1_ n2_ n3_; (try (have HP69 := Kd.R_putg HO_17.out (x120_5 : Int) 48)))); refine store_event (t := 5) (p := 125) (v := ?vo_w70) (w1 := (wr.setCell ⟨go64, (x120_5 : Int).toNat, none⟩ (.int .u8 48))) ?hg ?ho ?hn ?hr ?_; (case ho => rfl); (case hg => rfl); (case hn => rfl); (case hr => first | (go_simp; done) | (go_simp; rfl)); intro w70 hw; have hg : wr.grownBy w70 (some go64) := (by rw [hw]; exact HP69.2); have hp_ : Kd.R (Kd.int .u8) 5 w70 w.heap.size (fun _ => True) (.slice (some ⟨go64, 0, none⟩) x17_5.length co60) y270 := (by rw [hw, Ny270.out]; exact HP69.1); clear HP69; have n0_ := Aside0.mk (hp_); have n1_ := Aside0.mk (blk_grown (g := gb250) (o := .cells #[.string t247, .int .i64 t248] 39 (0, 0)) (by (with_reducible repeat (first | refine blk_drewN ?_ _ | refine blk_drew ?_ | refine blk_alloc ?_ _)); exact BK250.out) hg (Kd.R_ne HO_17.out BK250.out (by decide))); have n2_ := Aside0.mk (blk_grown (g := gb254) (o := .cells #[.string t251, .int .i64 t252] 39 (0, 0)) (by (with_reducible repeat (first | refine blk_drewN ?_ _ | refine blk_drew ?_ | refine blk_alloc ?_ _)); exact BK254.out) hg (Kd.R_ne HO_17.out BK254.out (by decide))); have n3_ := Aside0.mk ((by rw [hw]; exact below_set (HB.out) GB64.out : Below w.heap.size w w70)); clear HO_17; clear BK250; clear BK254; clear HB; have HO_17 := n0_; have BK250 := n1_; have BK254 := n2_; have HB := n3_; clear n0_ n1_ n2_ n3_; clear hg hw hp_; have p271 : 0 ≤ ((ji66) : Int) := of_decide_eq_true (by first | (with_reducible assumption) | assumption); have q271 : (ji66) < (l1.length : Int) := of_decide_eq_true (by first | (with_reducible assumption) | assumption); obtain ⟨ad271, e271, hx271_0⟩ := Kd.at_int HR1.out (ji66) p271 q271; cases e271; replace hx271_0 := (HB.out.cell (World.block_lt_of_cell? w _ hx271_0)).trans hx271_0; replace p271 := eq_true p271; replace q271 := eq_true q271; have p68 : 0 ≤ (x120_5 : Int) := of_decide_eq_true (by first | (with_reducible assumption) | assumption); have q68 : (x120_5 : Int) < ((x17_5.length : Int) : Int) := of_decide_eq_true (by first | (with_reducible assumption) | assumption); obtain ⟨hx68_0, hf68_0⟩ := Kd.R_celln 0 HO_17.out (x120_5 : Int) p68 q68; replace p68 := eq_true p68; replace q68 := eq_true q68; obtain ⟨hy71_, hz71_⟩ := Kd.R_celln 0 HO_17.out (x120_5 : Int) (of_decide_eq_true (by first | (with_reducible assumption) | assumption)) (of_decide_eq_true (by first | (with_reducible assumption) | assumption)); have HP71 := Kd.R_putg HO_17.out (x120_5 : Int) ((48 + (Int.tmod (rd l1 (ji66)) 2)) % 256)) | ((with_reducible refine gate_store (t := 5) (p := 144) rfl ?_); (try (rw [drewN_self w70]; generalize hq_ : World.drewN w70 _ = w70; have n0_ := Aside0.mk (Kd.R_at hq_ HO_17.out); have n1_ := Aside0.mk (blk_at hq_ BK250.out); have n2_ := Aside0.mk (blk_at hq_ BK254.out); have n3_ := Aside0.mk (below_at hq_ HB.out); clear hq_ HO_17 BK250 BK254 HB; have HO_17 := n0_; have BK250 := n1_; have BK254 := n2_; have HB := n3_; clear n0_ n1_ n2_ n3_; (try (obtain ⟨hy71_, hz71_⟩ := Kd.R_celln 0 HO_17.out (x120_5 : Int) (of_decide_eq_true (by first | (with_reducible assumption) | assumption)) (of_decide_eq_true (by first | (with_reducible assumption) | assumption)))); (try (have HP71 := Kd.R_putg HO_17.out (x120_5 : Int) ((48 + (Int.tmod (rd l1 (ji66)) 2)) % 256))))); refine store_event (t := 5) (p := 144) (v := ?vo_w72) (w1 := (w70.setCell ⟨go64, (x120_5 : Int).toNat, none⟩ (.int .u8 ((48 + (Int.tmod (rd l1 (ji66)) 2)) % 256)))) ?hg ?ho ?hn ?hr ?_; (case ho => rfl); (case hg => rfl); (case hn => rfl); (case hr => first | (go_simp; done) | (go_simp; rfl)); intro w72 hw; have hg : w70.grownBy w72 (some go64) := (by rw [hw]; exact HP71.2); have hp_ : Kd.R (Kd.int .u8) 5 w72 w.heap.size (fun _ => True) (.slice (some ⟨go64, 0, none⟩) x17_5.length co60) y272 := (by rw [hw, Ny272.out]; exact HP71.1); clear HP71; have n0_ := Aside0.mk (hp_); have n1_ := Aside0.mk (blk_grown (g := gb250) (o := .cells #[.string t247, .int .i64 t248] 39 (0, 0)) (by (with_reducible repeat (first | refine blk_drewN ?_ _ | refine blk_drew ?_ | refine blk_alloc ?_ _)); exact BK250.out) hg (Kd.R_ne HO_17.out BK250.out (by decide))); have n2_ := Aside0.mk (blk_grown (g := gb254) (o := .cells #[.string t251, .int .i64 t252] 39 (0, 0)) (by (with_reducible repeat (first | refine blk_drewN ?_ _ | refine blk_drew ?_ | refine blk_alloc ?_ _)); exact BK254.out) hg (Kd.R_ne HO_17.out BK254.out (by decide))); have n3_ := Aside0.mk ((by rw [hw]; exact below_set (HB.out) GB64.out : Below w.heap.size w w72)); clear HO_17; clear BK250; clear BK254; clear HB; have HO_17 := n0_; have BK250 := n1_; have BK254 := n2_; have HB := n3_; clear n0_ n1_ n2_ n3_; clear hg hw hp_)); try go_wp2_with (first | ((with_reducible refine gate_store (t := 5) (p := 125) rfl ?_); (try (rw [drewN_self wr]; generalize hq_ : World.drewN wr _ = wr; have n0_ := Aside0.mk (Kd.R_at hq_ HO_17.out); have n1_ := Aside0.mk (blk_at hq_ BK250.out); have n2_ := Aside0.mk (blk_at hq_ BK254.out); have n3_ := Aside0.mk (below_at hq_ HB.out); clear hq_ HO_17 BK250 BK254 HB; have HO_17 := n0_; have BK250 := n1_; have BK254 := n2_; have HB := n3_; clear n0_ n1_ n2_ n3_; (try (have HP69 := Kd.R_putg HO_17.out (x120_5 : Int) 48)))); refine store_event (t := 5) (p := 125) (v := ?vo_w70) (w1 := (wr.setCell ⟨go64, (x120_5 : Int).toNat, none⟩ (.int .u8 48))) ?hg ?ho ?hn ?hr ?_; (case ho => rfl); (case hg => rfl); (case hn => rfl); (case hr => first | (go_simp; done) | (go_simp; rfl)); intro w70 hw; have hg : wr.grownBy w70 (some go64) := (by rw [hw]; exact HP69.2); have hp_ : Kd.R (Kd.int .u8) 5 w70 w.heap.size (fun _ => True) (.slice (some ⟨go64, 0, none⟩) x17_5.length co60) y270 := (by rw [hw, Ny270.out]; exact HP69.1); clear HP69; have n0_ := Aside0.mk (hp_); have n1_ := Aside0.mk (blk_grown (g := gb250) (o := .cells #[.string t247, .int .i64 t248] 39 (0, 0)) (by (with_reducible repeat (first | refine blk_drewN ?_ _ | refine blk_drew ?_ | refine blk_alloc ?_ _)); exact BK250.out) hg (Kd.R_ne HO_17.out BK250.out (by decide))); have n2_ := Aside0.mk (blk_grown (g := gb254) (o := .cells #[.string t251, .int .i64 t252] 39 (0, 0)) (by (with_reducible repeat (first | refine blk_drewN ?_ _ | refine blk_drew ?_ | refine blk_alloc ?_ _)); exact BK254.out) hg (Kd.R_ne HO_17.out BK254.out (by decide))); have n3_ := Aside0.mk ((by rw [hw]; exact below_set (HB.out) GB64.out : Below w.heap.size w w70)); clear HO_17; clear BK250; clear BK254; clear HB; have HO_17 := n0_; have BK250 := n1_; have BK254 := n2_; have HB := n3_; clear n0_ n1_ n2_ n3_; clear hg hw hp_; have p271 : 0 ≤ ((ji66) : Int) := of_decide_eq_true (by first | (with_reducible assumption) | assumption); have q271 : (ji66) < (l1.length : Int) := of_decide_eq_true (by first | (with_reducible assumption) | assumption); obtain ⟨ad271, e271, hx271_0⟩ := Kd.at_int HR1.out (ji66) p271 q271; cases e271; replace hx271_0 := (HB.out.cell (World.block_lt_of_cell? w _ hx271_0)).trans hx271_0; replace p271 := eq_true p271; replace q271 := eq_true q271; have p68 : 0 ≤ (x120_5 : Int) := of_decide_eq_true (by first | (with_reducible assumption) | assumption); have q68 : (x120_5 : Int) < ((x17_5.length : Int) : Int) := of_decide_eq_true (by first | (with_reducible assumption) | assumption); obtain ⟨hx68_0, hf68_0⟩ := Kd.R_celln 0 HO_17.out (x120_5 : Int) p68 q68; replace p68 := eq_true p68; replace q68 := eq_true q68; obtain ⟨hy71_, hz71_⟩ := Kd.R_celln 0 HO_17.out (x120_5 : Int) (of_decide_eq_true (by first | (with_reducible assumption) | assumption)) (of_decide_eq_true (by first | (with_reducible assumption) | assumption)); have HP71 := Kd.R_putg HO_17.out (x120_5 : Int) ((48 + (Int.tmod (rd l1 (ji66)) 2)) % 256)) | ((with_reducible refine gate_store (t := 5) (p := 144) rfl ?_); (try (rw [drewN_self w70]; generalize hq_ : World.drewN w70 _ = w70; have n0_ := Aside0.mk (Kd.R_at hq_ HO_17.out); have n1_ := Aside0.mk (blk_at hq_ BK250.out); have n2_ := Aside0.mk (blk_at hq_ BK254.out); have n3_ := Aside0.mk (below_at hq_ HB.out); clear hq_ HO_17 BK250 BK254 HB; have HO_17 := n0_; have BK250 := n1_; have BK254 := n2_; have HB := n3_; clear n0_ n1_ n2_ n3_; (try (obtain ⟨hy71_, hz71_⟩ := Kd.R_celln 0 HO_17.out (x120_5 : Int) (of_decide_eq_true (by first | (with_reducible assumption) | assumption)) (of_decide_eq_true (by first | (with_reducible assumption) | assumption)))); (try (have HP71 := Kd.R_putg HO_17.out (x120_5 : Int) ((48 + (Int.tmod (rd l1 (ji66)) 2)) % 256))))); refine store_event (t := 5) (p := 144) (v := ?vo_w72) (w1 := (w70.setCell ⟨go64, (x120_5 : Int).toNat, none⟩ (.int .u8 ((48 + (Int.tmod (rd l1 (ji66)) 2)) % 256)))) ?hg ?ho ?hn ?hr ?_; (case ho => rfl); (case hg => rfl); (case hn => rfl); (case hr => first | (go_simp; done) | (go_simp; rfl)); intro w72 hw; have hg : w70.grownBy w72 (some go64) := (by rw [hw]; exact HP71.2); have hp_ : Kd.R (Kd.int .u8) 5 w72 w.heap.size (fun _ => True) (.slice (some ⟨go64, 0, none⟩) x17_5.length co60) y272 := (by rw [hw, Ny272.out]; exact HP71.1); clear HP71; have n0_ := Aside0.mk (hp_); have n1_ := Aside0.mk (blk_grown (g := gb250) (o := .cells #[.string t247, .int .i64 t248] 39 (0, 0)) (by (with_reducible repeat (first | refine blk_drewN ?_ _ | refine blk_drew ?_ | refine blk_alloc ?_ _)); exact BK250.out) hg (Kd.R_ne HO_17.out BK250.out (by decide))); have n2_ := Aside0.mk (blk_grown (g := gb254) (o := .cells #[.string t251, .int .i64 t252] 39 (0, 0)) (by (with_reducible repeat (first | refine blk_drewN ?_ _ | refine blk_drew ?_ | refine blk_alloc ?_ _)); exact BK254.out) hg (Kd.R_ne HO_17.out BK254.out (by decide))); have n3_ := Aside0.mk ((by rw [hw]; exact below_set (HB.out) GB64.out : Below w.heap.size w w72)); clear HO_17; clear BK250; clear BK254; clear HB; have HO_17 := n0_; have BK250 := n1_; have BK254 := n2_; have HB := n3_; clear n0_ n1_ n2_ n3_; clear hg hw hp_)))
                                                (try simp only [← hl17_5])
                                                first | go_roundg k5 | (try rw [show (⟨go64, (x77_2).toNat, none⟩ : Addr) = (⟨go64, 0, none⟩ : Addr).add (x77_2).toNat from by simp [Addr.add]]; try rw [show (⟨go64, (x18_4).toNat, none⟩ : Addr) = (⟨go64, 0, none⟩ : Addr).add (x18_4).toNat from by simp [Addr.add]]; go_roundg k5)
                                                case measure => have := HJ8.out; have := HK2.out; have := HJ44.out; have := HK4.out; have := HK5.out; omega
                                                case rel => exact ⟨(y272), (wrap64 (x120_5 + 1)), (by first | rfl | (simp; done) | (simp [*]; done)), (by first | exact H' | (have H2_ := H'; simp only [hji66] at H2_ ⊢; exact H2_)), ⟨by have := HJ8.out; have := HK2.out; have := HJ44.out; have := HK4.out; have := HK5.out; omega⟩, ⟨by (try simp only [hl17_5]); (with_reducible repeat (first | apply Kd.R_alloc | apply Kd.R_drewN | apply Kd.R_drew)); exact HO_17.out⟩, ⟨by (try simp only [hl17_5]); (with_reducible repeat (first | refine blk_drewN ?_ _ | refine blk_drew ?_ | refine blk_alloc ?_ _)); exact BK250.out⟩, ⟨by (try simp only [hl17_5]); (with_reducible repeat (first | refine blk_drewN ?_ _ | refine blk_drew ?_ | refine blk_alloc ?_ _)); exact BK254.out⟩, ⟨by repeat (first | (with_reducible first | exact HB.out | apply below_alloc | apply pw_below_drewN | apply below_drew1 | refine below_set ?_ GE250.out | refine below_set ?_ GE254.out) | exact HB.out)⟩⟩
                                              · rw [if_neg c67] at H
                                                exact absurd H (by simp)
                                            · rw [if_neg c65] at H
                                              have c65b0 : decide ((wrap64 (x120_5 + (wrap64 (x18_4 * (x17_5.length : Int))))) < (l1.length : Int)) = false := decide_eq_false c65
                                              try simp only [hl17_5] at c65b0
                                              clear c65
                                              have H' := Aside0.mk H
                                              clear H
                                              have p64 : 0 ≤ (x120_5 : Int) := of_decide_eq_true (by first | (with_reducible assumption) | assumption)
                                              have q64 : (x120_5 : Int) < ((x17_5.length : Int) : Int) := of_decide_eq_true (by first | (with_reducible assumption) | assumption)
                                              obtain ⟨go64, co64, eo64, gb64, gl64, cl64, HG64⟩ := Kd.R_form HO_17.out (by omega)
                                              (first | cases eo64 | (injection eo64 with ea_ en_ ec_; (first | subst ea_ | (injection ea_ with ea_; subst ea_)); subst ec_; clear en_))
                                              have GB64 := Aside0.mk gb64
                                              have GG64 := Aside0.mk HG64
                                              clear gb64 gl64 HG64
                                              obtain ⟨hx64_0, hf64_0⟩ := Kd.R_celln 0 HO_17.out (x120_5 : Int) p64 q64
                                              replace p64 := eq_true p64
                                              replace q64 := eq_true q64
                                              have HP73 := Kd.R_putg HO_17.out (x120_5 : Int) 48
                                              go_wp2_with (first | ((with_reducible refine gate_store (t := 5) (p := 125) rfl ?_); (try (rw [drewN_self wr]; generalize hq_ : World.drewN wr _ = wr; have n0_ := Aside0.mk (Kd.R_at hq_ HO_17.out); have n1_ := Aside0.mk (blk_at hq_ BK250.out); have n2_ := Aside0.mk (blk_at hq_ BK254.out); have n3_ := Aside0.mk (below_at hq_ HB.out); clear hq_ HO_17 BK250 BK254 HB; have HO_17 := n0_; have BK250 := n1_; have BK254 := n2_; have HB := n3_; clear n0_ n1_ n2_ n3_; (try (have HP73 := Kd.R_putg HO_17.out (x120_5 : Int) 48)))); refine store_event (t := 5) (p := 125) (v := ?vo_w74) (w1 := (wr.setCell ⟨go64, (x120_5 : Int).toNat, none⟩ (.int .u8 48))) ?hg ?ho ?hn ?hr ?_; (case ho => rfl); (case hg => rfl); (case hn => rfl); (case hr => first | (go_simp; done) | (go_simp; rfl)); intro w74 hw; have hg : wr.grownBy w74 (some go64) := (by rw [hw]; exact HP73.2); have hp_ : Kd.R (Kd.int .u8) 5 w74 w.heap.size (fun _ => True) (.slice (some ⟨go64, 0, none⟩) x17_5.length co60) y270 := (by rw [hw, Ny270.out]; exact HP73.1); clear HP73; have n0_ := Aside0.mk (hp_); have n1_ := Aside0.mk (blk_grown (g := gb250) (o := .cells #[.string t247, .int .i64 t248] 39 (0, 0)) (by (with_reducible repeat (first | refine blk_drewN ?_ _ | refine blk_drew ?_ | refine blk_alloc ?_ _)); exact BK250.out) hg (Kd.R_ne HO_17.out BK250.out (by decide))); have n2_ := Aside0.mk (blk_grown (g := gb254) (o := .cells #[.string t251, .int .i64 t252] 39 (0, 0)) (by (with_reducible repeat (first | refine blk_drewN ?_ _ | refine blk_drew ?_ | refine blk_alloc ?_ _)); exact BK254.out) hg (Kd.R_ne HO_17.out BK254.out (by decide))); have n3_ := Aside0.mk ((by rw [hw]; exact below_set (HB.out) GB64.out : Below w.heap.size w w74)); clear HO_17; clear BK250; clear BK254; clear HB; have HO_17 := n0_; have BK250 := n1_; have BK254 := n2_; have HB := n3_; clear n0_ n1_ n2_ n3_; clear hg hw hp_))
                                              repeat (go_quiet (first | ((with_reducible refine gate_store (t := 5) (p := 125) rfl ?_); (try (rw [drewN_self wr]; generalize hq_ : World.drewN wr _ = wr; have n0_ := Aside0.mk (Kd.R_at hq_ HO_17.out); have n1_ := Aside0.mk (blk_at hq_ BK250.out); have n2_ := Aside0.mk (blk_at hq_ BK254.out); have n3_ := Aside0.mk (below_at hq_ HB.out); clear hq_ HO_17 BK250 BK254 HB; have HO_17 := n0_; have BK250 := n1_; have BK254 := n2_; have HB := n3_; clear n0_ n1_ n2_ n3_; (try (have HP73 := Kd.R_putg HO_17.out (x120_5 : Int) 48)))); refine store_event (t := 5) (p := 125) (v := ?vo_w74) (w1 := (wr.setCell ⟨go64, (x120_5 : Int).toNat, none⟩ (.int .u8 48))) ?hg ?ho ?hn ?hr ?_; (case ho => rfl); (case hg => rfl); (case hn => rfl); (case hr => first | (go_simp; done) | (go_simp; rfl)); intro w74 hw; have hg : wr.grownBy w74 (some go64) := (by rw [hw]; exact HP73.2); have hp_ : Kd.R (Kd.int .u8) 5 w74 w.heap.size (fun _ => True) (.slice (some ⟨go64, 0, none⟩) x17_5.length co60) y270 := (by rw [hw, Ny270.out]; exact HP73.1); clear HP73; have n0_ := Aside0.mk (hp_); have n1_ := Aside0.mk (blk_grown (g := gb250) (o := .cells #[.string t247, .int .i64 t248] 39 (0, 0)) (by (with_reducible repeat (first | refine blk_drewN ?_ _ | refine blk_drew ?_ | refine blk_alloc ?_ _)); exact BK250.out) hg (Kd.R_ne HO_17.out BK250.out (by decide))); have n2_ := Aside0.mk (blk_grown (g := gb254) (o := .cells #[.string t251, .int .i64 t252] 39 (0, 0)) (by (with_reducible repeat (first | refine blk_drewN ?_ _ | refine blk_drew ?_ | refine blk_alloc ?_ _)); exact BK254.out) hg (Kd.R_ne HO_17.out BK254.out (by decide))); have n3_ := Aside0.mk ((by rw [hw]; exact below_set (HB.out) GB64.out : Below w.heap.size w w74)); clear HO_17; clear BK250; clear BK254; clear HB; have HO_17 := n0_; have BK250 := n1_; have BK254 := n2_; have HB := n3_; clear n0_ n1_ n2_ n3_; clear hg hw hp_)); try go_wp2_with (first | ((with_reducible refine gate_store (t := 5) (p := 125) rfl ?_); (try (rw [drewN_self wr]; generalize hq_ : World.drewN wr _ = wr; have n0_ := Aside0.mk (Kd.R_at hq_ HO_17.out); have n1_ := Aside0.mk (blk_at hq_ BK250.out); have n2_ := Aside0.mk (blk_at hq_ BK254.out); have n3_ := Aside0.mk (below_at hq_ HB.out); clear hq_ HO_17 BK250 BK254 HB; have HO_17 := n0_; have BK250 := n1_; have BK254 := n2_; have HB := n3_; clear n0_ n1_ n2_ n3_; (try (have HP73 := Kd.R_putg HO_17.out (x120_5 : Int) 48)))); refine store_event (t := 5) (p := 125) (v := ?vo_w74) (w1 := (wr.setCell ⟨go64, (x120_5 : Int).toNat, none⟩ (.int .u8 48))) ?hg ?ho ?hn ?hr ?_; (case ho => rfl); (case hg => rfl); (case hn => rfl); (case hr => first | (go_simp; done) | (go_simp; rfl)); intro w74 hw; have hg : wr.grownBy w74 (some go64) := (by rw [hw]; exact HP73.2); have hp_ : Kd.R (Kd.int .u8) 5 w74 w.heap.size (fun _ => True) (.slice (some ⟨go64, 0, none⟩) x17_5.length co60) y270 := (by rw [hw, Ny270.out]; exact HP73.1); clear HP73; have n0_ := Aside0.mk (hp_); have n1_ := Aside0.mk (blk_grown (g := gb250) (o := .cells #[.string t247, .int .i64 t248] 39 (0, 0)) (by (with_reducible repeat (first | refine blk_drewN ?_ _ | refine blk_drew ?_ | refine blk_alloc ?_ _)); exact BK250.out) hg (Kd.R_ne HO_17.out BK250.out (by decide))); have n2_ := Aside0.mk (blk_grown (g := gb254) (o := .cells #[.string t251, .int .i64 t252] 39 (0, 0)) (by (with_reducible repeat (first | refine blk_drewN ?_ _ | refine blk_drew ?_ | refine blk_alloc ?_ _)); exact BK254.out) hg (Kd.R_ne HO_17.out BK254.out (by decide))); have n3_ := Aside0.mk ((by rw [hw]; exact below_set (HB.out) GB64.out : Below w.heap.size w w74)); clear HO_17; clear BK250; clear BK254; clear HB; have HO_17 := n0_; have BK250 := n1_; have BK254 := n2_; have HB := n3_; clear n0_ n1_ n2_ n3_; clear hg hw hp_)))
                                              (try simp only [← hl17_5])
                                              first | go_roundg k5 | (try rw [show (⟨go64, (x77_2).toNat, none⟩ : Addr) = (⟨go64, 0, none⟩ : Addr).add (x77_2).toNat from by simp [Addr.add]]; try rw [show (⟨go64, (x18_4).toNat, none⟩ : Addr) = (⟨go64, 0, none⟩ : Addr).add (x18_4).toNat from by simp [Addr.add]]; go_roundg k5)
                                              case measure => have := HJ8.out; have := HK2.out; have := HJ44.out; have := HK4.out; have := HK5.out; omega
                                              case rel => exact ⟨(y270), (wrap64 (x120_5 + 1)), (by first | rfl | (simp; done) | (simp [*]; done)), H', ⟨by have := HJ8.out; have := HK2.out; have := HJ44.out; have := HK4.out; have := HK5.out; omega⟩, ⟨by (try simp only [hl17_5]); (with_reducible repeat (first | apply Kd.R_alloc | apply Kd.R_drewN | apply Kd.R_drew)); exact HO_17.out⟩, ⟨by (try simp only [hl17_5]); (with_reducible repeat (first | refine blk_drewN ?_ _ | refine blk_drew ?_ | refine blk_alloc ?_ _)); exact BK250.out⟩, ⟨by (try simp only [hl17_5]); (with_reducible repeat (first | refine blk_drewN ?_ _ | refine blk_drew ?_ | refine blk_alloc ?_ _)); exact BK254.out⟩, ⟨by repeat (first | (with_reducible first | exact HB.out | apply below_alloc | apply pw_below_drewN | apply below_drew1 | refine below_set ?_ GE250.out | refine below_set ?_ GE254.out) | exact HB.out)⟩⟩
                                          · rw [if_neg c63] at H
                                            exact absurd H (by simp)
                                        · rw [if_neg c62] at H
                                          exact absurd H (by simp)
                                      · rw [if_neg c61] at H
                                        have c61b0 : decide (x120_5 < (x17_4.length : Int)) = false := decide_eq_false c61
                                        try simp only [hl17_5] at c61b0
                                        clear c61
                                        replace H := Option.bind_eq_some_iff.mp H
                                        obtain ⟨⟨t273, t274⟩, A750, H⟩ := H
                                        replace H : (if t274 = true then (if t273 < t248 then (some false) else (if t273 = t248 then (if (Op.bytesLess ((strOfNums x17_5).toList) t247.toList) = true then (some false) else (laws_FnViterbi.l1 k5 l1 t246 x17_5 (wrap64 (x18_4 + 1)) t247 t248)) else (laws_FnViterbi.l1 k5 l1 t246 x17_5 (wrap64 (x18_4 + 1)) t247 t248))) else (some false)) = some r := H
                                        have A75 := Aside0.mk A750
                                        clear A750
                                        by_cases c76 : t274 = true
                                        · subst c76
                                          have H1 : (if t273 < t248 then (some false) else (if t273 = t248 then (if (Op.bytesLess ((strOfNums x17_5).toList) t247.toList) = true then (some false) else (laws_FnViterbi.l1 k5 l1 t246 x17_5 (wrap64 (x18_4 + 1)) t247 t248)) else (laws_FnViterbi.l1 k5 l1 t246 x17_5 (wrap64 (x18_4 + 1)) t247 t248))) = some r := by rw [if_pos rfl] at H; exact H
                                          clear H
                                          have H := H1
                                          clear H1
                                          by_cases c77 : t273 < t248
                                          · rw [if_pos c77] at H
                                            have c77b0 : decide (t273 < t248) = true := decide_eq_true c77
                                            clear c77
                                            obtain rfl := Option.some.inj H
                                            have hcv78 := own_string (P := Tryd.prog) Tryd.underlying43 Tryd.underlying5 Tryd.underlying9 (Kd.own_of_R HO_17.out)
                                            go_wp2_with (first | (go_at_call 25; (with_reducible refine (impl_CostOf.calls k5 (strOfNums x17_5) t246 t273 true _ A75.out).mono ?_); rintro e w79 ⟨rfl, hb⟩; have n0_ := Aside0.mk (Kd.R_below (by (with_reducible repeat (first | apply Kd.R_alloc | apply Kd.R_drewN | apply Kd.R_drew)); exact HO_17.out) hb); have n1_ := Aside0.mk (blk_below (g := gb250) (o := .cells #[.string t247, .int .i64 t248] 39 (0, 0)) (by (with_reducible repeat (first | refine blk_drewN ?_ _ | refine blk_drew ?_ | refine blk_alloc ?_ _)); exact BK250.out) hb); have n2_ := Aside0.mk (blk_below (g := gb254) (o := .cells #[.string t251, .int .i64 t252] 39 (0, 0)) (by (with_reducible repeat (first | refine blk_drewN ?_ _ | refine blk_drew ?_ | refine blk_alloc ?_ _)); exact BK254.out) hb); have n3_ := Aside0.mk (below_step (by repeat (first | (with_reducible first | exact HB.out | apply below_alloc | apply pw_below_drewN | apply below_drew1 | refine below_set ?_ GE250.out | refine below_set ?_ GE254.out) | exact HB.out)) hb); clear HO_17; clear BK250; clear BK254; clear HB; have HO_17 := n0_; have BK250 := n1_; have BK254 := n2_; have HB := n3_; clear n0_ n1_ n2_ n3_; (try clear hb); (try clear hb2); (try clear hk); (try clear hi); have hnb80 := NB250_254.out; have hnc80 := NB254_250.out; have hcz81_0 : w79.cell? ⟨gb250, 0, none⟩ = some (.string t247) := (blk_cell BK250.out 0).trans rfl; have hcz81_1 : w79.cell? ⟨gb250, 1, none⟩ = some (.int .i64 t248) := (blk_cell BK250.out 1).trans rfl; have hfz81_0 := blk_frozen BK250.out 0; have hfz81_1 := blk_frozen BK250.out 1))
                                            repeat (go_quiet (first | (go_at_call 25; (with_reducible refine (impl_CostOf.calls k5 (strOfNums x17_5) t246 t273 true _ A75.out).mono ?_); rintro e w79 ⟨rfl, hb⟩; have n0_ := Aside0.mk (Kd.R_below (by (with_reducible repeat (first | apply Kd.R_alloc | apply Kd.R_drewN | apply Kd.R_drew)); exact HO_17.out) hb); have n1_ := Aside0.mk (blk_below (g := gb250) (o := .cells #[.string t247, .int .i64 t248] 39 (0, 0)) (by (with_reducible repeat (first | refine blk_drewN ?_ _ | refine blk_drew ?_ | refine blk_alloc ?_ _)); exact BK250.out) hb); have n2_ := Aside0.mk (blk_below (g := gb254) (o := .cells #[.string t251, .int .i64 t252] 39 (0, 0)) (by (with_reducible repeat (first | refine blk_drewN ?_ _ | refine blk_drew ?_ | refine blk_alloc ?_ _)); exact BK254.out) hb); have n3_ := Aside0.mk (below_step (by repeat (first | (with_reducible first | exact HB.out | apply below_alloc | apply pw_below_drewN | apply below_drew1 | refine below_set ?_ GE250.out | refine below_set ?_ GE254.out) | exact HB.out)) hb); clear HO_17; clear BK250; clear BK254; clear HB; have HO_17 := n0_; have BK250 := n1_; have BK254 := n2_; have HB := n3_; clear n0_ n1_ n2_ n3_; (try clear hb); (try clear hb2); (try clear hk); (try clear hi); have hnb80 := NB250_254.out; have hnc80 := NB254_250.out; have hcz81_0 : w79.cell? ⟨gb250, 0, none⟩ = some (.string t247) := (blk_cell BK250.out 0).trans rfl; have hcz81_1 : w79.cell? ⟨gb250, 1, none⟩ = some (.int .i64 t248) := (blk_cell BK250.out 1).trans rfl; have hfz81_0 := blk_frozen BK250.out 0; have hfz81_1 := blk_frozen BK250.out 1)); try go_wp2_with (first | (go_at_call 25; (with_reducible refine (impl_CostOf.calls k5 (strOfNums x17_5) t246 t273 true _ A75.out).mono ?_); rintro e w79 ⟨rfl, hb⟩; have n0_ := Aside0.mk (Kd.R_below (by (with_reducible repeat (first | apply Kd.R_alloc | apply Kd.R_drewN | apply Kd.R_drew)); exact HO_17.out) hb); have n1_ := Aside0.mk (blk_below (g := gb250) (o := .cells #[.string t247, .int .i64 t248] 39 (0, 0)) (by (with_reducible repeat (first | refine blk_drewN ?_ _ | refine blk_drew ?_ | refine blk_alloc ?_ _)); exact BK250.out) hb); have n2_ := Aside0.mk (blk_below (g := gb254) (o := .cells #[.string t251, .int .i64 t252] 39 (0, 0)) (by (with_reducible repeat (first | refine blk_drewN ?_ _ | refine blk_drew ?_ | refine blk_alloc ?_ _)); exact BK254.out) hb); have n3_ := Aside0.mk (below_step (by repeat (first | (with_reducible first | exact HB.out | apply below_alloc | apply pw_below_drewN | apply below_drew1 | refine below_set ?_ GE250.out | refine below_set ?_ GE254.out) | exact HB.out)) hb); clear HO_17; clear BK250; clear BK254; clear HB; have HO_17 := n0_; have BK250 := n1_; have BK254 := n2_; have HB := n3_; clear n0_ n1_ n2_ n3_; (try clear hb); (try clear hb2); (try clear hk); (try clear hi); have hnb80 := NB250_254.out; have hnc80 := NB254_250.out; have hcz81_0 : w79.cell? ⟨gb250, 0, none⟩ = some (.string t247) := (blk_cell BK250.out 0).trans rfl; have hcz81_1 : w79.cell? ⟨gb250, 1, none⟩ = some (.int .i64 t248) := (blk_cell BK250.out 1).trans rfl; have hfz81_0 := blk_frozen BK250.out 0; have hfz81_1 := blk_frozen BK250.out 1)))
                                            go_ret
                                            exact ⟨by first | rfl | (simp [errW_none, errW_some] <;> rfl) | (simp [*, errW_none, errW_some] <;> rfl), by repeat (first | (with_reducible first | exact HB.out | apply below_alloc | apply pw_below_drewN | apply below_drew1 | refine below_set ?_ GE250.out | refine below_set ?_ GE254.out) | exact HB.out)⟩
                                          · rw [if_neg c77] at H
                                            have c77b0 : decide (t273 < t248) = false := decide_eq_false c77
                                            clear c77
                                            by_cases c82 : t273 = t248
                                            · rw [if_pos c82] at H
                                              have c82b0 : (t273 == t248) = true := beq_iff_eq.mpr c82
                                              have c82b1 : (t273 != t248) = false := bne_eq_false_iff_eq.mpr c82
                                              clear c82
                                              by_cases c83 : (Op.bytesLess ((strOfNums x17_5).toList) t247.toList) = true
                                              · rw [if_pos c83] at H
                                                have c83b0 : (Op.bytesLess ((strOfNums x17_5).toList) t247.toList) = true := c83
                                                clear c83
                                                obtain rfl := Option.some.inj H
                                                have hcv84 := own_string (P := Tryd.prog) Tryd.underlying43 Tryd.underlying5 Tryd.underlying9 (Kd.own_of_R HO_17.out)
                                                go_wp2_with (first | (go_at_call 25; (with_reducible refine (impl_CostOf.calls k5 (strOfNums x17_5) t246 t273 true _ A75.out).mono ?_); rintro e w85 ⟨rfl, hb⟩; have n0_ := Aside0.mk (Kd.R_below (by (with_reducible repeat (first | apply Kd.R_alloc | apply Kd.R_drewN | apply Kd.R_drew)); exact HO_17.out) hb); have n1_ := Aside0.mk (blk_below (g := gb250) (o := .cells #[.string t247, .int .i64 t248] 39 (0, 0)) (by (with_reducible repeat (first | refine blk_drewN ?_ _ | refine blk_drew ?_ | refine blk_alloc ?_ _)); exact BK250.out) hb); have n2_ := Aside0.mk (blk_below (g := gb254) (o := .cells #[.string t251, .int .i64 t252] 39 (0, 0)) (by (with_reducible repeat (first | refine blk_drewN ?_ _ | refine blk_drew ?_ | refine blk_alloc ?_ _)); exact BK254.out) hb); have n3_ := Aside0.mk (below_step (by repeat (first | (with_reducible first | exact HB.out | apply below_alloc | apply pw_below_drewN | apply below_drew1 | refine below_set ?_ GE250.out | refine below_set ?_ GE254.out) | exact HB.out)) hb); clear HO_17; clear BK250; clear BK254; clear HB; have HO_17 := n0_; have BK250 := n1_; have BK254 := n2_; have HB := n3_; clear n0_ n1_ n2_ n3_; (try clear hb); (try clear hb2); (try clear hk); (try clear hi); have hnb86 := NB250_254.out; have hnc86 := NB254_250.out; have hcz87_0 : w85.cell? ⟨gb250, 0, none⟩ = some (.string t247) := (blk_cell BK250.out 0).trans rfl; have hcz87_1 : w85.cell? ⟨gb250, 1, none⟩ = some (.int .i64 t248) := (blk_cell BK250.out 1).trans rfl; have hfz87_0 := blk_frozen BK250.out 0; have hfz87_1 := blk_frozen BK250.out 1; have hcv88 := own_string (P := Tryd.prog) Tryd.underlying43 Tryd.underlying5 Tryd.underlying9 (Kd.own_of_R HO_17.out)))
                                                repeat (go_quiet (first | (go_at_call 25; (with_reducible refine (impl_CostOf.calls k5 (strOfNums x17_5) t246 t273 true _ A75.out).mono ?_); rintro e w85 ⟨rfl, hb⟩; have n0_ := Aside0.mk (Kd.R_below (by (with_reducible repeat (first | apply Kd.R_alloc | apply Kd.R_drewN | apply Kd.R_drew)); exact HO_17.out) hb); have n1_ := Aside0.mk (blk_below (g := gb250) (o := .cells #[.string t247, .int .i64 t248] 39 (0, 0)) (by (with_reducible repeat (first | refine blk_drewN ?_ _ | refine blk_drew ?_ | refine blk_alloc ?_ _)); exact BK250.out) hb); have n2_ := Aside0.mk (blk_below (g := gb254) (o := .cells #[.string t251, .int .i64 t252] 39 (0, 0)) (by (with_reducible repeat (first | refine blk_drewN ?_ _ | refine blk_drew ?_ | refine blk_alloc ?_ _)); exact BK254.out) hb); have n3_ := Aside0.mk (below_step (by repeat (first | (with_reducible first | exact HB.out | apply below_alloc | apply pw_below_drewN | apply below_drew1 | refine below_set ?_ GE250.out | refine below_set ?_ GE254.out) | exact HB.out)) hb); clear HO_17; clear BK250; clear BK254; clear HB; have HO_17 := n0_; have BK250 := n1_; have BK254 := n2_; have HB := n3_; clear n0_ n1_ n2_ n3_; (try clear hb); (try clear hb2); (try clear hk); (try clear hi); have hnb86 := NB250_254.out; have hnc86 := NB254_250.out; have hcz87_0 : w85.cell? ⟨gb250, 0, none⟩ = some (.string t247) := (blk_cell BK250.out 0).trans rfl; have hcz87_1 : w85.cell? ⟨gb250, 1, none⟩ = some (.int .i64 t248) := (blk_cell BK250.out 1).trans rfl; have hfz87_0 := blk_frozen BK250.out 0; have hfz87_1 := blk_frozen BK250.out 1; have hcv88 := own_string (P := Tryd.prog) Tryd.underlying43 Tryd.underlying5 Tryd.underlying9 (Kd.own_of_R HO_17.out))); try go_wp2_with (first | (go_at_call 25; (with_reducible refine (impl_CostOf.calls k5 (strOfNums x17_5) t246 t273 true _ A75.out).mono ?_); rintro e w85 ⟨rfl, hb⟩; have n0_ := Aside0.mk (Kd.R_below (by (with_reducible repeat (first | apply Kd.R_alloc | apply Kd.R_drewN | apply Kd.R_drew)); exact HO_17.out) hb); have n1_ := Aside0.mk (blk_below (g := gb250) (o := .cells #[.string t247, .int .i64 t248] 39 (0, 0)) (by (with_reducible repeat (first | refine blk_drewN ?_ _ | refine blk_drew ?_ | refine blk_alloc ?_ _)); exact BK250.out) hb); have n2_ := Aside0.mk (blk_below (g := gb254) (o := .cells #[.string t251, .int .i64 t252] 39 (0, 0)) (by (with_reducible repeat (first | refine blk_drewN ?_ _ | refine blk_drew ?_ | refine blk_alloc ?_ _)); exact BK254.out) hb); have n3_ := Aside0.mk (below_step (by repeat (first | (with_reducible first | exact HB.out | apply below_alloc | apply pw_below_drewN | apply below_drew1 | refine below_set ?_ GE250.out | refine below_set ?_ GE254.out) | exact HB.out)) hb); clear HO_17; clear BK250; clear BK254; clear HB; have HO_17 := n0_; have BK250 := n1_; have BK254 := n2_; have HB := n3_; clear n0_ n1_ n2_ n3_; (try clear hb); (try clear hb2); (try clear hk); (try clear hi); have hnb86 := NB250_254.out; have hnc86 := NB254_250.out; have hcz87_0 : w85.cell? ⟨gb250, 0, none⟩ = some (.string t247) := (blk_cell BK250.out 0).trans rfl; have hcz87_1 : w85.cell? ⟨gb250, 1, none⟩ = some (.int .i64 t248) := (blk_cell BK250.out 1).trans rfl; have hfz87_0 := blk_frozen BK250.out 0; have hfz87_1 := blk_frozen BK250.out 1; have hcv88 := own_string (P := Tryd.prog) Tryd.underlying43 Tryd.underlying5 Tryd.underlying9 (Kd.own_of_R HO_17.out))))
                                                go_ret
                                                exact ⟨by first | rfl | (simp [errW_none, errW_some] <;> rfl) | (simp [*, errW_none, errW_some] <;> rfl), by repeat (first | (with_reducible first | exact HB.out | apply below_alloc | apply pw_below_drewN | apply below_drew1 | refine below_set ?_ GE250.out | refine below_set ?_ GE254.out) | exact HB.out)⟩
                                              · rw [if_neg c83] at H
                                                have c83b0 : (Op.bytesLess ((strOfNums x17_5).toList) t247.toList) = false := by simpa using c83
                                                clear c83
                                                have H' := Aside0.mk H
                                                clear H
                                                have hcv89 := own_string (P := Tryd.prog) Tryd.underlying43 Tryd.underlying5 Tryd.underlying9 (Kd.own_of_R HO_17.out)
                                                go_wp2_with (first | (go_at_call 25; (with_reducible refine (impl_CostOf.calls k5 (strOfNums x17_5) t246 t273 true _ A75.out).mono ?_); rintro e w90 ⟨rfl, hb⟩; have n0_ := Aside0.mk (Kd.R_below (by (with_reducible repeat (first | apply Kd.R_alloc | apply Kd.R_drewN | apply Kd.R_drew)); exact HO_17.out) hb); have n1_ := Aside0.mk (blk_below (g := gb250) (o := .cells #[.string t247, .int .i64 t248] 39 (0, 0)) (by (with_reducible repeat (first | refine blk_drewN ?_ _ | refine blk_drew ?_ | refine blk_alloc ?_ _)); exact BK250.out) hb); have n2_ := Aside0.mk (blk_below (g := gb254) (o := .cells #[.string t251, .int .i64 t252] 39 (0, 0)) (by (with_reducible repeat (first | refine blk_drewN ?_ _ | refine blk_drew ?_ | refine blk_alloc ?_ _)); exact BK254.out) hb); have n3_ := Aside0.mk (below_step (by repeat (first | (with_reducible first | exact HB.out | apply below_alloc | apply pw_below_drewN | apply below_drew1 | refine below_set ?_ GE250.out | refine below_set ?_ GE254.out) | exact HB.out)) hb); clear HO_17; clear BK250; clear BK254; clear HB; have HO_17 := n0_; have BK250 := n1_; have BK254 := n2_; have HB := n3_; clear n0_ n1_ n2_ n3_; (try clear hb); (try clear hb2); (try clear hk); (try clear hi); have hnb91 := NB250_254.out; have hnc91 := NB254_250.out; have hcz92_0 : w90.cell? ⟨gb250, 0, none⟩ = some (.string t247) := (blk_cell BK250.out 0).trans rfl; have hcz92_1 : w90.cell? ⟨gb250, 1, none⟩ = some (.int .i64 t248) := (blk_cell BK250.out 1).trans rfl; have hfz92_0 := blk_frozen BK250.out 0; have hfz92_1 := blk_frozen BK250.out 1; have hcv93 := own_string (P := Tryd.prog) Tryd.underlying43 Tryd.underlying5 Tryd.underlying9 (Kd.own_of_R HO_17.out)))
                                                repeat (go_quiet (first | (go_at_call 25; (with_reducible refine (impl_CostOf.calls k5 (strOfNums x17_5) t246 t273 true _ A75.out).mono ?_); rintro e w90 ⟨rfl, hb⟩; have n0_ := Aside0.mk (Kd.R_below (by (with_reducible repeat (first | apply Kd.R_alloc | apply Kd.R_drewN | apply Kd.R_drew)); exact HO_17.out) hb); have n1_ := Aside0.mk (blk_below (g := gb250) (o := .cells #[.string t247, .int .i64 t248] 39 (0, 0)) (by (with_reducible repeat (first | refine blk_drewN ?_ _ | refine blk_drew ?_ | refine blk_alloc ?_ _)); exact BK250.out) hb); have n2_ := Aside0.mk (blk_below (g := gb254) (o := .cells #[.string t251, .int .i64 t252] 39 (0, 0)) (by (with_reducible repeat (first | refine blk_drewN ?_ _ | refine blk_drew ?_ | refine blk_alloc ?_ _)); exact BK254.out) hb); have n3_ := Aside0.mk (below_step (by repeat (first | (with_reducible first | exact HB.out | apply below_alloc | apply pw_below_drewN | apply below_drew1 | refine below_set ?_ GE250.out | refine below_set ?_ GE254.out) | exact HB.out)) hb); clear HO_17; clear BK250; clear BK254; clear HB; have HO_17 := n0_; have BK250 := n1_; have BK254 := n2_; have HB := n3_; clear n0_ n1_ n2_ n3_; (try clear hb); (try clear hb2); (try clear hk); (try clear hi); have hnb91 := NB250_254.out; have hnc91 := NB254_250.out; have hcz92_0 : w90.cell? ⟨gb250, 0, none⟩ = some (.string t247) := (blk_cell BK250.out 0).trans rfl; have hcz92_1 : w90.cell? ⟨gb250, 1, none⟩ = some (.int .i64 t248) := (blk_cell BK250.out 1).trans rfl; have hfz92_0 := blk_frozen BK250.out 0; have hfz92_1 := blk_frozen BK250.out 1; have hcv93 := own_string (P := Tryd.prog) Tryd.underlying43 Tryd.underlying5 Tryd.underlying9 (Kd.own_of_R HO_17.out))); try go_wp2_with (first | (go_at_call 25; (with_reducible refine (impl_CostOf.calls k5 (strOfNums x17_5) t246 t273 true _ A75.out).mono ?_); rintro e w90 ⟨rfl, hb⟩; have n0_ := Aside0.mk (Kd.R_below (by (with_reducible repeat (first | apply Kd.R_alloc | apply Kd.R_drewN | apply Kd.R_drew)); exact HO_17.out) hb); have n1_ := Aside0.mk (blk_below (g := gb250) (o := .cells #[.string t247, .int .i64 t248] 39 (0, 0)) (by (with_reducible repeat (first | refine blk_drewN ?_ _ | refine blk_drew ?_ | refine blk_alloc ?_ _)); exact BK250.out) hb); have n2_ := Aside0.mk (blk_below (g := gb254) (o := .cells #[.string t251, .int .i64 t252] 39 (0, 0)) (by (with_reducible repeat (first | refine blk_drewN ?_ _ | refine blk_drew ?_ | refine blk_alloc ?_ _)); exact BK254.out) hb); have n3_ := Aside0.mk (below_step (by repeat (first | (with_reducible first | exact HB.out | apply below_alloc | apply pw_below_drewN | apply below_drew1 | refine below_set ?_ GE250.out | refine below_set ?_ GE254.out) | exact HB.out)) hb); clear HO_17; clear BK250; clear BK254; clear HB; have HO_17 := n0_; have BK250 := n1_; have BK254 := n2_; have HB := n3_; clear n0_ n1_ n2_ n3_; (try clear hb); (try clear hb2); (try clear hk); (try clear hi); have hnb91 := NB250_254.out; have hnc91 := NB254_250.out; have hcz92_0 : w90.cell? ⟨gb250, 0, none⟩ = some (.string t247) := (blk_cell BK250.out 0).trans rfl; have hcz92_1 : w90.cell? ⟨gb250, 1, none⟩ = some (.int .i64 t248) := (blk_cell BK250.out 1).trans rfl; have hfz92_0 := blk_frozen BK250.out 0; have hfz92_1 := blk_frozen BK250.out 1; have hcv93 := own_string (P := Tryd.prog) Tryd.underlying43 Tryd.underlying5 Tryd.underlying9 (Kd.own_of_R HO_17.out))))
                                                (try simp only [← hl17_5])
                                                go_roundg k5
                                                case measure => have := HJ8.out; have := HK2.out; have := HJ44.out; have := HK4.out; have := HK5.out; omega
                                                case rel => exact ⟨(x17_5), (wrap64 (x18_4 + 1)), (by first | rfl | (simp; done) | (simp [*]; done)), H', ⟨by have := HJ8.out; have := HK2.out; have := HJ44.out; have := HK4.out; have := HK5.out; omega⟩, ⟨by (try simp only [hl17_5]); (with_reducible repeat (first | apply Kd.R_alloc | apply Kd.R_drewN | apply Kd.R_drew)); exact HO_17.out⟩, ⟨by (try simp only [hl17_5]); (with_reducible repeat (first | refine blk_drewN ?_ _ | refine blk_drew ?_ | refine blk_alloc ?_ _)); exact BK250.out⟩, ⟨by (try simp only [hl17_5]); (with_reducible repeat (first | refine blk_drewN ?_ _ | refine blk_drew ?_ | refine blk_alloc ?_ _)); exact BK254.out⟩, ⟨by repeat (first | (with_reducible first | exact HB.out | apply below_alloc | apply pw_below_drewN | apply below_drew1 | refine below_set ?_ GE250.out | refine below_set ?_ GE254.out) | exact HB.out)⟩⟩
                                            · rw [if_neg c82] at H
                                              have c82b0 : (t273 == t248) = false := beq_eq_false_iff_ne.mpr c82
                                              have c82b1 : (t273 != t248) = true := bne_iff_ne.mpr c82
                                              have H' := Aside0.mk H
                                              clear H
                                              have hcv94 := own_string (P := Tryd.prog) Tryd.underlying43 Tryd.underlying5 Tryd.underlying9 (Kd.own_of_R HO_17.out)
                                              go_wp2_with (first | (go_at_call 25; (with_reducible refine (impl_CostOf.calls k5 (strOfNums x17_5) t246 t273 true _ A75.out).mono ?_); rintro e w95 ⟨rfl, hb⟩; have n0_ := Aside0.mk (Kd.R_below (by (with_reducible repeat (first | apply Kd.R_alloc | apply Kd.R_drewN | apply Kd.R_drew)); exact HO_17.out) hb); have n1_ := Aside0.mk (blk_below (g := gb250) (o := .cells #[.string t247, .int .i64 t248] 39 (0, 0)) (by (with_reducible repeat (first | refine blk_drewN ?_ _ | refine blk_drew ?_ | refine blk_alloc ?_ _)); exact BK250.out) hb); have n2_ := Aside0.mk (blk_below (g := gb254) (o := .cells #[.string t251, .int .i64 t252] 39 (0, 0)) (by (with_reducible repeat (first | refine blk_drewN ?_ _ | refine blk_drew ?_ | refine blk_alloc ?_ _)); exact BK254.out) hb); have n3_ := Aside0.mk (below_step (by repeat (first | (with_reducible first | exact HB.out | apply below_alloc | apply pw_below_drewN | apply below_drew1 | refine below_set ?_ GE250.out | refine below_set ?_ GE254.out) | exact HB.out)) hb); clear HO_17; clear BK250; clear BK254; clear HB; have HO_17 := n0_; have BK250 := n1_; have BK254 := n2_; have HB := n3_; clear n0_ n1_ n2_ n3_; (try clear hb); (try clear hb2); (try clear hk); (try clear hi); have hnb96 := NB250_254.out; have hnc96 := NB254_250.out; have hcz97_0 : w95.cell? ⟨gb250, 0, none⟩ = some (.string t247) := (blk_cell BK250.out 0).trans rfl; have hcz97_1 : w95.cell? ⟨gb250, 1, none⟩ = some (.int .i64 t248) := (blk_cell BK250.out 1).trans rfl; have hfz97_0 := blk_frozen BK250.out 0; have hfz97_1 := blk_frozen BK250.out 1))
                                              repeat (go_quiet (first | (go_at_call 25; (with_reducible refine (impl_CostOf.calls k5 (strOfNums x17_5) t246 t273 true _ A75.out).mono ?_); rintro e w95 ⟨rfl, hb⟩; have n0_ := Aside0.mk (Kd.R_below (by (with_reducible repeat (first | apply Kd.R_alloc | apply Kd.R_drewN | apply Kd.R_drew)); exact HO_17.out) hb); have n1_ := Aside0.mk (blk_below (g := gb250) (o := .cells #[.string t247, .int .i64 t248] 39 (0, 0)) (by (with_reducible repeat (first | refine blk_drewN ?_ _ | refine blk_drew ?_ | refine blk_alloc ?_ _)); exact BK250.out) hb); have n2_ := Aside0.mk (blk_below (g := gb254) (o := .cells #[.string t251, .int .i64 t252] 39 (0, 0)) (by (with_reducible repeat (first | refine blk_drewN ?_ _ | refine blk_drew ?_ | refine blk_alloc ?_ _)); exact BK254.out) hb); have n3_ := Aside0.mk (below_step (by repeat (first | (with_reducible first | exact HB.out | apply below_alloc | apply pw_below_drewN | apply below_drew1 | refine below_set ?_ GE250.out | refine below_set ?_ GE254.out) | exact HB.out)) hb); clear HO_17; clear BK250; clear BK254; clear HB; have HO_17 := n0_; have BK250 := n1_; have BK254 := n2_; have HB := n3_; clear n0_ n1_ n2_ n3_; (try clear hb); (try clear hb2); (try clear hk); (try clear hi); have hnb96 := NB250_254.out; have hnc96 := NB254_250.out; have hcz97_0 : w95.cell? ⟨gb250, 0, none⟩ = some (.string t247) := (blk_cell BK250.out 0).trans rfl; have hcz97_1 : w95.cell? ⟨gb250, 1, none⟩ = some (.int .i64 t248) := (blk_cell BK250.out 1).trans rfl; have hfz97_0 := blk_frozen BK250.out 0; have hfz97_1 := blk_frozen BK250.out 1)); try go_wp2_with (first | (go_at_call 25; (with_reducible refine (impl_CostOf.calls k5 (strOfNums x17_5) t246 t273 true _ A75.out).mono ?_); rintro e w95 ⟨rfl, hb⟩; have n0_ := Aside0.mk (Kd.R_below (by (with_reducible repeat (first | apply Kd.R_alloc | apply Kd.R_drewN | apply Kd.R_drew)); exact HO_17.out) hb); have n1_ := Aside0.mk (blk_below (g := gb250) (o := .cells #[.string t247, .int .i64 t248] 39 (0, 0)) (by (with_reducible repeat (first | refine blk_drewN ?_ _ | refine blk_drew ?_ | refine blk_alloc ?_ _)); exact BK250.out) hb); have n2_ := Aside0.mk (blk_below (g := gb254) (o := .cells #[.string t251, .int .i64 t252] 39 (0, 0)) (by (with_reducible repeat (first | refine blk_drewN ?_ _ | refine blk_drew ?_ | refine blk_alloc ?_ _)); exact BK254.out) hb); have n3_ := Aside0.mk (below_step (by repeat (first | (with_reducible first | exact HB.out | apply below_alloc | apply pw_below_drewN | apply below_drew1 | refine below_set ?_ GE250.out | refine below_set ?_ GE254.out) | exact HB.out)) hb); clear HO_17; clear BK250; clear BK254; clear HB; have HO_17 := n0_; have BK250 := n1_; have BK254 := n2_; have HB := n3_; clear n0_ n1_ n2_ n3_; (try clear hb); (try clear hb2); (try clear hk); (try clear hi); have hnb96 := NB250_254.out; have hnc96 := NB254_250.out; have hcz97_0 : w95.cell? ⟨gb250, 0, none⟩ = some (.string t247) := (blk_cell BK250.out 0).trans rfl; have hcz97_1 : w95.cell? ⟨gb250, 1, none⟩ = some (.int .i64 t248) := (blk_cell BK250.out 1).trans rfl; have hfz97_0 := blk_frozen BK250.out 0; have hfz97_1 := blk_frozen BK250.out 1)))
                                              (try simp only [← hl17_5])
                                              go_roundg k5
                                              case measure => have := HJ8.out; have := HK2.out; have := HJ44.out; have := HK4.out; have := HK5.out; omega
                                              case rel => exact ⟨(x17_5), (wrap64 (x18_4 + 1)), (by first | rfl | (simp; done) | (simp [*]; done)), H', ⟨by have := HJ8.out; have := HK2.out; have := HJ44.out; have := HK4.out; have := HK5.out; omega⟩, ⟨by (try simp only [hl17_5]); (with_reducible repeat (first | apply Kd.R_alloc | apply Kd.R_drewN | apply Kd.R_drew)); exact HO_17.out⟩, ⟨by (try simp only [hl17_5]); (with_reducible repeat (first | refine blk_drewN ?_ _ | refine blk_drew ?_ | refine blk_alloc ?_ _)); exact BK250.out⟩, ⟨by (try simp only [hl17_5]); (with_reducible repeat (first | refine blk_drewN ?_ _ | refine blk_drew ?_ | refine blk_alloc ?_ _)); exact BK254.out⟩, ⟨by repeat (first | (with_reducible first | exact HB.out | apply below_alloc | apply pw_below_drewN | apply below_drew1 | refine below_set ?_ GE250.out | refine below_set ?_ GE254.out) | exact HB.out)⟩⟩
                                        · replace c76 := Bool.eq_false_iff.mpr c76
                                          subst c76
                                          have H1 : (some false) = some r := by rw [if_neg (show ¬ (false = true) by decide)] at H; exact H
                                          clear H
                                          have H := H1
                                          clear H1
                                          obtain rfl := Option.some.inj H
                                          have hcv98 := own_string (P := Tryd.prog) Tryd.underlying43 Tryd.underlying5 Tryd.underlying9 (Kd.own_of_R HO_17.out)
                                          go_wp2_with (first | (go_at_call 25; (with_reducible refine (impl_CostOf.calls k5 (strOfNums x17_5) t246 t273 false _ A75.out).mono ?_); rintro e w99 ⟨rfl, hb⟩; have n0_ := Aside0.mk (Kd.R_below (by (with_reducible repeat (first | apply Kd.R_alloc | apply Kd.R_drewN | apply Kd.R_drew)); exact HO_17.out) hb); have n1_ := Aside0.mk (blk_below (g := gb250) (o := .cells #[.string t247, .int .i64 t248] 39 (0, 0)) (by (with_reducible repeat (first | refine blk_drewN ?_ _ | refine blk_drew ?_ | refine blk_alloc ?_ _)); exact BK250.out) hb); have n2_ := Aside0.mk (blk_below (g := gb254) (o := .cells #[.string t251, .int .i64 t252] 39 (0, 0)) (by (with_reducible repeat (first | refine blk_drewN ?_ _ | refine blk_drew ?_ | refine blk_alloc ?_ _)); exact BK254.out) hb); have n3_ := Aside0.mk (below_step (by repeat (first | (with_reducible first | exact HB.out | apply below_alloc | apply pw_below_drewN | apply below_drew1 | refine below_set ?_ GE250.out | refine below_set ?_ GE254.out) | exact HB.out)) hb); clear HO_17; clear BK250; clear BK254; clear HB; have HO_17 := n0_; have BK250 := n1_; have BK254 := n2_; have HB := n3_; clear n0_ n1_ n2_ n3_; (try clear hb); (try clear hb2); (try clear hk); (try clear hi)))
                                          repeat (go_quiet (first | (go_at_call 25; (with_reducible refine (impl_CostOf.calls k5 (strOfNums x17_5) t246 t273 false _ A75.out).mono ?_); rintro e w99 ⟨rfl, hb⟩; have n0_ := Aside0.mk (Kd.R_below (by (with_reducible repeat (first | apply Kd.R_alloc | apply Kd.R_drewN | apply Kd.R_drew)); exact HO_17.out) hb); have n1_ := Aside0.mk (blk_below (g := gb250) (o := .cells #[.string t247, .int .i64 t248] 39 (0, 0)) (by (with_reducible repeat (first | refine blk_drewN ?_ _ | refine blk_drew ?_ | refine blk_alloc ?_ _)); exact BK250.out) hb); have n2_ := Aside0.mk (blk_below (g := gb254) (o := .cells #[.string t251, .int .i64 t252] 39 (0, 0)) (by (with_reducible repeat (first | refine blk_drewN ?_ _ | refine blk_drew ?_ | refine blk_alloc ?_ _)); exact BK254.out) hb); have n3_ := Aside0.mk (below_step (by repeat (first | (with_reducible first | exact HB.out | apply below_alloc | apply pw_below_drewN | apply below_drew1 | refine below_set ?_ GE250.out | refine below_set ?_ GE254.out) | exact HB.out)) hb); clear HO_17; clear BK250; clear BK254; clear HB; have HO_17 := n0_; have BK250 := n1_; have BK254 := n2_; have HB := n3_; clear n0_ n1_ n2_ n3_; (try clear hb); (try clear hb2); (try clear hk); (try clear hi))); try go_wp2_with (first | (go_at_call 25; (with_reducible refine (impl_CostOf.calls k5 (strOfNums x17_5) t246 t273 false _ A75.out).mono ?_); rintro e w99 ⟨rfl, hb⟩; have n0_ := Aside0.mk (Kd.R_below (by (with_reducible repeat (first | apply Kd.R_alloc | apply Kd.R_drewN | apply Kd.R_drew)); exact HO_17.out) hb); have n1_ := Aside0.mk (blk_below (g := gb250) (o := .cells #[.string t247, .int .i64 t248] 39 (0, 0)) (by (with_reducible repeat (first | refine blk_drewN ?_ _ | refine blk_drew ?_ | refine blk_alloc ?_ _)); exact BK250.out) hb); have n2_ := Aside0.mk (blk_below (g := gb254) (o := .cells #[.string t251, .int .i64 t252] 39 (0, 0)) (by (with_reducible repeat (first | refine blk_drewN ?_ _ | refine blk_drew ?_ | refine blk_alloc ?_ _)); exact BK254.out) hb); have n3_ := Aside0.mk (below_step (by repeat (first | (with_reducible first | exact HB.out | apply below_alloc | apply pw_below_drewN | apply below_drew1 | refine below_set ?_ GE250.out | refine below_set ?_ GE254.out) | exact HB.out)) hb); clear HO_17; clear BK250; clear BK254; clear HB; have HO_17 := n0_; have BK250 := n1_; have BK254 := n2_; have HB := n3_; clear n0_ n1_ n2_ n3_; (try clear hb); (try clear hb2); (try clear hk); (try clear hi))))
                                          go_ret
                                          exact ⟨by first | rfl | (simp [errW_none, errW_some] <;> rfl) | (simp [*, errW_none, errW_some] <;> rfl), by repeat (first | (with_reducible first | exact HB.out | apply below_alloc | apply pw_below_drewN | apply below_drew1 | refine below_set ?_ GE250.out | refine below_set ?_ GE254.out) | exact HB.out)⟩
                                · rw [if_neg c59] at H
                                  have c59b0 : decide (x18_4 < 8) = false := decide_eq_false c59
                                  clear c59
                                  have H' := Aside0.mk H
                                  clear H
                                  have hnb100 := NB250_254.out
                                  have hnc100 := NB254_250.out
                                  have hcz101_0 : wr.cell? ⟨gb250, 0, none⟩ = some (.string t247) := (blk_cell BK250.out 0).trans rfl
                                  have hcz101_1 : wr.cell? ⟨gb250, 1, none⟩ = some (.int .i64 t248) := (blk_cell BK250.out 1).trans rfl
                                  have hfz101_0 := blk_frozen BK250.out 0
                                  have hfz101_1 := blk_frozen BK250.out 1
                                  go_wp2_with (first | ((with_reducible refine gate_dst (N := 176) rfl ?_); refine iter_event (s := t247) ?hg (N := 176) ?hd ?hr ?_; (case hd => rfl); (case hg => rfl); (case hr => first | (go_simp; done) | (go_simp; rfl)); intro git hg wit hit hb; have NI250 := Aside0.mk (show gb250 ≠ git from by rw [hg]; exact Nat.ne_of_lt (blk_lt (by (with_reducible repeat (first | refine blk_drewN ?_ _ | refine blk_drew ?_ | refine blk_alloc ?_ _)); exact BK250.out))); have NI254 := Aside0.mk (show gb254 ≠ git from by rw [hg]; exact Nat.ne_of_lt (blk_lt (by (with_reducible repeat (first | refine blk_drewN ?_ _ | refine blk_drew ?_ | refine blk_alloc ?_ _)); exact BK254.out))); have GIT := Aside0.mk (show w.heap.size ≤ git from by rw [hg]; exact (below_size (by repeat (first | (with_reducible first | exact HB.out | apply below_alloc | apply pw_below_drewN | apply below_drew1 | refine below_set ?_ GE250.out | refine below_set ?_ GE254.out) | exact HB.out)))); have n0_ := Aside0.mk (blk_below (by (with_reducible repeat (first | refine blk_drewN ?_ _ | refine blk_drew ?_ | refine blk_alloc ?_ _)); exact BK250.out) hb); have n1_ := Aside0.mk (blk_below (by (with_reducible repeat (first | refine blk_drewN ?_ _ | refine blk_drew ?_ | refine blk_alloc ?_ _)); exact BK254.out) hb); have n2_ := Aside0.mk (below_step (by repeat (first | (with_reducible first | exact HB.out | apply below_alloc | apply pw_below_drewN | apply below_drew1 | refine below_set ?_ GE250.out | refine below_set ?_ GE254.out) | exact HB.out)) hb); have HIT := Aside0.mk hit; clear BK250 BK254 HB; have BK250 := n0_; have BK254 := n1_; have HB := n2_; clear n0_ n1_ n2_ hb hit hg))
                                  repeat (go_quiet (fail); try go_wp2)
                                  (try simp only [Act.put, List.setIfInBounds_toArray, List.set_cons_zero, List.set_cons_succ])
                                  go_loopg [] k4 (fun kq w' => ∃ (x177_5 : Int) (p_ : Nat), Aside0 (x177_5 = (p_ : Int)) ∧ Aside0 (laws_FnViterbi.l3 kq t246 (t247.size : Int) x177_5 t247 t248 = some r) ∧ Aside0 (kq ≤ k4) ∧ Aside0 (w'.heap[gb250]? = some (.cells #[.string t247, .int .i64 t248] 39 (0, 0))) ∧ Aside0 (w'.heap[gb254]? = some (.cells #[.string t251, .int .i64 t252] 39 (0, 0))) ∧ Aside0 (w'.heap[git]? = some (.stringIter t247 p_)) ∧ Aside0 (Below w.heap.size w w'))
                                  case atStart => exact ⟨(0), 0, ⟨rfl⟩, H', ⟨Nat.le_refl _⟩, ⟨by (with_reducible repeat (first | refine blk_drewN ?_ _ | refine blk_drew ?_ | refine blk_alloc ?_ _)); exact BK250.out⟩, ⟨by (with_reducible repeat (first | refine blk_drewN ?_ _ | refine blk_drew ?_ | refine blk_alloc ?_ _)); exact BK254.out⟩, ⟨by (with_reducible repeat (first | refine blk_drewN ?_ _ | refine blk_drew ?_ | refine blk_alloc ?_ _)); exact HIT.out⟩, ⟨by repeat (first | (with_reducible first | exact HB.out | apply below_alloc | apply pw_below_drewN | apply below_drew1 | refine below_set ?_ GE250.out | refine below_set ?_ GE254.out) | exact HB.out)⟩⟩
                                  case round =>
                                    clear H'
                                    try clear c1
                                    try clear c2
                                    try clear p2
                                    try clear q2
                                    try clear hx2
                                    try clear c3
                                    try clear c3b0
                                    try clear c4
                                    try clear c5
                                    try clear c6
                                    try clear p6
                                    try clear q6
                                    try clear hx6
                                    try clear hf6
                                    try clear c7
                                    try clear hcv7
                                    try clear c8
                                    try clear hcv8
                                    try clear c9
                                    try clear hcv9
                                    try clear c10
                                    try clear c16
                                    try clear c20
                                    try clear c20b0
                                    try clear c20b1
                                    try clear c20b2
                                    try clear c21
                                    try clear c21b0
                                    try clear c22
                                    try clear c25
                                    try clear c25b0
                                    try clear c25b1
                                    try clear c25b2
                                    try clear c26
                                    try clear p26
                                    try clear q26
                                    try clear hx26
                                    try clear p27
                                    try clear q27
                                    try clear hx27
                                    try clear c29
                                    try clear c34
                                    try clear c36
                                    try clear c36b0
                                    try clear c37
                                    try clear c37b0
                                    try clear c38
                                    try clear c38b0
                                    try clear c39
                                    try clear c39b0
                                    try clear c40
                                    try clear c40b0
                                    try clear c43
                                    try clear c46
                                    try clear c49
                                    try clear c50
                                    try clear c52
                                    try clear c53
                                    try clear c53b0
                                    try clear c53b1
                                    try clear c54
                                    try clear c54b0
                                    try clear c54b1
                                    try clear c55
                                    try clear c59
                                    try clear c59b0
                                    try clear c61
                                    try clear c61b0
                                    try clear c62
                                    try clear c62b0
                                    try clear c63
                                    try clear c63b0
                                    try clear p64
                                    try clear q64
                                    try clear hx64
                                    try clear hf64
                                    try clear c65
                                    try clear c65b0
                                    try clear c67
                                    try clear c67b0
                                    try clear p68
                                    try clear q68
                                    try clear hx68
                                    try clear hf68
                                    try clear c76
                                    try clear c77
                                    try clear c77b0
                                    try clear hcv78
                                    try clear c80
                                    try clear c82
                                    try clear c82b0
                                    try clear c82b1
                                    try clear c83
                                    try clear c83b0
                                    try clear hcv84
                                    try clear c86
                                    try clear hcv88
                                    try clear hcv89
                                    try clear c91
                                    try clear hcv93
                                    try clear hcv94
                                    try clear c96
                                    try clear hcv98
                                    try clear c100
                                    try clear hcz101_0
                                    try clear hcz101_1
                                    try clear hcz13_0
                                    try clear hcz13_1
                                    try clear hcz17_0
                                    try clear hcz17_1
                                    try clear hcz23_0
                                    try clear hcz23_1
                                    try clear hcz24_0
                                    try clear hcz24_1
                                    try clear hcz27_0
                                    try clear hcz27_1
                                    try clear hcz28_0
                                    try clear hcz28_1
                                    try clear hcz30_0
                                    try clear hcz30_1
                                    try clear hcz31_0
                                    try clear hcz31_1
                                    try clear hcz47_0
                                    try clear hcz47_1
                                    try clear hcz51_0
                                    try clear hcz51_1
                                    try clear hcz56_0
                                    try clear hcz56_1
                                    try clear hcz81_0
                                    try clear hcz81_1
                                    try clear hcz87_0
                                    try clear hcz87_1
                                    try clear hcz92_0
                                    try clear hcz92_1
                                    try clear hcz97_0
                                    try clear hcz97_1
                                    try clear hfz101_0
                                    try clear hfz101_1
                                    try clear hfz13_0
                                    try clear hfz13_1
                                    try clear hfz17_0
                                    try clear hfz17_1
                                    try clear hfz23_0
                                    try clear hfz23_1
                                    try clear hfz24_0
                                    try clear hfz24_1
                                    try clear hfz27_0
                                    try clear hfz27_1
                                    try clear hfz28_0
                                    try clear hfz28_1
                                    try clear hfz30_0
                                    try clear hfz30_1
                                    try clear hfz31_0
                                    try clear hfz31_1
                                    try clear hfz47_0
                                    try clear hfz47_1
                                    try clear hfz51_0
                                    try clear hfz51_1
                                    try clear hfz56_0
                                    try clear hfz56_1
                                    try clear hfz81_0
                                    try clear hfz81_1
                                    try clear hfz87_0
                                    try clear hfz87_1
                                    try clear hfz92_0
                                    try clear hfz92_1
                                    try clear hfz97_0
                                    try clear hfz97_1
                                    try clear hx263_0
                                    try clear hx263_1
                                    try clear hx264_0
                                    try clear hx264_1
                                    try clear hx271_0
                                    try clear hx64_0
                                    try clear hx68_0
                                    try clear p2
                                    try clear p26
                                    try clear p263
                                    try clear p264
                                    try clear p271
                                    try clear p6
                                    try clear p64
                                    try clear p68
                                    try clear q2
                                    try clear q26
                                    try clear q263
                                    try clear q264
                                    try clear q271
                                    try clear q64
                                    try clear q68
                                    obtain ⟨x177_5, p_, HX, HA, HK5, BK250, BK254, HIT, HB⟩ := hrel
                                    cases gk with
                                    | zero => exact absurd HA.out (by simp [laws_FnViterbi.l3])
                                    | succ k5 =>
                                      have H := HA.out
                                      clear HA
                                      simp only [laws_FnViterbi.l3] at H
                                      by_cases c102 : x177_5 < (t247.size : Int)
                                      · rw [if_pos c102] at H
                                        have c102b0 : decide (x177_5 < (t247.size : Int)) = true := decide_eq_true c102
                                        clear c102
                                        have hpA : p_ < t247.size := by have h1_ := HX.out; have h2_ := of_decide_eq_true c102b0; omega
                                        by_cases cA : bt t247 x177_5 < 128
                                        rotate_left
                                        · rw [if_neg cA] at H
                                          exact absurd H (by simp)
                                        rw [if_pos cA] at H
                                        have h128 : (t247[p_]'hpA).toNat < 128 := by
                                          have h_ : bt t247 (p_ : Int) = (((t247[p_]'hpA).toNat : Nat) : Int) := by simp [bt, hpA]
                                          rw [HX.out, h_] at cA
                                          omega
                                        have hnext : ∀ ty, (Instr.next (.pointer (some ⟨git, 0, none⟩)) true ty).run Tryd.prog wr = .ok (.tuple #[.bool true, .int .i64 x177_5, .int .i32 (t247[p_]'hpA).toNat]) (wr.iterAt git t247 (p_ + 1)) := fun ty => by
                                          rw [HX.out]
                                          exact Lib.run_next_ascii_at wr git t247 p_ ty HIT.out hpA h128
                                        have BK250_ := Aside0.mk ((Lib.iterAt_other wr git gb250 t247 (p_ + 1) NI250.out).trans BK250.out)
                                        have BK254_ := Aside0.mk ((Lib.iterAt_other wr git gb254 t247 (p_ + 1) NI254.out).trans BK254.out)
                                        have HB_ := Aside0.mk (Lib.below_iterAt HB.out GIT.out t247 (p_ + 1))
                                        have HIT_ := Aside0.mk (Lib.iterAt_heap wr git t247 p_ (p_ + 1) HIT.out)
                                        clear BK250 BK254 HB HIT
                                        generalize wr.iterAt git t247 (p_ + 1) = wr2 at hnext BK250_ BK254_ HB_ HIT_
                                        have BK250 := BK250_
                                        have BK254 := BK254_
                                        have HB := HB_
                                        have HIT := HIT_
                                        clear BK250_ BK254_ HB_ HIT_ h128 cA
                                        have HBr := Aside0.mk (Below.refl wr2.heap.size wr2)
                                        have HLT := Aside0.mk (Array.getElem?_eq_some_iff.1 HIT.out).1
                                        have HPA := Aside0.mk hpA
                                        replace H := Option.bind_eq_some_iff.mp H
                                        obtain ⟨t275, A1030, H⟩ := H
                                        replace H : (if 0 ≤ x177_5 then (if x177_5 < (t275.length : Int) then ((impl_CostOf.f k5 (strOfNums (t275.set (x177_5 : Int).toNat (Go.bits .xor .u8 (rd t275 x177_5) 1))) t246).bind fun bt280 => (if bt280.2 = true then (if bt280.1 < t248 then (some false) else (laws_FnViterbi.l3 k5 t246 (t247.size : Int) (wrap64 (x177_5 + 1)) t247 t248)) else (some false))) else (none)) else (none)) = some r := H
                                        have A103 := Aside0.mk A1030
                                        have HSZ := Aside0.mk (show t247.size ≤ 9223372036854775807 from by have h_ := A1030; unfold conv_bytes.f at h_; by_cases q_ : t247.size ≤ 9223372036854775807; exact q_; rw [if_neg q_] at h_; cases h_)
                                        clear A1030
                                        by_cases c104 : 0 ≤ x177_5
                                        · rw [if_pos c104] at H
                                          have c104b0 : decide (0 ≤ x177_5) = true := decide_eq_true c104
                                          clear c104
                                          by_cases c105 : x177_5 < (t275.length : Int)
                                          · rw [if_pos c105] at H
                                            have c105b0 : decide (x177_5 < (t275.length : Int)) = true := decide_eq_true c105
                                            clear c105
                                            obtain ⟨y279, hy279⟩ : ∃ y_ : List Int, y_ = (t275.set (x177_5 : Int).toNat (Go.bits .xor .u8 (rd t275 x177_5) 1)) := ⟨_, rfl⟩
                                            replace H : ((impl_CostOf.f k5 (strOfNums y279) t246).bind fun bt280 => (if bt280.2 = true then (if bt280.1 < t248 then (some false) else (laws_FnViterbi.l3 k5 t246 (t247.size : Int) (wrap64 (x177_5 + 1)) t247 t248)) else (some false))) = some r := by first | (rw [hy279]; with_reducible exact H) | (have H2_ := (Option.bind_some _ _).symm.trans H; rw [hy279]; with_reducible exact H2_) | (have H2_ := (Option.bind_some _ _).symm.trans H; with_reducible exact H2_) | with_reducible exact H | (rw [hy279]; exact H) | exact H
                                            have Ny279 := Aside0.mk hy279
                                            clear hy279
                                            replace H := Option.bind_eq_some_iff.mp H
                                            obtain ⟨⟨t280, t281⟩, A1070, H⟩ := H
                                            replace H : (if t281 = true then (if t280 < t248 then (some false) else (laws_FnViterbi.l3 k5 t246 (t247.size : Int) (wrap64 (x177_5 + 1)) t247 t248)) else (some false)) = some r := H
                                            have A107 := Aside0.mk A1070
                                            clear A1070
                                            by_cases c108 : t281 = true
                                            · subst c108
                                              have H1 : (if t280 < t248 then (some false) else (laws_FnViterbi.l3 k5 t246 (t247.size : Int) (wrap64 (x177_5 + 1)) t247 t248)) = some r := by rw [if_pos rfl] at H; exact H
                                              clear H
                                              have H := H1
                                              clear H1
                                              by_cases c109 : t280 < t248
                                              · rw [if_pos c109] at H
                                                have c109b0 : decide (t280 < t248) = true := decide_eq_true c109
                                                clear c109
                                                obtain rfl := Option.some.inj H
                                                have hnb110 := NB250_254.out
                                                have hnc110 := NB254_250.out
                                                have hcz111_0 : wr2.cell? ⟨gb250, 0, none⟩ = some (.string t247) := (blk_cell BK250.out 0).trans rfl
                                                have hcz111_1 : wr2.cell? ⟨gb250, 1, none⟩ = some (.int .i64 t248) := (blk_cell BK250.out 1).trans rfl
                                                have hfz111_0 := blk_frozen BK250.out 0
                                                have hfz111_1 := blk_frozen BK250.out 1
                                                go_wp2_with (first | ((with_reducible refine gate_dst (N := 182) rfl ?_); refine conv_goes (some 182) rfl rfl 9 43 5 Tryd.underlying9 Tryd.underlying43 Tryd.underlying5 _ t247 rfl rfl ?_; (with_reducible refine (conv_bytes.calls t247 t275 _ A103.out).mono ?_); rintro e w112 ⟨v276, rfl, ho0, hb⟩; refine ⟨_, rfl, ?_⟩; have n0_ := Aside0.mk (KdW.R_lower ho0 (below_size (by repeat (first | (with_reducible first | exact HB.out | apply below_alloc | apply pw_below_drewN | apply below_drew1 | refine below_set ?_ GE250.out | refine below_set ?_ GE254.out) | exact HB.out)))); have n1_ := Aside0.mk (blk_below (g := gb250) (o := .cells #[.string t247, .int .i64 t248] 39 (0, 0)) (by (with_reducible repeat (first | refine blk_drewN ?_ _ | refine blk_drew ?_ | refine blk_alloc ?_ _)); exact BK250.out) hb); have n2_ := Aside0.mk (blk_below (g := gb254) (o := .cells #[.string t251, .int .i64 t252] 39 (0, 0)) (by (with_reducible repeat (first | refine blk_drewN ?_ _ | refine blk_drew ?_ | refine blk_alloc ?_ _)); exact BK254.out) hb); have n3_ := Aside0.mk (below_step (by repeat (first | (with_reducible first | exact HB.out | apply below_alloc | apply pw_below_drewN | apply below_drew1 | refine below_set ?_ GE250.out | refine below_set ?_ GE254.out) | exact HB.out)) hb); clear BK250; clear BK254; clear HB; have HO277 := n0_; have BK250 := n1_; have BK254 := n2_; have HB := n3_; clear n0_ n1_ n2_ n3_; have HBr2 := Aside0.mk (below_step (by repeat (first | (with_reducible first | exact HBr.out | apply below_alloc | apply pw_below_drewN | apply below_drew1 | refine below_set ?_ GE250.out | refine below_set ?_ GE254.out) | exact HBr.out)) hb); clear HBr; have HBr := HBr2; clear HBr2; (try clear hb); (try clear hb2); (try clear hk); (try clear hi); have HOr := Aside0.mk (show KdW.R (Kd.int .u8) 5 _ wr2.heap.size _ _ _ from ho0); (try clear ho0); obtain ⟨Ao113, co113, eo113⟩ := KdW.R_slice HO277.out; subst eo113; have p278 : 0 ≤ (x177_5 : Int) := of_decide_eq_true (by first | (with_reducible assumption) | assumption); have q278 : x177_5 < (t275.length : Int) := of_decide_eq_true (by first | (with_reducible assumption) | assumption); obtain ⟨ad278, e278, hx278_0⟩ := Kd.at_int (KdW.R_reads' HO277.out).2.2 x177_5 p278 q278; cases e278; replace p278 := eq_true p278; replace q278 := eq_true q278; have p106 : 0 ≤ (x177_5 : Int) := of_decide_eq_true (by first | (with_reducible assumption) | assumption); have q106 : (x177_5 : Int) < ((t275.length : Int) : Int) := of_decide_eq_true (by first | (with_reducible assumption) | assumption); obtain ⟨go106, co106, eo106, gb106, gl106, cl106, HG106⟩ := KdW.R_form HO277.out (by omega); (first | cases eo106 | (injection eo106 with ea_ en_ ec_; (first | subst ea_ | (injection ea_ with ea_; subst ea_)); subst ec_; clear en_)); have GB106 := Aside0.mk gb106; have GR106 := Aside0.mk (vit_base HOr.out); clear HOr; have GG106 := Aside0.mk HG106; clear gb106 gl106 HG106; (first | simp only [add_plain] at hx278_0 | skip); obtain ⟨hx106_0, hf106_0⟩ := KdW.R_celln 0 HO277.out (x177_5 : Int) p106 q106; replace p106 := eq_true p106; replace q106 := eq_true q106; obtain ⟨hy114_, hz114_⟩ := KdW.R_celln 0 HO277.out (x177_5 : Int) (of_decide_eq_true (by first | (with_reducible assumption) | assumption)) (of_decide_eq_true (by first | (with_reducible assumption) | assumption)); have HP114 := KdW.R_putg HO277.out (x177_5 : Int) (Go.bits .xor .u8 (rd t275 x177_5) 1)) | ((with_reducible refine gate_store (t := 5) (p := 188) rfl ?_); (try (rw [drewN_self w112]; generalize hq_ : World.drewN w112 _ = w112; have n0_ := Aside0.mk (Kd.R_at hq_ HO277.out); have n1_ := Aside0.mk (blk_at hq_ BK250.out); have n2_ := Aside0.mk (blk_at hq_ BK254.out); have n3_ := Aside0.mk (below_at hq_ HB.out); clear hq_ HO277 BK250 BK254 HB; have HO277 := n0_; have BK250 := n1_; have BK254 := n2_; have HB := n3_; clear n0_ n1_ n2_ n3_; (try (obtain ⟨hy114_, hz114_⟩ := KdW.R_celln 0 HO277.out (x177_5 : Int) (of_decide_eq_true (by first | (with_reducible assumption) | assumption)) (of_decide_eq_true (by first | (with_reducible assumption) | assumption)))); (try (have HP114 := KdW.R_putg HO277.out (x177_5 : Int) (Go.bits .xor .u8 (rd t275 x177_5) 1))))); refine store_event (t := 5) (p := 188) (v := ?vo_w115) (w1 := (w112.setCell ⟨go106, (x177_5 : Int).toNat, none⟩ (.int .u8 (Go.bits .xor .u8 (rd t275 x177_5) 1)))) ?hg ?ho ?hn ?hr ?_; (case ho => rfl); (case hg => rfl); (case hn => rfl); (case hr => first | (go_simp; done) | (go_simp; rfl)); intro w115 hw; have hg : w112.grownBy w115 (some go106) := (by rw [hw]; exact HP114.2); have hp_ : KdW.R (Kd.int .u8) 5 w115 w.heap.size (fun _ => True) (.slice (some ⟨go106, 0, none⟩) t275.length co113) y279 := (by rw [hw, Ny279.out]; exact HP114.1); clear HP114; have n0_ := Aside0.mk (blk_grown (g := gb250) (o := .cells #[.string t247, .int .i64 t248] 39 (0, 0)) (by (with_reducible repeat (first | refine blk_drewN ?_ _ | refine blk_drew ?_ | refine blk_alloc ?_ _)); exact BK250.out) hg (KdW.R_ne HO277.out BK250.out (by decide))); have n1_ := Aside0.mk (blk_grown (g := gb254) (o := .cells #[.string t251, .int .i64 t252] 39 (0, 0)) (by (with_reducible repeat (first | refine blk_drewN ?_ _ | refine blk_drew ?_ | refine blk_alloc ?_ _)); exact BK254.out) hg (KdW.R_ne HO277.out BK254.out (by decide))); have n2_ := Aside0.mk (hp_); have n3_ := Aside0.mk ((by rw [hw]; exact below_set (HB.out) GB106.out : Below w.heap.size w w115)); clear BK250; clear BK254; clear HO277; clear HB; have BK250 := n0_; have BK254 := n1_; have HO277 := n2_; have HB := n3_; clear n0_ n1_ n2_ n3_; have HBr2 := Aside0.mk ((by rw [hw]; exact below_set (HBr.out) GR106.out : Below wr2.heap.size wr2 w115)); clear HBr; have HBr := HBr2; clear HBr2; clear hg hw hp_; have hcv116 := KdW.own_string (P := Tryd.prog) Tryd.underlying43 Tryd.underlying5 Tryd.underlying9 HO277.out) | (go_at_call 25; (with_reducible refine (impl_CostOf.calls k5 (strOfNums y279) t246 t280 true _ A107.out).mono ?_); rintro e w117 ⟨rfl, hb⟩; have n0_ := Aside0.mk (KdW.R_below (by (with_reducible repeat (first | apply KdW.R_alloc | apply KdW.R_drewN | apply KdW.R_drew)); exact HO277.out) hb); have n1_ := Aside0.mk (blk_below (g := gb250) (o := .cells #[.string t247, .int .i64 t248] 39 (0, 0)) (by (with_reducible repeat (first | refine blk_drewN ?_ _ | refine blk_drew ?_ | refine blk_alloc ?_ _)); exact BK250.out) hb); have n2_ := Aside0.mk (blk_below (g := gb254) (o := .cells #[.string t251, .int .i64 t252] 39 (0, 0)) (by (with_reducible repeat (first | refine blk_drewN ?_ _ | refine blk_drew ?_ | refine blk_alloc ?_ _)); exact BK254.out) hb); have n3_ := Aside0.mk (below_step (by repeat (first | (with_reducible first | exact HB.out | apply below_alloc | apply pw_below_drewN | apply below_drew1 | refine below_set ?_ GE250.out | refine below_set ?_ GE254.out) | exact HB.out)) hb); clear HO277; clear BK250; clear BK254; clear HB; have HO277 := n0_; have BK250 := n1_; have BK254 := n2_; have HB := n3_; clear n0_ n1_ n2_ n3_; have HBr2 := Aside0.mk (below_step (by repeat (first | (with_reducible first | exact HBr.out | apply below_alloc | apply pw_below_drewN | apply below_drew1 | refine below_set ?_ GE250.out | refine below_set ?_ GE254.out) | exact HBr.out)) hb); clear HBr; have HBr := HBr2; clear HBr2; (try clear hb); (try clear hb2); (try clear hk); (try clear hi); have hcz118_0 : w117.cell? ⟨gb250, 0, none⟩ = some (.string t247) := (blk_cell BK250.out 0).trans rfl; have hcz118_1 : w117.cell? ⟨gb250, 1, none⟩ = some (.int .i64 t248) := (blk_cell BK250.out 1).trans rfl; have hfz118_0 := blk_frozen BK250.out 0; have hfz118_1 := blk_frozen BK250.out 1))
                                                repeat (go_quiet (first | ((with_reducible refine gate_dst (N := 182) rfl ?_); refine conv_goes (some 182) rfl rfl 9 43 5 Tryd.underlying9 Tryd.underlying43 Tryd.underlying5 _ t247 rfl rfl ?_; (with_reducible refine (conv_bytes.calls t247 t275 _ A103.out).mono ?_); rintro e w112 ⟨v276, rfl, ho0, hb⟩; refine ⟨_, rfl, ?_⟩; have n0_ := Aside0.mk (KdW.R_lower ho0 (below_size (by repeat (first | (with_reducible first | exact HB.out | apply below_alloc | apply pw_below_drewN | apply below_drew1 | refine below_set ?_ GE250.out | refine below_set ?_ GE254.out) | exact HB.out)))); have n1_ := Aside0.mk (blk_below (g := gb250) (o := .cells #[.string t247, .int .i64 t248] 39 (0, 0)) (by (with_reducible repeat (first | refine blk_drewN ?_ _ | refine blk_drew ?_ | refine blk_alloc ?_ _)); exact BK250.out) hb); have n2_ := Aside0.mk (blk_below (g := gb254) (o := .cells #[.string t251, .int .i64 t252] 39 (0, 0)) (by (with_reducible repeat (first | refine blk_drewN ?_ _ | refine blk_drew ?_ | refine blk_alloc ?_ _)); exact BK254.out) hb); have n3_ := Aside0.mk (below_step (by repeat (first | (with_reducible first | exact HB.out | apply below_alloc | apply pw_below_drewN | apply below_drew1 | refine below_set ?_ GE250.out | refine below_set ?_ GE254.out) | exact HB.out)) hb); clear BK250; clear BK254; clear HB; have HO277 := n0_; have BK250 := n1_; have BK254 := n2_; have HB := n3_; clear n0_ n1_ n2_ n3_; have HBr2 := Aside0.mk (below_step (by repeat (first | (with_reducible first | exact HBr.out | apply below_alloc | apply pw_below_drewN | apply below_drew1 | refine below_set ?_ GE250.out | refine below_set ?_ GE254.out) | exact HBr.out)) hb); clear HBr; have HBr := HBr2; clear HBr2; (try clear hb); (try clear hb2); (try clear hk); (try clear hi); have HOr := Aside0.mk (show KdW.R (Kd.int .u8) 5 _ wr2.heap.size _ _ _ from ho0); (try clear ho0); obtain ⟨Ao113, co113, eo113⟩ := KdW.R_slice HO277.out; subst eo113; have p278 : 0 ≤ (x177_5 : Int) := of_decide_eq_true (by first | (with_reducible assumption) | assumption); have q278 : x177_5 < (t275.length : Int) := of_decide_eq_true (by first | (with_reducible assumption) | assumption); obtain ⟨ad278, e278, hx278_0⟩ := Kd.at_int (KdW.R_reads' HO277.out).2.2 x177_5 p278 q278; cases e278; replace p278 := eq_true p278; replace q278 := eq_true q278; have p106 : 0 ≤ (x177_5 : Int) := of_decide_eq_true (by first | (with_reducible assumption) | assumption); have q106 : (x177_5 : Int) < ((t275.length : Int) : Int) := of_decide_eq_true (by first | (with_reducible assumption) | assumption); obtain ⟨go106, co106, eo106, gb106, gl106, cl106, HG106⟩ := KdW.R_form HO277.out (by omega); (first | cases eo106 | (injection eo106 with ea_ en_ ec_; (first | subst ea_ | (injection ea_ with ea_; subst ea_)); subst ec_; clear en_)); have GB106 := Aside0.mk gb106; have GR106 := Aside0.mk (vit_base HOr.out); clear HOr; have GG106 := Aside0.mk HG106; clear gb106 gl106 HG106; (first | simp only [add_plain] at hx278_0 | skip); obtain ⟨hx106_0, hf106_0⟩ := KdW.R_celln 0 HO277.out (x177_5 : Int) p106 q106; replace p106 := eq_true p106; replace q106 := eq_true q106; obtain ⟨hy114_, hz114_⟩ := KdW.R_celln 0 HO277.out (x177_5 : Int) (of_decide_eq_true (by first | (with_reducible assumption) | assumption)) (of_decide_eq_true (by first | (with_reducible assumption) | assumption)); have HP114 := KdW.R_putg HO277.out (x177_5 : Int) (Go.bits .xor .u8 (rd t275 x177_5) 1)) | ((with_reducible refine gate_store (t := 5) (p := 188) rfl ?_); (try (rw [drewN_self w112]; generalize hq_ : World.drewN w112 _ = w112; have n0_ := Aside0.mk (Kd.R_at hq_ HO277.out); have n1_ := Aside0.mk (blk_at hq_ BK250.out); have n2_ := Aside0.mk (blk_at hq_ BK254.out); have n3_ := Aside0.mk (below_at hq_ HB.out); clear hq_ HO277 BK250 BK254 HB; have HO277 := n0_; have BK250 := n1_; have BK254 := n2_; have HB := n3_; clear n0_ n1_ n2_ n3_; (try (obtain ⟨hy114_, hz114_⟩ := KdW.R_celln 0 HO277.out (x177_5 : Int) (of_decide_eq_true (by first | (with_reducible assumption) | assumption)) (of_decide_eq_true (by first | (with_reducible assumption) | assumption)))); (try (have HP114 := KdW.R_putg HO277.out (x177_5 : Int) (Go.bits .xor .u8 (rd t275 x177_5) 1))))); refine store_event (t := 5) (p := 188) (v := ?vo_w115) (w1 := (w112.setCell ⟨go106, (x177_5 : Int).toNat, none⟩ (.int .u8 (Go.bits .xor .u8 (rd t275 x177_5) 1)))) ?hg ?ho ?hn ?hr ?_; (case ho => rfl); (case hg => rfl); (case hn => rfl); (case hr => first | (go_simp; done) | (go_simp; rfl)); intro w115 hw; have hg : w112.grownBy w115 (some go106) := (by rw [hw]; exact HP114.2); have hp_ : KdW.R (Kd.int .u8) 5 w115 w.heap.size (fun _ => True) (.slice (some ⟨go106, 0, none⟩) t275.length co113) y279 := (by rw [hw, Ny279.out]; exact HP114.1); clear HP114; have n0_ := Aside0.mk (blk_grown (g := gb250) (o := .cells #[.string t247, .int .i64 t248] 39 (0, 0)) (by (with_reducible repeat (first | refine blk_drewN ?_ _ | refine blk_drew ?_ | refine blk_alloc ?_ _)); exact BK250.out) hg (KdW.R_ne HO277.out BK250.out (by decide))); have n1_ := Aside0.mk (blk_grown (g := gb254) (o := .cells #[.string t251, .int .i64 t252] 39 (0, 0)) (by (with_reducible repeat (first | refine blk_drewN ?_ _ | refine blk_drew ?_ | refine blk_alloc ?_ _)); exact BK254.out) hg (KdW.R_ne HO277.out BK254.out (by decide))); have n2_ := Aside0.mk (hp_); have n3_ := Aside0.mk ((by rw [hw]; exact below_set (HB.out) GB106.out : Below w.heap.size w w115)); clear BK250; clear BK254; clear HO277; clear HB; have BK250 := n0_; have BK254 := n1_; have HO277 := n2_; have HB := n3_; clear n0_ n1_ n2_ n3_; have HBr2 := Aside0.mk ((by rw [hw]; exact below_set (HBr.out) GR106.out : Below wr2.heap.size wr2 w115)); clear HBr; have HBr := HBr2; clear HBr2; clear hg hw hp_; have hcv116 := KdW.own_string (P := Tryd.prog) Tryd.underlying43 Tryd.underlying5 Tryd.underlying9 HO277.out) | (go_at_call 25; (with_reducible refine (impl_CostOf.calls k5 (strOfNums y279) t246 t280 true _ A107.out).mono ?_); rintro e w117 ⟨rfl, hb⟩; have n0_ := Aside0.mk (KdW.R_below (by (with_reducible repeat (first | apply KdW.R_alloc | apply KdW.R_drewN | apply KdW.R_drew)); exact HO277.out) hb); have n1_ := Aside0.mk (blk_below (g := gb250) (o := .cells #[.string t247, .int .i64 t248] 39 (0, 0)) (by (with_reducible repeat (first | refine blk_drewN ?_ _ | refine blk_drew ?_ | refine blk_alloc ?_ _)); exact BK250.out) hb); have n2_ := Aside0.mk (blk_below (g := gb254) (o := .cells #[.string t251, .int .i64 t252] 39 (0, 0)) (by (with_reducible repeat (first | refine blk_drewN ?_ _ | refine blk_drew ?_ | refine blk_alloc ?_ _)); exact BK254.out) hb); have n3_ := Aside0.mk (below_step (by repeat (first | (with_reducible first | exact HB.out | apply below_alloc | apply pw_below_drewN | apply below_drew1 | refine below_set ?_ GE250.out | refine below_set ?_ GE254.out) | exact HB.out)) hb); clear HO277; clear BK250; clear BK254; clear HB; have HO277 := n0_; have BK250 := n1_; have BK254 := n2_; have HB := n3_; clear n0_ n1_ n2_ n3_; have HBr2 := Aside0.mk (below_step (by repeat (first | (with_reducible first | exact HBr.out | apply below_alloc | apply pw_below_drewN | apply below_drew1 | refine below_set ?_ GE250.out | refine below_set ?_ GE254.out) | exact HBr.out)) hb); clear HBr; have HBr := HBr2; clear HBr2; (try clear hb); (try clear hb2); (try clear hk); (try clear hi); have hcz118_0 : w117.cell? ⟨gb250, 0, none⟩ = some (.string t247) := (blk_cell BK250.out 0).trans rfl; have hcz118_1 : w117.cell? ⟨gb250, 1, none⟩ = some (.int .i64 t248) := (blk_cell BK250.out 1).trans rfl; have hfz118_0 := blk_frozen BK250.out 0; have hfz118_1 := blk_frozen BK250.out 1)); try go_wp2_with (first | ((with_reducible refine gate_dst (N := 182) rfl ?_); refine conv_goes (some 182) rfl rfl 9 43 5 Tryd.underlying9 Tryd.underlying43 Tryd.underlying5 _ t247 rfl rfl ?_; (with_reducible refine (conv_bytes.calls t247 t275 _ A103.out).mono ?_); rintro e w112 ⟨v276, rfl, ho0, hb⟩; refine ⟨_, rfl, ?_⟩; have n0_ := Aside0.mk (KdW.R_lower ho0 (below_size (by repeat (first | (with_reducible first | exact HB.out | apply below_alloc | apply pw_below_drewN | apply below_drew1 | refine below_set ?_ GE250.out | refine below_set ?_ GE254.out) | exact HB.out)))); have n1_ := Aside0.mk (blk_below (g := gb250) (o := .cells #[.string t247, .int .i64 t248] 39 (0, 0)) (by (with_reducible repeat (first | refine blk_drewN ?_ _ | refine blk_drew ?_ | refine blk_alloc ?_ _)); exact BK250.out) hb); have n2_ := Aside0.mk (blk_below (g := gb254) (o := .cells #[.string t251, .int .i64 t252] 39 (0, 0)) (by (with_reducible repeat (first | refine blk_drewN ?_ _ | refine blk_drew ?_ | refine blk_alloc ?_ _)); exact BK254.out) hb); have n3_ := Aside0.mk (below_step (by repeat (first | (with_reducible first | exact HB.out | apply below_alloc | apply pw_below_drewN | apply below_drew1 | refine below_set ?_ GE250.out | refine below_set ?_ GE254.out) | exact HB.out)) hb); clear BK250; clear BK254; clear HB; have HO277 := n0_; have BK250 := n1_; have BK254 := n2_; have HB := n3_; clear n0_ n1_ n2_ n3_; have HBr2 := Aside0.mk (below_step (by repeat (first | (with_reducible first | exact HBr.out | apply below_alloc | apply pw_below_drewN | apply below_drew1 | refine below_set ?_ GE250.out | refine below_set ?_ GE254.out) | exact HBr.out)) hb); clear HBr; have HBr := HBr2; clear HBr2; (try clear hb); (try clear hb2); (try clear hk); (try clear hi); have HOr := Aside0.mk (show KdW.R (Kd.int .u8) 5 _ wr2.heap.size _ _ _ from ho0); (try clear ho0); obtain ⟨Ao113, co113, eo113⟩ := KdW.R_slice HO277.out; subst eo113; have p278 : 0 ≤ (x177_5 : Int) := of_decide_eq_true (by first | (with_reducible assumption) | assumption); have q278 : x177_5 < (t275.length : Int) := of_decide_eq_true (by first | (with_reducible assumption) | assumption); obtain ⟨ad278, e278, hx278_0⟩ := Kd.at_int (KdW.R_reads' HO277.out).2.2 x177_5 p278 q278; cases e278; replace p278 := eq_true p278; replace q278 := eq_true q278; have p106 : 0 ≤ (x177_5 : Int) := of_decide_eq_true (by first | (with_reducible assumption) | assumption); have q106 : (x177_5 : Int) < ((t275.length : Int) : Int) := of_decide_eq_true (by first | (with_reducible assumption) | assumption); obtain ⟨go106, co106, eo106, gb106, gl106, cl106, HG106⟩ := KdW.R_form HO277.out (by omega); (first | cases eo106 | (injection eo106 with ea_ en_ ec_; (first | subst ea_ | (injection ea_ with ea_; subst ea_)); subst ec_; clear en_)); have GB106 := Aside0.mk gb106; have GR106 := Aside0.mk (vit_base HOr.out); clear HOr; have GG106 := Aside0.mk HG106; clear gb106 gl106 HG106; (first | simp only [add_plain] at hx278_0 | skip); obtain ⟨hx106_0, hf106_0⟩ := KdW.R_celln 0 HO277.out (x177_5 : Int) p106 q106; replace p106 := eq_true p106; replace q106 := eq_true q106; obtain ⟨hy114_, hz114_⟩ := KdW.R_celln 0 HO277.out (x177_5 : Int) (of_decide_eq_true (by first | (with_reducible assumption) | assumption)) (of_decide_eq_true (by first | (with_reducible assumption) | assumption)); have HP114 := KdW.R_putg HO277.out (x177_5 : Int) (Go.bits .xor .u8 (rd t275 x177_5) 1)) | ((with_reducible refine gate_store (t := 5) (p := 188) rfl ?_); (try (rw [drewN_self w112]; generalize hq_ : World.drewN w112 _ = w112; have n0_ := Aside0.mk (Kd.R_at hq_ HO277.out); have n1_ := Aside0.mk (blk_at hq_ BK250.out); have n2_ := Aside0.mk (blk_at hq_ BK254.out); have n3_ := Aside0.mk (below_at hq_ HB.out); clear hq_ HO277 BK250 BK254 HB; have HO277 := n0_; have BK250 := n1_; have BK254 := n2_; have HB := n3_; clear n0_ n1_ n2_ n3_; (try (obtain ⟨hy114_, hz114_⟩ := KdW.R_celln 0 HO277.out (x177_5 : Int) (of_decide_eq_true (by first | (with_reducible assumption) | assumption)) (of_decide_eq_true (by first | (with_reducible assumption) | assumption)))); (try (have HP114 := KdW.R_putg HO277.out (x177_5 : Int) (Go.bits .xor .u8 (rd t275 x177_5) 1))))); refine store_event (t := 5) (p := 188) (v := ?vo_w115) (w1 := (w112.setCell ⟨go106, (x177_5 : Int).toNat, none⟩ (.int .u8 (Go.bits .xor .u8 (rd t275 x177_5) 1)))) ?hg ?ho ?hn ?hr ?_; (case ho => rfl); (case hg => rfl); (case hn => rfl); (case hr => first | (go_simp; done) | (go_simp; rfl)); intro w115 hw; have hg : w112.grownBy w115 (some go106) := (by rw [hw]; exact HP114.2); have hp_ : KdW.R (Kd.int .u8) 5 w115 w.heap.size (fun _ => True) (.slice (some ⟨go106, 0, none⟩) t275.length co113) y279 := (by rw [hw, Ny279.out]; exact HP114.1); clear HP114; have n0_ := Aside0.mk (blk_grown (g := gb250) (o := .cells #[.string t247, .int .i64 t248] 39 (0, 0)) (by (with_reducible repeat (first | refine blk_drewN ?_ _ | refine blk_drew ?_ | refine blk_alloc ?_ _)); exact BK250.out) hg (KdW.R_ne HO277.out BK250.out (by decide))); have n1_ := Aside0.mk (blk_grown (g := gb254) (o := .cells #[.string t251, .int .i64 t252] 39 (0, 0)) (by (with_reducible repeat (first | refine blk_drewN ?_ _ | refine blk_drew ?_ | refine blk_alloc ?_ _)); exact BK254.out) hg (KdW.R_ne HO277.out BK254.out (by decide))); have n2_ := Aside0.mk (hp_); have n3_ := Aside0.mk ((by rw [hw]; exact below_set (HB.out) GB106.out : Below w.heap.size w w115)); clear BK250; clear BK254; clear HO277; clear HB; have BK250 := n0_; have BK254 := n1_; have HO277 := n2_; have HB := n3_; clear n0_ n1_ n2_ n3_; have HBr2 := Aside0.mk ((by rw [hw]; exact below_set (HBr.out) GR106.out : Below wr2.heap.size wr2 w115)); clear HBr; have HBr := HBr2; clear HBr2; clear hg hw hp_; have hcv116 := KdW.own_string (P := Tryd.prog) Tryd.underlying43 Tryd.underlying5 Tryd.underlying9 HO277.out) | (go_at_call 25; (with_reducible refine (impl_CostOf.calls k5 (strOfNums y279) t246 t280 true _ A107.out).mono ?_); rintro e w117 ⟨rfl, hb⟩; have n0_ := Aside0.mk (KdW.R_below (by (with_reducible repeat (first | apply KdW.R_alloc | apply KdW.R_drewN | apply KdW.R_drew)); exact HO277.out) hb); have n1_ := Aside0.mk (blk_below (g := gb250) (o := .cells #[.string t247, .int .i64 t248] 39 (0, 0)) (by (with_reducible repeat (first | refine blk_drewN ?_ _ | refine blk_drew ?_ | refine blk_alloc ?_ _)); exact BK250.out) hb); have n2_ := Aside0.mk (blk_below (g := gb254) (o := .cells #[.string t251, .int .i64 t252] 39 (0, 0)) (by (with_reducible repeat (first | refine blk_drewN ?_ _ | refine blk_drew ?_ | refine blk_alloc ?_ _)); exact BK254.out) hb); have n3_ := Aside0.mk (below_step (by repeat (first | (with_reducible first | exact HB.out | apply below_alloc | apply pw_below_drewN | apply below_drew1 | refine below_set ?_ GE250.out | refine below_set ?_ GE254.out) | exact HB.out)) hb); clear HO277; clear BK250; clear BK254; clear HB; have HO277 := n0_; have BK250 := n1_; have BK254 := n2_; have HB := n3_; clear n0_ n1_ n2_ n3_; have HBr2 := Aside0.mk (below_step (by repeat (first | (with_reducible first | exact HBr.out | apply below_alloc | apply pw_below_drewN | apply below_drew1 | refine below_set ?_ GE250.out | refine below_set ?_ GE254.out) | exact HBr.out)) hb); clear HBr; have HBr := HBr2; clear HBr2; (try clear hb); (try clear hb2); (try clear hk); (try clear hi); have hcz118_0 : w117.cell? ⟨gb250, 0, none⟩ = some (.string t247) := (blk_cell BK250.out 0).trans rfl; have hcz118_1 : w117.cell? ⟨gb250, 1, none⟩ = some (.int .i64 t248) := (blk_cell BK250.out 1).trans rfl; have hfz118_0 := blk_frozen BK250.out 0; have hfz118_1 := blk_frozen BK250.out 1)))
                                                go_ret
                                                exact ⟨by first | rfl | (simp [errW_none, errW_some] <;> rfl) | (simp [*, errW_none, errW_some] <;> rfl), by repeat (first | (with_reducible first | exact HB.out | apply below_alloc | apply pw_below_drewN | apply below_drew1 | refine below_set ?_ GE250.out | refine below_set ?_ GE254.out) | exact HB.out)⟩
                                              · rw [if_neg c109] at H
                                                have c109b0 : decide (t280 < t248) = false := decide_eq_false c109
                                                clear c109
                                                have H' := Aside0.mk H
                                                clear H
                                                have hnb119 := NB250_254.out
                                                have hnc119 := NB254_250.out
                                                have hcz120_0 : wr2.cell? ⟨gb250, 0, none⟩ = some (.string t247) := (blk_cell BK250.out 0).trans rfl
                                                have hcz120_1 : wr2.cell? ⟨gb250, 1, none⟩ = some (.int .i64 t248) := (blk_cell BK250.out 1).trans rfl
                                                have hfz120_0 := blk_frozen BK250.out 0
                                                have hfz120_1 := blk_frozen BK250.out 1
                                                go_wp2_with (first | ((with_reducible refine gate_dst (N := 182) rfl ?_); refine conv_goes (some 182) rfl rfl 9 43 5 Tryd.underlying9 Tryd.underlying43 Tryd.underlying5 _ t247 rfl rfl ?_; (with_reducible refine (conv_bytes.calls t247 t275 _ A103.out).mono ?_); rintro e w121 ⟨v276, rfl, ho0, hb⟩; refine ⟨_, rfl, ?_⟩; have n0_ := Aside0.mk (KdW.R_lower ho0 (below_size (by repeat (first | (with_reducible first | exact HB.out | apply below_alloc | apply pw_below_drewN | apply below_drew1 | refine below_set ?_ GE250.out | refine below_set ?_ GE254.out) | exact HB.out)))); have n1_ := Aside0.mk (blk_below (g := gb250) (o := .cells #[.string t247, .int .i64 t248] 39 (0, 0)) (by (with_reducible repeat (first | refine blk_drewN ?_ _ | refine blk_drew ?_ | refine blk_alloc ?_ _)); exact BK250.out) hb); have n2_ := Aside0.mk (blk_below (g := gb254) (o := .cells #[.string t251, .int .i64 t252] 39 (0, 0)) (by (with_reducible repeat (first | refine blk_drewN ?_ _ | refine blk_drew ?_ | refine blk_alloc ?_ _)); exact BK254.out) hb); have n3_ := Aside0.mk (below_step (by repeat (first | (with_reducible first | exact HB.out | apply below_alloc | apply pw_below_drewN | apply below_drew1 | refine below_set ?_ GE250.out | refine below_set ?_ GE254.out) | exact HB.out)) hb); clear BK250; clear BK254; clear HB; have HO277 := n0_; have BK250 := n1_; have BK254 := n2_; have HB := n3_; clear n0_ n1_ n2_ n3_; have HBr2 := Aside0.mk (below_step (by repeat (first | (with_reducible first | exact HBr.out | apply below_alloc | apply pw_below_drewN | apply below_drew1 | refine below_set ?_ GE250.out | refine below_set ?_ GE254.out) | exact HBr.out)) hb); clear HBr; have HBr := HBr2; clear HBr2; (try clear hb); (try clear hb2); (try clear hk); (try clear hi); have HOr := Aside0.mk (show KdW.R (Kd.int .u8) 5 _ wr2.heap.size _ _ _ from ho0); (try clear ho0); obtain ⟨Ao122, co122, eo122⟩ := KdW.R_slice HO277.out; subst eo122; have p278 : 0 ≤ (x177_5 : Int) := of_decide_eq_true (by first | (with_reducible assumption) | assumption); have q278 : x177_5 < (t275.length : Int) := of_decide_eq_true (by first | (with_reducible assumption) | assumption); obtain ⟨ad278, e278, hx278_0⟩ := Kd.at_int (KdW.R_reads' HO277.out).2.2 x177_5 p278 q278; cases e278; replace p278 := eq_true p278; replace q278 := eq_true q278; have p106 : 0 ≤ (x177_5 : Int) := of_decide_eq_true (by first | (with_reducible assumption) | assumption); have q106 : (x177_5 : Int) < ((t275.length : Int) : Int) := of_decide_eq_true (by first | (with_reducible assumption) | assumption); obtain ⟨go106, co106, eo106, gb106, gl106, cl106, HG106⟩ := KdW.R_form HO277.out (by omega); (first | cases eo106 | (injection eo106 with ea_ en_ ec_; (first | subst ea_ | (injection ea_ with ea_; subst ea_)); subst ec_; clear en_)); have GB106 := Aside0.mk gb106; have GR106 := Aside0.mk (vit_base HOr.out); clear HOr; have GG106 := Aside0.mk HG106; clear gb106 gl106 HG106; (first | simp only [add_plain] at hx278_0 | skip); obtain ⟨hx106_0, hf106_0⟩ := KdW.R_celln 0 HO277.out (x177_5 : Int) p106 q106; replace p106 := eq_true p106; replace q106 := eq_true q106; obtain ⟨hy123_, hz123_⟩ := KdW.R_celln 0 HO277.out (x177_5 : Int) (of_decide_eq_true (by first | (with_reducible assumption) | assumption)) (of_decide_eq_true (by first | (with_reducible assumption) | assumption)); have HP123 := KdW.R_putg HO277.out (x177_5 : Int) (Go.bits .xor .u8 (rd t275 x177_5) 1)) | ((with_reducible refine gate_store (t := 5) (p := 188) rfl ?_); (try (rw [drewN_self w121]; generalize hq_ : World.drewN w121 _ = w121; have n0_ := Aside0.mk (Kd.R_at hq_ HO277.out); have n1_ := Aside0.mk (blk_at hq_ BK250.out); have n2_ := Aside0.mk (blk_at hq_ BK254.out); have n3_ := Aside0.mk (below_at hq_ HB.out); clear hq_ HO277 BK250 BK254 HB; have HO277 := n0_; have BK250 := n1_; have BK254 := n2_; have HB := n3_; clear n0_ n1_ n2_ n3_; (try (obtain ⟨hy123_, hz123_⟩ := KdW.R_celln 0 HO277.out (x177_5 : Int) (of_decide_eq_true (by first | (with_reducible assumption) | assumption)) (of_decide_eq_true (by first | (with_reducible assumption) | assumption)))); (try (have HP123 := KdW.R_putg HO277.out (x177_5 : Int) (Go.bits .xor .u8 (rd t275 x177_5) 1))))); refine store_event (t := 5) (p := 188) (v := ?vo_w124) (w1 := (w121.setCell ⟨go106, (x177_5 : Int).toNat, none⟩ (.int .u8 (Go.bits .xor .u8 (rd t275 x177_5) 1)))) ?hg ?ho ?hn ?hr ?_; (case ho => rfl); (case hg => rfl); (case hn => rfl); (case hr => first | (go_simp; done) | (go_simp; rfl)); intro w124 hw; have hg : w121.grownBy w124 (some go106) := (by rw [hw]; exact HP123.2); have hp_ : KdW.R (Kd.int .u8) 5 w124 w.heap.size (fun _ => True) (.slice (some ⟨go106, 0, none⟩) t275.length co122) y279 := (by rw [hw, Ny279.out]; exact HP123.1); clear HP123; have n0_ := Aside0.mk (blk_grown (g := gb250) (o := .cells #[.string t247, .int .i64 t248] 39 (0, 0)) (by (with_reducible repeat (first | refine blk_drewN ?_ _ | refine blk_drew ?_ | refine blk_alloc ?_ _)); exact BK250.out) hg (KdW.R_ne HO277.out BK250.out (by decide))); have n1_ := Aside0.mk (blk_grown (g := gb254) (o := .cells #[.string t251, .int .i64 t252] 39 (0, 0)) (by (with_reducible repeat (first | refine blk_drewN ?_ _ | refine blk_drew ?_ | refine blk_alloc ?_ _)); exact BK254.out) hg (KdW.R_ne HO277.out BK254.out (by decide))); have n2_ := Aside0.mk (hp_); have n3_ := Aside0.mk ((by rw [hw]; exact below_set (HB.out) GB106.out : Below w.heap.size w w124)); clear BK250; clear BK254; clear HO277; clear HB; have BK250 := n0_; have BK254 := n1_; have HO277 := n2_; have HB := n3_; clear n0_ n1_ n2_ n3_; have HBr2 := Aside0.mk ((by rw [hw]; exact below_set (HBr.out) GR106.out : Below wr2.heap.size wr2 w124)); clear HBr; have HBr := HBr2; clear HBr2; clear hg hw hp_; have hcv125 := KdW.own_string (P := Tryd.prog) Tryd.underlying43 Tryd.underlying5 Tryd.underlying9 HO277.out) | (go_at_call 25; (with_reducible refine (impl_CostOf.calls k5 (strOfNums y279) t246 t280 true _ A107.out).mono ?_); rintro e w126 ⟨rfl, hb⟩; have n0_ := Aside0.mk (KdW.R_below (by (with_reducible repeat (first | apply KdW.R_alloc | apply KdW.R_drewN | apply KdW.R_drew)); exact HO277.out) hb); have n1_ := Aside0.mk (blk_below (g := gb250) (o := .cells #[.string t247, .int .i64 t248] 39 (0, 0)) (by (with_reducible repeat (first | refine blk_drewN ?_ _ | refine blk_drew ?_ | refine blk_alloc ?_ _)); exact BK250.out) hb); have n2_ := Aside0.mk (blk_below (g := gb254) (o := .cells #[.string t251, .int .i64 t252] 39 (0, 0)) (by (with_reducible repeat (first | refine blk_drewN ?_ _ | refine blk_drew ?_ | refine blk_alloc ?_ _)); exact BK254.out) hb); have n3_ := Aside0.mk (below_step (by repeat (first | (with_reducible first | exact HB.out | apply below_alloc | apply pw_below_drewN | apply below_drew1 | refine below_set ?_ GE250.out | refine below_set ?_ GE254.out) | exact HB.out)) hb); clear HO277; clear BK250; clear BK254; clear HB; have HO277 := n0_; have BK250 := n1_; have BK254 := n2_; have HB := n3_; clear n0_ n1_ n2_ n3_; have HBr2 := Aside0.mk (below_step (by repeat (first | (with_reducible first | exact HBr.out | apply below_alloc | apply pw_below_drewN | apply below_drew1 | refine below_set ?_ GE250.out | refine below_set ?_ GE254.out) | exact HBr.out)) hb); clear HBr; have HBr := HBr2; clear HBr2; (try clear hb); (try clear hb2); (try clear hk); (try clear hi); have hcz127_0 : w126.cell? ⟨gb250, 0, none⟩ = some (.string t247) := (blk_cell BK250.out 0).trans rfl; have hcz127_1 : w126.cell? ⟨gb250, 1, none⟩ = some (.int .i64 t248) := (blk_cell BK250.out 1).trans rfl; have hfz127_0 := blk_frozen BK250.out 0; have hfz127_1 := blk_frozen BK250.out 1))
                                                repeat (go_quiet (first | ((with_reducible refine gate_dst (N := 182) rfl ?_); refine conv_goes (some 182) rfl rfl 9 43 5 Tryd.underlying9 Tryd.underlying43 Tryd.underlying5 _ t247 rfl rfl ?_; (with_reducible refine (conv_bytes.calls t247 t275 _ A103.out).mono ?_); rintro e w121 ⟨v276, rfl, ho0, hb⟩; refine ⟨_, rfl, ?_⟩; have n0_ := Aside0.mk (KdW.R_lower ho0 (below_size (by repeat (first | (with_reducible first | exact HB.out | apply below_alloc | apply pw_below_drewN | apply below_drew1 | refine below_set ?_ GE250.out | refine below_set ?_ GE254.out) | exact HB.out)))); have n1_ := Aside0.mk (blk_below (g := gb250) (o := .cells #[.string t247, .int .i64 t248] 39 (0, 0)) (by (with_reducible repeat (first | refine blk_drewN ?_ _ | refine blk_drew ?_ | refine blk_alloc ?_ _)); exact BK250.out) hb); have n2_ := Aside0.mk (blk_below (g := gb254) (o := .cells #[.string t251, .int .i64 t252] 39 (0, 0)) (by (with_reducible repeat (first | refine blk_drewN ?_ _ | refine blk_drew ?_ | refine blk_alloc ?_ _)); exact BK254.out) hb); have n3_ := Aside0.mk (below_step (by repeat (first | (with_reducible first | exact HB.out | apply below_alloc | apply pw_below_drewN | apply below_drew1 | refine below_set ?_ GE250.out | refine below_set ?_ GE254.out) | exact HB.out)) hb); clear BK250; clear BK254; clear HB; have HO277 := n0_; have BK250 := n1_; have BK254 := n2_; have HB := n3_; clear n0_ n1_ n2_ n3_; have HBr2 := Aside0.mk (below_step (by repeat (first | (with_reducible first | exact HBr.out | apply below_alloc | apply pw_below_drewN | apply below_drew1 | refine below_set ?_ GE250.out | refine below_set ?_ GE254.out) | exact HBr.out)) hb); clear HBr; have HBr := HBr2; clear HBr2; (try clear hb); (try clear hb2); (try clear hk); (try clear hi); have HOr := Aside0.mk (show KdW.R (Kd.int .u8) 5 _ wr2.heap.size _ _ _ from ho0); (try clear ho0); obtain ⟨Ao122, co122, eo122⟩ := KdW.R_slice HO277.out; subst eo122; have p278 : 0 ≤ (x177_5 : Int) := of_decide_eq_true (by first | (with_reducible assumption) | assumption); have q278 : x177_5 < (t275.length : Int) := of_decide_eq_true (by first | (with_reducible assumption) | assumption); obtain ⟨ad278, e278, hx278_0⟩ := Kd.at_int (KdW.R_reads' HO277.out).2.2 x177_5 p278 q278; cases e278; replace p278 := eq_true p278; replace q278 := eq_true q278; have p106 : 0 ≤ (x177_5 : Int) := of_decide_eq_true (by first | (with_reducible assumption) | assumption); have q106 : (x177_5 : Int) < ((t275.length : Int) : Int) := of_decide_eq_true (by first | (with_reducible assumption) | assumption); obtain ⟨go106, co106, eo106, gb106, gl106, cl106, HG106⟩ := KdW.R_form HO277.out (by omega); (first | cases eo106 | (injection eo106 with ea_ en_ ec_; (first | subst ea_ | (injection ea_ with ea_; subst ea_)); subst ec_; clear en_)); have GB106 := Aside0.mk gb106; have GR106 := Aside0.mk (vit_base HOr.out); clear HOr; have GG106 := Aside0.mk HG106; clear gb106 gl106 HG106; (first | simp only [add_plain] at hx278_0 | skip); obtain ⟨hx106_0, hf106_0⟩ := KdW.R_celln 0 HO277.out (x177_5 : Int) p106 q106; replace p106 := eq_true p106; replace q106 := eq_true q106; obtain ⟨hy123_, hz123_⟩ := KdW.R_celln 0 HO277.out (x177_5 : Int) (of_decide_eq_true (by first | (with_reducible assumption) | assumption)) (of_decide_eq_true (by first | (with_reducible assumption) | assumption)); have HP123 := KdW.R_putg HO277.out (x177_5 : Int) (Go.bits .xor .u8 (rd t275 x177_5) 1)) | ((with_reducible refine gate_store (t := 5) (p := 188) rfl ?_); (try (rw [drewN_self w121]; generalize hq_ : World.drewN w121 _ = w121; have n0_ := Aside0.mk (Kd.R_at hq_ HO277.out); have n1_ := Aside0.mk (blk_at hq_ BK250.out); have n2_ := Aside0.mk (blk_at hq_ BK254.out); have n3_ := Aside0.mk (below_at hq_ HB.out); clear hq_ HO277 BK250 BK254 HB; have HO277 := n0_; have BK250 := n1_; have BK254 := n2_; have HB := n3_; clear n0_ n1_ n2_ n3_; (try (obtain ⟨hy123_, hz123_⟩ := KdW.R_celln 0 HO277.out (x177_5 : Int) (of_decide_eq_true (by first | (with_reducible assumption) | assumption)) (of_decide_eq_true (by first | (with_reducible assumption) | assumption)))); (try (have HP123 := KdW.R_putg HO277.out (x177_5 : Int) (Go.bits .xor .u8 (rd t275 x177_5) 1))))); refine store_event (t := 5) (p := 188) (v := ?vo_w124) (w1 := (w121.setCell ⟨go106, (x177_5 : Int).toNat, none⟩ (.int .u8 (Go.bits .xor .u8 (rd t275 x177_5) 1)))) ?hg ?ho ?hn ?hr ?_; (case ho => rfl); (case hg => rfl); (case hn => rfl); (case hr => first | (go_simp; done) | (go_simp; rfl)); intro w124 hw; have hg : w121.grownBy w124 (some go106) := (by rw [hw]; exact HP123.2); have hp_ : KdW.R (Kd.int .u8) 5 w124 w.heap.size (fun _ => True) (.slice (some ⟨go106, 0, none⟩) t275.length co122) y279 := (by rw [hw, Ny279.out]; exact HP123.1); clear HP123; have n0_ := Aside0.mk (blk_grown (g := gb250) (o := .cells #[.string t247, .int .i64 t248] 39 (0, 0)) (by (with_reducible repeat (first | refine blk_drewN ?_ _ | refine blk_drew ?_ | refine blk_alloc ?_ _)); exact BK250.out) hg (KdW.R_ne HO277.out BK250.out (by decide))); have n1_ := Aside0.mk (blk_grown (g := gb254) (o := .cells #[.string t251, .int .i64 t252] 39 (0, 0)) (by (with_reducible repeat (first | refine blk_drewN ?_ _ | refine blk_drew ?_ | refine blk_alloc ?_ _)); exact BK254.out) hg (KdW.R_ne HO277.out BK254.out (by decide))); have n2_ := Aside0.mk (hp_); have n3_ := Aside0.mk ((by rw [hw]; exact below_set (HB.out) GB106.out : Below w.heap.size w w124)); clear BK250; clear BK254; clear HO277; clear HB; have BK250 := n0_; have BK254 := n1_; have HO277 := n2_; have HB := n3_; clear n0_ n1_ n2_ n3_; have HBr2 := Aside0.mk ((by rw [hw]; exact below_set (HBr.out) GR106.out : Below wr2.heap.size wr2 w124)); clear HBr; have HBr := HBr2; clear HBr2; clear hg hw hp_; have hcv125 := KdW.own_string (P := Tryd.prog) Tryd.underlying43 Tryd.underlying5 Tryd.underlying9 HO277.out) | (go_at_call 25; (with_reducible refine (impl_CostOf.calls k5 (strOfNums y279) t246 t280 true _ A107.out).mono ?_); rintro e w126 ⟨rfl, hb⟩; have n0_ := Aside0.mk (KdW.R_below (by (with_reducible repeat (first | apply KdW.R_alloc | apply KdW.R_drewN | apply KdW.R_drew)); exact HO277.out) hb); have n1_ := Aside0.mk (blk_below (g := gb250) (o := .cells #[.string t247, .int .i64 t248] 39 (0, 0)) (by (with_reducible repeat (first | refine blk_drewN ?_ _ | refine blk_drew ?_ | refine blk_alloc ?_ _)); exact BK250.out) hb); have n2_ := Aside0.mk (blk_below (g := gb254) (o := .cells #[.string t251, .int .i64 t252] 39 (0, 0)) (by (with_reducible repeat (first | refine blk_drewN ?_ _ | refine blk_drew ?_ | refine blk_alloc ?_ _)); exact BK254.out) hb); have n3_ := Aside0.mk (below_step (by repeat (first | (with_reducible first | exact HB.out | apply below_alloc | apply pw_below_drewN | apply below_drew1 | refine below_set ?_ GE250.out | refine below_set ?_ GE254.out) | exact HB.out)) hb); clear HO277; clear BK250; clear BK254; clear HB; have HO277 := n0_; have BK250 := n1_; have BK254 := n2_; have HB := n3_; clear n0_ n1_ n2_ n3_; have HBr2 := Aside0.mk (below_step (by repeat (first | (with_reducible first | exact HBr.out | apply below_alloc | apply pw_below_drewN | apply below_drew1 | refine below_set ?_ GE250.out | refine below_set ?_ GE254.out) | exact HBr.out)) hb); clear HBr; have HBr := HBr2; clear HBr2; (try clear hb); (try clear hb2); (try clear hk); (try clear hi); have hcz127_0 : w126.cell? ⟨gb250, 0, none⟩ = some (.string t247) := (blk_cell BK250.out 0).trans rfl; have hcz127_1 : w126.cell? ⟨gb250, 1, none⟩ = some (.int .i64 t248) := (blk_cell BK250.out 1).trans rfl; have hfz127_0 := blk_frozen BK250.out 0; have hfz127_1 := blk_frozen BK250.out 1)); try go_wp2_with (first | ((with_reducible refine gate_dst (N := 182) rfl ?_); refine conv_goes (some 182) rfl rfl 9 43 5 Tryd.underlying9 Tryd.underlying43 Tryd.underlying5 _ t247 rfl rfl ?_; (with_reducible refine (conv_bytes.calls t247 t275 _ A103.out).mono ?_); rintro e w121 ⟨v276, rfl, ho0, hb⟩; refine ⟨_, rfl, ?_⟩; have n0_ := Aside0.mk (KdW.R_lower ho0 (below_size (by repeat (first | (with_reducible first | exact HB.out | apply below_alloc | apply pw_below_drewN | apply below_drew1 | refine below_set ?_ GE250.out | refine below_set ?_ GE254.out) | exact HB.out)))); have n1_ := Aside0.mk (blk_below (g := gb250) (o := .cells #[.string t247, .int .i64 t248] 39 (0, 0)) (by (with_reducible repeat (first | refine blk_drewN ?_ _ | refine blk_drew ?_ | refine blk_alloc ?_ _)); exact BK250.out) hb); have n2_ := Aside0.mk (blk_below (g := gb254) (o := .cells #[.string t251, .int .i64 t252] 39 (0, 0)) (by (with_reducible repeat (first | refine blk_drewN ?_ _ | refine blk_drew ?_ | refine blk_alloc ?_ _)); exact BK254.out) hb); have n3_ := Aside0.mk (below_step (by repeat (first | (with_reducible first | exact HB.out | apply below_alloc | apply pw_below_drewN | apply below_drew1 | refine below_set ?_ GE250.out | refine below_set ?_ GE254.out) | exact HB.out)) hb); clear BK250; clear BK254; clear HB; have HO277 := n0_; have BK250 := n1_; have BK254 := n2_; have HB := n3_; clear n0_ n1_ n2_ n3_; have HBr2 := Aside0.mk (below_step (by repeat (first | (with_reducible first | exact HBr.out | apply below_alloc | apply pw_below_drewN | apply below_drew1 | refine below_set ?_ GE250.out | refine below_set ?_ GE254.out) | exact HBr.out)) hb); clear HBr; have HBr := HBr2; clear HBr2; (try clear hb); (try clear hb2); (try clear hk); (try clear hi); have HOr := Aside0.mk (show KdW.R (Kd.int .u8) 5 _ wr2.heap.size _ _ _ from ho0); (try clear ho0); obtain ⟨Ao122, co122, eo122⟩ := KdW.R_slice HO277.out; subst eo122; have p278 : 0 ≤ (x177_5 : Int) := of_decide_eq_true (by first | (with_reducible assumption) | assumption); have q278 : x177_5 < (t275.length : Int) := of_decide_eq_true (by first | (with_reducible assumption) | assumption); obtain ⟨ad278, e278, hx278_0⟩ := Kd.at_int (KdW.R_reads' HO277.out).2.2 x177_5 p278 q278; cases e278; replace p278 := eq_true p278; replace q278 := eq_true q278; have p106 : 0 ≤ (x177_5 : Int) := of_decide_eq_true (by first | (with_reducible assumption) | assumption); have q106 : (x177_5 : Int) < ((t275.length : Int) : Int) := of_decide_eq_true (by first | (with_reducible assumption) | assumption); obtain ⟨go106, co106, eo106, gb106, gl106, cl106, HG106⟩ := KdW.R_form HO277.out (by omega); (first | cases eo106 | (injection eo106 with ea_ en_ ec_; (first | subst ea_ | (injection ea_ with ea_; subst ea_)); subst ec_; clear en_)); have GB106 := Aside0.mk gb106; have GR106 := Aside0.mk (vit_base HOr.out); clear HOr; have GG106 := Aside0.mk HG106; clear gb106 gl106 HG106; (first | simp only [add_plain] at hx278_0 | skip); obtain ⟨hx106_0, hf106_0⟩ := KdW.R_celln 0 HO277.out (x177_5 : Int) p106 q106; replace p106 := eq_true p106; replace q106 := eq_true q106; obtain ⟨hy123_, hz123_⟩ := KdW.R_celln 0 HO277.out (x177_5 : Int) (of_decide_eq_true (by first | (with_reducible assumption) | assumption)) (of_decide_eq_true (by first | (with_reducible assumption) | assumption)); have HP123 := KdW.R_putg HO277.out (x177_5 : Int) (Go.bits .xor .u8 (rd t275 x177_5) 1)) | ((with_reducible refine gate_store (t := 5) (p := 188) rfl ?_); (try (rw [drewN_self w121]; generalize hq_ : World.drewN w121 _ = w121; have n0_ := Aside0.mk (Kd.R_at hq_ HO277.out); have n1_ := Aside0.mk (blk_at hq_ BK250.out); have n2_ := Aside0.mk (blk_at hq_ BK254.out); have n3_ := Aside0.mk (below_at hq_ HB.out); clear hq_ HO277 BK250 BK254 HB; have HO277 := n0_; have BK250 := n1_; have BK254 := n2_; have HB := n3_; clear n0_ n1_ n2_ n3_; (try (obtain ⟨hy123_, hz123_⟩ := KdW.R_celln 0 HO277.out (x177_5 : Int) (of_decide_eq_true (by first | (with_reducible assumption) | assumption)) (of_decide_eq_true (by first | (with_reducible assumption) | assumption)))); (try (have HP123 := KdW.R_putg HO277.out (x177_5 : Int) (Go.bits .xor .u8 (rd t275 x177_5) 1))))); refine store_event (t := 5) (p := 188) (v := ?vo_w124) (w1 := (w121.setCell ⟨go106, (x177_5 : Int).toNat, none⟩ (.int .u8 (Go.bits .xor .u8 (rd t275 x177_5) 1)))) ?hg ?ho ?hn ?hr ?_; (case ho => rfl); (case hg => rfl); (case hn => rfl); (case hr => first | (go_simp; done) | (go_simp; rfl)); intro w124 hw; have hg : w121.grownBy w124 (some go106) := (by rw [hw]; exact HP123.2); have hp_ : KdW.R (Kd.int .u8) 5 w124 w.heap.size (fun _ => True) (.slice (some ⟨go106, 0, none⟩) t275.length co122) y279 := (by rw [hw, Ny279.out]; exact HP123.1); clear HP123; have n0_ := Aside0.mk (blk_grown (g := gb250) (o := .cells #[.string t247, .int .i64 t248] 39 (0, 0)) (by (with_reducible repeat (first | refine blk_drewN ?_ _ | refine blk_drew ?_ | refine blk_alloc ?_ _)); exact BK250.out) hg (KdW.R_ne HO277.out BK250.out (by decide))); have n1_ := Aside0.mk (blk_grown (g := gb254) (o := .cells #[.string t251, .int .i64 t252] 39 (0, 0)) (by (with_reducible repeat (first | refine blk_drewN ?_ _ | refine blk_drew ?_ | refine blk_alloc ?_ _)); exact BK254.out) hg (KdW.R_ne HO277.out BK254.out (by decide))); have n2_ := Aside0.mk (hp_); have n3_ := Aside0.mk ((by rw [hw]; exact below_set (HB.out) GB106.out : Below w.heap.size w w124)); clear BK250; clear BK254; clear HO277; clear HB; have BK250 := n0_; have BK254 := n1_; have HO277 := n2_; have HB := n3_; clear n0_ n1_ n2_ n3_; have HBr2 := Aside0.mk ((by rw [hw]; exact below_set (HBr.out) GR106.out : Below wr2.heap.size wr2 w124)); clear HBr; have HBr := HBr2; clear HBr2; clear hg hw hp_; have hcv125 := KdW.own_string (P := Tryd.prog) Tryd.underlying43 Tryd.underlying5 Tryd.underlying9 HO277.out) | (go_at_call 25; (with_reducible refine (impl_CostOf.calls k5 (strOfNums y279) t246 t280 true _ A107.out).mono ?_); rintro e w126 ⟨rfl, hb⟩; have n0_ := Aside0.mk (KdW.R_below (by (with_reducible repeat (first | apply KdW.R_alloc | apply KdW.R_drewN | apply KdW.R_drew)); exact HO277.out) hb); have n1_ := Aside0.mk (blk_below (g := gb250) (o := .cells #[.string t247, .int .i64 t248] 39 (0, 0)) (by (with_reducible repeat (first | refine blk_drewN ?_ _ | refine blk_drew ?_ | refine blk_alloc ?_ _)); exact BK250.out) hb); have n2_ := Aside0.mk (blk_below (g := gb254) (o := .cells #[.string t251, .int .i64 t252] 39 (0, 0)) (by (with_reducible repeat (first | refine blk_drewN ?_ _ | refine blk_drew ?_ | refine blk_alloc ?_ _)); exact BK254.out) hb); have n3_ := Aside0.mk (below_step (by repeat (first | (with_reducible first | exact HB.out | apply below_alloc | apply pw_below_drewN | apply below_drew1 | refine below_set ?_ GE250.out | refine below_set ?_ GE254.out) | exact HB.out)) hb); clear HO277; clear BK250; clear BK254; clear HB; have HO277 := n0_; have BK250 := n1_; have BK254 := n2_; have HB := n3_; clear n0_ n1_ n2_ n3_; have HBr2 := Aside0.mk (below_step (by repeat (first | (with_reducible first | exact HBr.out | apply below_alloc | apply pw_below_drewN | apply below_drew1 | refine below_set ?_ GE250.out | refine below_set ?_ GE254.out) | exact HBr.out)) hb); clear HBr; have HBr := HBr2; clear HBr2; (try clear hb); (try clear hb2); (try clear hk); (try clear hi); have hcz127_0 : w126.cell? ⟨gb250, 0, none⟩ = some (.string t247) := (blk_cell BK250.out 0).trans rfl; have hcz127_1 : w126.cell? ⟨gb250, 1, none⟩ = some (.int .i64 t248) := (blk_cell BK250.out 1).trans rfl; have hfz127_0 := blk_frozen BK250.out 0; have hfz127_1 := blk_frozen BK250.out 1)))
                                                go_roundg k5
                                                case measure => have := HJ8.out; have := HK2.out; have := HJ44.out; have := HK4.out; have := HK5.out; omega
                                                case rel => exact ⟨(wrap64 (x177_5 + 1)), p_ + 1, ⟨by have h1_ := HX.out; have h2_ := HSZ.out; have h3_ := HPA.out; unfold wrap64; omega⟩, H', ⟨by have := HJ8.out; have := HK2.out; have := HJ44.out; have := HK4.out; have := HK5.out; omega⟩, ⟨by (with_reducible repeat (first | refine blk_drewN ?_ _ | refine blk_drew ?_ | refine blk_alloc ?_ _)); exact BK250.out⟩, ⟨by (with_reducible repeat (first | refine blk_drewN ?_ _ | refine blk_drew ?_ | refine blk_alloc ?_ _)); exact BK254.out⟩, ⟨(Below.block (by repeat (first | (with_reducible first | exact HBr.out | apply below_alloc | apply pw_below_drewN | apply below_drew1 | refine below_set ?_ GE250.out | refine below_set ?_ GE254.out) | exact HBr.out)) git HLT.out).trans HIT.out⟩, ⟨by repeat (first | (with_reducible first | exact HB.out | apply below_alloc | apply pw_below_drewN | apply below_drew1 | refine below_set ?_ GE250.out | refine below_set ?_ GE254.out) | exact HB.out)⟩⟩
                                            · replace c108 := Bool.eq_false_iff.mpr c108
                                              subst c108
                                              have H1 : (some false) = some r := by rw [if_neg (show ¬ (false = true) by decide)] at H; exact H
                                              clear H
                                              have H := H1
                                              clear H1
                                              obtain rfl := Option.some.inj H
                                              have hnb128 := NB250_254.out
                                              have hnc128 := NB254_250.out
                                              have hcz129_0 : wr2.cell? ⟨gb250, 0, none⟩ = some (.string t247) := (blk_cell BK250.out 0).trans rfl
                                              have hcz129_1 : wr2.cell? ⟨gb250, 1, none⟩ = some (.int .i64 t248) := (blk_cell BK250.out 1).trans rfl
                                              have hfz129_0 := blk_frozen BK250.out 0
                                              have hfz129_1 := blk_frozen BK250.out 1
                                              go_wp2_with (first | ((with_reducible refine gate_dst (N := 182) rfl ?_); refine conv_goes (some 182) rfl rfl 9 43 5 Tryd.underlying9 Tryd.underlying43 Tryd.underlying5 _ t247 rfl rfl ?_; (with_reducible refine (conv_bytes.calls t247 t275 _ A103.out).mono ?_); rintro e w130 ⟨v276, rfl, ho0, hb⟩; refine ⟨_, rfl, ?_⟩; have n0_ := Aside0.mk (KdW.R_lower ho0 (below_size (by repeat (first | (with_reducible first | exact HB.out | apply below_alloc | apply pw_below_drewN | apply below_drew1 | refine below_set ?_ GE250.out | refine below_set ?_ GE254.out) | exact HB.out)))); have n1_ := Aside0.mk (blk_below (g := gb250) (o := .cells #[.string t247, .int .i64 t248] 39 (0, 0)) (by (with_reducible repeat (first | refine blk_drewN ?_ _ | refine blk_drew ?_ | refine blk_alloc ?_ _)); exact BK250.out) hb); have n2_ := Aside0.mk (blk_below (g := gb254) (o := .cells #[.string t251, .int .i64 t252] 39 (0, 0)) (by (with_reducible repeat (first | refine blk_drewN ?_ _ | refine blk_drew ?_ | refine blk_alloc ?_ _)); exact BK254.out) hb); have n3_ := Aside0.mk (below_step (by repeat (first | (with_reducible first | exact HB.out | apply below_alloc | apply pw_below_drewN | apply below_drew1 | refine below_set ?_ GE250.out | refine below_set ?_ GE254.out) | exact HB.out)) hb); clear BK250; clear BK254; clear HB; have HO277 := n0_; have BK250 := n1_; have BK254 := n2_; have HB := n3_; clear n0_ n1_ n2_ n3_; have HBr2 := Aside0.mk (below_step (by repeat (first | (with_reducible first | exact HBr.out | apply below_alloc | apply pw_below_drewN | apply below_drew1 | refine below_set ?_ GE250.out | refine below_set ?_ GE254.out) | exact HBr.out)) hb); clear HBr; have HBr := HBr2; clear HBr2; (try clear hb); (try clear hb2); (try clear hk); (try clear hi); have HOr := Aside0.mk (show KdW.R (Kd.int .u8) 5 _ wr2.heap.size _ _ _ from ho0); (try clear ho0); obtain ⟨Ao131, co131, eo131⟩ := KdW.R_slice HO277.out; subst eo131; have p278 : 0 ≤ (x177_5 : Int) := of_decide_eq_true (by first | (with_reducible assumption) | assumption); have q278 : x177_5 < (t275.length : Int) := of_decide_eq_true (by first | (with_reducible assumption) | assumption); obtain ⟨ad278, e278, hx278_0⟩ := Kd.at_int (KdW.R_reads' HO277.out).2.2 x177_5 p278 q278; cases e278; replace p278 := eq_true p278; replace q278 := eq_true q278; have p106 : 0 ≤ (x177_5 : Int) := of_decide_eq_true (by first | (with_reducible assumption) | assumption); have q106 : (x177_5 : Int) < ((t275.length : Int) : Int) := of_decide_eq_true (by first | (with_reducible assumption) | assumption); obtain ⟨go106, co106, eo106, gb106, gl106, cl106, HG106⟩ := KdW.R_form HO277.out (by omega); (first | cases eo106 | (injection eo106 with ea_ en_ ec_; (first | subst ea_ | (injection ea_ with ea_; subst ea_)); subst ec_; clear en_)); have GB106 := Aside0.mk gb106; have GR106 := Aside0.mk (vit_base HOr.out); clear HOr; have GG106 := Aside0.mk HG106; clear gb106 gl106 HG106; (first | simp only [add_plain] at hx278_0 | skip); obtain ⟨hx106_0, hf106_0⟩ := KdW.R_celln 0 HO277.out (x177_5 : Int) p106 q106; replace p106 := eq_true p106; replace q106 := eq_true q106; obtain ⟨hy132_, hz132_⟩ := KdW.R_celln 0 HO277.out (x177_5 : Int) (of_decide_eq_true (by first | (with_reducible assumption) | assumption)) (of_decide_eq_true (by first | (with_reducible assumption) | assumption)); have HP132 := KdW.R_putg HO277.out (x177_5 : Int) (Go.bits .xor .u8 (rd t275 x177_5) 1)) | ((with_reducible refine gate_store (t := 5) (p := 188) rfl ?_); (try (rw [drewN_self w130]; generalize hq_ : World.drewN w130 _ = w130; have n0_ := Aside0.mk (Kd.R_at hq_ HO277.out); have n1_ := Aside0.mk (blk_at hq_ BK250.out); have n2_ := Aside0.mk (blk_at hq_ BK254.out); have n3_ := Aside0.mk (below_at hq_ HB.out); clear hq_ HO277 BK250 BK254 HB; have HO277 := n0_; have BK250 := n1_; have BK254 := n2_; have HB := n3_; clear n0_ n1_ n2_ n3_; (try (obtain ⟨hy132_, hz132_⟩ := KdW.R_celln 0 HO277.out (x177_5 : Int) (of_decide_eq_true (by first | (with_reducible assumption) | assumption)) (of_decide_eq_true (by first | (with_reducible assumption) | assumption)))); (try (have HP132 := KdW.R_putg HO277.out (x177_5 : Int) (Go.bits .xor .u8 (rd t275 x177_5) 1))))); refine store_event (t := 5) (p := 188) (v := ?vo_w133) (w1 := (w130.setCell ⟨go106, (x177_5 : Int).toNat, none⟩ (.int .u8 (Go.bits .xor .u8 (rd t275 x177_5) 1)))) ?hg ?ho ?hn ?hr ?_; (case ho => rfl); (case hg => rfl); (case hn => rfl); (case hr => first | (go_simp; done) | (go_simp; rfl)); intro w133 hw; have hg : w130.grownBy w133 (some go106) := (by rw [hw]; exact HP132.2); have hp_ : KdW.R (Kd.int .u8) 5 w133 w.heap.size (fun _ => True) (.slice (some ⟨go106, 0, none⟩) t275.length co131) y279 := (by rw [hw, Ny279.out]; exact HP132.1); clear HP132; have n0_ := Aside0.mk (blk_grown (g := gb250) (o := .cells #[.string t247, .int .i64 t248] 39 (0, 0)) (by (with_reducible repeat (first | refine blk_drewN ?_ _ | refine blk_drew ?_ | refine blk_alloc ?_ _)); exact BK250.out) hg (KdW.R_ne HO277.out BK250.out (by decide))); have n1_ := Aside0.mk (blk_grown (g := gb254) (o := .cells #[.string t251, .int .i64 t252] 39 (0, 0)) (by (with_reducible repeat (first | refine blk_drewN ?_ _ | refine blk_drew ?_ | refine blk_alloc ?_ _)); exact BK254.out) hg (KdW.R_ne HO277.out BK254.out (by decide))); have n2_ := Aside0.mk (hp_); have n3_ := Aside0.mk ((by rw [hw]; exact below_set (HB.out) GB106.out : Below w.heap.size w w133)); clear BK250; clear BK254; clear HO277; clear HB; have BK250 := n0_; have BK254 := n1_; have HO277 := n2_; have HB := n3_; clear n0_ n1_ n2_ n3_; have HBr2 := Aside0.mk ((by rw [hw]; exact below_set (HBr.out) GR106.out : Below wr2.heap.size wr2 w133)); clear HBr; have HBr := HBr2; clear HBr2; clear hg hw hp_; have hcv134 := KdW.own_string (P := Tryd.prog) Tryd.underlying43 Tryd.underlying5 Tryd.underlying9 HO277.out) | (go_at_call 25; (with_reducible refine (impl_CostOf.calls k5 (strOfNums y279) t246 t280 false _ A107.out).mono ?_); rintro e w135 ⟨rfl, hb⟩; have n0_ := Aside0.mk (KdW.R_below (by (with_reducible repeat (first | apply KdW.R_alloc | apply KdW.R_drewN | apply KdW.R_drew)); exact HO277.out) hb); have n1_ := Aside0.mk (blk_below (g := gb250) (o := .cells #[.string t247, .int .i64 t248] 39 (0, 0)) (by (with_reducible repeat (first | refine blk_drewN ?_ _ | refine blk_drew ?_ | refine blk_alloc ?_ _)); exact BK250.out) hb); have n2_ := Aside0.mk (blk_below (g := gb254) (o := .cells #[.string t251, .int .i64 t252] 39 (0, 0)) (by (with_reducible repeat (first | refine blk_drewN ?_ _ | refine blk_drew ?_ | refine blk_alloc ?_ _)); exact BK254.out) hb); have n3_ := Aside0.mk (below_step (by repeat (first | (with_reducible first | exact HB.out | apply below_alloc | apply pw_below_drewN | apply below_drew1 | refine below_set ?_ GE250.out | refine below_set ?_ GE254.out) | exact HB.out)) hb); clear HO277; clear BK250; clear BK254; clear HB; have HO277 := n0_; have BK250 := n1_; have BK254 := n2_; have HB := n3_; clear n0_ n1_ n2_ n3_; have HBr2 := Aside0.mk (below_step (by repeat (first | (with_reducible first | exact HBr.out | apply below_alloc | apply pw_below_drewN | apply below_drew1 | refine below_set ?_ GE250.out | refine below_set ?_ GE254.out) | exact HBr.out)) hb); clear HBr; have HBr := HBr2; clear HBr2; (try clear hb); (try clear hb2); (try clear hk); (try clear hi)))
                                              repeat (go_quiet (first | ((with_reducible refine gate_dst (N := 182) rfl ?_); refine conv_goes (some 182) rfl rfl 9 43 5 Tryd.underlying9 Tryd.underlying43 Tryd.underlying5 _ t247 rfl rfl ?_; (with_reducible refine (conv_bytes.calls t247 t275 _ A103.out).mono ?_); rintro e w130 ⟨v276, rfl, ho0, hb⟩; refine ⟨_, rfl, ?_⟩; have n0_ := Aside0.mk (KdW.R_lower ho0 (below_size (by repeat (first | (with_reducible first | exact HB.out | apply below_alloc | apply pw_below_drewN | apply below_drew1 | refine below_set ?_ GE250.out | refine below_set ?_ GE254.out) | exact HB.out)))); have n1_ := Aside0.mk (blk_below (g := gb250) (o := .cells #[.string t247, .int .i64 t248] 39 (0, 0)) (by (with_reducible repeat (first | refine blk_drewN ?_ _ | refine blk_drew ?_ | refine blk_alloc ?_ _)); exact BK250.out) hb); have n2_ := Aside0.mk (blk_below (g := gb254) (o := .cells #[.string t251, .int .i64 t252] 39 (0, 0)) (by (with_reducible repeat (first | refine blk_drewN ?_ _ | refine blk_drew ?_ | refine blk_alloc ?_ _)); exact BK254.out) hb); have n3_ := Aside0.mk (below_step (by repeat (first | (with_reducible first | exact HB.out | apply below_alloc | apply pw_below_drewN | apply below_drew1 | refine below_set ?_ GE250.out | refine below_set ?_ GE254.out) | exact HB.out)) hb); clear BK250; clear BK254; clear HB; have HO277 := n0_; have BK250 := n1_; have BK254 := n2_; have HB := n3_; clear n0_ n1_ n2_ n3_; have HBr2 := Aside0.mk (below_step (by repeat (first | (with_reducible first | exact HBr.out | apply below_alloc | apply pw_below_drewN | apply below_drew1 | refine below_set ?_ GE250.out | refine below_set ?_ GE254.out) | exact HBr.out)) hb); clear HBr; have HBr := HBr2; clear HBr2; (try clear hb); (try clear hb2); (try clear hk); (try clear hi); have HOr := Aside0.mk (show KdW.R (Kd.int .u8) 5 _ wr2.heap.size _ _ _ from ho0); (try clear ho0); obtain ⟨Ao131, co131, eo131⟩ := KdW.R_slice HO277.out; subst eo131; have p278 : 0 ≤ (x177_5 : Int) := of_decide_eq_true (by first | (with_reducible assumption) | assumption); have q278 : x177_5 < (t275.length : Int) := of_decide_eq_true (by first | (with_reducible assumption) | assumption); obtain ⟨ad278, e278, hx278_0⟩ := Kd.at_int (KdW.R_reads' HO277.out).2.2 x177_5 p278 q278; cases e278; replace p278 := eq_true p278; replace q278 := eq_true q278; have p106 : 0 ≤ (x177_5 : Int) := of_decide_eq_true (by first | (with_reducible assumption) | assumption); have q106 : (x177_5 : Int) < ((t275.length : Int) : Int) := of_decide_eq_true (by first | (with_reducible assumption) | assumption); obtain ⟨go106, co106, eo106, gb106, gl106, cl106, HG106⟩ := KdW.R_form HO277.out (by omega); (first | cases eo106 | (injection eo106 with ea_ en_ ec_; (first | subst ea_ | (injection ea_ with ea_; subst ea_)); subst ec_; clear en_)); have GB106 := Aside0.mk gb106; have GR106 := Aside0.mk (vit_base HOr.out); clear HOr; have GG106 := Aside0.mk HG106; clear gb106 gl106 HG106; (first | simp only [add_plain] at hx278_0 | skip); obtain ⟨hx106_0, hf106_0⟩ := KdW.R_celln 0 HO277.out (x177_5 : Int) p106 q106; replace p106 := eq_true p106; replace q106 := eq_true q106; obtain ⟨hy132_, hz132_⟩ := KdW.R_celln 0 HO277.out (x177_5 : Int) (of_decide_eq_true (by first | (with_reducible assumption) | assumption)) (of_decide_eq_true (by first | (with_reducible assumption) | assumption)); have HP132 := KdW.R_putg HO277.out (x177_5 : Int) (Go.bits .xor .u8 (rd t275 x177_5) 1)) | ((with_reducible refine gate_store (t := 5) (p := 188) rfl ?_); (try (rw [drewN_self w130]; generalize hq_ : World.drewN w130 _ = w130; have n0_ := Aside0.mk (Kd.R_at hq_ HO277.out); have n1_ := Aside0.mk (blk_at hq_ BK250.out); have n2_ := Aside0.mk (blk_at hq_ BK254.out); have n3_ := Aside0.mk (below_at hq_ HB.out); clear hq_ HO277 BK250 BK254 HB; have HO277 := n0_; have BK250 := n1_; have BK254 := n2_; have HB := n3_; clear n0_ n1_ n2_ n3_; (try (obtain ⟨hy132_, hz132_⟩ := KdW.R_celln 0 HO277.out (x177_5 : Int) (of_decide_eq_true (by first | (with_reducible assumption) | assumption)) (of_decide_eq_true (by first | (with_reducible assumption) | assumption)))); (try (have HP132 := KdW.R_putg HO277.out (x177_5 : Int) (Go.bits .xor .u8 (rd t275 x177_5) 1))))); refine store_event (t := 5) (p := 188) (v := ?vo_w133) (w1 := (w130.setCell ⟨go106, (x177_5 : Int).toNat, none⟩ (.int .u8 (Go.bits .xor .u8 (rd t275 x177_5) 1)))) ?hg ?ho ?hn ?hr ?_; (case ho => rfl); (case hg => rfl); (case hn => rfl); (case hr => first | (go_simp; done) | (go_simp; rfl)); intro w133 hw; have hg : w130.grownBy w133 (some go106) := (by rw [hw]; exact HP132.2); have hp_ : KdW.R (Kd.int .u8) 5 w133 w.heap.size (fun _ => True) (.slice (some ⟨go106, 0, none⟩) t275.length co131) y279 := (by rw [hw, Ny279.out]; exact HP132.1); clear HP132; have n0_ := Aside0.mk (blk_grown (g := gb250) (o := .cells #[.string t247, .int .i64 t248] 39 (0, 0)) (by (with_reducible repeat (first | refine blk_drewN ?_ _ | refine blk_drew ?_ | refine blk_alloc ?_ _)); exact BK250.out) hg (KdW.R_ne HO277.out BK250.out (by decide))); have n1_ := Aside0.mk (blk_grown (g := gb254) (o := .cells #[.string t251, .int .i64 t252] 39 (0, 0)) (by (with_reducible repeat (first | refine blk_drewN ?_ _ | refine blk_drew ?_ | refine blk_alloc ?_ _)); exact BK254.out) hg (KdW.R_ne HO277.out BK254.out (by decide))); have n2_ := Aside0.mk (hp_); have n3_ := Aside0.mk ((by rw [hw]; exact below_set (HB.out) GB106.out : Below w.heap.size w w133)); clear BK250; clear BK254; clear HO277; clear HB; have BK250 := n0_; have BK254 := n1_; have HO277 := n2_; have HB := n3_; clear n0_ n1_ n2_ n3_; have HBr2 := Aside0.mk ((by rw [hw]; exact below_set (HBr.out) GR106.out : Below wr2.heap.size wr2 w133)); clear HBr; have HBr := HBr2; clear HBr2; clear hg hw hp_; have hcv134 := KdW.own_string (P := Tryd.prog) Tryd.underlying43 Tryd.underlying5 Tryd.underlying9 HO277.out) | (go_at_call 25; (with_reducible refine (impl_CostOf.calls k5 (strOfNums y279) t246 t280 false _ A107.out).mono ?_); rintro e w135 ⟨rfl, hb⟩; have n0_ := Aside0.mk (KdW.R_below (by (with_reducible repeat (first | apply KdW.R_alloc | apply KdW.R_drewN | apply KdW.R_drew)); exact HO277.out) hb); have n1_ := Aside0.mk (blk_below (g := gb250) (o := .cells #[.string t247, .int .i64 t248] 39 (0, 0)) (by (with_reducible repeat (first | refine blk_drewN ?_ _ | refine blk_drew ?_ | refine blk_alloc ?_ _)); exact BK250.out) hb); have n2_ := Aside0.mk (blk_below (g := gb254) (o := .cells #[.string t251, .int .i64 t252] 39 (0, 0)) (by (with_reducible repeat (first | refine blk_drewN ?_ _ | refine blk_drew ?_ | refine blk_alloc ?_ _)); exact BK254.out) hb); have n3_ := Aside0.mk (below_step (by repeat (first | (with_reducible first | exact HB.out | apply below_alloc | apply pw_below_drewN | apply below_drew1 | refine below_set ?_ GE250.out | refine below_set ?_ GE254.out) | exact HB.out)) hb); clear HO277; clear BK250; clear BK254; clear HB; have HO277 := n0_; have BK250 := n1_; have BK254 := n2_; have HB := n3_; clear n0_ n1_ n2_ n3_; have HBr2 := Aside0.mk (below_step (by repeat (first | (with_reducible first | exact HBr.out | apply below_alloc | apply pw_below_drewN | apply below_drew1 | refine below_set ?_ GE250.out | refine below_set ?_ GE254.out) | exact HBr.out)) hb); clear HBr; have HBr := HBr2; clear HBr2; (try clear hb); (try clear hb2); (try clear hk); (try clear hi))); try go_wp2_with (first | ((with_reducible refine gate_dst (N := 182) rfl ?_); refine conv_goes (some 182) rfl rfl 9 43 5 Tryd.underlying9 Tryd.underlying43 Tryd.underlying5 _ t247 rfl rfl ?_; (with_reducible refine (conv_bytes.calls t247 t275 _ A103.out).mono ?_); rintro e w130 ⟨v276, rfl, ho0, hb⟩; refine ⟨_, rfl, ?_⟩; have n0_ := Aside0.mk (KdW.R_lower ho0 (below_size (by repeat (first | (with_reducible first | exact HB.out | apply below_alloc | apply pw_below_drewN | apply below_drew1 | refine below_set ?_ GE250.out | refine below_set ?_ GE254.out) | exact HB.out)))); have n1_ := Aside0.mk (blk_below (g := gb250) (o := .cells #[.string t247, .int .i64 t248] 39 (0, 0)) (by (with_reducible repeat (first | refine blk_drewN ?_ _ | refine blk_drew ?_ | refine blk_alloc ?_ _)); exact BK250.out) hb); have n2_ := Aside0.mk (blk_below (g := gb254) (o := .cells #[.string t251, .int .i64 t252] 39 (0, 0)) (by (with_reducible repeat (first | refine blk_drewN ?_ _ | refine blk_drew ?_ | refine blk_alloc ?_ _)); exact BK254.out) hb); have n3_ := Aside0.mk (below_step (by repeat (first | (with_reducible first | exact HB.out | apply below_alloc | apply pw_below_drewN | apply below_drew1 | refine below_set ?_ GE250.out | refine below_set ?_ GE254.out) | exact HB.out)) hb); clear BK250; clear BK254; clear HB; have HO277 := n0_; have BK250 := n1_; have BK254 := n2_; have HB := n3_; clear n0_ n1_ n2_ n3_; have HBr2 := Aside0.mk (below_step (by repeat (first | (with_reducible first | exact HBr.out | apply below_alloc | apply pw_below_drewN | apply below_drew1 | refine below_set ?_ GE250.out | refine below_set ?_ GE254.out) | exact HBr.out)) hb); clear HBr; have HBr := HBr2; clear HBr2; (try clear hb); (try clear hb2); (try clear hk); (try clear hi); have HOr := Aside0.mk (show KdW.R (Kd.int .u8) 5 _ wr2.heap.size _ _ _ from ho0); (try clear ho0); obtain ⟨Ao131, co131, eo131⟩ := KdW.R_slice HO277.out; subst eo131; have p278 : 0 ≤ (x177_5 : Int) := of_decide_eq_true (by first | (with_reducible assumption) | assumption); have q278 : x177_5 < (t275.length : Int) := of_decide_eq_true (by first | (with_reducible assumption) | assumption); obtain ⟨ad278, e278, hx278_0⟩ := Kd.at_int (KdW.R_reads' HO277.out).2.2 x177_5 p278 q278; cases e278; replace p278 := eq_true p278; replace q278 := eq_true q278; have p106 : 0 ≤ (x177_5 : Int) := of_decide_eq_true (by first | (with_reducible assumption) | assumption); have q106 : (x177_5 : Int) < ((t275.length : Int) : Int) := of_decide_eq_true (by first | (with_reducible assumption) | assumption); obtain ⟨go106, co106, eo106, gb106, gl106, cl106, HG106⟩ := KdW.R_form HO277.out (by omega); (first | cases eo106 | (injection eo106 with ea_ en_ ec_; (first | subst ea_ | (injection ea_ with ea_; subst ea_)); subst ec_; clear en_)); have GB106 := Aside0.mk gb106; have GR106 := Aside0.mk (vit_base HOr.out); clear HOr; have GG106 := Aside0.mk HG106; clear gb106 gl106 HG106; (first | simp only [add_plain] at hx278_0 | skip); obtain ⟨hx106_0, hf106_0⟩ := KdW.R_celln 0 HO277.out (x177_5 : Int) p106 q106; replace p106 := eq_true p106; replace q106 := eq_true q106; obtain ⟨hy132_, hz132_⟩ := KdW.R_celln 0 HO277.out (x177_5 : Int) (of_decide_eq_true (by first | (with_reducible assumption) | assumption)) (of_decide_eq_true (by first | (with_reducible assumption) | assumption)); have HP132 := KdW.R_putg HO277.out (x177_5 : Int) (Go.bits .xor .u8 (rd t275 x177_5) 1)) | ((with_reducible refine gate_store (t := 5) (p := 188) rfl ?_); (try (rw [drewN_self w130]; generalize hq_ : World.drewN w130 _ = w130; have n0_ := Aside0.mk (Kd.R_at hq_ HO277.out); have n1_ := Aside0.mk (blk_at hq_ BK250.out); have n2_ := Aside0.mk (blk_at hq_ BK254.out); have n3_ := Aside0.mk (below_at hq_ HB.out); clear hq_ HO277 BK250 BK254 HB; have HO277 := n0_; have BK250 := n1_; have BK254 := n2_; have HB := n3_; clear n0_ n1_ n2_ n3_; (try (obtain ⟨hy132_, hz132_⟩ := KdW.R_celln 0 HO277.out (x177_5 : Int) (of_decide_eq_true (by first | (with_reducible assumption) | assumption)) (of_decide_eq_true (by first | (with_reducible assumption) | assumption)))); (try (have HP132 := KdW.R_putg HO277.out (x177_5 : Int) (Go.bits .xor .u8 (rd t275 x177_5) 1))))); refine store_event (t := 5) (p := 188) (v := ?vo_w133) (w1 := (w130.setCell ⟨go106, (x177_5 : Int).toNat, none⟩ (.int .u8 (Go.bits .xor .u8 (rd t275 x177_5) 1)))) ?hg ?ho ?hn ?hr ?_; (case ho => rfl); (case hg => rfl); (case hn => rfl); (case hr => first | (go_simp; done) | (go_simp; rfl)); intro w133 hw; have hg : w130.grownBy w133 (some go106) := (by rw [hw]; exact HP132.2); have hp_ : KdW.R (Kd.int .u8) 5 w133 w.heap.size (fun _ => True) (.slice (some ⟨go106, 0, none⟩) t275.length co131) y279 := (by rw [hw, Ny279.out]; exact HP132.1); clear HP132; have n0_ := Aside0.mk (blk_grown (g := gb250) (o := .cells #[.string t247, .int .i64 t248] 39 (0, 0)) (by (with_reducible repeat (first | refine blk_drewN ?_ _ | refine blk_drew ?_ | refine blk_alloc ?_ _)); exact BK250.out) hg (KdW.R_ne HO277.out BK250.out (by decide))); have n1_ := Aside0.mk (blk_grown (g := gb254) (o := .cells #[.string t251, .int .i64 t252] 39 (0, 0)) (by (with_reducible repeat (first | refine blk_drewN ?_ _ | refine blk_drew ?_ | refine blk_alloc ?_ _)); exact BK254.out) hg (KdW.R_ne HO277.out BK254.out (by decide))); have n2_ := Aside0.mk (hp_); have n3_ := Aside0.mk ((by rw [hw]; exact below_set (HB.out) GB106.out : Below w.heap.size w w133)); clear BK250; clear BK254; clear HO277; clear HB; have BK250 := n0_; have BK254 := n1_; have HO277 := n2_; have HB := n3_; clear n0_ n1_ n2_ n3_; have HBr2 := Aside0.mk ((by rw [hw]; exact below_set (HBr.out) GR106.out : Below wr2.heap.size wr2 w133)); clear HBr; have HBr := HBr2; clear HBr2; clear hg hw hp_; have hcv134 := KdW.own_string (P := Tryd.prog) Tryd.underlying43 Tryd.underlying5 Tryd.underlying9 HO277.out) | (go_at_call 25; (with_reducible refine (impl_CostOf.calls k5 (strOfNums y279) t246 t280 false _ A107.out).mono ?_); rintro e w135 ⟨rfl, hb⟩; have n0_ := Aside0.mk (KdW.R_below (by (with_reducible repeat (first | apply KdW.R_alloc | apply KdW.R_drewN | apply KdW.R_drew)); exact HO277.out) hb); have n1_ := Aside0.mk (blk_below (g := gb250) (o := .cells #[.string t247, .int .i64 t248] 39 (0, 0)) (by (with_reducible repeat (first | refine blk_drewN ?_ _ | refine blk_drew ?_ | refine blk_alloc ?_ _)); exact BK250.out) hb); have n2_ := Aside0.mk (blk_below (g := gb254) (o := .cells #[.string t251, .int .i64 t252] 39 (0, 0)) (by (with_reducible repeat (first | refine blk_drewN ?_ _ | refine blk_drew ?_ | refine blk_alloc ?_ _)); exact BK254.out) hb); have n3_ := Aside0.mk (below_step (by repeat (first | (with_reducible first | exact HB.out | apply below_alloc | apply pw_below_drewN | apply below_drew1 | refine below_set ?_ GE250.out | refine below_set ?_ GE254.out) | exact HB.out)) hb); clear HO277; clear BK250; clear BK254; clear HB; have HO277 := n0_; have BK250 := n1_; have BK254 := n2_; have HB := n3_; clear n0_ n1_ n2_ n3_; have HBr2 := Aside0.mk (below_step (by repeat (first | (with_reducible first | exact HBr.out | apply below_alloc | apply pw_below_drewN | apply below_drew1 | refine below_set ?_ GE250.out | refine below_set ?_ GE254.out) | exact HBr.out)) hb); clear HBr; have HBr := HBr2; clear HBr2; (try clear hb); (try clear hb2); (try clear hk); (try clear hi))))
                                              go_ret
                                              exact ⟨by first | rfl | (simp [errW_none, errW_some] <;> rfl) | (simp [*, errW_none, errW_some] <;> rfl), by repeat (first | (with_reducible first | exact HB.out | apply below_alloc | apply pw_below_drewN | apply below_drew1 | refine below_set ?_ GE250.out | refine below_set ?_ GE254.out) | exact HB.out)⟩
                                          · rw [if_neg c105] at H
                                            exact absurd H (by simp)
                                        · rw [if_neg c104] at H
                                          exact absurd H (by simp)
                                      · rw [if_neg c102] at H
                                        have c102b0 : decide (x177_5 < (t247.size : Int)) = false := decide_eq_false c102
                                        have hnext : ∀ ty, (Instr.next (.pointer (some ⟨git, 0, none⟩)) true ty).run Tryd.prog wr = .ok (.tuple #[.bool false]) wr := fun ty => Lib.run_next_end_at wr git t247 p_ ty HIT.out (by have h1_ := HX.out; omega)
                                        clear c102
                                        obtain rfl := Option.some.inj H
                                        go_wp2
                                        repeat (go_quiet (fail); try go_wp2)
                                        go_ret
                                        exact ⟨by first | rfl | (simp [errW_none, errW_some] <;> rfl) | (simp [*, errW_none, errW_some] <;> rfl), by repeat (first | (with_reducible first | exact HB.out | apply below_alloc | apply pw_below_drewN | apply below_drew1 | refine below_set ?_ GE250.out | refine below_set ?_ GE254.out) | exact HB.out)⟩
                          · rw [if_neg c54] at H
                            exact absurd H (by simp)
                        · rw [if_neg c53] at H
                          exact absurd H (by simp)
                · replace c43 := Bool.eq_false_iff.mpr c43
                  subst c43
                  have H1 : (some (t248 == 0)) = some r := by rw [if_neg (show ¬ (false = true) by decide)] at H; exact H
                  clear H
                  have H := H1
                  clear H1
                  obtain rfl := Option.some.inj H
                  have hnb136 := NB250_254.out
                  have hnc136 := NB254_250.out
                  have hcz137_0 : wr.cell? ⟨gb250, 0, none⟩ = some (.string t247) := (blk_cell BK250.out 0).trans rfl
                  have hcz137_1 : wr.cell? ⟨gb250, 1, none⟩ = some (.int .i64 t248) := (blk_cell BK250.out 1).trans rfl
                  have hfz137_0 := blk_frozen BK250.out 0
                  have hfz137_1 := blk_frozen BK250.out 1
                  go_wp2
                  repeat (go_quiet (fail); try go_wp2)
                  go_ret
                  exact ⟨by first | rfl | (simp [errW_none, errW_some] <;> rfl) | (simp [*, errW_none, errW_some] <;> rfl), by repeat (first | (with_reducible first | exact HB.out | apply below_alloc | apply pw_below_drewN | apply below_drew1 | refine below_set ?_ GE250.out | refine below_set ?_ GE254.out) | exact HB.out)⟩

/-- THE ONE PURE STATEMENT of laws_FnViterbi: yours. -/
def laws_FnViterbi.Pure : Prop := ∀ (l0 : List Int) (l1 : List Int), l0.length ≤ maxLen → l0.length * 1 ≤ 140737488351232 → (∀ x ∈ l0, (Lit.int .u8 x).wf = true) → l1.length ≤ maxLen → l1.length * 1 ≤ 140737488351232 → (∀ x ∈ l1, (Lit.int .u8 x).wf = true) → ∃ k, laws_FnViterbi.f k l0 l1 = some true
theorem laws_FnViterbi.walk (P : laws_FnViterbi.Pure) (a0 : Option Addr) (len0 cap0 : Nat) (z0 : List Int) (a1 : Option Addr) (len1 cap1 : Nat) (z1 : List Int) (w : World) (w0 : (a0 = none ∧ len0 = 0 ∧ cap0 = 0 ∧ z0 = []) ∨ ∃ x, a0 = some x ∧ len0 ≤ cap0 ∧ cap0 ≤ maxLen ∧ z0.length = cap0 ∧ (∀ i, i < z0.length → w.cell? (x.add i) = some (.int .u8 (z0.getD i 0))) ∧ ∀ n ∈ z0, (Lit.int .u8 n).wf = true) (y0 : len0 * 1 ≤ 140737488351232) (w1 : (a1 = none ∧ len1 = 0 ∧ cap1 = 0 ∧ z1 = []) ∨ ∃ x, a1 = some x ∧ len1 ≤ cap1 ∧ cap1 ≤ maxLen ∧ z1.length = cap1 ∧ (∀ i, i < z1.length → w.cell? (x.add i) = some (.int .u8 (z1.getD i 0))) ∧ ∀ n ∈ z1, (Lit.int .u8 n).wf = true) (y1 : len1 * 1 ≤ 140737488351232) :
    Calls Tryd.prog 9 #[.slice a0 len0 cap0, .slice a1 len1 cap1] w fun e w' => e = .returned (.bool true) ∧ Below w.heap.size w w' := by
  obtain ⟨l0, rfl, hr0, hm0, hw0, hc0⟩ := ReadsInt.ofRowC w0
  obtain ⟨l1, rfl, hr1, hm1, hw1, hc1⟩ := ReadsInt.ofRowC w1
  obtain ⟨k, h⟩ := P l0 l1 hm0 y0 hw0 hm1 y1 hw1
  refine (laws_FnViterbi.calls k _ _ l0 _ _ l1 true w (Kd.C_of_reads (d := (0 : Int)) (h1 := fun _ => rfl) hr0) hc0 (Kd.C_of_reads (d := (0 : Int)) (h1 := fun _ => rfl) hr1) hc1 h).mono ?_
  rintro e w' ⟨rfl, hd⟩
  exact ⟨rfl, hd⟩

end Go.Proofs.YtaofmiigbhfnbaaDoor.PFnViterbi
