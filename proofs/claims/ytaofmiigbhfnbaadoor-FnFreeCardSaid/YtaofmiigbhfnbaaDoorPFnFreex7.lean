/- A law's functions as plain Lean functions, each with the walk that shows that the code computes it: written by this session's program wip/tools/ppmake.py. -/
import Derived.Test.YtaofmiigbhfnbaaDoorPFnFreex0
import Derived.Test.YtaofmiigbhfnbaaDoorPFnFreex1
import Derived.Test.YtaofmiigbhfnbaaDoorPFnFreex2
import Derived.Test.YtaofmiigbhfnbaaDoorPFnFreex3
import Derived.Test.YtaofmiigbhfnbaaDoorPFnFreex5
import Derived.Test.YtaofmiigbhfnbaaDoorPFnFreex6
namespace Go.Proofs.YtaofmiigbhfnbaaDoor.PFnFree
open Go.RowKit Go.Proofs.YtaofmiigbhfnbaaDoorW.PrintWords Go.Proofs.YtaofmiigbhfnbaaDoorW.PrintLast Go.Proofs.YtaofmiigbhfnbaaDoorW.PrintMore
attribute [local go_sem] max2_int min2_int max_two min_two max_three min_three max_four min_four   -- for this text's walks alone
set_option linter.unusedVariables false
set_option linter.unusedSimpArgs false

/-! ### laws_FnFree: function 10 -/
mutual
def laws_FnFree.j0 : Nat → List Int → ByteArray → ByteArray → Bool → Bool → Option (Bool)
  | 0, _, _, _, _, _ => none
  | k + 1, x1, x5, x6, x7, x59 => if x59 = true then (some false) else (if x7 = true then (laws_FnFree.l0 k x1 x5 x6 ([] : List Int) (-1) 0) else (laws_FnFree.j6 k x1))
def laws_FnFree.j6 : Nat → List Int → Option (Bool)
  | 0, _ => none
  | k + 1, x1 => (spec_DrawFlipBits.f k x1).bind fun bt302 => ((impl_FlipBits.f k bt302.1 bt302.2).bind fun bt306 => ((spec_FlipBits.f k bt302.1 bt302.2).bind fun bt308 => (if (bt306.2 != bt308.2) = true then (some false) else (if bt306.1.toList = bt308.1.toList then ((impl_FlipBits.f k bt306.1 bt302.2).bind fun bt310 => (if bt306.2 = true then (if bt310.2 = true then (some (bt310.1.toList == bt302.1.toList)) else (some false)) else (some true))) else (some false)))))
def laws_FnFree.l0 : Nat → List Int → ByteArray → ByteArray → List Int → Int → Int → Option (Bool)
  | 0, _, _, _, _, _, _ => none
  | k + 1, x1, x5, x6, x10, x11, x12 => if x12 < (x1.length : Int) then (laws_FnFree.j2 k x1 x5 x6 x10 x11 x12 (decide (x12 < 3))) else (laws_FnFree.j2 k x1 x5 x6 x10 x11 x12 false)
def laws_FnFree.j2 : Nat → List Int → ByteArray → ByteArray → List Int → Int → Int → Bool → Option (Bool)
  | 0, _, _, _, _, _, _, _ => none
  | k + 1, x1, x5, x6, x10, x11, x12, x68 => if x68 = true then (if 0 ≤ x12 then (if x12 < (x1.length : Int) then (if (wrap64 (x11 + (wrap64 (1 + (Int.tmod (wrap64 (rd x1 x12)) 8))))) < (x6.size : Int) then (if x10.length < 17592186044416 then (laws_FnFree.l0 k x1 x5 x6 (x10 ++ [wrap64 (x11 + (wrap64 (1 + (Int.tmod (wrap64 (rd x1 x12)) 8))))]) (wrap64 (x11 + (wrap64 (1 + (Int.tmod (wrap64 (rd x1 x12)) 8))))) (wrap64 (x12 + 1))) else (none)) else (laws_FnFree.l0 k x1 x5 x6 x10 (wrap64 (x11 + (wrap64 (1 + (Int.tmod (wrap64 (rd x1 x12)) 8))))) (wrap64 (x12 + 1)))) else (none)) else (none)) else ((impl_FlipBits.f k x6 x10).bind fun bt288 => ((impl_DistanceBits.f k x6 bt288.1).bind fun bt290 => ((impl_DecodeBits.f k bt288.1).bind fun bt292 => (if bt288.2 = true then (if bt290.2 = true then (if bt290.1 = (x10.length : Int) then (if bt292.2.2 = true then (if bt292.1.toList = x5.toList then (laws_FnFree.j3 k x1 x5 x6 (bt292.2.1 != (x10.length : Int))) else (laws_FnFree.j3 k x1 x5 x6 true)) else (laws_FnFree.j3 k x1 x5 x6 true)) else (laws_FnFree.j3 k x1 x5 x6 true)) else (laws_FnFree.j3 k x1 x5 x6 true)) else (laws_FnFree.j3 k x1 x5 x6 true)))))
def laws_FnFree.j3 : Nat → List Int → ByteArray → ByteArray → Bool → Option (Bool)
  | 0, _, _, _, _ => none
  | k + 1, x1, x5, x6, x133 => if x133 = true then (some false) else (laws_FnFree.l1 k x1 x5 x6 0 (⟨#[]⟩ : ByteArray) 0)
def laws_FnFree.l1 : Nat → List Int → ByteArray → ByteArray → Int → ByteArray → Int → Option (Bool)
  | 0, _, _, _, _, _, _ => none
  | k + 1, x1, x5, x6, x19, x20, x21 => if x21 < (wrap64 ((x5.size : Int) + 2)) then (if x21 < (x5.size : Int) then (if 0 ≤ x21 then (laws_FnFree.j5 k x1 x5 x6 x19 x20 x21 0 ((bt x5 x21) == 49)) else (none)) else (laws_FnFree.j5 k x1 x5 x6 x19 x20 x21 0 false)) else (if x20.toList = x6.toList then (if x19 = 0 then (laws_FnFree.j6 k x1) else (some false)) else (some false))
def laws_FnFree.j5 : Nat → List Int → ByteArray → ByteArray → Int → ByteArray → Int → Int → Bool → Option (Bool)
  | 0, _, _, _, _, _, _, _, _ => none
  | k + 1, x1, x5, x6, x19, x20, x21, x22, x150 => if x150 = true then ((impl_OutputsAt.f x19 1).bind fun bt296 => (if bt296.2.2 = true then (if x20.size + bt296.1.size ≤ 9223372036854775807 then (laws_FnFree.l1 k x1 x5 x6 bt296.2.1 (x20 ++ bt296.1) (wrap64 (x21 + 1))) else (none)) else (some false))) else ((impl_OutputsAt.f x19 x22).bind fun bt299 => (if bt299.2.2 = true then (if x20.size + bt299.1.size ≤ 9223372036854775807 then (laws_FnFree.l1 k x1 x5 x6 bt299.2.1 (x20 ++ bt299.1) (wrap64 (x21 + 1))) else (none)) else (some false)))
end
def laws_FnFree.f (k : Nat) (l0 : List Int) (l1 : List Int) : Option (Bool) := if (wrap64 ((l0.length : Int) + (l1.length : Int))) > 1048576 then (some true) else ((spec_DrawEncodeBits.f k l0).bind fun t279 => ((impl_EncodeBits.f k t279).bind fun bt280 => ((spec_EncodeBits.f k t279).bind fun bt282 => (if (bt280.2 != bt282.2) = true then (laws_FnFree.j0 k l1 t279 bt280.1 bt280.2 true) else (laws_FnFree.j0 k l1 t279 bt280.1 bt280.2 (bt280.1.toList != bt282.1.toList))))))
theorem laws_FnFree.mono_l : ∀ k, (∀ y0 y1 y2 y3 y4, LeO (laws_FnFree.j0 k y0 y1 y2 y3 y4) (laws_FnFree.j0 (k + 1) y0 y1 y2 y3 y4)) ∧ (∀ y0, LeO (laws_FnFree.j6 k y0) (laws_FnFree.j6 (k + 1) y0)) ∧ (∀ y0 y1 y2 y3 y4 y5, LeO (laws_FnFree.l0 k y0 y1 y2 y3 y4 y5) (laws_FnFree.l0 (k + 1) y0 y1 y2 y3 y4 y5)) ∧ (∀ y0 y1 y2 y3 y4 y5 y6, LeO (laws_FnFree.j2 k y0 y1 y2 y3 y4 y5 y6) (laws_FnFree.j2 (k + 1) y0 y1 y2 y3 y4 y5 y6)) ∧ (∀ y0 y1 y2 y3, LeO (laws_FnFree.j3 k y0 y1 y2 y3) (laws_FnFree.j3 (k + 1) y0 y1 y2 y3)) ∧ (∀ y0 y1 y2 y3 y4 y5, LeO (laws_FnFree.l1 k y0 y1 y2 y3 y4 y5) (laws_FnFree.l1 (k + 1) y0 y1 y2 y3 y4 y5)) ∧ (∀ y0 y1 y2 y3 y4 y5 y6 y7, LeO (laws_FnFree.j5 k y0 y1 y2 y3 y4 y5 y6 y7) (laws_FnFree.j5 (k + 1) y0 y1 y2 y3 y4 y5 y6 y7))
  | 0 => ⟨fun _ _ _ _ _ r h => by simp [laws_FnFree.j0] at h, fun _ r h => by simp [laws_FnFree.j6] at h, fun _ _ _ _ _ _ r h => by simp [laws_FnFree.l0] at h, fun _ _ _ _ _ _ _ r h => by simp [laws_FnFree.j2] at h, fun _ _ _ _ r h => by simp [laws_FnFree.j3] at h, fun _ _ _ _ _ _ r h => by simp [laws_FnFree.l1] at h, fun _ _ _ _ _ _ _ _ r h => by simp [laws_FnFree.j5] at h⟩
  | k + 1 => by
    obtain ⟨ih0, ih1, ih2, ih3, ih4, ih5, ih6⟩ := laws_FnFree.mono_l k
    refine ⟨?_, ?_, ?_, ?_, ?_, ?_, ?_⟩
    · intro y0 y1 y2 y3 y4
      unfold laws_FnFree.j0
      repeat' first
      | (with_reducible exact ih0 _ _ _ _ _)
      | (with_reducible exact ih1 _)
      | (with_reducible exact ih2 _ _ _ _ _ _)
      | (with_reducible exact ih3 _ _ _ _ _ _ _)
      | (with_reducible exact ih4 _ _ _ _)
      | (with_reducible exact ih5 _ _ _ _ _ _)
      | (with_reducible exact ih6 _ _ _ _ _ _ _ _)
      | (with_reducible exact impl_DecodeBits.mono _ _)
      | (with_reducible exact impl_DistanceBits.mono _ _ _)
      | (with_reducible exact impl_EncodeBits.mono _ _)
      | (with_reducible exact impl_FlipBits.mono _ _ _)
      | (with_reducible exact spec_DrawEncodeBits.mono _ _)
      | (with_reducible exact spec_DrawFlipBits.mono _ _)
      | (with_reducible exact spec_EncodeBits.mono _ _)
      | (with_reducible exact spec_FlipBits.mono _ _ _)
      | (with_reducible exact LeO.refl _)
      | (with_reducible exact LeO.none _)
      | (with_reducible refine LeO.ite ?_ ?_)
      | (with_reducible refine LeO.bind ?_ (fun _ => ?_))
      | exact ih0 _ _ _ _ _
      | exact ih1 _
      | exact ih2 _ _ _ _ _ _
      | exact ih3 _ _ _ _ _ _ _
      | exact ih4 _ _ _ _
      | exact ih5 _ _ _ _ _ _
      | exact ih6 _ _ _ _ _ _ _ _
      | exact impl_DecodeBits.mono _ _
      | exact impl_DistanceBits.mono _ _ _
      | exact impl_EncodeBits.mono _ _
      | exact impl_FlipBits.mono _ _ _
      | exact spec_DrawEncodeBits.mono _ _
      | exact spec_DrawFlipBits.mono _ _
      | exact spec_EncodeBits.mono _ _
      | exact spec_FlipBits.mono _ _ _
      | exact LeO.none _
      | refine LeO.ite ?_ ?_
      | refine LeO.bind ?_ (fun _ => ?_)
    · intro y0
      unfold laws_FnFree.j6
      repeat' first
      | (with_reducible exact ih0 _ _ _ _ _)
      | (with_reducible exact ih1 _)
      | (with_reducible exact ih2 _ _ _ _ _ _)
      | (with_reducible exact ih3 _ _ _ _ _ _ _)
      | (with_reducible exact ih4 _ _ _ _)
      | (with_reducible exact ih5 _ _ _ _ _ _)
      | (with_reducible exact ih6 _ _ _ _ _ _ _ _)
      | (with_reducible exact impl_DecodeBits.mono _ _)
      | (with_reducible exact impl_DistanceBits.mono _ _ _)
      | (with_reducible exact impl_EncodeBits.mono _ _)
      | (with_reducible exact impl_FlipBits.mono _ _ _)
      | (with_reducible exact spec_DrawEncodeBits.mono _ _)
      | (with_reducible exact spec_DrawFlipBits.mono _ _)
      | (with_reducible exact spec_EncodeBits.mono _ _)
      | (with_reducible exact spec_FlipBits.mono _ _ _)
      | (with_reducible exact LeO.refl _)
      | (with_reducible exact LeO.none _)
      | (with_reducible refine LeO.ite ?_ ?_)
      | (with_reducible refine LeO.bind ?_ (fun _ => ?_))
      | exact ih0 _ _ _ _ _
      | exact ih1 _
      | exact ih2 _ _ _ _ _ _
      | exact ih3 _ _ _ _ _ _ _
      | exact ih4 _ _ _ _
      | exact ih5 _ _ _ _ _ _
      | exact ih6 _ _ _ _ _ _ _ _
      | exact impl_DecodeBits.mono _ _
      | exact impl_DistanceBits.mono _ _ _
      | exact impl_EncodeBits.mono _ _
      | exact impl_FlipBits.mono _ _ _
      | exact spec_DrawEncodeBits.mono _ _
      | exact spec_DrawFlipBits.mono _ _
      | exact spec_EncodeBits.mono _ _
      | exact spec_FlipBits.mono _ _ _
      | exact LeO.none _
      | refine LeO.ite ?_ ?_
      | refine LeO.bind ?_ (fun _ => ?_)
    · intro y0 y1 y2 y3 y4 y5
      unfold laws_FnFree.l0
      repeat' first
      | (with_reducible exact ih0 _ _ _ _ _)
      | (with_reducible exact ih1 _)
      | (with_reducible exact ih2 _ _ _ _ _ _)
      | (with_reducible exact ih3 _ _ _ _ _ _ _)
      | (with_reducible exact ih4 _ _ _ _)
      | (with_reducible exact ih5 _ _ _ _ _ _)
      | (with_reducible exact ih6 _ _ _ _ _ _ _ _)
      | (with_reducible exact impl_DecodeBits.mono _ _)
      | (with_reducible exact impl_DistanceBits.mono _ _ _)
      | (with_reducible exact impl_EncodeBits.mono _ _)
      | (with_reducible exact impl_FlipBits.mono _ _ _)
      | (with_reducible exact spec_DrawEncodeBits.mono _ _)
      | (with_reducible exact spec_DrawFlipBits.mono _ _)
      | (with_reducible exact spec_EncodeBits.mono _ _)
      | (with_reducible exact spec_FlipBits.mono _ _ _)
      | (with_reducible exact LeO.refl _)
      | (with_reducible exact LeO.none _)
      | (with_reducible refine LeO.ite ?_ ?_)
      | (with_reducible refine LeO.bind ?_ (fun _ => ?_))
      | exact ih0 _ _ _ _ _
      | exact ih1 _
      | exact ih2 _ _ _ _ _ _
      | exact ih3 _ _ _ _ _ _ _
      | exact ih4 _ _ _ _
      | exact ih5 _ _ _ _ _ _
      | exact ih6 _ _ _ _ _ _ _ _
      | exact impl_DecodeBits.mono _ _
      | exact impl_DistanceBits.mono _ _ _
      | exact impl_EncodeBits.mono _ _
      | exact impl_FlipBits.mono _ _ _
      | exact spec_DrawEncodeBits.mono _ _
      | exact spec_DrawFlipBits.mono _ _
      | exact spec_EncodeBits.mono _ _
      | exact spec_FlipBits.mono _ _ _
      | exact LeO.none _
      | refine LeO.ite ?_ ?_
      | refine LeO.bind ?_ (fun _ => ?_)
    · intro y0 y1 y2 y3 y4 y5 y6
      unfold laws_FnFree.j2
      repeat' first
      | (with_reducible exact ih0 _ _ _ _ _)
      | (with_reducible exact ih1 _)
      | (with_reducible exact ih2 _ _ _ _ _ _)
      | (with_reducible exact ih3 _ _ _ _ _ _ _)
      | (with_reducible exact ih4 _ _ _ _)
      | (with_reducible exact ih5 _ _ _ _ _ _)
      | (with_reducible exact ih6 _ _ _ _ _ _ _ _)
      | (with_reducible exact impl_DecodeBits.mono _ _)
      | (with_reducible exact impl_DistanceBits.mono _ _ _)
      | (with_reducible exact impl_EncodeBits.mono _ _)
      | (with_reducible exact impl_FlipBits.mono _ _ _)
      | (with_reducible exact spec_DrawEncodeBits.mono _ _)
      | (with_reducible exact spec_DrawFlipBits.mono _ _)
      | (with_reducible exact spec_EncodeBits.mono _ _)
      | (with_reducible exact spec_FlipBits.mono _ _ _)
      | (with_reducible exact LeO.refl _)
      | (with_reducible exact LeO.none _)
      | (with_reducible refine LeO.ite ?_ ?_)
      | (with_reducible refine LeO.bind ?_ (fun _ => ?_))
      | exact ih0 _ _ _ _ _
      | exact ih1 _
      | exact ih2 _ _ _ _ _ _
      | exact ih3 _ _ _ _ _ _ _
      | exact ih4 _ _ _ _
      | exact ih5 _ _ _ _ _ _
      | exact ih6 _ _ _ _ _ _ _ _
      | exact impl_DecodeBits.mono _ _
      | exact impl_DistanceBits.mono _ _ _
      | exact impl_EncodeBits.mono _ _
      | exact impl_FlipBits.mono _ _ _
      | exact spec_DrawEncodeBits.mono _ _
      | exact spec_DrawFlipBits.mono _ _
      | exact spec_EncodeBits.mono _ _
      | exact spec_FlipBits.mono _ _ _
      | exact LeO.none _
      | refine LeO.ite ?_ ?_
      | refine LeO.bind ?_ (fun _ => ?_)
    · intro y0 y1 y2 y3
      unfold laws_FnFree.j3
      repeat' first
      | (with_reducible exact ih0 _ _ _ _ _)
      | (with_reducible exact ih1 _)
      | (with_reducible exact ih2 _ _ _ _ _ _)
      | (with_reducible exact ih3 _ _ _ _ _ _ _)
      | (with_reducible exact ih4 _ _ _ _)
      | (with_reducible exact ih5 _ _ _ _ _ _)
      | (with_reducible exact ih6 _ _ _ _ _ _ _ _)
      | (with_reducible exact impl_DecodeBits.mono _ _)
      | (with_reducible exact impl_DistanceBits.mono _ _ _)
      | (with_reducible exact impl_EncodeBits.mono _ _)
      | (with_reducible exact impl_FlipBits.mono _ _ _)
      | (with_reducible exact spec_DrawEncodeBits.mono _ _)
      | (with_reducible exact spec_DrawFlipBits.mono _ _)
      | (with_reducible exact spec_EncodeBits.mono _ _)
      | (with_reducible exact spec_FlipBits.mono _ _ _)
      | (with_reducible exact LeO.refl _)
      | (with_reducible exact LeO.none _)
      | (with_reducible refine LeO.ite ?_ ?_)
      | (with_reducible refine LeO.bind ?_ (fun _ => ?_))
      | exact ih0 _ _ _ _ _
      | exact ih1 _
      | exact ih2 _ _ _ _ _ _
      | exact ih3 _ _ _ _ _ _ _
      | exact ih4 _ _ _ _
      | exact ih5 _ _ _ _ _ _
      | exact ih6 _ _ _ _ _ _ _ _
      | exact impl_DecodeBits.mono _ _
      | exact impl_DistanceBits.mono _ _ _
      | exact impl_EncodeBits.mono _ _
      | exact impl_FlipBits.mono _ _ _
      | exact spec_DrawEncodeBits.mono _ _
      | exact spec_DrawFlipBits.mono _ _
      | exact spec_EncodeBits.mono _ _
      | exact spec_FlipBits.mono _ _ _
      | exact LeO.none _
      | refine LeO.ite ?_ ?_
      | refine LeO.bind ?_ (fun _ => ?_)
    · intro y0 y1 y2 y3 y4 y5
      unfold laws_FnFree.l1
      repeat' first
      | (with_reducible exact ih0 _ _ _ _ _)
      | (with_reducible exact ih1 _)
      | (with_reducible exact ih2 _ _ _ _ _ _)
      | (with_reducible exact ih3 _ _ _ _ _ _ _)
      | (with_reducible exact ih4 _ _ _ _)
      | (with_reducible exact ih5 _ _ _ _ _ _)
      | (with_reducible exact ih6 _ _ _ _ _ _ _ _)
      | (with_reducible exact impl_DecodeBits.mono _ _)
      | (with_reducible exact impl_DistanceBits.mono _ _ _)
      | (with_reducible exact impl_EncodeBits.mono _ _)
      | (with_reducible exact impl_FlipBits.mono _ _ _)
      | (with_reducible exact spec_DrawEncodeBits.mono _ _)
      | (with_reducible exact spec_DrawFlipBits.mono _ _)
      | (with_reducible exact spec_EncodeBits.mono _ _)
      | (with_reducible exact spec_FlipBits.mono _ _ _)
      | (with_reducible exact LeO.refl _)
      | (with_reducible exact LeO.none _)
      | (with_reducible refine LeO.ite ?_ ?_)
      | (with_reducible refine LeO.bind ?_ (fun _ => ?_))
      | exact ih0 _ _ _ _ _
      | exact ih1 _
      | exact ih2 _ _ _ _ _ _
      | exact ih3 _ _ _ _ _ _ _
      | exact ih4 _ _ _ _
      | exact ih5 _ _ _ _ _ _
      | exact ih6 _ _ _ _ _ _ _ _
      | exact impl_DecodeBits.mono _ _
      | exact impl_DistanceBits.mono _ _ _
      | exact impl_EncodeBits.mono _ _
      | exact impl_FlipBits.mono _ _ _
      | exact spec_DrawEncodeBits.mono _ _
      | exact spec_DrawFlipBits.mono _ _
      | exact spec_EncodeBits.mono _ _
      | exact spec_FlipBits.mono _ _ _
      | exact LeO.none _
      | refine LeO.ite ?_ ?_
      | refine LeO.bind ?_ (fun _ => ?_)
    · intro y0 y1 y2 y3 y4 y5 y6 y7
      unfold laws_FnFree.j5
      repeat' first
      | (with_reducible exact ih0 _ _ _ _ _)
      | (with_reducible exact ih1 _)
      | (with_reducible exact ih2 _ _ _ _ _ _)
      | (with_reducible exact ih3 _ _ _ _ _ _ _)
      | (with_reducible exact ih4 _ _ _ _)
      | (with_reducible exact ih5 _ _ _ _ _ _)
      | (with_reducible exact ih6 _ _ _ _ _ _ _ _)
      | (with_reducible exact impl_DecodeBits.mono _ _)
      | (with_reducible exact impl_DistanceBits.mono _ _ _)
      | (with_reducible exact impl_EncodeBits.mono _ _)
      | (with_reducible exact impl_FlipBits.mono _ _ _)
      | (with_reducible exact spec_DrawEncodeBits.mono _ _)
      | (with_reducible exact spec_DrawFlipBits.mono _ _)
      | (with_reducible exact spec_EncodeBits.mono _ _)
      | (with_reducible exact spec_FlipBits.mono _ _ _)
      | (with_reducible exact LeO.refl _)
      | (with_reducible exact LeO.none _)
      | (with_reducible refine LeO.ite ?_ ?_)
      | (with_reducible refine LeO.bind ?_ (fun _ => ?_))
      | exact ih0 _ _ _ _ _
      | exact ih1 _
      | exact ih2 _ _ _ _ _ _
      | exact ih3 _ _ _ _ _ _ _
      | exact ih4 _ _ _ _
      | exact ih5 _ _ _ _ _ _
      | exact ih6 _ _ _ _ _ _ _ _
      | exact impl_DecodeBits.mono _ _
      | exact impl_DistanceBits.mono _ _ _
      | exact impl_EncodeBits.mono _ _
      | exact impl_FlipBits.mono _ _ _
      | exact spec_DrawEncodeBits.mono _ _
      | exact spec_DrawFlipBits.mono _ _
      | exact spec_EncodeBits.mono _ _
      | exact spec_FlipBits.mono _ _ _
      | exact LeO.none _
      | refine LeO.ite ?_ ?_
      | refine LeO.bind ?_ (fun _ => ?_)
theorem laws_FnFree.mono : ∀ a0 a1 k, LeO (laws_FnFree.f k a0 a1) (laws_FnFree.f (k + 1) a0 a1) := by
  intro a0 a1 k
  obtain ⟨ih0, ih1, ih2, ih3, ih4, ih5, ih6⟩ := laws_FnFree.mono_l k
  unfold laws_FnFree.f
  repeat' first
      | (with_reducible exact ih0 _ _ _ _ _)
      | (with_reducible exact ih1 _)
      | (with_reducible exact ih2 _ _ _ _ _ _)
      | (with_reducible exact ih3 _ _ _ _ _ _ _)
      | (with_reducible exact ih4 _ _ _ _)
      | (with_reducible exact ih5 _ _ _ _ _ _)
      | (with_reducible exact ih6 _ _ _ _ _ _ _ _)
      | (with_reducible exact impl_DecodeBits.mono _ _)
      | (with_reducible exact impl_DistanceBits.mono _ _ _)
      | (with_reducible exact impl_EncodeBits.mono _ _)
      | (with_reducible exact impl_FlipBits.mono _ _ _)
      | (with_reducible exact spec_DrawEncodeBits.mono _ _)
      | (with_reducible exact spec_DrawFlipBits.mono _ _)
      | (with_reducible exact spec_EncodeBits.mono _ _)
      | (with_reducible exact spec_FlipBits.mono _ _ _)
      | (with_reducible exact LeO.refl _)
      | (with_reducible exact LeO.none _)
      | (with_reducible refine LeO.ite ?_ ?_)
      | (with_reducible refine LeO.bind ?_ (fun _ => ?_))
      | exact ih0 _ _ _ _ _
      | exact ih1 _
      | exact ih2 _ _ _ _ _ _
      | exact ih3 _ _ _ _ _ _ _
      | exact ih4 _ _ _ _
      | exact ih5 _ _ _ _ _ _
      | exact ih6 _ _ _ _ _ _ _ _
      | exact impl_DecodeBits.mono _ _
      | exact impl_DistanceBits.mono _ _ _
      | exact impl_EncodeBits.mono _ _
      | exact impl_FlipBits.mono _ _ _
      | exact spec_DrawEncodeBits.mono _ _
      | exact spec_DrawFlipBits.mono _ _
      | exact spec_EncodeBits.mono _ _
      | exact spec_FlipBits.mono _ _ _
      | exact LeO.none _
      | refine LeO.ite ?_ ?_
      | refine LeO.bind ?_ (fun _ => ?_)
set_option maxHeartbeats 8000000 in
set_option maxRecDepth 100000 in
theorem laws_FnFree.calls (k : Nat) (A0 : Option Addr) (c0 : Nat) (l0 : List Int) (A1 : Option Addr) (c1 : Nat) (l1 : List Int) (r : Bool) (w : World) (hr0 : Kd.C (Kd.int .u8) w A0 l0.length l0) (hc0 : l0.length ≤ c0) (hr1 : Kd.C (Kd.int .u8) w A1 l1.length l1) (hc1 : l1.length ≤ c1) (h : laws_FnFree.f k l0 l1 = some r) :
    Calls Tryd.prog 10 #[.slice A0 l0.length c0, .slice A1 l1.length c1] w fun e w' => e = .returned (.bool r) ∧ Below w.heap.size w w' := by
  have hu39 := Tryd.underlying39
  have HR0 := Aside0.mk hr0
  have HC0 := Aside0.mk hc0
  clear hr0 hc0
  have HR1 := Aside0.mk hr1
  have HC1 := Aside0.mk hc1
  clear hr1 hc1
  have HB := Aside0.mk (Below.refl w.heap.size w)
  have H : (if (wrap64 ((l0.length : Int) + (l1.length : Int))) > 1048576 then (some true) else ((spec_DrawEncodeBits.f k l0).bind fun t279 => ((impl_EncodeBits.f k t279).bind fun bt280 => ((spec_EncodeBits.f k t279).bind fun bt282 => (if (bt280.2 != bt282.2) = true then (laws_FnFree.j0 k l1 t279 bt280.1 bt280.2 true) else (laws_FnFree.j0 k l1 t279 bt280.1 bt280.2 (bt280.1.toList != bt282.1.toList))))))) = some r := h
  clear h
  by_cases c3 : (wrap64 ((l0.length : Int) + (l1.length : Int))) > 1048576
  · rw [if_pos c3] at H
    have c3b0 : decide (1048576 < (wrap64 ((l0.length : Int) + (l1.length : Int)))) = true := decide_eq_true c3
    clear c3
    obtain rfl := Option.some.inj H
    go_enter Tryd.func10, Tryd.ntmps10
    go_wp2
    go_ret
    exact ⟨by first | rfl | (simp [errW_none, errW_some] <;> rfl) | (simp [*, errW_none, errW_some] <;> rfl), by repeat (first | (with_reducible first | exact HB.out | apply below_alloc | apply pw_below_drewN | apply below_drew1) | exact HB.out)⟩
  · rw [if_neg c3] at H
    have c3b0 : decide (1048576 < (wrap64 ((l0.length : Int) + (l1.length : Int)))) = false := decide_eq_false c3
    clear c3
    replace H := Option.bind_eq_some_iff.mp H
    obtain ⟨t279, A40, H⟩ := H
    replace H : ((impl_EncodeBits.f k t279).bind fun bt280 => ((spec_EncodeBits.f k t279).bind fun bt282 => (if (bt280.2 != bt282.2) = true then (laws_FnFree.j0 k l1 t279 bt280.1 bt280.2 true) else (laws_FnFree.j0 k l1 t279 bt280.1 bt280.2 (bt280.1.toList != bt282.1.toList))))) = some r := H
    have A4 := Aside0.mk A40
    clear A40
    replace H := Option.bind_eq_some_iff.mp H
    obtain ⟨⟨t280, t281⟩, A50, H⟩ := H
    replace H : ((spec_EncodeBits.f k t279).bind fun bt282 => (if (t281 != bt282.2) = true then (laws_FnFree.j0 k l1 t279 t280 t281 true) else (laws_FnFree.j0 k l1 t279 t280 t281 (t280.toList != bt282.1.toList)))) = some r := H
    have A5 := Aside0.mk A50
    clear A50
    replace H := Option.bind_eq_some_iff.mp H
    obtain ⟨⟨t282, t283⟩, A60, H⟩ := H
    replace H : (if (t281 != t283) = true then (laws_FnFree.j0 k l1 t279 t280 t281 true) else (laws_FnFree.j0 k l1 t279 t280 t281 (t280.toList != t282.toList))) = some r := H
    have A6 := Aside0.mk A60
    clear A60
    have HC7 := Aside0.mk H
    clear H
    go_enter Tryd.func10, Tryd.ntmps10
    go_upto_region 6 with (first | ((with_reducible refine gate_callee (f := 30) rfl ?_); refine goesL_ (some 41) rfl rfl Tryd.func30 (by kernel_rfl) rfl #[.slice A0 l0.length c0] rfl (by (try simp only [List.map_toArray, List.map_cons, List.map_nil]); first | done | rfl | (simp only [List.length_drop, List.length_take]; rfl)) ?_; (with_reducible refine (spec_DrawEncodeBits.calls k _ _ l0 t279 _ ?side1 ?side2 A4.out).mono ?_); (case side1 => repeat (first | exact HR0.out | (with_reducible refine Kd.C_alloc ?_ _) | (with_reducible refine Kd.C_drewN ?_ _) | (with_reducible refine Kd.C_drew ?_))); (case side2 => exact HC0.out); rintro e w8 ⟨rfl, hb⟩; refine ⟨_, rfl, ?_⟩; have n0_ := Aside0.mk (below_step (by repeat (first | (with_reducible first | exact HB.out | apply below_alloc | apply pw_below_drewN | apply below_drew1) | exact HB.out)) hb); clear HB; have HB := n0_; clear n0_; (try clear hb); (try clear hb2); (try clear hk); (try clear hi)) | ((with_reducible refine gate_callee (f := 23) rfl ?_); refine goesL_ (some 44) rfl rfl Tryd.func23 (by kernel_rfl) rfl #[.string t279] rfl (by (try simp only [List.map_toArray, List.map_cons, List.map_nil]); first | done | rfl | (simp only [List.length_drop, List.length_take]; rfl)) ?_; (with_reducible refine (impl_EncodeBits.calls k t279 t280 t281 _ A5.out).mono ?_); rintro e w9 ⟨rfl, hb⟩; refine ⟨_, rfl, ?_⟩; have n0_ := Aside0.mk (below_step (by repeat (first | (with_reducible first | exact HB.out | apply below_alloc | apply pw_below_drewN | apply below_drew1) | exact HB.out)) hb); clear HB; have HB := n0_; clear n0_; (try clear hb); (try clear hb2); (try clear hk); (try clear hi)) | ((with_reducible refine gate_callee (f := 22) rfl ?_); refine goesL_ (some 49) rfl rfl Tryd.func22 (by kernel_rfl) rfl #[.string t279] rfl (by (try simp only [List.map_toArray, List.map_cons, List.map_nil]); first | done | rfl | (simp only [List.length_drop, List.length_take]; rfl)) ?_; (with_reducible refine (spec_EncodeBits.calls k t279 t282 t283 _ A6.out).mono ?_); rintro e w10 ⟨rfl, hb⟩; refine ⟨_, rfl, ?_⟩; have n0_ := Aside0.mk (below_step (by repeat (first | (with_reducible first | exact HB.out | apply below_alloc | apply pw_below_drewN | apply below_drew1) | exact HB.out)) hb); clear HB; have HB := n0_; clear n0_; (try clear hb); (try clear hb2); (try clear hk); (try clear hi)))
    (try simp only [Act.put, List.setIfInBounds_toArray, List.set_cons_zero, List.set_cons_succ])
    go_cut [59] (fun v59 wc => ∃ (kq : Nat) (x59_6 : Bool), v59 = .bool x59_6 ∧ Aside0 (laws_FnFree.j0 kq l1 t279 t280 t281 x59_6 = some r) ∧ Aside0 (kq ≤ k) ∧ Aside0 (Below w.heap.size w wc))
    case first =>
      as_aux_lemma =>
        have H := HC7.out
        clear HC7
        by_cases c11 : (t281 != t283) = true
        · rw [if_pos c11] at H
          have c11b0 : (t281 != t283) = true := c11
          (try (have c11b1 : decide (t281 = t283) = false := by simpa using c11))
          (try (have c11b2 : (t281 == t283) = false := by simpa using c11))
          (try (have c11b3 : ¬ (t281 = t283) := by simpa using c11))
          clear c11
          (first | rw [c11b0] | (simp only [i64_w, i32_w]; rw [c11b0]) | skip)
          have H' := Aside0.mk H
          clear H
          go_wp2
          go_meet
          case rel => exact ⟨_, (true), (by first | rfl | (simp; done) | (simp [*]; done)), H', ⟨by first | omega | exact Nat.le_refl _⟩, ⟨by repeat (first | (with_reducible first | exact HB.out | apply below_alloc | apply pw_below_drewN | apply below_drew1) | exact HB.out)⟩⟩
        · rw [if_neg c11] at H
          have c11b0 : (t281 != t283) = false := by simpa using c11
          (try (have c11b1 : decide (t281 = t283) = true := by simpa using c11))
          (try (have c11b2 : (t281 == t283) = true := by simpa using c11))
          clear c11
          (first | rw [c11b0] | (simp only [i64_w, i32_w]; rw [c11b0]) | skip)
          have H' := Aside0.mk H
          clear H
          go_wp2
          go_meet
          case rel => exact ⟨_, ((t280.toList != t282.toList)), (by first | rfl | (simp; done) | (simp [*]; done)), H', ⟨by first | omega | exact Nat.le_refl _⟩, ⟨by repeat (first | (with_reducible first | exact HB.out | apply below_alloc | apply pw_below_drewN | apply below_drew1) | exact HB.out)⟩⟩
    case rest =>
      as_aux_lemma =>
        clear HC7
        try clear c1
        try clear c2
        try clear p2
        try clear c3
        try clear c3b0
        try clear p6
        try clear c10
        try clear c11
        try clear c11b0
        try clear c11b1
        try clear c11b2
        obtain ⟨kq, x59_6, rfl, HA, HJ6, HB⟩ := hcut
        cases kq with
        | zero => exact absurd HA.out (by simp [laws_FnFree.j0])
        | succ kj6 =>
          have H := HA.out
          clear HA
          simp only [laws_FnFree.j0] at H
          by_cases c12 : x59_6 = true
          · subst c12
            have H1 : (some false) = some r := by rw [if_pos rfl] at H; exact H
            clear H
            have H := H1
            clear H1
            obtain rfl := Option.some.inj H
            go_wp2
            go_ret
            exact ⟨by first | rfl | (simp [errW_none, errW_some] <;> rfl) | (simp [*, errW_none, errW_some] <;> rfl), by repeat (first | (with_reducible first | exact HB.out | apply below_alloc | apply pw_below_drewN | apply below_drew1) | exact HB.out)⟩
          · replace c12 := Bool.eq_false_iff.mpr c12
            subst c12
            have H1 : (if t281 = true then (laws_FnFree.l0 kj6 l1 t279 t280 ([] : List Int) (-1) 0) else (laws_FnFree.j6 kj6 l1)) = some r := by rw [if_neg (show ¬ (false = true) by decide)] at H; exact H
            clear H
            have H := H1
            clear H1
            have HC13 := Aside0.mk H
            clear H
            go_upto_if 60 with (fail)
            go_cut [] (fun wc => ∃ (kq : Nat), Aside0 (laws_FnFree.j6 kq l1 = some r) ∧ Aside0 (kq ≤ kj6) ∧ Aside0 (Below w.heap.size w wc))
            case first =>
              as_aux_lemma =>
                have H := HC13.out
                clear HC13
                by_cases c14 : t281 = true
                · subst c14
                  have H1 : (laws_FnFree.l0 kj6 l1 t279 t280 ([] : List Int) (-1) 0) = some r := by rw [if_pos rfl] at H; exact H
                  clear H
                  have H := H1
                  clear H1
                  have H' := Aside0.mk H
                  clear H
                  go_wp2
                  go_loopg [10, 11, 12] kj6 (fun kq v10 v11 v12 w' => ∃ (x10_2 : List Int) (x11_2 : Int) (x12_2 : Int), v11 = .int .i64 x11_2 ∧ v12 = .int .i64 x12_2 ∧ Aside0 (laws_FnFree.l0 kq l1 t279 t280 x10_2 x11_2 x12_2 = some r) ∧ Aside0 (kq ≤ kj6) ∧ Aside0 (Kd.R (Kd.int .i64) 3 w' w.heap.size (fun _ => True) v10 x10_2) ∧ Aside0 (Below w.heap.size w w'))
                  case atStart => exact ⟨(([] : List Int)), ((-1)), (0), (by first | rfl | (simp; done) | (simp [*]; done)), (by first | rfl | (simp; done) | (simp [*]; done)), H', ⟨Nat.le_refl _⟩, ⟨by first | exact Kd.R_nil _ _ _ _ _ | exact Kd.N_nil _ _ _ _ _ | exact Kd.V_nil _ _ _ _ _ | exact Kd.Q_nil _ _ _ _ _ | exact Kd.S_nil _ _ _ _ _⟩, ⟨by repeat (first | (with_reducible first | exact HB.out | apply below_alloc | apply pw_below_drewN | apply below_drew1) | exact HB.out)⟩⟩
                  case round =>
                    clear H'
                    try clear c1
                    try clear c2
                    try clear p2
                    try clear c3
                    try clear c3b0
                    try clear p6
                    try clear c10
                    try clear c11
                    try clear c11b0
                    try clear c11b1
                    try clear c11b2
                    try clear c12
                    try clear c14
                    try clear p2
                    try clear p6
                    obtain ⟨x10_2, x11_2, x12_2, rfl, rfl, HA, HK2, HO_10, HB⟩ := hrel
                    cases gk with
                    | zero => exact absurd HA.out (by simp [laws_FnFree.l0])
                    | succ k2 =>
                      have H := HA.out
                      clear HA
                      simp only [laws_FnFree.l0] at H
                      have HC15 := Aside0.mk H
                      clear H
                      go_upto_region 12 with (fail)
                      go_cut [68] (fun v68 wc => ∃ (kq : Nat) (x68_14 : Bool), v68 = .bool x68_14 ∧ Aside0 (laws_FnFree.j2 kq l1 t279 t280 x10_2 x11_2 x12_2 x68_14 = some r) ∧ Aside0 (kq ≤ k2) ∧ Aside0 (Kd.R (Kd.int .i64) 3 wc w.heap.size (fun _ => True) u10 x10_2) ∧ Aside0 (Below w.heap.size w wc))
                      case first =>
                        as_aux_lemma =>
                          have H := HC15.out
                          clear HC15
                          by_cases c16 : x12_2 < (l1.length : Int)
                          · rw [if_pos c16] at H
                            have c16b0 : decide (x12_2 < (l1.length : Int)) = true := decide_eq_true c16
                            clear c16
                            (first | rw [c16b0] | (simp only [i64_w, i32_w]; rw [c16b0]) | skip)
                            have H' := Aside0.mk H
                            clear H
                            go_wp2
                            go_meet
                            case rel => exact ⟨_, (decide (x12_2 < 3)), (by first | rfl | (simp; done) | (simp [*]; done)), H', ⟨by have := HJ6.out; have := HK2.out; first | omega | exact Nat.le_refl _⟩, ⟨by (with_reducible repeat (first | apply Kd.R_alloc | apply Kd.R_drewN | apply Kd.R_drew)); exact HO_10.out⟩, ⟨by repeat (first | (with_reducible first | exact HB.out | apply below_alloc | apply pw_below_drewN | apply below_drew1) | exact HB.out)⟩⟩
                          · rw [if_neg c16] at H
                            have c16b0 : decide (x12_2 < (l1.length : Int)) = false := decide_eq_false c16
                            clear c16
                            (first | rw [c16b0] | (simp only [i64_w, i32_w]; rw [c16b0]) | skip)
                            have H' := Aside0.mk H
                            clear H
                            go_wp2
                            go_meet
                            case rel => exact ⟨_, (false), (by first | rfl | (simp; done) | (simp [*]; done)), H', ⟨by have := HJ6.out; have := HK2.out; first | omega | exact Nat.le_refl _⟩, ⟨by (with_reducible repeat (first | apply Kd.R_alloc | apply Kd.R_drewN | apply Kd.R_drew)); exact HO_10.out⟩, ⟨by repeat (first | (with_reducible first | exact HB.out | apply below_alloc | apply pw_below_drewN | apply below_drew1) | exact HB.out)⟩⟩
                      case rest =>
                        as_aux_lemma =>
                          clear HC15
                          try clear c1
                          try clear c2
                          try clear p2
                          try clear c3
                          try clear c3b0
                          try clear p6
                          try clear c10
                          try clear c11
                          try clear c11b0
                          try clear c11b1
                          try clear c11b2
                          try clear c12
                          try clear c14
                          try clear c16
                          try clear c16b0
                          try clear p2
                          try clear p6
                          obtain ⟨kq, x68_14, rfl, HA, HJ14, HO_10, HB⟩ := hcut
                          cases kq with
                          | zero => exact absurd HA.out (by simp [laws_FnFree.j2])
                          | succ kj14 =>
                            have H := HA.out
                            clear HA
                            simp only [laws_FnFree.j2] at H
                            by_cases c17 : x68_14 = true
                            · subst c17
                              have H1 : (if 0 ≤ x12_2 then (if x12_2 < (l1.length : Int) then (if (wrap64 (x11_2 + (wrap64 (1 + (Int.tmod (wrap64 (rd l1 x12_2)) 8))))) < (t280.size : Int) then (if x10_2.length < 17592186044416 then (laws_FnFree.l0 kj14 l1 t279 t280 (x10_2 ++ [wrap64 (x11_2 + (wrap64 (1 + (Int.tmod (wrap64 (rd l1 x12_2)) 8))))]) (wrap64 (x11_2 + (wrap64 (1 + (Int.tmod (wrap64 (rd l1 x12_2)) 8))))) (wrap64 (x12_2 + 1))) else (none)) else (laws_FnFree.l0 kj14 l1 t279 t280 x10_2 (wrap64 (x11_2 + (wrap64 (1 + (Int.tmod (wrap64 (rd l1 x12_2)) 8))))) (wrap64 (x12_2 + 1)))) else (none)) else (none)) = some r := by rw [if_pos rfl] at H; exact H
                              clear H
                              have H := H1
                              clear H1
                              by_cases c18 : 0 ≤ x12_2
                              · rw [if_pos c18] at H
                                have c18b0 : decide (0 ≤ x12_2) = true := decide_eq_true c18
                                clear c18
                                by_cases c19 : x12_2 < (l1.length : Int)
                                · rw [if_pos c19] at H
                                  have c19b0 : decide (x12_2 < (l1.length : Int)) = true := decide_eq_true c19
                                  clear c19
                                  by_cases c20 : (wrap64 (x11_2 + (wrap64 (1 + (Int.tmod (wrap64 (rd l1 x12_2)) 8))))) < (t280.size : Int)
                                  · rw [if_pos c20] at H
                                    have c20b0 : decide ((wrap64 (x11_2 + (wrap64 (1 + (Int.tmod (wrap64 (rd l1 x12_2)) 8))))) < (t280.size : Int)) = true := decide_eq_true c20
                                    clear c20
                                    by_cases c21 : x10_2.length < 17592186044416
                                    · rw [if_pos c21] at H
                                      have LMc21 := Aside0.mk c21
                                      clear c21
                                      obtain ⟨y285, hy285⟩ : ∃ y_ : List Int, y_ = (x10_2 ++ [wrap64 (x11_2 + (wrap64 (1 + (Int.tmod (wrap64 (rd l1 x12_2)) 8))))]) := ⟨_, rfl⟩
                                      replace H : (laws_FnFree.l0 kj14 l1 t279 t280 y285 (wrap64 (x11_2 + (wrap64 (1 + (Int.tmod (wrap64 (rd l1 x12_2)) 8))))) (wrap64 (x12_2 + 1))) = some r := by first | (rw [hy285]; with_reducible exact H) | (have H2_ := (Option.bind_some _ _).symm.trans H; rw [hy285]; with_reducible exact H2_) | (have H2_ := (Option.bind_some _ _).symm.trans H; with_reducible exact H2_) | with_reducible exact H | (rw [hy285]; exact H) | exact H
                                      have Ny285 := Aside0.mk hy285
                                      clear hy285
                                      have H' := Aside0.mk H
                                      clear H
                                      have p284 : 0 ≤ (x12_2 : Int) := of_decide_eq_true (by first | (with_reducible assumption) | assumption)
                                      have q284 : x12_2 < (l1.length : Int) := of_decide_eq_true (by first | (with_reducible assumption) | assumption)
                                      obtain ⟨ad284, e284, hx284_0⟩ := Kd.at_int HR1.out x12_2 p284 q284
                                      cases e284
                                      replace hx284_0 := (HB.out.cell (World.block_lt_of_cell? w _ hx284_0)).trans hx284_0
                                      replace p284 := eq_true p284
                                      replace q284 := eq_true q284
                                      go_wp2_with (first | ((with_reducible refine gate_builtin (b := .append) (xs := #[.tmp 84, .tmp 86]) rfl ?_); (try (refine gate_guard (by rfl) ?_; dsimp only)); at_builtin; refine Kd.R_append (Kd.int .i64) (w0 := w) w.heap.size rfl (.tmp 84) (.tmp 86) 25 3 (.int .i64 0) 8 rfl Tryd.underlying25 info3 rfl (by decide) (by omega) u10 x10_2 (wrap64 (x11_2 + (wrap64 (1 + (Int.tmod (wrap64 (rd l1 x12_2)) 8))))) [.int .i64 (wrap64 (x11_2 + (wrap64 (1 + (Int.tmod (wrap64 (rd l1 x12_2)) 8)))))] (fun _ => True) (fun _ => False) rfl rfl ?aP (fun _ hk => hk.elim) ?aF ?aO ?aB ?aS ?aL ?_; (case aP => exact rfl); (case aB => exact (by repeat (first | (with_reducible first | exact HB.out | apply below_alloc | apply pw_below_drewN | apply below_drew1) | exact HB.out))); (case aF => exact (fun _ _ => trivial)); (case aO => exact (by (with_reducible repeat (first | apply Kd.R_alloc | apply Kd.R_drewN | apply Kd.R_drew)); exact HO_10.out)); (case aS => exact (below_size (by repeat (first | (with_reducible first | exact HB.out | apply below_alloc | apply pw_below_drewN | apply below_drew1) | exact HB.out)))); (case aL => have := LMc21.out; omega); intro v286 w22 ho hb hg hat; rw [← Ny285.out] at ho; have n0_ := Aside0.mk (hb); have n1_ := Aside0.mk (ho); clear HB; clear HO_10; have HB := n0_; have HO287 := n1_; clear n0_ n1_; clear ho hb hg hat))
                                      go_roundg kj14
                                      case measure => have := HJ6.out; have := HK2.out; have := HJ14.out; omega
                                      case rel => exact ⟨(y285), (wrap64 (x11_2 + (wrap64 (1 + (Int.tmod (wrap64 (rd l1 x12_2)) 8))))), (wrap64 (x12_2 + 1)), (by first | rfl | (simp; done) | (simp [*]; done)), (by first | rfl | (simp; done) | (simp [*]; done)), H', ⟨by have := HJ6.out; have := HK2.out; have := HJ14.out; omega⟩, ⟨by (with_reducible repeat (first | apply Kd.R_alloc | apply Kd.R_drewN | apply Kd.R_drew)); exact HO287.out⟩, ⟨by repeat (first | (with_reducible first | exact HB.out | apply below_alloc | apply pw_below_drewN | apply below_drew1) | exact HB.out)⟩⟩
                                    · rw [if_neg c21] at H
                                      exact absurd H (by simp)
                                  · rw [if_neg c20] at H
                                    have c20b0 : decide ((wrap64 (x11_2 + (wrap64 (1 + (Int.tmod (wrap64 (rd l1 x12_2)) 8))))) < (t280.size : Int)) = false := decide_eq_false c20
                                    clear c20
                                    have H' := Aside0.mk H
                                    clear H
                                    have p284 : 0 ≤ (x12_2 : Int) := of_decide_eq_true (by first | (with_reducible assumption) | assumption)
                                    have q284 : x12_2 < (l1.length : Int) := of_decide_eq_true (by first | (with_reducible assumption) | assumption)
                                    obtain ⟨ad284, e284, hx284_0⟩ := Kd.at_int HR1.out x12_2 p284 q284
                                    cases e284
                                    replace hx284_0 := (HB.out.cell (World.block_lt_of_cell? w _ hx284_0)).trans hx284_0
                                    replace p284 := eq_true p284
                                    replace q284 := eq_true q284
                                    go_wp2
                                    go_roundg kj14
                                    case measure => have := HJ6.out; have := HK2.out; have := HJ14.out; omega
                                    case rel => exact ⟨(x10_2), (wrap64 (x11_2 + (wrap64 (1 + (Int.tmod (wrap64 (rd l1 x12_2)) 8))))), (wrap64 (x12_2 + 1)), (by first | rfl | (simp; done) | (simp [*]; done)), (by first | rfl | (simp; done) | (simp [*]; done)), H', ⟨by have := HJ6.out; have := HK2.out; have := HJ14.out; omega⟩, ⟨by (with_reducible repeat (first | apply Kd.R_alloc | apply Kd.R_drewN | apply Kd.R_drew)); exact HO_10.out⟩, ⟨by repeat (first | (with_reducible first | exact HB.out | apply below_alloc | apply pw_below_drewN | apply below_drew1) | exact HB.out)⟩⟩
                                · rw [if_neg c19] at H
                                  exact absurd H (by simp)
                              · rw [if_neg c18] at H
                                exact absurd H (by simp)
                            · replace c17 := Bool.eq_false_iff.mpr c17
                              subst c17
                              have H1 : ((impl_FlipBits.f kj14 t280 x10_2).bind fun bt288 => ((impl_DistanceBits.f kj14 t280 bt288.1).bind fun bt290 => ((impl_DecodeBits.f kj14 bt288.1).bind fun bt292 => (if bt288.2 = true then (if bt290.2 = true then (if bt290.1 = (x10_2.length : Int) then (if bt292.2.2 = true then (if bt292.1.toList = t279.toList then (laws_FnFree.j3 kj14 l1 t279 t280 (bt292.2.1 != (x10_2.length : Int))) else (laws_FnFree.j3 kj14 l1 t279 t280 true)) else (laws_FnFree.j3 kj14 l1 t279 t280 true)) else (laws_FnFree.j3 kj14 l1 t279 t280 true)) else (laws_FnFree.j3 kj14 l1 t279 t280 true)) else (laws_FnFree.j3 kj14 l1 t279 t280 true))))) = some r := by rw [if_neg (show ¬ (false = true) by decide)] at H; exact H
                              clear H
                              have H := H1
                              clear H1
                              replace H := Option.bind_eq_some_iff.mp H
                              obtain ⟨⟨t288, t289⟩, A230, H⟩ := H
                              replace H : ((impl_DistanceBits.f kj14 t280 t288).bind fun bt290 => ((impl_DecodeBits.f kj14 t288).bind fun bt292 => (if t289 = true then (if bt290.2 = true then (if bt290.1 = (x10_2.length : Int) then (if bt292.2.2 = true then (if bt292.1.toList = t279.toList then (laws_FnFree.j3 kj14 l1 t279 t280 (bt292.2.1 != (x10_2.length : Int))) else (laws_FnFree.j3 kj14 l1 t279 t280 true)) else (laws_FnFree.j3 kj14 l1 t279 t280 true)) else (laws_FnFree.j3 kj14 l1 t279 t280 true)) else (laws_FnFree.j3 kj14 l1 t279 t280 true)) else (laws_FnFree.j3 kj14 l1 t279 t280 true)))) = some r := H
                              have A23 := Aside0.mk A230
                              clear A230
                              replace H := Option.bind_eq_some_iff.mp H
                              obtain ⟨⟨t290, t291⟩, A240, H⟩ := H
                              replace H : ((impl_DecodeBits.f kj14 t288).bind fun bt292 => (if t289 = true then (if t291 = true then (if t290 = (x10_2.length : Int) then (if bt292.2.2 = true then (if bt292.1.toList = t279.toList then (laws_FnFree.j3 kj14 l1 t279 t280 (bt292.2.1 != (x10_2.length : Int))) else (laws_FnFree.j3 kj14 l1 t279 t280 true)) else (laws_FnFree.j3 kj14 l1 t279 t280 true)) else (laws_FnFree.j3 kj14 l1 t279 t280 true)) else (laws_FnFree.j3 kj14 l1 t279 t280 true)) else (laws_FnFree.j3 kj14 l1 t279 t280 true))) = some r := H
                              have A24 := Aside0.mk A240
                              clear A240
                              replace H := Option.bind_eq_some_iff.mp H
                              obtain ⟨⟨t292, t293, t294⟩, A250, H⟩ := H
                              replace H : (if t289 = true then (if t291 = true then (if t290 = (x10_2.length : Int) then (if t294 = true then (if t292.toList = t279.toList then (laws_FnFree.j3 kj14 l1 t279 t280 (t293 != (x10_2.length : Int))) else (laws_FnFree.j3 kj14 l1 t279 t280 true)) else (laws_FnFree.j3 kj14 l1 t279 t280 true)) else (laws_FnFree.j3 kj14 l1 t279 t280 true)) else (laws_FnFree.j3 kj14 l1 t279 t280 true)) else (laws_FnFree.j3 kj14 l1 t279 t280 true)) = some r := H
                              have A25 := Aside0.mk A250
                              clear A250
                              have HC26 := Aside0.mk H
                              clear H
                              obtain ⟨Ao27, co27, eo27⟩ := Kd.R_slice HO_10.out
                              subst eo27
                              go_upto_region 20 with (first | ((with_reducible refine gate_callee (f := 15) rfl ?_); refine goesL_ (some 91) rfl rfl Tryd.func15 (by kernel_rfl) rfl #[.string t280, .slice Ao27 x10_2.length co27] rfl (by (try simp only [List.map_toArray, List.map_cons, List.map_nil]); first | done | rfl | (simp only [List.length_drop, List.length_take]; rfl)) ?_; (with_reducible refine (impl_FlipBits.calls kj14 t280 _ _ x10_2 t288 t289 _ ?side1 ?side2 A23.out).mono ?_); (case side1 => repeat (first | exact (Kd.R_reads' HO_10.out).2.2 | (with_reducible refine Kd.C_alloc ?_ _) | (with_reducible refine Kd.C_drewN ?_ _) | (with_reducible refine Kd.C_drew ?_))); (case side2 => exact (Kd.R_reads' HO_10.out).2.1); rintro e w28 ⟨rfl, hb⟩; refine ⟨_, rfl, ?_⟩; have n0_ := Aside0.mk (Kd.R_below (by (with_reducible repeat (first | apply Kd.R_alloc | apply Kd.R_drewN | apply Kd.R_drew)); exact HO_10.out) hb); have n1_ := Aside0.mk (below_step (by repeat (first | (with_reducible first | exact HB.out | apply below_alloc | apply pw_below_drewN | apply below_drew1) | exact HB.out)) hb); clear HO_10; clear HB; have HO_10 := n0_; have HB := n1_; clear n0_ n1_; (try clear hb); (try clear hb2); (try clear hk); (try clear hi)) | ((with_reducible refine gate_callee (f := 12) rfl ?_); refine goesL_ (some 97) rfl rfl Tryd.func12 (by kernel_rfl) rfl #[.string t280, .string t288] rfl (by (try simp only [List.map_toArray, List.map_cons, List.map_nil]); first | done | rfl | (simp only [List.length_drop, List.length_take]; rfl)) ?_; (with_reducible refine (impl_DistanceBits.calls kj14 t280 t288 t290 t291 _ A24.out).mono ?_); rintro e w29 ⟨rfl, hb⟩; refine ⟨_, rfl, ?_⟩; have n0_ := Aside0.mk (Kd.R_below (by (with_reducible repeat (first | apply Kd.R_alloc | apply Kd.R_drewN | apply Kd.R_drew)); exact HO_10.out) hb); have n1_ := Aside0.mk (below_step (by repeat (first | (with_reducible first | exact HB.out | apply below_alloc | apply pw_below_drewN | apply below_drew1) | exact HB.out)) hb); clear HO_10; clear HB; have HO_10 := n0_; have HB := n1_; clear n0_ n1_; (try clear hb); (try clear hb2); (try clear hk); (try clear hi)) | ((with_reducible refine gate_callee (f := 27) rfl ?_); refine goesL_ (some 102) rfl rfl Tryd.func27 (by kernel_rfl) rfl #[.string t288] rfl (by (try simp only [List.map_toArray, List.map_cons, List.map_nil]); first | done | rfl | (simp only [List.length_drop, List.length_take]; rfl)) ?_; (with_reducible refine (impl_DecodeBits.calls kj14 t288 t292 t293 t294 _ A25.out).mono ?_); rintro e w30 ⟨rfl, hb⟩; refine ⟨_, rfl, ?_⟩; have n0_ := Aside0.mk (Kd.R_below (by (with_reducible repeat (first | apply Kd.R_alloc | apply Kd.R_drewN | apply Kd.R_drew)); exact HO_10.out) hb); have n1_ := Aside0.mk (below_step (by repeat (first | (with_reducible first | exact HB.out | apply below_alloc | apply pw_below_drewN | apply below_drew1) | exact HB.out)) hb); clear HO_10; clear HB; have HO_10 := n0_; have HB := n1_; clear n0_ n1_; (try clear hb); (try clear hb2); (try clear hk); (try clear hi)) | ((with_reducible refine gate_dst (N := 17) rfl ?_); (try (refine gate_guard (by rfl) ?_; dsimp only)); refine box_event ?hg (N := 17) ?hd (cs := #[.string (⟨#[]⟩ : ByteArray), .int .i64 0]) (t := 39) ?hr ?_; (case hd => rfl); (case hg => rfl); (case hr => first | (go_simp; done) | (go_simp; rfl)); intro gb295 hg w31 hbox hb; have n0_ := Aside0.mk (Kd.R_below (by (with_reducible repeat (first | apply Kd.R_alloc | apply Kd.R_drewN | apply Kd.R_drew)); exact HO_10.out) hb); have n1_ := Aside0.mk (below_step (by repeat (first | (with_reducible first | exact HB.out | apply below_alloc | apply pw_below_drewN | apply below_drew1) | exact HB.out)) hb); have n2_ := Aside0.mk (hbox); have n3_ := Aside0.mk ((by rw [hg]; exact (below_size (by repeat (first | (with_reducible first | exact HB.out | apply below_alloc | apply pw_below_drewN | apply below_drew1) | exact HB.out))) : w.heap.size ≤ gb295)); have n4_ := Aside0.mk ((by rw [hg]; exact (below_size (by repeat (first | (with_reducible first | exact HB.out | apply below_alloc | apply pw_below_drewN | apply below_drew1) | exact HB.out))) : w.heap.size ≤ gb295)); clear HO_10; clear HB; have HO_10 := n0_; have HB := n1_; have BK295 := n2_; have GW295 := n3_; have GE295 := n4_; clear n0_ n1_ n2_ n3_ n4_; clear hb hbox hg; have hcz32_0 : w31.cell? ⟨gb295, 0, none⟩ = some (.string (⟨#[]⟩ : ByteArray)) := (blk_cell BK295.out 0).trans rfl; have hcz32_1 : w31.cell? ⟨gb295, 1, none⟩ = some (.int .i64 0) := (blk_cell BK295.out 1).trans rfl; have hfz32_0 := blk_frozen BK295.out 0; have hfz32_1 := blk_frozen BK295.out 1))
                              (try simp only [Act.put, List.setIfInBounds_toArray, List.set_cons_zero, List.set_cons_succ])
                              go_cut [133] (fun v133 wc => ∃ (kq : Nat) (x133_25 : Bool), v133 = .bool x133_25 ∧ Aside0 (laws_FnFree.j3 kq l1 t279 t280 x133_25 = some r) ∧ Aside0 (kq ≤ kj14) ∧ Aside0 (wc.heap[gb295]? = some (.cells #[.string t292, .int .i64 t293] 39 (0, 0))) ∧ Aside0 (Below w.heap.size w wc))
                              case first =>
                                as_aux_lemma =>
                                  have H := HC26.out
                                  clear HC26
                                  by_cases c33 : t289 = true
                                  · subst c33
                                    have H1 : (if t291 = true then (if t290 = (x10_2.length : Int) then (if t294 = true then (if t292.toList = t279.toList then (laws_FnFree.j3 kj14 l1 t279 t280 (t293 != (x10_2.length : Int))) else (laws_FnFree.j3 kj14 l1 t279 t280 true)) else (laws_FnFree.j3 kj14 l1 t279 t280 true)) else (laws_FnFree.j3 kj14 l1 t279 t280 true)) else (laws_FnFree.j3 kj14 l1 t279 t280 true)) = some r := by rw [if_pos rfl] at H; exact H
                                    clear H
                                    have H := H1
                                    clear H1
                                    by_cases c34 : t291 = true
                                    · subst c34
                                      have H1 : (if t290 = (x10_2.length : Int) then (if t294 = true then (if t292.toList = t279.toList then (laws_FnFree.j3 kj14 l1 t279 t280 (t293 != (x10_2.length : Int))) else (laws_FnFree.j3 kj14 l1 t279 t280 true)) else (laws_FnFree.j3 kj14 l1 t279 t280 true)) else (laws_FnFree.j3 kj14 l1 t279 t280 true)) = some r := by rw [if_pos rfl] at H; exact H
                                      clear H
                                      have H := H1
                                      clear H1
                                      by_cases c35 : t290 = (x10_2.length : Int)
                                      · rw [if_pos c35] at H
                                        have c35b0 : (t290 == (x10_2.length : Int)) = true := beq_iff_eq.mpr c35
                                        have c35b1 : (t290 != (x10_2.length : Int)) = false := bne_eq_false_iff_eq.mpr c35
                                        clear c35
                                        (first | rw [c35b0] | (simp only [i64_w, i32_w]; rw [c35b0]) | skip)
                                        by_cases c36 : t294 = true
                                        · subst c36
                                          have H1 : (if t292.toList = t279.toList then (laws_FnFree.j3 kj14 l1 t279 t280 (t293 != (x10_2.length : Int))) else (laws_FnFree.j3 kj14 l1 t279 t280 true)) = some r := by rw [if_pos rfl] at H; exact H
                                          clear H
                                          have H := H1
                                          clear H1
                                          by_cases c37 : t292.toList = t279.toList
                                          · rw [if_pos c37] at H
                                            have c37b0 : (t292.toList == t279.toList) = true := beq_iff_eq.mpr c37
                                            have c37b1 : (t292.toList != t279.toList) = false := bne_eq_false_iff_eq.mpr c37
                                            clear c37
                                            have H' := Aside0.mk H
                                            clear H
                                            have hcz38_0 : w31.cell? ⟨gb295, 0, none⟩ = some (.string (⟨#[]⟩ : ByteArray)) := (blk_cell BK295.out 0).trans rfl
                                            have hcz38_1 : w31.cell? ⟨gb295, 1, none⟩ = some (.int .i64 0) := (blk_cell BK295.out 1).trans rfl
                                            have hfz38_0 := blk_frozen BK295.out 0
                                            have hfz38_1 := blk_frozen BK295.out 1
                                            go_wp2
                                            go_meet
                                            case rel => exact ⟨_, ((t293 != (x10_2.length : Int))), (by first | rfl | (simp; done) | (simp [*]; done)), H', ⟨by have := HJ6.out; have := HK2.out; have := HJ14.out; first | omega | exact Nat.le_refl _⟩, ⟨by (with_reducible repeat (first | refine blk_drewN ?_ _ | refine blk_drew ?_ | refine blk_alloc ?_ _)); refine blk_put (cs := #[.string t292, .int .i64 0]) ?_ 1 _ rfl; (with_reducible repeat (first | refine blk_drewN ?_ _ | refine blk_drew ?_ | refine blk_alloc ?_ _)); refine blk_put (cs := #[.string (⟨#[]⟩ : ByteArray), .int .i64 0]) ?_ 0 _ rfl; (with_reducible repeat (first | refine blk_drewN ?_ _ | refine blk_drew ?_ | refine blk_alloc ?_ _)); exact BK295.out⟩, ⟨by repeat (first | (with_reducible first | exact HB.out | apply below_alloc | apply pw_below_drewN | apply below_drew1 | refine below_set ?_ GE295.out) | exact HB.out)⟩⟩
                                          · rw [if_neg c37] at H
                                            have c37b0 : (t292.toList == t279.toList) = false := beq_eq_false_iff_ne.mpr c37
                                            have c37b1 : (t292.toList != t279.toList) = true := bne_iff_ne.mpr c37
                                            have H' := Aside0.mk H
                                            clear H
                                            have hcz39_0 : w31.cell? ⟨gb295, 0, none⟩ = some (.string (⟨#[]⟩ : ByteArray)) := (blk_cell BK295.out 0).trans rfl
                                            have hcz39_1 : w31.cell? ⟨gb295, 1, none⟩ = some (.int .i64 0) := (blk_cell BK295.out 1).trans rfl
                                            have hfz39_0 := blk_frozen BK295.out 0
                                            have hfz39_1 := blk_frozen BK295.out 1
                                            go_wp2
                                            go_meet
                                            case rel => exact ⟨_, (true), (by first | rfl | (simp; done) | (simp [*]; done)), H', ⟨by have := HJ6.out; have := HK2.out; have := HJ14.out; first | omega | exact Nat.le_refl _⟩, ⟨by (with_reducible repeat (first | refine blk_drewN ?_ _ | refine blk_drew ?_ | refine blk_alloc ?_ _)); refine blk_put (cs := #[.string t292, .int .i64 0]) ?_ 1 _ rfl; (with_reducible repeat (first | refine blk_drewN ?_ _ | refine blk_drew ?_ | refine blk_alloc ?_ _)); refine blk_put (cs := #[.string (⟨#[]⟩ : ByteArray), .int .i64 0]) ?_ 0 _ rfl; (with_reducible repeat (first | refine blk_drewN ?_ _ | refine blk_drew ?_ | refine blk_alloc ?_ _)); exact BK295.out⟩, ⟨by repeat (first | (with_reducible first | exact HB.out | apply below_alloc | apply pw_below_drewN | apply below_drew1 | refine below_set ?_ GE295.out) | exact HB.out)⟩⟩
                                        · replace c36 := Bool.eq_false_iff.mpr c36
                                          subst c36
                                          have H1 : (laws_FnFree.j3 kj14 l1 t279 t280 true) = some r := by rw [if_neg (show ¬ (false = true) by decide)] at H; exact H
                                          clear H
                                          have H := H1
                                          clear H1
                                          have H' := Aside0.mk H
                                          clear H
                                          go_wp2
                                          go_meet
                                          case rel => exact ⟨_, (true), (by first | rfl | (simp; done) | (simp [*]; done)), H', ⟨by have := HJ6.out; have := HK2.out; have := HJ14.out; first | omega | exact Nat.le_refl _⟩, ⟨by (with_reducible repeat (first | refine blk_drewN ?_ _ | refine blk_drew ?_ | refine blk_alloc ?_ _)); refine blk_put (cs := #[.string t292, .int .i64 0]) ?_ 1 _ rfl; (with_reducible repeat (first | refine blk_drewN ?_ _ | refine blk_drew ?_ | refine blk_alloc ?_ _)); refine blk_put (cs := #[.string (⟨#[]⟩ : ByteArray), .int .i64 0]) ?_ 0 _ rfl; (with_reducible repeat (first | refine blk_drewN ?_ _ | refine blk_drew ?_ | refine blk_alloc ?_ _)); exact BK295.out⟩, ⟨by repeat (first | (with_reducible first | exact HB.out | apply below_alloc | apply pw_below_drewN | apply below_drew1 | refine below_set ?_ GE295.out) | exact HB.out)⟩⟩
                                      · rw [if_neg c35] at H
                                        have c35b0 : (t290 == (x10_2.length : Int)) = false := beq_eq_false_iff_ne.mpr c35
                                        have c35b1 : (t290 != (x10_2.length : Int)) = true := bne_iff_ne.mpr c35
                                        (first | rw [c35b0] | (simp only [i64_w, i32_w]; rw [c35b0]) | skip)
                                        have H' := Aside0.mk H
                                        clear H
                                        go_wp2
                                        go_meet
                                        case rel => exact ⟨_, (true), (by first | rfl | (simp; done) | (simp [*]; done)), H', ⟨by have := HJ6.out; have := HK2.out; have := HJ14.out; first | omega | exact Nat.le_refl _⟩, ⟨by (with_reducible repeat (first | refine blk_drewN ?_ _ | refine blk_drew ?_ | refine blk_alloc ?_ _)); refine blk_put (cs := #[.string t292, .int .i64 0]) ?_ 1 _ rfl; (with_reducible repeat (first | refine blk_drewN ?_ _ | refine blk_drew ?_ | refine blk_alloc ?_ _)); refine blk_put (cs := #[.string (⟨#[]⟩ : ByteArray), .int .i64 0]) ?_ 0 _ rfl; (with_reducible repeat (first | refine blk_drewN ?_ _ | refine blk_drew ?_ | refine blk_alloc ?_ _)); exact BK295.out⟩, ⟨by repeat (first | (with_reducible first | exact HB.out | apply below_alloc | apply pw_below_drewN | apply below_drew1 | refine below_set ?_ GE295.out) | exact HB.out)⟩⟩
                                    · replace c34 := Bool.eq_false_iff.mpr c34
                                      subst c34
                                      have H1 : (laws_FnFree.j3 kj14 l1 t279 t280 true) = some r := by rw [if_neg (show ¬ (false = true) by decide)] at H; exact H
                                      clear H
                                      have H := H1
                                      clear H1
                                      have H' := Aside0.mk H
                                      clear H
                                      go_wp2
                                      go_meet
                                      case rel => exact ⟨_, (true), (by first | rfl | (simp; done) | (simp [*]; done)), H', ⟨by have := HJ6.out; have := HK2.out; have := HJ14.out; first | omega | exact Nat.le_refl _⟩, ⟨by (with_reducible repeat (first | refine blk_drewN ?_ _ | refine blk_drew ?_ | refine blk_alloc ?_ _)); refine blk_put (cs := #[.string t292, .int .i64 0]) ?_ 1 _ rfl; (with_reducible repeat (first | refine blk_drewN ?_ _ | refine blk_drew ?_ | refine blk_alloc ?_ _)); refine blk_put (cs := #[.string (⟨#[]⟩ : ByteArray), .int .i64 0]) ?_ 0 _ rfl; (with_reducible repeat (first | refine blk_drewN ?_ _ | refine blk_drew ?_ | refine blk_alloc ?_ _)); exact BK295.out⟩, ⟨by repeat (first | (with_reducible first | exact HB.out | apply below_alloc | apply pw_below_drewN | apply below_drew1 | refine below_set ?_ GE295.out) | exact HB.out)⟩⟩
                                  · replace c33 := Bool.eq_false_iff.mpr c33
                                    subst c33
                                    have H1 : (laws_FnFree.j3 kj14 l1 t279 t280 true) = some r := by rw [if_neg (show ¬ (false = true) by decide)] at H; exact H
                                    clear H
                                    have H := H1
                                    clear H1
                                    have H' := Aside0.mk H
                                    clear H
                                    go_wp2
                                    go_meet
                                    case rel => exact ⟨_, (true), (by first | rfl | (simp; done) | (simp [*]; done)), H', ⟨by have := HJ6.out; have := HK2.out; have := HJ14.out; first | omega | exact Nat.le_refl _⟩, ⟨by (with_reducible repeat (first | refine blk_drewN ?_ _ | refine blk_drew ?_ | refine blk_alloc ?_ _)); refine blk_put (cs := #[.string t292, .int .i64 0]) ?_ 1 _ rfl; (with_reducible repeat (first | refine blk_drewN ?_ _ | refine blk_drew ?_ | refine blk_alloc ?_ _)); refine blk_put (cs := #[.string (⟨#[]⟩ : ByteArray), .int .i64 0]) ?_ 0 _ rfl; (with_reducible repeat (first | refine blk_drewN ?_ _ | refine blk_drew ?_ | refine blk_alloc ?_ _)); exact BK295.out⟩, ⟨by repeat (first | (with_reducible first | exact HB.out | apply below_alloc | apply pw_below_drewN | apply below_drew1 | refine below_set ?_ GE295.out) | exact HB.out)⟩⟩
                              case rest =>
                                as_aux_lemma =>
                                  clear HC26
                                  try clear c1
                                  try clear c2
                                  try clear p2
                                  try clear q2
                                  try clear hx2
                                  try clear c3
                                  try clear c3b0
                                  try clear p6
                                  try clear c10
                                  try clear c11
                                  try clear c11b0
                                  try clear c11b1
                                  try clear c11b2
                                  try clear c12
                                  try clear c14
                                  try clear c15
                                  try clear c16
                                  try clear c16b0
                                  try clear c17
                                  try clear c18
                                  try clear c18b0
                                  try clear c19
                                  try clear c19b0
                                  try clear c20
                                  try clear c20b0
                                  try clear c21
                                  try clear c22
                                  try clear c23
                                  try clear c27
                                  try clear p28
                                  try clear q28
                                  try clear hx28
                                  try clear c30
                                  try clear c33
                                  try clear c34
                                  try clear c35
                                  try clear c35b0
                                  try clear c35b1
                                  try clear c36
                                  try clear c37
                                  try clear c37b0
                                  try clear c37b1
                                  try clear hcz32_0
                                  try clear hcz32_1
                                  try clear hcz38_0
                                  try clear hcz38_1
                                  try clear hcz39_0
                                  try clear hcz39_1
                                  try clear hfz32_0
                                  try clear hfz32_1
                                  try clear hfz38_0
                                  try clear hfz38_1
                                  try clear hfz39_0
                                  try clear hfz39_1
                                  try clear hx284_0
                                  try clear p2
                                  try clear p284
                                  try clear p6
                                  try clear q284
                                  obtain ⟨kq, x133_25, rfl, HA, HJ25, BK295, HB⟩ := hcut
                                  cases kq with
                                  | zero => exact absurd HA.out (by simp [laws_FnFree.j3])
                                  | succ kj25 =>
                                    have H := HA.out
                                    clear HA
                                    simp only [laws_FnFree.j3] at H
                                    by_cases c40 : x133_25 = true
                                    · subst c40
                                      have H1 : (some false) = some r := by rw [if_pos rfl] at H; exact H
                                      clear H
                                      have H := H1
                                      clear H1
                                      obtain rfl := Option.some.inj H
                                      go_wp2
                                      go_ret
                                      exact ⟨by first | rfl | (simp [errW_none, errW_some] <;> rfl) | (simp [*, errW_none, errW_some] <;> rfl), by repeat (first | (with_reducible first | exact HB.out | apply below_alloc | apply pw_below_drewN | apply below_drew1 | refine below_set ?_ GE295.out) | exact HB.out)⟩
                                    · replace c40 := Bool.eq_false_iff.mpr c40
                                      subst c40
                                      have H1 : (laws_FnFree.l1 kj25 l1 t279 t280 0 (⟨#[]⟩ : ByteArray) 0) = some r := by rw [if_neg (show ¬ (false = true) by decide)] at H; exact H
                                      clear H
                                      have H := H1
                                      clear H1
                                      have H' := Aside0.mk H
                                      clear H
                                      go_wp2
                                      go_loopg [19, 20, 21] kj25 (fun kq v19 v20 v21 w' => ∃ (x19_5 : Int) (x20_5 : ByteArray) (x21_5 : Int), v19 = .int .i64 x19_5 ∧ v20 = .string x20_5 ∧ v21 = .int .i64 x21_5 ∧ Aside0 (laws_FnFree.l1 kq l1 t279 t280 x19_5 x20_5 x21_5 = some r) ∧ Aside0 (kq ≤ kj25) ∧ Aside0 (w'.heap[gb295]? = some (.cells #[.string t292, .int .i64 t293] 39 (0, 0))) ∧ Aside0 (Below w.heap.size w w'))
                                      case atStart => exact ⟨(0), ((⟨#[]⟩ : ByteArray)), (0), (by first | rfl | (simp; done) | (simp [*]; done)), (by first | rfl | (simp; done) | (simp [*]; done)), (by first | rfl | (simp; done) | (simp [*]; done)), H', ⟨Nat.le_refl _⟩, ⟨by (with_reducible repeat (first | refine blk_drewN ?_ _ | refine blk_drew ?_ | refine blk_alloc ?_ _)); exact BK295.out⟩, ⟨by repeat (first | (with_reducible first | exact HB.out | apply below_alloc | apply pw_below_drewN | apply below_drew1 | refine below_set ?_ GE295.out) | exact HB.out)⟩⟩
                                      case round =>
                                        clear H'
                                        try clear c1
                                        try clear c2
                                        try clear p2
                                        try clear q2
                                        try clear hx2
                                        try clear c3
                                        try clear c3b0
                                        try clear c4
                                        try clear p6
                                        try clear c10
                                        try clear c11
                                        try clear c11b0
                                        try clear c11b1
                                        try clear c11b2
                                        try clear c12
                                        try clear c14
                                        try clear c15
                                        try clear c16
                                        try clear c16b0
                                        try clear c17
                                        try clear c18
                                        try clear c18b0
                                        try clear c19
                                        try clear c19b0
                                        try clear c20
                                        try clear c20b0
                                        try clear c21
                                        try clear c22
                                        try clear c23
                                        try clear c27
                                        try clear p28
                                        try clear q28
                                        try clear hx28
                                        try clear c30
                                        try clear c33
                                        try clear c34
                                        try clear c35
                                        try clear c35b0
                                        try clear c35b1
                                        try clear c36
                                        try clear c37
                                        try clear c37b0
                                        try clear c37b1
                                        try clear c40
                                        try clear hcz32_0
                                        try clear hcz32_1
                                        try clear hcz38_0
                                        try clear hcz38_1
                                        try clear hcz39_0
                                        try clear hcz39_1
                                        try clear hfz32_0
                                        try clear hfz32_1
                                        try clear hfz38_0
                                        try clear hfz38_1
                                        try clear hfz39_0
                                        try clear hfz39_1
                                        try clear hx284_0
                                        try clear p2
                                        try clear p28
                                        try clear p284
                                        try clear p6
                                        try clear q2
                                        try clear q28
                                        try clear q284
                                        obtain ⟨x19_5, x20_5, x21_5, rfl, rfl, rfl, HA, HK5, BK295, HB⟩ := hrel
                                        cases gk with
                                        | zero => exact absurd HA.out (by simp [laws_FnFree.l1])
                                        | succ k5 =>
                                          have H := HA.out
                                          clear HA
                                          simp only [laws_FnFree.l1] at H
                                          by_cases c41 : x21_5 < (wrap64 ((t279.size : Int) + 2))
                                          · rw [if_pos c41] at H
                                            have c41b0 : decide (x21_5 < (wrap64 ((t279.size : Int) + 2))) = true := decide_eq_true c41
                                            clear c41
                                            have HC42 := Aside0.mk H
                                            clear H
                                            go_upto_region 28 with (fail)
                                            go_cut [150] (fun v150 wc => ∃ (kq : Nat) (x150_41 : Bool), v150 = .bool x150_41 ∧ Aside0 (laws_FnFree.j5 kq l1 t279 t280 x19_5 x20_5 x21_5 0 x150_41 = some r) ∧ Aside0 (kq ≤ k5) ∧ Aside0 (wc.heap[gb295]? = some (.cells #[.string t292, .int .i64 t293] 39 (0, 0))) ∧ Aside0 (Below w.heap.size w wc))
                                            case first =>
                                              as_aux_lemma =>
                                                have H := HC42.out
                                                clear HC42
                                                by_cases c43 : x21_5 < (t279.size : Int)
                                                · rw [if_pos c43] at H
                                                  have c43b0 : decide (x21_5 < (t279.size : Int)) = true := decide_eq_true c43
                                                  clear c43
                                                  (first | rw [c43b0] | (simp only [i64_w, i32_w]; rw [c43b0]) | skip)
                                                  by_cases c44 : 0 ≤ x21_5
                                                  · rw [if_pos c44] at H
                                                    have c44b0 : decide (0 ≤ x21_5) = true := decide_eq_true c44
                                                    clear c44
                                                    have H' := Aside0.mk H
                                                    clear H
                                                    have p45 : 0 ≤ (x21_5 : Int) := of_decide_eq_true (by first | (with_reducible assumption) | assumption)
                                                    have q45 : x21_5 < (t279.size : Int) := of_decide_eq_true (by first | (with_reducible assumption) | assumption)
                                                    have hx45 := bt_at t279 x21_5
                                                    replace p45 := eq_true p45
                                                    replace q45 := eq_true q45
                                                    go_wp2
                                                    go_meet
                                                    case rel => exact ⟨_, (((bt t279 x21_5) == 49)), (by first | rfl | (simp; done) | (simp [*]; done)), H', ⟨by have := HJ6.out; have := HK2.out; have := HJ14.out; have := HJ25.out; have := HK5.out; first | omega | exact Nat.le_refl _⟩, ⟨by (with_reducible repeat (first | refine blk_drewN ?_ _ | refine blk_drew ?_ | refine blk_alloc ?_ _)); exact BK295.out⟩, ⟨by repeat (first | (with_reducible first | exact HB.out | apply below_alloc | apply pw_below_drewN | apply below_drew1 | refine below_set ?_ GE295.out) | exact HB.out)⟩⟩
                                                  · rw [if_neg c44] at H
                                                    exact absurd H (by simp)
                                                · rw [if_neg c43] at H
                                                  have c43b0 : decide (x21_5 < (t279.size : Int)) = false := decide_eq_false c43
                                                  clear c43
                                                  (first | rw [c43b0] | (simp only [i64_w, i32_w]; rw [c43b0]) | skip)
                                                  have H' := Aside0.mk H
                                                  clear H
                                                  go_wp2
                                                  go_meet
                                                  case rel => exact ⟨_, (false), (by first | rfl | (simp; done) | (simp [*]; done)), H', ⟨by have := HJ6.out; have := HK2.out; have := HJ14.out; have := HJ25.out; have := HK5.out; first | omega | exact Nat.le_refl _⟩, ⟨by (with_reducible repeat (first | refine blk_drewN ?_ _ | refine blk_drew ?_ | refine blk_alloc ?_ _)); exact BK295.out⟩, ⟨by repeat (first | (with_reducible first | exact HB.out | apply below_alloc | apply pw_below_drewN | apply below_drew1 | refine below_set ?_ GE295.out) | exact HB.out)⟩⟩
                                            case rest =>
                                              as_aux_lemma =>
                                                clear HC42
                                                try clear c1
                                                try clear c2
                                                try clear p2
                                                try clear q2
                                                try clear hx2
                                                try clear c3
                                                try clear c3b0
                                                try clear c4
                                                try clear p4
                                                try clear q4
                                                try clear hx4
                                                try clear p6
                                                try clear c10
                                                try clear c11
                                                try clear c11b0
                                                try clear c11b1
                                                try clear c11b2
                                                try clear c12
                                                try clear c14
                                                try clear c15
                                                try clear c16
                                                try clear c16b0
                                                try clear c17
                                                try clear c18
                                                try clear c18b0
                                                try clear c19
                                                try clear c19b0
                                                try clear c20
                                                try clear c20b0
                                                try clear c21
                                                try clear c22
                                                try clear c23
                                                try clear c27
                                                try clear p28
                                                try clear q28
                                                try clear hx28
                                                try clear c30
                                                try clear c33
                                                try clear c34
                                                try clear c35
                                                try clear c35b0
                                                try clear c35b1
                                                try clear c36
                                                try clear c37
                                                try clear c37b0
                                                try clear c37b1
                                                try clear c40
                                                try clear c41
                                                try clear c41b0
                                                try clear c43
                                                try clear c43b0
                                                try clear c44
                                                try clear c44b0
                                                try clear p45
                                                try clear q45
                                                try clear hx45
                                                try clear hcz32_0
                                                try clear hcz32_1
                                                try clear hcz38_0
                                                try clear hcz38_1
                                                try clear hcz39_0
                                                try clear hcz39_1
                                                try clear hfz32_0
                                                try clear hfz32_1
                                                try clear hfz38_0
                                                try clear hfz38_1
                                                try clear hfz39_0
                                                try clear hfz39_1
                                                try clear hx284_0
                                                try clear p2
                                                try clear p28
                                                try clear p284
                                                try clear p45
                                                try clear p6
                                                try clear q2
                                                try clear q28
                                                try clear q284
                                                try clear q45
                                                obtain ⟨kq, x150_41, rfl, HA, HJ41, BK295, HB⟩ := hcut
                                                cases kq with
                                                | zero => exact absurd HA.out (by simp [laws_FnFree.j5])
                                                | succ kj41 =>
                                                  have H := HA.out
                                                  clear HA
                                                  simp only [laws_FnFree.j5] at H
                                                  by_cases c46 : x150_41 = true
                                                  · subst c46
                                                    have H1 : ((impl_OutputsAt.f x19_5 1).bind fun bt296 => (if bt296.2.2 = true then (if x20_5.size + bt296.1.size ≤ 9223372036854775807 then (laws_FnFree.l1 kj41 l1 t279 t280 bt296.2.1 (x20_5 ++ bt296.1) (wrap64 (x21_5 + 1))) else (none)) else (some false))) = some r := by rw [if_pos rfl] at H; exact H
                                                    clear H
                                                    have H := H1
                                                    clear H1
                                                    replace H := Option.bind_eq_some_iff.mp H
                                                    obtain ⟨⟨t296, t297, t298⟩, A470, H⟩ := H
                                                    replace H : (if t298 = true then (if x20_5.size + t296.size ≤ 9223372036854775807 then (laws_FnFree.l1 kj41 l1 t279 t280 t297 (x20_5 ++ t296) (wrap64 (x21_5 + 1))) else (none)) else (some false)) = some r := H
                                                    have A47 := Aside0.mk A470
                                                    clear A470
                                                    by_cases c48 : t298 = true
                                                    · subst c48
                                                      have H1 : (if x20_5.size + t296.size ≤ 9223372036854775807 then (laws_FnFree.l1 kj41 l1 t279 t280 t297 (x20_5 ++ t296) (wrap64 (x21_5 + 1))) else (none)) = some r := by rw [if_pos rfl] at H; exact H
                                                      clear H
                                                      have H := H1
                                                      clear H1
                                                      by_cases c49 : x20_5.size + t296.size ≤ 9223372036854775807
                                                      · rw [if_pos c49] at H
                                                        have c49b0 := eq_true c49
                                                        have c49b1 : decide (x20_5.size + t296.size ≤ 9223372036854775807) = true := decide_eq_true c49
                                                        try have c49b2 : (9223372036854775807 < x20_5.size + t296.size) = False := eq_false (Nat.not_lt.2 c49)
                                                        try (have c49b3 := c49b2; simp only [ByteArray.size_append] at c49b3)
                                                        have H' := Aside0.mk H
                                                        clear H
                                                        go_wp2_with (first | ((with_reducible refine gate_callee (f := 31) rfl ?_); refine goesL_ (some 154) rfl rfl Tryd.func31 (by kernel_rfl) rfl #[.int .i64 x19_5, .int .i64 1] rfl (by (try simp only [List.map_toArray, List.map_cons, List.map_nil]); first | done | rfl | (simp only [List.length_drop, List.length_take]; rfl)) ?_; (with_reducible refine (impl_OutputsAt.calls x19_5 1 t296 t297 true _ A47.out).mono ?_); rintro e w50 ⟨rfl, hb⟩; refine ⟨_, rfl, ?_⟩; have n0_ := Aside0.mk (blk_below (g := gb295) (o := .cells #[.string t292, .int .i64 t293] 39 (0, 0)) (by (with_reducible repeat (first | refine blk_drewN ?_ _ | refine blk_drew ?_ | refine blk_alloc ?_ _)); exact BK295.out) hb); have n1_ := Aside0.mk (below_step (by repeat (first | (with_reducible first | exact HB.out | apply below_alloc | apply pw_below_drewN | apply below_drew1 | refine below_set ?_ GE295.out) | exact HB.out)) hb); clear BK295; clear HB; have BK295 := n0_; have HB := n1_; clear n0_ n1_; (try clear hb); (try clear hb2); (try clear hk); (try clear hi)))
                                                        go_roundg kj41
                                                        case measure => have := HJ6.out; have := HK2.out; have := HJ14.out; have := HJ25.out; have := HK5.out; have := HJ41.out; omega
                                                        case rel => exact ⟨(t297), (x20_5 ++ t296), (wrap64 (x21_5 + 1)), (by first | rfl | (simp; done) | (simp [*]; done)), (by first | rfl | (simp; done) | (simp [*]; done)), (by first | rfl | (simp; done) | (simp [*]; done)), H', ⟨by have := HJ6.out; have := HK2.out; have := HJ14.out; have := HJ25.out; have := HK5.out; have := HJ41.out; omega⟩, ⟨by (with_reducible repeat (first | refine blk_drewN ?_ _ | refine blk_drew ?_ | refine blk_alloc ?_ _)); exact BK295.out⟩, ⟨by repeat (first | (with_reducible first | exact HB.out | apply below_alloc | apply pw_below_drewN | apply below_drew1 | refine below_set ?_ GE295.out) | exact HB.out)⟩⟩
                                                      · rw [if_neg c49] at H
                                                        exact absurd H (by simp)
                                                    · replace c48 := Bool.eq_false_iff.mpr c48
                                                      subst c48
                                                      have H1 : (some false) = some r := by rw [if_neg (show ¬ (false = true) by decide)] at H; exact H
                                                      clear H
                                                      have H := H1
                                                      clear H1
                                                      obtain rfl := Option.some.inj H
                                                      go_wp2_with (first | ((with_reducible refine gate_callee (f := 31) rfl ?_); refine goesL_ (some 154) rfl rfl Tryd.func31 (by kernel_rfl) rfl #[.int .i64 x19_5, .int .i64 1] rfl (by (try simp only [List.map_toArray, List.map_cons, List.map_nil]); first | done | rfl | (simp only [List.length_drop, List.length_take]; rfl)) ?_; (with_reducible refine (impl_OutputsAt.calls x19_5 1 t296 t297 false _ A47.out).mono ?_); rintro e w51 ⟨rfl, hb⟩; refine ⟨_, rfl, ?_⟩; have n0_ := Aside0.mk (blk_below (g := gb295) (o := .cells #[.string t292, .int .i64 t293] 39 (0, 0)) (by (with_reducible repeat (first | refine blk_drewN ?_ _ | refine blk_drew ?_ | refine blk_alloc ?_ _)); exact BK295.out) hb); have n1_ := Aside0.mk (below_step (by repeat (first | (with_reducible first | exact HB.out | apply below_alloc | apply pw_below_drewN | apply below_drew1 | refine below_set ?_ GE295.out) | exact HB.out)) hb); clear BK295; clear HB; have BK295 := n0_; have HB := n1_; clear n0_ n1_; (try clear hb); (try clear hb2); (try clear hk); (try clear hi)))
                                                      go_ret
                                                      exact ⟨by first | rfl | (simp [errW_none, errW_some] <;> rfl) | (simp [*, errW_none, errW_some] <;> rfl), by repeat (first | (with_reducible first | exact HB.out | apply below_alloc | apply pw_below_drewN | apply below_drew1 | refine below_set ?_ GE295.out) | exact HB.out)⟩
                                                  · replace c46 := Bool.eq_false_iff.mpr c46
                                                    subst c46
                                                    have H1 : ((impl_OutputsAt.f x19_5 0).bind fun bt299 => (if bt299.2.2 = true then (if x20_5.size + bt299.1.size ≤ 9223372036854775807 then (laws_FnFree.l1 kj41 l1 t279 t280 bt299.2.1 (x20_5 ++ bt299.1) (wrap64 (x21_5 + 1))) else (none)) else (some false))) = some r := by rw [if_neg (show ¬ (false = true) by decide)] at H; exact H
                                                    clear H
                                                    have H := H1
                                                    clear H1
                                                    replace H := Option.bind_eq_some_iff.mp H
                                                    obtain ⟨⟨t299, t300, t301⟩, A520, H⟩ := H
                                                    replace H : (if t301 = true then (if x20_5.size + t299.size ≤ 9223372036854775807 then (laws_FnFree.l1 kj41 l1 t279 t280 t300 (x20_5 ++ t299) (wrap64 (x21_5 + 1))) else (none)) else (some false)) = some r := H
                                                    have A52 := Aside0.mk A520
                                                    clear A520
                                                    by_cases c53 : t301 = true
                                                    · subst c53
                                                      have H1 : (if x20_5.size + t299.size ≤ 9223372036854775807 then (laws_FnFree.l1 kj41 l1 t279 t280 t300 (x20_5 ++ t299) (wrap64 (x21_5 + 1))) else (none)) = some r := by rw [if_pos rfl] at H; exact H
                                                      clear H
                                                      have H := H1
                                                      clear H1
                                                      by_cases c54 : x20_5.size + t299.size ≤ 9223372036854775807
                                                      · rw [if_pos c54] at H
                                                        have c54b0 := eq_true c54
                                                        have c54b1 : decide (x20_5.size + t299.size ≤ 9223372036854775807) = true := decide_eq_true c54
                                                        try have c54b2 : (9223372036854775807 < x20_5.size + t299.size) = False := eq_false (Nat.not_lt.2 c54)
                                                        try (have c54b3 := c54b2; simp only [ByteArray.size_append] at c54b3)
                                                        have H' := Aside0.mk H
                                                        clear H
                                                        go_wp2_with (first | ((with_reducible refine gate_callee (f := 31) rfl ?_); refine goesL_ (some 154) rfl rfl Tryd.func31 (by kernel_rfl) rfl #[.int .i64 x19_5, .int .i64 0] rfl (by (try simp only [List.map_toArray, List.map_cons, List.map_nil]); first | done | rfl | (simp only [List.length_drop, List.length_take]; rfl)) ?_; (with_reducible refine (impl_OutputsAt.calls x19_5 0 t299 t300 true _ A52.out).mono ?_); rintro e w55 ⟨rfl, hb⟩; refine ⟨_, rfl, ?_⟩; have n0_ := Aside0.mk (blk_below (g := gb295) (o := .cells #[.string t292, .int .i64 t293] 39 (0, 0)) (by (with_reducible repeat (first | refine blk_drewN ?_ _ | refine blk_drew ?_ | refine blk_alloc ?_ _)); exact BK295.out) hb); have n1_ := Aside0.mk (below_step (by repeat (first | (with_reducible first | exact HB.out | apply below_alloc | apply pw_below_drewN | apply below_drew1 | refine below_set ?_ GE295.out) | exact HB.out)) hb); clear BK295; clear HB; have BK295 := n0_; have HB := n1_; clear n0_ n1_; (try clear hb); (try clear hb2); (try clear hk); (try clear hi)))
                                                        go_roundg kj41
                                                        case measure => have := HJ6.out; have := HK2.out; have := HJ14.out; have := HJ25.out; have := HK5.out; have := HJ41.out; omega
                                                        case rel => exact ⟨(t300), (x20_5 ++ t299), (wrap64 (x21_5 + 1)), (by first | rfl | (simp; done) | (simp [*]; done)), (by first | rfl | (simp; done) | (simp [*]; done)), (by first | rfl | (simp; done) | (simp [*]; done)), H', ⟨by have := HJ6.out; have := HK2.out; have := HJ14.out; have := HJ25.out; have := HK5.out; have := HJ41.out; omega⟩, ⟨by (with_reducible repeat (first | refine blk_drewN ?_ _ | refine blk_drew ?_ | refine blk_alloc ?_ _)); exact BK295.out⟩, ⟨by repeat (first | (with_reducible first | exact HB.out | apply below_alloc | apply pw_below_drewN | apply below_drew1 | refine below_set ?_ GE295.out) | exact HB.out)⟩⟩
                                                      · rw [if_neg c54] at H
                                                        exact absurd H (by simp)
                                                    · replace c53 := Bool.eq_false_iff.mpr c53
                                                      subst c53
                                                      have H1 : (some false) = some r := by rw [if_neg (show ¬ (false = true) by decide)] at H; exact H
                                                      clear H
                                                      have H := H1
                                                      clear H1
                                                      obtain rfl := Option.some.inj H
                                                      go_wp2_with (first | ((with_reducible refine gate_callee (f := 31) rfl ?_); refine goesL_ (some 154) rfl rfl Tryd.func31 (by kernel_rfl) rfl #[.int .i64 x19_5, .int .i64 0] rfl (by (try simp only [List.map_toArray, List.map_cons, List.map_nil]); first | done | rfl | (simp only [List.length_drop, List.length_take]; rfl)) ?_; (with_reducible refine (impl_OutputsAt.calls x19_5 0 t299 t300 false _ A52.out).mono ?_); rintro e w56 ⟨rfl, hb⟩; refine ⟨_, rfl, ?_⟩; have n0_ := Aside0.mk (blk_below (g := gb295) (o := .cells #[.string t292, .int .i64 t293] 39 (0, 0)) (by (with_reducible repeat (first | refine blk_drewN ?_ _ | refine blk_drew ?_ | refine blk_alloc ?_ _)); exact BK295.out) hb); have n1_ := Aside0.mk (below_step (by repeat (first | (with_reducible first | exact HB.out | apply below_alloc | apply pw_below_drewN | apply below_drew1 | refine below_set ?_ GE295.out) | exact HB.out)) hb); clear BK295; clear HB; have BK295 := n0_; have HB := n1_; clear n0_ n1_; (try clear hb); (try clear hb2); (try clear hk); (try clear hi)))
                                                      go_ret
                                                      exact ⟨by first | rfl | (simp [errW_none, errW_some] <;> rfl) | (simp [*, errW_none, errW_some] <;> rfl), by repeat (first | (with_reducible first | exact HB.out | apply below_alloc | apply pw_below_drewN | apply below_drew1 | refine below_set ?_ GE295.out) | exact HB.out)⟩
                                          · rw [if_neg c41] at H
                                            have c41b0 : decide (x21_5 < (wrap64 ((t279.size : Int) + 2))) = false := decide_eq_false c41
                                            clear c41
                                            by_cases c57 : x20_5.toList = t280.toList
                                            · rw [if_pos c57] at H
                                              have c57b0 : (x20_5.toList == t280.toList) = true := beq_iff_eq.mpr c57
                                              have c57b1 : (x20_5.toList != t280.toList) = false := bne_eq_false_iff_eq.mpr c57
                                              clear c57
                                              by_cases c58 : x19_5 = 0
                                              · rw [if_pos c58] at H
                                                have c58b0 : (x19_5 == 0) = true := beq_iff_eq.mpr c58
                                                have c58b1 : (x19_5 != 0) = false := bne_eq_false_iff_eq.mpr c58
                                                clear c58
                                                have H' := Aside0.mk H
                                                clear H
                                                go_wp2
                                                go_meet
                                                case rel => exact ⟨_, H', ⟨by have := HJ6.out; have := HK2.out; have := HJ14.out; have := HJ25.out; have := HK5.out; first | omega | exact Nat.le_refl _⟩, ⟨by repeat (first | (with_reducible first | exact HB.out | apply below_alloc | apply pw_below_drewN | apply below_drew1 | refine below_set ?_ GE295.out) | exact HB.out)⟩⟩
                                              · rw [if_neg c58] at H
                                                have c58b0 : (x19_5 == 0) = false := beq_eq_false_iff_ne.mpr c58
                                                have c58b1 : (x19_5 != 0) = true := bne_iff_ne.mpr c58
                                                obtain rfl := Option.some.inj H
                                                go_wp2
                                                go_ret
                                                exact ⟨by first | rfl | (simp [errW_none, errW_some] <;> rfl) | (simp [*, errW_none, errW_some] <;> rfl), by repeat (first | (with_reducible first | exact HB.out | apply below_alloc | apply pw_below_drewN | apply below_drew1 | refine below_set ?_ GE295.out) | exact HB.out)⟩
                                            · rw [if_neg c57] at H
                                              have c57b0 : (x20_5.toList == t280.toList) = false := beq_eq_false_iff_ne.mpr c57
                                              have c57b1 : (x20_5.toList != t280.toList) = true := bne_iff_ne.mpr c57
                                              obtain rfl := Option.some.inj H
                                              go_wp2
                                              go_ret
                                              exact ⟨by first | rfl | (simp [errW_none, errW_some] <;> rfl) | (simp [*, errW_none, errW_some] <;> rfl), by repeat (first | (with_reducible first | exact HB.out | apply below_alloc | apply pw_below_drewN | apply below_drew1 | refine below_set ?_ GE295.out) | exact HB.out)⟩
                · replace c14 := Bool.eq_false_iff.mpr c14
                  subst c14
                  have H1 : (laws_FnFree.j6 kj6 l1) = some r := by rw [if_neg (show ¬ (false = true) by decide)] at H; exact H
                  clear H
                  have H := H1
                  clear H1
                  have H' := Aside0.mk H
                  clear H
                  go_wp2
                  go_meet
                  case rel => exact ⟨_, H', ⟨by have := HJ6.out; first | omega | exact Nat.le_refl _⟩, ⟨by repeat (first | (with_reducible first | exact HB.out | apply below_alloc | apply pw_below_drewN | apply below_drew1) | exact HB.out)⟩⟩
            case rest =>
              as_aux_lemma =>
                clear HC13
                try clear c1
                try clear c2
                try clear p2
                try clear q2
                try clear hx2
                try clear c3
                try clear c3b0
                try clear c4
                try clear p4
                try clear q4
                try clear hx4
                try clear c5
                try clear p6
                try clear c10
                try clear c11
                try clear c11b0
                try clear c11b1
                try clear c11b2
                try clear c12
                try clear c14
                try clear c15
                try clear c16
                try clear c16b0
                try clear c17
                try clear c18
                try clear c18b0
                try clear c19
                try clear c19b0
                try clear c20
                try clear c20b0
                try clear c21
                try clear c22
                try clear c23
                try clear c27
                try clear p28
                try clear q28
                try clear hx28
                try clear c30
                try clear c31
                try clear c33
                try clear c34
                try clear c35
                try clear c35b0
                try clear c35b1
                try clear c36
                try clear c37
                try clear c37b0
                try clear c37b1
                try clear c40
                try clear c41
                try clear c41b0
                try clear c43
                try clear c43b0
                try clear c44
                try clear c44b0
                try clear p45
                try clear q45
                try clear hx45
                try clear c46
                try clear c48
                try clear c49
                try clear c49b0
                try clear c49b1
                try clear c49b2
                try clear c53
                try clear c54
                try clear c54b0
                try clear c54b1
                try clear c54b2
                try clear c57
                try clear c57b0
                try clear c57b1
                try clear c58
                try clear c58b0
                try clear c58b1
                try clear hcz32_0
                try clear hcz32_1
                try clear hcz38_0
                try clear hcz38_1
                try clear hcz39_0
                try clear hcz39_1
                try clear hfz32_0
                try clear hfz32_1
                try clear hfz38_0
                try clear hfz38_1
                try clear hfz39_0
                try clear hfz39_1
                try clear hx284_0
                try clear p2
                try clear p28
                try clear p284
                try clear p4
                try clear p45
                try clear p6
                try clear q2
                try clear q28
                try clear q284
                try clear q4
                try clear q45
                obtain ⟨kq, HA, HJ12, HB⟩ := hcut
                cases kq with
                | zero => exact absurd HA.out (by simp [laws_FnFree.j6])
                | succ kj12 =>
                  have H := HA.out
                  clear HA
                  simp only [laws_FnFree.j6] at H
                  replace H := Option.bind_eq_some_iff.mp H
                  obtain ⟨⟨t302, t303⟩, A590, H⟩ := H
                  replace H : ((impl_FlipBits.f kj12 t302 t303).bind fun bt306 => ((spec_FlipBits.f kj12 t302 t303).bind fun bt308 => (if (bt306.2 != bt308.2) = true then (some false) else (if bt306.1.toList = bt308.1.toList then ((impl_FlipBits.f kj12 bt306.1 t303).bind fun bt310 => (if bt306.2 = true then (if bt310.2 = true then (some (bt310.1.toList == t302.toList)) else (some false)) else (some true))) else (some false))))) = some r := H
                  have A59 := Aside0.mk A590
                  clear A590
                  replace H := Option.bind_eq_some_iff.mp H
                  obtain ⟨⟨t306, t307⟩, A600, H⟩ := H
                  replace H : ((spec_FlipBits.f kj12 t302 t303).bind fun bt308 => (if (t307 != bt308.2) = true then (some false) else (if t306.toList = bt308.1.toList then ((impl_FlipBits.f kj12 t306 t303).bind fun bt310 => (if t307 = true then (if bt310.2 = true then (some (bt310.1.toList == t302.toList)) else (some false)) else (some true))) else (some false)))) = some r := H
                  have A60 := Aside0.mk A600
                  clear A600
                  replace H := Option.bind_eq_some_iff.mp H
                  obtain ⟨⟨t308, t309⟩, A610, H⟩ := H
                  replace H : (if (t307 != t309) = true then (some false) else (if t306.toList = t308.toList then ((impl_FlipBits.f kj12 t306 t303).bind fun bt310 => (if t307 = true then (if bt310.2 = true then (some (bt310.1.toList == t302.toList)) else (some false)) else (some true))) else (some false))) = some r := H
                  have A61 := Aside0.mk A610
                  clear A610
                  by_cases c62 : (t307 != t309) = true
                  · rw [if_pos c62] at H
                    have c62b0 : (t307 != t309) = true := c62
                    (try (have c62b1 : decide (t307 = t309) = false := by simpa using c62))
                    (try (have c62b2 : (t307 == t309) = false := by simpa using c62))
                    (try (have c62b3 : ¬ (t307 = t309) := by simpa using c62))
                    clear c62
                    obtain rfl := Option.some.inj H
                    go_wp2_with (first | ((with_reducible refine gate_callee (f := 32) rfl ?_); refine goesL_ (some 173) rfl rfl Tryd.func32 (by kernel_rfl) rfl #[.slice A1 l1.length c1] rfl (by (try simp only [List.map_toArray, List.map_cons, List.map_nil]); first | done | rfl | (simp only [List.length_drop, List.length_take]; rfl)) ?_; (with_reducible refine (spec_DrawFlipBits.calls kj12 _ _ l1 t302 t303 _ ?side1 ?side2 A59.out).mono ?_); (case side1 => repeat (first | exact (Kd.C_below HR1.out HB.out) | (with_reducible refine Kd.C_alloc ?_ _) | (with_reducible refine Kd.C_drewN ?_ _) | (with_reducible refine Kd.C_drew ?_))); (case side2 => exact HC1.out); rintro e w63 ⟨v304, rfl, ho0, hb⟩; refine ⟨_, rfl, ?_⟩; have n0_ := Aside0.mk (Kd.R_lower ho0 (below_size (by repeat (first | (with_reducible first | exact HB.out | apply below_alloc | apply pw_below_drewN | apply below_drew1) | exact HB.out)))); have n1_ := Aside0.mk (below_step (by repeat (first | (with_reducible first | exact HB.out | apply below_alloc | apply pw_below_drewN | apply below_drew1) | exact HB.out)) hb); clear HB; have HO305 := n0_; have HB := n1_; clear n0_ n1_; (try clear hb); (try clear hb2); (try clear hk); (try clear hi); (try clear ho0); obtain ⟨Ao64, co64, eo64⟩ := Kd.R_slice HO305.out; subst eo64) | ((with_reducible refine gate_callee (f := 15) rfl ?_); refine goesL_ (some 179) rfl rfl Tryd.func15 (by kernel_rfl) rfl #[.string t302, .slice Ao64 t303.length co64] rfl (by (try simp only [List.map_toArray, List.map_cons, List.map_nil]); first | done | rfl | (simp only [List.length_drop, List.length_take]; rfl)) ?_; (with_reducible refine (impl_FlipBits.calls kj12 t302 _ _ t303 t306 t307 _ ?side1 ?side2 A60.out).mono ?_); (case side1 => repeat (first | exact (Kd.R_reads' HO305.out).2.2 | (with_reducible refine Kd.C_alloc ?_ _) | (with_reducible refine Kd.C_drewN ?_ _) | (with_reducible refine Kd.C_drew ?_))); (case side2 => exact (Kd.R_reads' HO305.out).2.1); rintro e w65 ⟨rfl, hb⟩; refine ⟨_, rfl, ?_⟩; have n0_ := Aside0.mk (Kd.R_below (by (with_reducible repeat (first | apply Kd.R_alloc | apply Kd.R_drewN | apply Kd.R_drew)); exact HO305.out) hb); have n1_ := Aside0.mk (below_step (by repeat (first | (with_reducible first | exact HB.out | apply below_alloc | apply pw_below_drewN | apply below_drew1) | exact HB.out)) hb); clear HO305; clear HB; have HO305 := n0_; have HB := n1_; clear n0_ n1_; (try clear hb); (try clear hb2); (try clear hk); (try clear hi)) | ((with_reducible refine gate_callee (f := 13) rfl ?_); refine goesL_ (some 185) rfl rfl Tryd.func13 (by kernel_rfl) rfl #[.string t302, .slice Ao64 t303.length co64] rfl (by (try simp only [List.map_toArray, List.map_cons, List.map_nil]); first | done | rfl | (simp only [List.length_drop, List.length_take]; rfl)) ?_; (with_reducible refine (spec_FlipBits.calls kj12 t302 _ _ t303 t308 t309 _ ?side1 ?side2 A61.out).mono ?_); (case side1 => repeat (first | exact (Kd.R_reads' HO305.out).2.2 | (with_reducible refine Kd.C_alloc ?_ _) | (with_reducible refine Kd.C_drewN ?_ _) | (with_reducible refine Kd.C_drew ?_))); (case side2 => exact (Kd.R_reads' HO305.out).2.1); rintro e w66 ⟨rfl, hb⟩; refine ⟨_, rfl, ?_⟩; have n0_ := Aside0.mk (Kd.R_below (by (with_reducible repeat (first | apply Kd.R_alloc | apply Kd.R_drewN | apply Kd.R_drew)); exact HO305.out) hb); have n1_ := Aside0.mk (below_step (by repeat (first | (with_reducible first | exact HB.out | apply below_alloc | apply pw_below_drewN | apply below_drew1) | exact HB.out)) hb); clear HO305; clear HB; have HO305 := n0_; have HB := n1_; clear n0_ n1_; (try clear hb); (try clear hb2); (try clear hk); (try clear hi)))
                    go_ret
                    exact ⟨by first | rfl | (simp [errW_none, errW_some] <;> rfl) | (simp [*, errW_none, errW_some] <;> rfl), by repeat (first | (with_reducible first | exact HB.out | apply below_alloc | apply pw_below_drewN | apply below_drew1) | exact HB.out)⟩
                  · rw [if_neg c62] at H
                    have c62b0 : (t307 != t309) = false := by simpa using c62
                    (try (have c62b1 : decide (t307 = t309) = true := by simpa using c62))
                    (try (have c62b2 : (t307 == t309) = true := by simpa using c62))
                    clear c62
                    by_cases c67 : t306.toList = t308.toList
                    · rw [if_pos c67] at H
                      have c67b0 : (t306.toList == t308.toList) = true := beq_iff_eq.mpr c67
                      have c67b1 : (t306.toList != t308.toList) = false := bne_eq_false_iff_eq.mpr c67
                      clear c67
                      replace H := Option.bind_eq_some_iff.mp H
                      obtain ⟨⟨t310, t311⟩, A680, H⟩ := H
                      replace H : (if t307 = true then (if t311 = true then (some (t310.toList == t302.toList)) else (some false)) else (some true)) = some r := H
                      have A68 := Aside0.mk A680
                      clear A680
                      by_cases c69 : t307 = true
                      · subst c69
                        have H1 : (if t311 = true then (some (t310.toList == t302.toList)) else (some false)) = some r := by rw [if_pos rfl] at H; exact H
                        clear H
                        have H := H1
                        clear H1
                        by_cases c70 : t311 = true
                        · subst c70
                          have H1 : (some (t310.toList == t302.toList)) = some r := by rw [if_pos rfl] at H; exact H
                          clear H
                          have H := H1
                          clear H1
                          obtain rfl := Option.some.inj H
                          go_wp2_with (first | ((with_reducible refine gate_callee (f := 32) rfl ?_); refine goesL_ (some 173) rfl rfl Tryd.func32 (by kernel_rfl) rfl #[.slice A1 l1.length c1] rfl (by (try simp only [List.map_toArray, List.map_cons, List.map_nil]); first | done | rfl | (simp only [List.length_drop, List.length_take]; rfl)) ?_; (with_reducible refine (spec_DrawFlipBits.calls kj12 _ _ l1 t302 t303 _ ?side1 ?side2 A59.out).mono ?_); (case side1 => repeat (first | exact (Kd.C_below HR1.out HB.out) | (with_reducible refine Kd.C_alloc ?_ _) | (with_reducible refine Kd.C_drewN ?_ _) | (with_reducible refine Kd.C_drew ?_))); (case side2 => exact HC1.out); rintro e w71 ⟨v304, rfl, ho0, hb⟩; refine ⟨_, rfl, ?_⟩; have n0_ := Aside0.mk (Kd.R_lower ho0 (below_size (by repeat (first | (with_reducible first | exact HB.out | apply below_alloc | apply pw_below_drewN | apply below_drew1) | exact HB.out)))); have n1_ := Aside0.mk (below_step (by repeat (first | (with_reducible first | exact HB.out | apply below_alloc | apply pw_below_drewN | apply below_drew1) | exact HB.out)) hb); clear HB; have HO305 := n0_; have HB := n1_; clear n0_ n1_; (try clear hb); (try clear hb2); (try clear hk); (try clear hi); (try clear ho0); obtain ⟨Ao72, co72, eo72⟩ := Kd.R_slice HO305.out; subst eo72) | ((with_reducible refine gate_callee (f := 15) rfl ?_); refine goesL_ (some 179) rfl rfl Tryd.func15 (by kernel_rfl) rfl #[.string t302, .slice Ao72 t303.length co72] rfl (by (try simp only [List.map_toArray, List.map_cons, List.map_nil]); first | done | rfl | (simp only [List.length_drop, List.length_take]; rfl)) ?_; (with_reducible refine (impl_FlipBits.calls kj12 t302 _ _ t303 t306 true _ ?side1 ?side2 A60.out).mono ?_); (case side1 => repeat (first | exact (Kd.R_reads' HO305.out).2.2 | (with_reducible refine Kd.C_alloc ?_ _) | (with_reducible refine Kd.C_drewN ?_ _) | (with_reducible refine Kd.C_drew ?_))); (case side2 => exact (Kd.R_reads' HO305.out).2.1); rintro e w73 ⟨rfl, hb⟩; refine ⟨_, rfl, ?_⟩; have n0_ := Aside0.mk (Kd.R_below (by (with_reducible repeat (first | apply Kd.R_alloc | apply Kd.R_drewN | apply Kd.R_drew)); exact HO305.out) hb); have n1_ := Aside0.mk (below_step (by repeat (first | (with_reducible first | exact HB.out | apply below_alloc | apply pw_below_drewN | apply below_drew1) | exact HB.out)) hb); clear HO305; clear HB; have HO305 := n0_; have HB := n1_; clear n0_ n1_; (try clear hb); (try clear hb2); (try clear hk); (try clear hi)) | ((with_reducible refine gate_callee (f := 13) rfl ?_); refine goesL_ (some 185) rfl rfl Tryd.func13 (by kernel_rfl) rfl #[.string t302, .slice Ao72 t303.length co72] rfl (by (try simp only [List.map_toArray, List.map_cons, List.map_nil]); first | done | rfl | (simp only [List.length_drop, List.length_take]; rfl)) ?_; (with_reducible refine (spec_FlipBits.calls kj12 t302 _ _ t303 t308 t309 _ ?side1 ?side2 A61.out).mono ?_); (case side1 => repeat (first | exact (Kd.R_reads' HO305.out).2.2 | (with_reducible refine Kd.C_alloc ?_ _) | (with_reducible refine Kd.C_drewN ?_ _) | (with_reducible refine Kd.C_drew ?_))); (case side2 => exact (Kd.R_reads' HO305.out).2.1); rintro e w74 ⟨rfl, hb⟩; refine ⟨_, rfl, ?_⟩; have n0_ := Aside0.mk (Kd.R_below (by (with_reducible repeat (first | apply Kd.R_alloc | apply Kd.R_drewN | apply Kd.R_drew)); exact HO305.out) hb); have n1_ := Aside0.mk (below_step (by repeat (first | (with_reducible first | exact HB.out | apply below_alloc | apply pw_below_drewN | apply below_drew1) | exact HB.out)) hb); clear HO305; clear HB; have HO305 := n0_; have HB := n1_; clear n0_ n1_; (try clear hb); (try clear hb2); (try clear hk); (try clear hi)) | ((with_reducible refine gate_callee (f := 15) rfl ?_); refine goesL_ (some 199) rfl rfl Tryd.func15 (by kernel_rfl) rfl #[.string t306, .slice Ao72 t303.length co72] rfl (by (try simp only [List.map_toArray, List.map_cons, List.map_nil]); first | done | rfl | (simp only [List.length_drop, List.length_take]; rfl)) ?_; (with_reducible refine (impl_FlipBits.calls kj12 t306 _ _ t303 t310 true _ ?side1 ?side2 A68.out).mono ?_); (case side1 => repeat (first | exact (Kd.R_reads' HO305.out).2.2 | (with_reducible refine Kd.C_alloc ?_ _) | (with_reducible refine Kd.C_drewN ?_ _) | (with_reducible refine Kd.C_drew ?_))); (case side2 => exact (Kd.R_reads' HO305.out).2.1); rintro e w75 ⟨rfl, hb⟩; refine ⟨_, rfl, ?_⟩; have n0_ := Aside0.mk (Kd.R_below (by (with_reducible repeat (first | apply Kd.R_alloc | apply Kd.R_drewN | apply Kd.R_drew)); exact HO305.out) hb); have n1_ := Aside0.mk (below_step (by repeat (first | (with_reducible first | exact HB.out | apply below_alloc | apply pw_below_drewN | apply below_drew1) | exact HB.out)) hb); clear HO305; clear HB; have HO305 := n0_; have HB := n1_; clear n0_ n1_; (try clear hb); (try clear hb2); (try clear hk); (try clear hi)))
                          go_ret
                          exact ⟨by first | rfl | (simp [errW_none, errW_some] <;> rfl) | (simp [*, errW_none, errW_some] <;> rfl), by repeat (first | (with_reducible first | exact HB.out | apply below_alloc | apply pw_below_drewN | apply below_drew1) | exact HB.out)⟩
                        · replace c70 := Bool.eq_false_iff.mpr c70
                          subst c70
                          have H1 : (some false) = some r := by rw [if_neg (show ¬ (false = true) by decide)] at H; exact H
                          clear H
                          have H := H1
                          clear H1
                          obtain rfl := Option.some.inj H
                          go_wp2_with (first | ((with_reducible refine gate_callee (f := 32) rfl ?_); refine goesL_ (some 173) rfl rfl Tryd.func32 (by kernel_rfl) rfl #[.slice A1 l1.length c1] rfl (by (try simp only [List.map_toArray, List.map_cons, List.map_nil]); first | done | rfl | (simp only [List.length_drop, List.length_take]; rfl)) ?_; (with_reducible refine (spec_DrawFlipBits.calls kj12 _ _ l1 t302 t303 _ ?side1 ?side2 A59.out).mono ?_); (case side1 => repeat (first | exact (Kd.C_below HR1.out HB.out) | (with_reducible refine Kd.C_alloc ?_ _) | (with_reducible refine Kd.C_drewN ?_ _) | (with_reducible refine Kd.C_drew ?_))); (case side2 => exact HC1.out); rintro e w76 ⟨v304, rfl, ho0, hb⟩; refine ⟨_, rfl, ?_⟩; have n0_ := Aside0.mk (Kd.R_lower ho0 (below_size (by repeat (first | (with_reducible first | exact HB.out | apply below_alloc | apply pw_below_drewN | apply below_drew1) | exact HB.out)))); have n1_ := Aside0.mk (below_step (by repeat (first | (with_reducible first | exact HB.out | apply below_alloc | apply pw_below_drewN | apply below_drew1) | exact HB.out)) hb); clear HB; have HO305 := n0_; have HB := n1_; clear n0_ n1_; (try clear hb); (try clear hb2); (try clear hk); (try clear hi); (try clear ho0); obtain ⟨Ao77, co77, eo77⟩ := Kd.R_slice HO305.out; subst eo77) | ((with_reducible refine gate_callee (f := 15) rfl ?_); refine goesL_ (some 179) rfl rfl Tryd.func15 (by kernel_rfl) rfl #[.string t302, .slice Ao77 t303.length co77] rfl (by (try simp only [List.map_toArray, List.map_cons, List.map_nil]); first | done | rfl | (simp only [List.length_drop, List.length_take]; rfl)) ?_; (with_reducible refine (impl_FlipBits.calls kj12 t302 _ _ t303 t306 true _ ?side1 ?side2 A60.out).mono ?_); (case side1 => repeat (first | exact (Kd.R_reads' HO305.out).2.2 | (with_reducible refine Kd.C_alloc ?_ _) | (with_reducible refine Kd.C_drewN ?_ _) | (with_reducible refine Kd.C_drew ?_))); (case side2 => exact (Kd.R_reads' HO305.out).2.1); rintro e w78 ⟨rfl, hb⟩; refine ⟨_, rfl, ?_⟩; have n0_ := Aside0.mk (Kd.R_below (by (with_reducible repeat (first | apply Kd.R_alloc | apply Kd.R_drewN | apply Kd.R_drew)); exact HO305.out) hb); have n1_ := Aside0.mk (below_step (by repeat (first | (with_reducible first | exact HB.out | apply below_alloc | apply pw_below_drewN | apply below_drew1) | exact HB.out)) hb); clear HO305; clear HB; have HO305 := n0_; have HB := n1_; clear n0_ n1_; (try clear hb); (try clear hb2); (try clear hk); (try clear hi)) | ((with_reducible refine gate_callee (f := 13) rfl ?_); refine goesL_ (some 185) rfl rfl Tryd.func13 (by kernel_rfl) rfl #[.string t302, .slice Ao77 t303.length co77] rfl (by (try simp only [List.map_toArray, List.map_cons, List.map_nil]); first | done | rfl | (simp only [List.length_drop, List.length_take]; rfl)) ?_; (with_reducible refine (spec_FlipBits.calls kj12 t302 _ _ t303 t308 t309 _ ?side1 ?side2 A61.out).mono ?_); (case side1 => repeat (first | exact (Kd.R_reads' HO305.out).2.2 | (with_reducible refine Kd.C_alloc ?_ _) | (with_reducible refine Kd.C_drewN ?_ _) | (with_reducible refine Kd.C_drew ?_))); (case side2 => exact (Kd.R_reads' HO305.out).2.1); rintro e w79 ⟨rfl, hb⟩; refine ⟨_, rfl, ?_⟩; have n0_ := Aside0.mk (Kd.R_below (by (with_reducible repeat (first | apply Kd.R_alloc | apply Kd.R_drewN | apply Kd.R_drew)); exact HO305.out) hb); have n1_ := Aside0.mk (below_step (by repeat (first | (with_reducible first | exact HB.out | apply below_alloc | apply pw_below_drewN | apply below_drew1) | exact HB.out)) hb); clear HO305; clear HB; have HO305 := n0_; have HB := n1_; clear n0_ n1_; (try clear hb); (try clear hb2); (try clear hk); (try clear hi)) | ((with_reducible refine gate_callee (f := 15) rfl ?_); refine goesL_ (some 199) rfl rfl Tryd.func15 (by kernel_rfl) rfl #[.string t306, .slice Ao77 t303.length co77] rfl (by (try simp only [List.map_toArray, List.map_cons, List.map_nil]); first | done | rfl | (simp only [List.length_drop, List.length_take]; rfl)) ?_; (with_reducible refine (impl_FlipBits.calls kj12 t306 _ _ t303 t310 false _ ?side1 ?side2 A68.out).mono ?_); (case side1 => repeat (first | exact (Kd.R_reads' HO305.out).2.2 | (with_reducible refine Kd.C_alloc ?_ _) | (with_reducible refine Kd.C_drewN ?_ _) | (with_reducible refine Kd.C_drew ?_))); (case side2 => exact (Kd.R_reads' HO305.out).2.1); rintro e w80 ⟨rfl, hb⟩; refine ⟨_, rfl, ?_⟩; have n0_ := Aside0.mk (Kd.R_below (by (with_reducible repeat (first | apply Kd.R_alloc | apply Kd.R_drewN | apply Kd.R_drew)); exact HO305.out) hb); have n1_ := Aside0.mk (below_step (by repeat (first | (with_reducible first | exact HB.out | apply below_alloc | apply pw_below_drewN | apply below_drew1) | exact HB.out)) hb); clear HO305; clear HB; have HO305 := n0_; have HB := n1_; clear n0_ n1_; (try clear hb); (try clear hb2); (try clear hk); (try clear hi)))
                          go_ret
                          exact ⟨by first | rfl | (simp [errW_none, errW_some] <;> rfl) | (simp [*, errW_none, errW_some] <;> rfl), by repeat (first | (with_reducible first | exact HB.out | apply below_alloc | apply pw_below_drewN | apply below_drew1) | exact HB.out)⟩
                      · replace c69 := Bool.eq_false_iff.mpr c69
                        subst c69
                        have H1 : (some true) = some r := by rw [if_neg (show ¬ (false = true) by decide)] at H; exact H
                        clear H
                        have H := H1
                        clear H1
                        obtain rfl := Option.some.inj H
                        go_wp2_with (first | ((with_reducible refine gate_callee (f := 32) rfl ?_); refine goesL_ (some 173) rfl rfl Tryd.func32 (by kernel_rfl) rfl #[.slice A1 l1.length c1] rfl (by (try simp only [List.map_toArray, List.map_cons, List.map_nil]); first | done | rfl | (simp only [List.length_drop, List.length_take]; rfl)) ?_; (with_reducible refine (spec_DrawFlipBits.calls kj12 _ _ l1 t302 t303 _ ?side1 ?side2 A59.out).mono ?_); (case side1 => repeat (first | exact (Kd.C_below HR1.out HB.out) | (with_reducible refine Kd.C_alloc ?_ _) | (with_reducible refine Kd.C_drewN ?_ _) | (with_reducible refine Kd.C_drew ?_))); (case side2 => exact HC1.out); rintro e w81 ⟨v304, rfl, ho0, hb⟩; refine ⟨_, rfl, ?_⟩; have n0_ := Aside0.mk (Kd.R_lower ho0 (below_size (by repeat (first | (with_reducible first | exact HB.out | apply below_alloc | apply pw_below_drewN | apply below_drew1) | exact HB.out)))); have n1_ := Aside0.mk (below_step (by repeat (first | (with_reducible first | exact HB.out | apply below_alloc | apply pw_below_drewN | apply below_drew1) | exact HB.out)) hb); clear HB; have HO305 := n0_; have HB := n1_; clear n0_ n1_; (try clear hb); (try clear hb2); (try clear hk); (try clear hi); (try clear ho0); obtain ⟨Ao82, co82, eo82⟩ := Kd.R_slice HO305.out; subst eo82) | ((with_reducible refine gate_callee (f := 15) rfl ?_); refine goesL_ (some 179) rfl rfl Tryd.func15 (by kernel_rfl) rfl #[.string t302, .slice Ao82 t303.length co82] rfl (by (try simp only [List.map_toArray, List.map_cons, List.map_nil]); first | done | rfl | (simp only [List.length_drop, List.length_take]; rfl)) ?_; (with_reducible refine (impl_FlipBits.calls kj12 t302 _ _ t303 t306 false _ ?side1 ?side2 A60.out).mono ?_); (case side1 => repeat (first | exact (Kd.R_reads' HO305.out).2.2 | (with_reducible refine Kd.C_alloc ?_ _) | (with_reducible refine Kd.C_drewN ?_ _) | (with_reducible refine Kd.C_drew ?_))); (case side2 => exact (Kd.R_reads' HO305.out).2.1); rintro e w83 ⟨rfl, hb⟩; refine ⟨_, rfl, ?_⟩; have n0_ := Aside0.mk (Kd.R_below (by (with_reducible repeat (first | apply Kd.R_alloc | apply Kd.R_drewN | apply Kd.R_drew)); exact HO305.out) hb); have n1_ := Aside0.mk (below_step (by repeat (first | (with_reducible first | exact HB.out | apply below_alloc | apply pw_below_drewN | apply below_drew1) | exact HB.out)) hb); clear HO305; clear HB; have HO305 := n0_; have HB := n1_; clear n0_ n1_; (try clear hb); (try clear hb2); (try clear hk); (try clear hi)) | ((with_reducible refine gate_callee (f := 13) rfl ?_); refine goesL_ (some 185) rfl rfl Tryd.func13 (by kernel_rfl) rfl #[.string t302, .slice Ao82 t303.length co82] rfl (by (try simp only [List.map_toArray, List.map_cons, List.map_nil]); first | done | rfl | (simp only [List.length_drop, List.length_take]; rfl)) ?_; (with_reducible refine (spec_FlipBits.calls kj12 t302 _ _ t303 t308 t309 _ ?side1 ?side2 A61.out).mono ?_); (case side1 => repeat (first | exact (Kd.R_reads' HO305.out).2.2 | (with_reducible refine Kd.C_alloc ?_ _) | (with_reducible refine Kd.C_drewN ?_ _) | (with_reducible refine Kd.C_drew ?_))); (case side2 => exact (Kd.R_reads' HO305.out).2.1); rintro e w84 ⟨rfl, hb⟩; refine ⟨_, rfl, ?_⟩; have n0_ := Aside0.mk (Kd.R_below (by (with_reducible repeat (first | apply Kd.R_alloc | apply Kd.R_drewN | apply Kd.R_drew)); exact HO305.out) hb); have n1_ := Aside0.mk (below_step (by repeat (first | (with_reducible first | exact HB.out | apply below_alloc | apply pw_below_drewN | apply below_drew1) | exact HB.out)) hb); clear HO305; clear HB; have HO305 := n0_; have HB := n1_; clear n0_ n1_; (try clear hb); (try clear hb2); (try clear hk); (try clear hi)) | ((with_reducible refine gate_callee (f := 15) rfl ?_); refine goesL_ (some 199) rfl rfl Tryd.func15 (by kernel_rfl) rfl #[.string t306, .slice Ao82 t303.length co82] rfl (by (try simp only [List.map_toArray, List.map_cons, List.map_nil]); first | done | rfl | (simp only [List.length_drop, List.length_take]; rfl)) ?_; (with_reducible refine (impl_FlipBits.calls kj12 t306 _ _ t303 t310 t311 _ ?side1 ?side2 A68.out).mono ?_); (case side1 => repeat (first | exact (Kd.R_reads' HO305.out).2.2 | (with_reducible refine Kd.C_alloc ?_ _) | (with_reducible refine Kd.C_drewN ?_ _) | (with_reducible refine Kd.C_drew ?_))); (case side2 => exact (Kd.R_reads' HO305.out).2.1); rintro e w85 ⟨rfl, hb⟩; refine ⟨_, rfl, ?_⟩; have n0_ := Aside0.mk (Kd.R_below (by (with_reducible repeat (first | apply Kd.R_alloc | apply Kd.R_drewN | apply Kd.R_drew)); exact HO305.out) hb); have n1_ := Aside0.mk (below_step (by repeat (first | (with_reducible first | exact HB.out | apply below_alloc | apply pw_below_drewN | apply below_drew1) | exact HB.out)) hb); clear HO305; clear HB; have HO305 := n0_; have HB := n1_; clear n0_ n1_; (try clear hb); (try clear hb2); (try clear hk); (try clear hi)))
                        go_ret
                        exact ⟨by first | rfl | (simp [errW_none, errW_some] <;> rfl) | (simp [*, errW_none, errW_some] <;> rfl), by repeat (first | (with_reducible first | exact HB.out | apply below_alloc | apply pw_below_drewN | apply below_drew1) | exact HB.out)⟩
                    · rw [if_neg c67] at H
                      have c67b0 : (t306.toList == t308.toList) = false := beq_eq_false_iff_ne.mpr c67
                      have c67b1 : (t306.toList != t308.toList) = true := bne_iff_ne.mpr c67
                      obtain rfl := Option.some.inj H
                      go_wp2_with (first | ((with_reducible refine gate_callee (f := 32) rfl ?_); refine goesL_ (some 173) rfl rfl Tryd.func32 (by kernel_rfl) rfl #[.slice A1 l1.length c1] rfl (by (try simp only [List.map_toArray, List.map_cons, List.map_nil]); first | done | rfl | (simp only [List.length_drop, List.length_take]; rfl)) ?_; (with_reducible refine (spec_DrawFlipBits.calls kj12 _ _ l1 t302 t303 _ ?side1 ?side2 A59.out).mono ?_); (case side1 => repeat (first | exact (Kd.C_below HR1.out HB.out) | (with_reducible refine Kd.C_alloc ?_ _) | (with_reducible refine Kd.C_drewN ?_ _) | (with_reducible refine Kd.C_drew ?_))); (case side2 => exact HC1.out); rintro e w86 ⟨v304, rfl, ho0, hb⟩; refine ⟨_, rfl, ?_⟩; have n0_ := Aside0.mk (Kd.R_lower ho0 (below_size (by repeat (first | (with_reducible first | exact HB.out | apply below_alloc | apply pw_below_drewN | apply below_drew1) | exact HB.out)))); have n1_ := Aside0.mk (below_step (by repeat (first | (with_reducible first | exact HB.out | apply below_alloc | apply pw_below_drewN | apply below_drew1) | exact HB.out)) hb); clear HB; have HO305 := n0_; have HB := n1_; clear n0_ n1_; (try clear hb); (try clear hb2); (try clear hk); (try clear hi); (try clear ho0); obtain ⟨Ao87, co87, eo87⟩ := Kd.R_slice HO305.out; subst eo87) | ((with_reducible refine gate_callee (f := 15) rfl ?_); refine goesL_ (some 179) rfl rfl Tryd.func15 (by kernel_rfl) rfl #[.string t302, .slice Ao87 t303.length co87] rfl (by (try simp only [List.map_toArray, List.map_cons, List.map_nil]); first | done | rfl | (simp only [List.length_drop, List.length_take]; rfl)) ?_; (with_reducible refine (impl_FlipBits.calls kj12 t302 _ _ t303 t306 t307 _ ?side1 ?side2 A60.out).mono ?_); (case side1 => repeat (first | exact (Kd.R_reads' HO305.out).2.2 | (with_reducible refine Kd.C_alloc ?_ _) | (with_reducible refine Kd.C_drewN ?_ _) | (with_reducible refine Kd.C_drew ?_))); (case side2 => exact (Kd.R_reads' HO305.out).2.1); rintro e w88 ⟨rfl, hb⟩; refine ⟨_, rfl, ?_⟩; have n0_ := Aside0.mk (Kd.R_below (by (with_reducible repeat (first | apply Kd.R_alloc | apply Kd.R_drewN | apply Kd.R_drew)); exact HO305.out) hb); have n1_ := Aside0.mk (below_step (by repeat (first | (with_reducible first | exact HB.out | apply below_alloc | apply pw_below_drewN | apply below_drew1) | exact HB.out)) hb); clear HO305; clear HB; have HO305 := n0_; have HB := n1_; clear n0_ n1_; (try clear hb); (try clear hb2); (try clear hk); (try clear hi)) | ((with_reducible refine gate_callee (f := 13) rfl ?_); refine goesL_ (some 185) rfl rfl Tryd.func13 (by kernel_rfl) rfl #[.string t302, .slice Ao87 t303.length co87] rfl (by (try simp only [List.map_toArray, List.map_cons, List.map_nil]); first | done | rfl | (simp only [List.length_drop, List.length_take]; rfl)) ?_; (with_reducible refine (spec_FlipBits.calls kj12 t302 _ _ t303 t308 t309 _ ?side1 ?side2 A61.out).mono ?_); (case side1 => repeat (first | exact (Kd.R_reads' HO305.out).2.2 | (with_reducible refine Kd.C_alloc ?_ _) | (with_reducible refine Kd.C_drewN ?_ _) | (with_reducible refine Kd.C_drew ?_))); (case side2 => exact (Kd.R_reads' HO305.out).2.1); rintro e w89 ⟨rfl, hb⟩; refine ⟨_, rfl, ?_⟩; have n0_ := Aside0.mk (Kd.R_below (by (with_reducible repeat (first | apply Kd.R_alloc | apply Kd.R_drewN | apply Kd.R_drew)); exact HO305.out) hb); have n1_ := Aside0.mk (below_step (by repeat (first | (with_reducible first | exact HB.out | apply below_alloc | apply pw_below_drewN | apply below_drew1) | exact HB.out)) hb); clear HO305; clear HB; have HO305 := n0_; have HB := n1_; clear n0_ n1_; (try clear hb); (try clear hb2); (try clear hk); (try clear hi)))
                      go_ret
                      exact ⟨by first | rfl | (simp [errW_none, errW_some] <;> rfl) | (simp [*, errW_none, errW_some] <;> rfl), by repeat (first | (with_reducible first | exact HB.out | apply below_alloc | apply pw_below_drewN | apply below_drew1) | exact HB.out)⟩

/-- THE ONE PURE STATEMENT of laws_FnFree: yours. -/
def laws_FnFree.Pure : Prop := ∀ (l0 : List Int) (l1 : List Int), l0.length ≤ maxLen → l0.length * 1 ≤ 140737488351232 → (∀ x ∈ l0, (Lit.int .u8 x).wf = true) → l1.length ≤ maxLen → l1.length * 1 ≤ 140737488351232 → (∀ x ∈ l1, (Lit.int .u8 x).wf = true) → ∃ k, laws_FnFree.f k l0 l1 = some true
theorem laws_FnFree.walk (P : laws_FnFree.Pure) (a0 : Option Addr) (len0 cap0 : Nat) (z0 : List Int) (a1 : Option Addr) (len1 cap1 : Nat) (z1 : List Int) (w : World) (w0 : (a0 = none ∧ len0 = 0 ∧ cap0 = 0 ∧ z0 = []) ∨ ∃ x, a0 = some x ∧ len0 ≤ cap0 ∧ cap0 ≤ maxLen ∧ z0.length = cap0 ∧ (∀ i, i < z0.length → w.cell? (x.add i) = some (.int .u8 (z0.getD i 0))) ∧ ∀ n ∈ z0, (Lit.int .u8 n).wf = true) (y0 : len0 * 1 ≤ 140737488351232) (w1 : (a1 = none ∧ len1 = 0 ∧ cap1 = 0 ∧ z1 = []) ∨ ∃ x, a1 = some x ∧ len1 ≤ cap1 ∧ cap1 ≤ maxLen ∧ z1.length = cap1 ∧ (∀ i, i < z1.length → w.cell? (x.add i) = some (.int .u8 (z1.getD i 0))) ∧ ∀ n ∈ z1, (Lit.int .u8 n).wf = true) (y1 : len1 * 1 ≤ 140737488351232) :
    Calls Tryd.prog 10 #[.slice a0 len0 cap0, .slice a1 len1 cap1] w fun e w' => e = .returned (.bool true) ∧ Below w.heap.size w w' := by
  obtain ⟨l0, rfl, hr0, hm0, hw0, hc0⟩ := ReadsInt.ofRowC w0
  obtain ⟨l1, rfl, hr1, hm1, hw1, hc1⟩ := ReadsInt.ofRowC w1
  obtain ⟨k, h⟩ := P l0 l1 hm0 y0 hw0 hm1 y1 hw1
  refine (laws_FnFree.calls k _ _ l0 _ _ l1 true w (Kd.C_of_reads (d := (0 : Int)) (h1 := fun _ => rfl) hr0) hc0 (Kd.C_of_reads (d := (0 : Int)) (h1 := fun _ => rfl) hr1) hc1 h).mono ?_
  rintro e w' ⟨rfl, hd⟩
  exact ⟨rfl, hd⟩

end Go.Proofs.YtaofmiigbhfnbaaDoor.PFnFree
