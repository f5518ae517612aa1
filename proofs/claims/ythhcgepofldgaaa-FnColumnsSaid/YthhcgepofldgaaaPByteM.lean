/- The first column of a text: its bytes, sorted. -/
import Derived.Test.YthhcgepofldgaaaPByteL
namespace Go.Proofs.Ythhcgepofldgaaa.PByteM
open Go.RowKit Go.Proofs.YthhcgepofldgaaaW.PrintWords Go.Proofs.Ythhcgepofldgaaa.PByteA Go.Proofs.Ythhcgepofldgaaa.PByteL
set_option linter.unusedVariables false
set_option linter.unusedSimpArgs false
set_option maxHeartbeats 4000000
set_option maxRecDepth 100000
/-- The bytes of a text, sorted. -/
def sortL (s : ByteArray) : List Int := (bytesOf s).mergeSort (fun x y => decide (x ≤ y))
theorem sortL_length (s : ByteArray) : (sortL s).length = s.size := by rw [sortL, List.length_mergeSort, bytesOf_length]
theorem atB_conv (s : ByteArray) (w : World) (hs : s.size ≤ 120) : AtB (Lib.bytesWorld w 5 s) (Lib.bytesWorld w 5 s) w.heap.size (bytesOf s).toArray := by
  have hsz := Lib.bytesWorld_size w 5 s
  have hn := Lib.bytesWorld_at_new w 5 s
  have hc := fun j hj => Lib.bytesWorld_cell w 5 s j hj
  have hr := (bytes_reads w 5 s (by omega))
  have hsize : s.size ≤ (Lib.bytesCells w 5 s).size := by
    rcases Nat.eq_zero_or_pos s.size with h0 | h0
    · omega
    · have q := hc (s.size - 1) (by omega)
      simp only [World.cell?, hn] at q
      have q2 : (Lib.bytesCells w 5 s)[s.size - 1]? = some (.int .u8 ((s.data.toList.getD (s.size - 1) 0).toNat)) := q
      have := (Array.getElem?_eq_some_iff.1 q2).1
      omega
  refine ⟨rfl, rfl, rfl, Nat.le_refl _, by omega, fun _ _ _ => rfl, _, _, _, hn, hn, rfl, ?_, .inr ?_, fun j hj => ?_⟩
  · rw [List.size_toArray, bytesOf_length]
    exact hsize
  · rw [List.size_toArray, bytesOf_length]
    exact hsize
  · rw [List.size_toArray, bytesOf_length] at hj
    obtain ⟨ad, ea, hcell⟩ := hr.2.2 (by omega)
    obtain rfl : ⟨w.heap.size, 0, none⟩ = ad := Option.some.inj ea
    have q := hcell j hj
    rw [add_plain] at q
    simp only [World.cell?, hn] at q
    have q2 : (Lib.bytesCells w 5 s)[j]? = some (.int .u8 ((bytesOf s).getD j 0)) := q
    rw [q2, List.getElem!_toArray, List.getElem!_eq_getElem?_getD, List.getD_eq_getElem?_getD]
    rfl
theorem reads_of {w0 W : World} {g : Nat} {l : List Int} (h : AtB w0 W g l.toArray) (hl : l.length ≤ 120) : ReadsInt W .u8 (some ⟨g, 0, none⟩) l.length l := by
  refine ⟨rfl, by omega, fun hp => ⟨_, rfl, fun j hj => ?_⟩⟩
  have q := (h.cell j (by rw [List.size_toArray]; exact hj)).1
  rw [add_plain, q, List.getElem!_toArray, List.getElem!_eq_getElem?_getD, List.getD_eq_getElem?_getD]
  rfl
theorem below_of {w : World} {s : ByteArray} {W : World} {l : List Int} (h : AtB (Lib.bytesWorld w 5 s) W w.heap.size l.toArray) : Below w.heap.size w W := by
  have hb := bytes_below (Below.refl w.heap.size w) (Nat.le_refl _) 5 s
  refine ⟨h.os.trans hb.os, h.tape.trans hb.tape, h.output.trans hb.output, Nat.le_trans hb.size h.size, fun i hi => ?_⟩
  have hsz := Lib.bytesWorld_size w 5 s
  rw [h.block i (by omega) (by omega)]
  exact hb.block i hi
theorem turnable (s : ByteArray) (w : World) : Calls Try.prog 46 #[.string s] w fun e w' => e = .returned (.bool (decide ((s.size : Int) ≤ 120))) ∧ w' = w := by
  go_enter Try.func46, Try.ntmps46
  go_wp2
  go_ret
  exact ⟨rfl, rfl⟩
theorem firstNo (s : ByteArray) (w : World) (hs : ¬ s.size ≤ 120) : Calls Try.prog 27 #[.string s] w fun e w' => e = .returned (.tuple #[.string ⟨#[]⟩, .bool false]) ∧ Below w.heap.size w w' := by
  have ht := turnable s w
  rw [show decide ((s.size : Int) ≤ 120) = false from decide_eq_false (by omega)] at ht
  clear hs
  go_enter Try.func27, Try.ntmps27
  go_wp2_with (go_at_call 46; refine ht.mono ?_; rintro e w1 ⟨rfl, rfl⟩)
  go_ret2
  exact ⟨rfl, Below.refl _ _⟩
theorem firstYes (s : ByteArray) (w : World) (hs : s.size ≤ 120) : Calls Try.prog 27 #[.string s] w fun e w' => e = .returned (.tuple #[.string (strOfNums (sortL s)), .bool true]) ∧ Below w.heap.size w w' := by
  have ht := turnable s w
  rw [show decide ((s.size : Int) ≤ 120) = true from decide_eq_true (by omega)] at ht
  have hA := atB_conv s w hs
  have kb := fun W => print_bytes (P := Try.prog) 9 33 5 Try.underlying9 Try.underlying33 Try.underlying5 s W
  have hS := sortB (Lib.bytesWorld w 5 s) (Lib.bytesWorld w 5 s) w.heap.size (grownCap w s.size 0 5) s.size (bytesOf s).toArray (by omega) (by rw [List.size_toArray, bytesOf_length]) hA
  have HS := Aside0.mk hs
  clear hs hA
  go_enter Try.func27, Try.ntmps27
  go_upto_region 5 with (first
    | (go_at_call 46; refine ht.mono ?_; rintro e w1 ⟨rfl, hw⟩; subst w1)
    | (go_at_call 58; refine hS.mono ?_; rintro e w2 ⟨rfl, h2⟩))
  have h3 : AtB (Lib.bytesWorld w 5 s) w2 w.heap.size (sortL s).toArray := h2
  have kr := reads_of h3 (by rw [sortL_length]; exact HS.out)
  rw [sortL_length] at kr
  have ks := string_of_reads (P := Try.prog) (c := grownCap w s.size 0 5) Try.underlying33 Try.underlying5 Try.underlying9 kr
  clear kr h2 hS
  have H3 := Aside0.mk h3
  clear h3
  go_wp2
  go_ret2
  exact ⟨rfl, below_of H3.out⟩
end Go.Proofs.Ythhcgepofldgaaa.PByteM
