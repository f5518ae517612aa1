/- The row of bytes that a sort works on: what the world is while it stands. -/
import Derived.Test.YthhcgepofldgaaaProg
import Derived.Test.YthhcgepofldgaaaWWords
import Derived.Test.YthhcgepofldgaaaWMore
import Derived.Sort.Row
import Derived.Shelf.Abstract
import Derived.Deep.QuietTactic
import Derived.BigQuiet
import Derived.BigRegion
import Derived.Deep.LoopGhost
import Derived.WalkKit
import Derived.Laws.BitsLemmas
import Derived.Test.YthhcgepofldgaaaPByteU
namespace Go.Proofs.Ythhcgepofldgaaa.PByteA
open Go.RowKit Go.Proofs.YthhcgepofldgaaaW.PrintWords
set_option linter.unusedVariables false
set_option maxHeartbeats 4000000
set_option maxRecDepth 100000
/-- The world w0 with the bytes in block g being d; it may have drawn, and may have new blocks. -/
structure AtB (w0 W : World) (g : Nat) (d : Array Int) : Prop where
  os : W.os = w0.os
  tape : W.tape = w0.tape
  output : W.output = w0.output
  size : w0.heap.size ≤ W.heap.size
  lt : g < w0.heap.size
  block : ∀ k, k ≠ g → k < w0.heap.size → W.heap[k]? = w0.heap[k]?
  row : ∃ (c0 cur : Array Value) (fr : Nat × Nat), w0.heap[g]? = some (.cells c0 5 fr) ∧ W.heap[g]? = some (.cells cur 5 fr) ∧ cur.size = c0.size ∧ d.size ≤ cur.size ∧ (fr.2 ≤ fr.1 ∨ d.size ≤ fr.1) ∧ ∀ j, j < d.size → cur[j]? = some (.int .u8 d[j]!)
theorem AtB.cell {w0 W : World} {g : Nat} {d : Array Int} (h : AtB w0 W g d) (j : Nat) (hj : j < d.size) : W.cell? ⟨g, j, none⟩ = some (.int .u8 d[j]!) ∧ W.frozen? ⟨g, j, none⟩ = false := by
  obtain ⟨c0, cur, fr, h0, h1, hs, h2, hf, h3⟩ := h.row
  have h4 := h3 j hj
  refine ⟨by simp only [World.cell?, h1]; exact h4, ?_⟩
  simp only [World.frozen?, h1, Bool.and_eq_false_imp, decide_eq_true_eq, decide_eq_false_iff_not]
  omega
theorem AtB.set {w0 W : World} {g : Nat} {d : Array Int} (h : AtB w0 W g d) (j : Nat) (x : Int) : AtB w0 (W.setCell ⟨g, j, none⟩ (.int .u8 x)) g (d.setIfInBounds j x) := by
  obtain ⟨c0, cur, fr, h0, h1, hs, h2, hf, h3⟩ := h.row
  refine ⟨h.os, h.tape, h.output, by simpa [World.setCell] using h.size, h.lt, fun k hk hk2 => ?_, c0, cur.setIfInBounds j (.int .u8 x), fr, h0, ?_, by simpa using hs, by simpa using h2, by simpa using hf, fun i hi => ?_⟩
  · rw [← h.block k hk hk2]
    simp [World.setCell, Array.getElem?_modify, Ne.symm hk]
  · simp only [World.setCell, Array.getElem?_modify, if_true, h1, Option.map_some]
    rfl
  · rw [Array.size_setIfInBounds] at hi
    have hc := h3 i hi
    have hcs : i < cur.size := (Array.getElem?_eq_some_iff.1 hc).1
    rw [Array.getElem?_setIfInBounds]
    by_cases e : j = i
    · subst e
      rw [if_pos rfl, if_pos hcs, Sort.getElem!_set_same d j x hi]
    · rw [if_neg e, hc, Sort.getElem!_set_other d j i x (Ne.symm e)]
theorem AtB.swap {w0 W : World} {g : Nat} {d : Array Int} (h : AtB w0 W g d) {i j : Nat} {u v : Int} (hu : d[i]! = u) (hv : d[j]! = v) : AtB w0 ((W.setCell ⟨g, i, none⟩ (.int .u8 v)).setCell ⟨g, j, none⟩ (.int .u8 u)) g (Sort.swp d i j) := by
  subst hu hv
  exact (h.set i _).set j _
theorem AtB.drewN {w0 W : World} {g : Nat} {d : Array Int} (h : AtB w0 W g d) (n : Nat) : AtB w0 (W.drewN n) g d := ⟨h.os, h.tape, h.output, h.size, h.lt, h.block, h.row⟩
theorem AtB.drew {w0 W : World} {g : Nat} {d : Array Int} (h : AtB w0 W g d) : AtB w0 W.drew g d := ⟨h.os, h.tape, h.output, h.size, h.lt, h.block, h.row⟩
/-- The world grows behind, the row's block stays. -/
theorem AtB.grown {w0 W W' : World} {g : Nat} {d : Array Int} (h : AtB w0 W g d) (hb : Below w0.heap.size W W') (hs : W.heap.size ≤ W'.heap.size) : AtB w0 W' g d := by
  obtain ⟨c0, cur, fr, h0, h1, hs0, h2, hf, h3⟩ := h.row
  exact ⟨hb.os.trans h.os, hb.tape.trans h.tape, hb.output.trans h.output, Nat.le_trans h.size hs, h.lt, fun k hk hk2 => (hb.block k hk2).trans (h.block k hk hk2), c0, cur, fr, h0, (hb.block g h.lt).trans h1, hs0, h2, hf, h3⟩
theorem wI {x : Nat} (h : x < 1000000) : IntKind.i64.wrap (x : Int) = (x : Int) := by rw [IntKind.wrap_i64]; omega
theorem w64of {z : Int} {n : Nat} (h : z = (n : Int)) (hn : n < 1000000) : wrap64 z = (n : Int) := by unfold wrap64; omega
theorem wIof {z : Int} {n : Nat} (h : z = (n : Int)) (hn : n < 1000000) : IntKind.i64.wrap z = (n : Int) := by rw [IntKind.wrap_i64]; omega
theorem both {z : Int} {n : Nat} (h : z = (n : Int)) (hn : n < 1000000) : wrap64 z = (n : Int) ∧ IntKind.i64.wrap z = (n : Int) := ⟨w64of h hn, wIof h hn⟩
theorem w64s {i : Nat} (h : i < 1000000) : wrap64 ((i : Int) + 1) = ((i + 1 : Nat) : Int) := by unfold wrap64; omega
end Go.Proofs.Ythhcgepofldgaaa.PByteA
