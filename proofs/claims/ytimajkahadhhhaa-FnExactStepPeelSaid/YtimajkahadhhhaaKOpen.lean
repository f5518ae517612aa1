/- How an argument that is a slice, or holds structs, is read as a list of plain values: kind by kind. -/
import Derived.Test.YtimajkahadhhhaaWMore
import Derived.Deep.Slices
import Derived.Deep.Fields
import Derived.ChangeSame
import Derived.ProofKit
import Derived.Lib.SmallJoins
namespace Go.Proofs.Ytimajkahadhhhaa.O
open Go Go.RowKit Go.ChangeShapes Go.WideShapes Go.Deep Go.Proofs.YtimajkahadhhhaaW.PrintWords

section
variable {H : Type} {enc : TypeId × Value → H} {P : Program} {w : World} {spare : Nat → Bool} {held : Bool}
/-- Whatever reads as a datum of type t is a value of the kind, and has the property. -/
def Opens {α : Type} (enc : TypeId × Value → H) (P : Program) (w : World) (spare : Nat → Bool) (held : Bool) (t : TypeId) (d : Kd α) (Wf : α → Prop) : Prop :=
  ∀ (fuel : Nat) (cs : List Value) (x : DataW H × List MemPlace), DataW.trod enc P w 0 spare held fuel t cs = some x → ∃ p, d.K w p cs ∧ Wf p
theorem Opens.int {t : TypeId} {k : IntKind} (ht : P.underlying t = some (.int k)) : Opens enc P w spare held t (Kd.int k) (fun n => (Lit.int k n).wf = true) := by
  intro fuel cs x h
  obtain ⟨n, rfl, _, hw⟩ := DataW.trod_int ht h
  exact ⟨n, rfl, hw⟩
theorem Opens.bool {t : TypeId} (ht : P.underlying t = some .bool) : Opens enc P w spare held t Kd.bool (fun _ => True) := by
  intro fuel cs x h
  obtain ⟨b, rfl, _⟩ := DataW.trod_bool ht h
  exact ⟨b, rfl, trivial⟩
theorem Opens.string {t : TypeId} (ht : P.underlying t = some .string) : Opens enc P w spare held t Kd.string (fun s => s.size ≤ maxLen) := by
  intro fuel cs x h
  obtain ⟨s, rfl, _, hw⟩ := DataW.trod_string ht h
  exact ⟨s, rfl, hw⟩
theorem Opens.iso {α β : Type} {t : TypeId} {d : Kd α} {Wf : α → Prop} (h : Opens enc P w spare held t d Wf) (f : β → α) (g : α → β) (hfg : ∀ a, f (g a) = a) : Opens enc P w spare held t (Kd.iso d f) (fun x => Wf (f x)) := by
  intro fuel cs x hx
  obtain ⟨p, hp, hw⟩ := h fuel cs x hx
  refine ⟨g p, ?_, by show Wf (f (g p)); rw [hfg]; exact hw⟩
  show d.K w (f (g p)) cs
  rw [hfg]; exact hp
theorem Opens.struct2 {α β : Type} {t : TypeId} {f0 f1 : Field} {a : Kd α} {b : Kd β} {W0 : α → Prop} {W1 : β → Prop} (hs : P.underlying t = some (.struct #[f0, f1])) (hC : P.cellsOf t = a.sz + b.sz)
    (q0 : f0.offset = 0) (q1 : f1.offset = a.sz) (c0 : P.cellsOf f0.type = a.sz) (c1 : P.cellsOf f1.type = b.sz)
    (o0 : Opens enc P w spare held f0.type a W0) (o1 : Opens enc P w spare held f1.type b W1) : Opens enc P w spare held t (Kd.pair a b) (fun x => W0 x.1 ∧ W1 x.2) := by
  intro fuel cs x h
  obtain ⟨xs, n, _, _, hcl, hlen, hf⟩ := DataW.trod_struct hs h
  have hlen2 : xs.length = 2 := by simpa using hlen
  have e0 := hf 0 f0 rfl
  have e1 := hf 1 f1 rfl
  rw [List.getElem?_eq_getElem (by omega), q0, c0] at e0
  rw [List.getElem?_eq_getElem (by omega), q1, c1] at e1
  obtain ⟨p0, k0, w0⟩ := o0 _ _ _ e0
  obtain ⟨p1, k1, w1⟩ := o1 _ _ _ e1
  refine ⟨(p0, p1), ⟨_, _, ?_, k0, k1⟩, w0, w1⟩
  rw [List.drop_zero, List.take_of_length_le (l := cs.drop a.sz) (by rw [List.length_drop]; omega), List.take_append_drop]
theorem Opens.slice {α : Type} {t e : TypeId} {d : Kd α} {Wf : α → Prop} (ht : P.underlying t = some (.slice e)) (hc : P.cellsOf e = d.sz) (he : Opens enc P w spare held e d Wf) :
    Opens enc P w spare held t (Kd.slice e d) (fun xs => xs.length ≤ maxLen ∧ ∀ x ∈ xs, Wf x) := by
  intro fuel cs x h
  rcases DataW.trod_slice ht h with ⟨rfl, rfl⟩ | ⟨a, len, cap, elems, rest, n, rfl, rfl, rfl, hb, hl, hm, hlen, hel, _, _⟩
  · exact ⟨[], ⟨none, 0, rfl, Nat.le_refl _, ⟨rfl, by simp, fun h => by simp at h⟩⟩, by simp, fun x hx => by simp at hx⟩
  · have each : ∀ i : Fin len, ∃ p : α, Wf p ∧ ∃ c : List Value, c.length = d.sz ∧ d.K w p c ∧ ∀ j u, c[j]? = some u → w.cell? (a.add (i.1 * d.sz + j)) = some u := by
      intro i
      have h1 := hel i.1 i.2
      rw [List.getElem?_eq_getElem (by omega), Option.bind_eq_some_iff] at h1
      obtain ⟨c, hcs, hy⟩ := h1
      obtain ⟨p, hp, hw⟩ := he _ _ _ hy
      obtain ⟨_, hcl, hat⟩ := World.cells?_some hcs
      refine ⟨p, hw, c, d.K_len hp, hp, fun j u hj => ?_⟩
      have hjl : j < P.cellsOf e := by
        have := (List.getElem?_eq_some_iff.1 hj).1
        rw [d.K_len hp] at this; omega
      rw [← hc, ← Go.Deep.add_add, hat j hjl]; exact hj
    obtain ⟨f, hf⟩ := Classical.axiomOfChoice each
    have hfl : (List.ofFn f).length = len := by simp
    refine ⟨List.ofFn f, ⟨some a, cap, by rw [hfl], by rw [hfl]; exact hl, ⟨rfl, by rw [hfl]; have : maxLen = 9223372036854775807 := rfl; omega, fun _ => ⟨a, rfl, fun j p hj => ?_⟩⟩⟩, by rw [hfl]; omega, fun x hx => ?_⟩
    · have hj1 : j < len := by have := (List.getElem?_eq_some_iff.1 hj).1; omega
      have hj2 : p = f ⟨j, hj1⟩ := by
        rw [List.getElem?_eq_getElem (by omega)] at hj
        simpa using hj.symm
      subst hj2
      obtain ⟨_, c, h1, h2, h3⟩ := hf ⟨j, hj1⟩
      exact ⟨c, h1, h2, h3⟩
    · obtain ⟨i, rfl⟩ := List.mem_ofFn.1 hx
      exact (hf i).1
/-- A field's cell, read as a slice. -/
theorem open_cell {α : Type} {t e : TypeId} {d : Kd α} {Wf : α → Prop} (ht : P.underlying t = some (.slice e)) (hc : P.cellsOf e = d.sz) (he : Opens enc P w spare held e d Wf) {n : Nat} {v : Value} {y : DataW H × List MemPlace}
    (h : DataW.trod enc P w 0 spare held n t [v] = some y) : ∃ (A : Option Addr) (c : Nat) (l : List α), v = .slice A l.length c ∧ l.length ≤ c ∧ Kd.C d w A l.length l ∧ l.length ≤ maxLen ∧ ∀ x ∈ l, Wf x := by
  obtain ⟨l, ⟨A, c, hv, hlc, hC⟩, hm, hw⟩ := Opens.slice ht hc he n [v] y h
  exact ⟨A, c, l, by simpa using hv, hlc, hC, hm, hw⟩
/-- A parameter, read as a slice. -/
theorem open_slice {α : Type} {t e : TypeId} {d : Kd α} {Wf : α → Prop} (ht : P.underlying t = some (.slice e)) (hc : P.cellsOf e = d.sz) (he : Opens enc P w spare held e d Wf) {r : Reach} {b0 : Nat} {v : Value} {dd : DataW H} {p : List MemPlace}
    (hv : Value.okWide P w r b0 t v) (h : DataW.Trod enc P w 0 spare held t v dd p) : ∃ (A : Option Addr) (c : Nat) (l : List α), v = .slice A l.length c ∧ l.length ≤ c ∧ Kd.C d w A l.length l ∧ l.length ≤ maxLen ∧ ∀ x ∈ l, Wf x := by
  obtain ⟨a, len, cap, rfl⟩ := okWide_slice ht hv
  obtain ⟨fuel, hf⟩ := h
  exact open_cell ht hc he (by simpa [Value.cells] using hf)
end
end Go.Proofs.Ytimajkahadhhhaa.O
