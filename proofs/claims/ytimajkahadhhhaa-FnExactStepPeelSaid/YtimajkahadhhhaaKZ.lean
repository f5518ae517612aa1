/- Short words for what the printed walks say over and over: a fact is carried over allocations and draws by instances; the questions of a call or of an operation in a region of open order are answered by themselves. -/
import Derived.Test.YtimajkahadhhhaaWWords
import Derived.Test.YtimajkahadhhhaaWLast
import Derived.Test.YtimajkahadhhhaaWApart
import Derived.Test.YtimajkahadhhhaaWN
import Derived.Test.YtimajkahadhhhaaWMore
import Derived.Test.YtimajkahadhhhaaWTab
import Derived.Test.YtimajkahadhhhaaWGuard
namespace Go.Proofs.YtimajkahadhhhaaW.PrintMore
open Go Go.RowKit Go.Proofs.YtimajkahadhhhaaW.PrintWords Go.Proofs.YtimajkahadhhhaaW.PrintLast
theorem am {p : Prop} (h : p) : Aside0 p := ⟨h⟩
theorem od_ {p : Prop} [Decidable p] (h : decide p = true := by with_reducible assumption) : p := of_decide_eq_true h
theorem rf_ {α : Sort _} {a b : α} (h : a = b := by first | rfl | (simp; done) | (simp [*]; done)) : a = b := h
theorem it_ {α : Type} {c : Prop} [Decidable c] {a : Option α} {r : α} (h : (if c then a else none) = some r) : c ∧ a = some r := by
  by_cases q : c
  · rw [if_pos q] at h; exact ⟨q, h⟩
  · rw [if_neg q] at h; cases h
theorem bi_ {α β : Type} {o : Option α} {f : α → Option β} {r : β} (h : o.bind f = some r) : ∃ t, Aside0 (o = some t) ∧ f t = some r := by
  obtain ⟨t, h1, h2⟩ := Option.bind_eq_some_iff.mp h
  exact ⟨t, ⟨h1⟩, h2⟩
/-- The second world is the first, but for draws and what was made. -/
class St (W W' : World) : Prop where out : Below W.heap.size W W'
instance St.rfl_ (W : World) : St W W := ⟨Below.refl _ _⟩
instance St.al_ (W W' : World) (o : Obj) [i : St W W'] : St W (W'.alloc o) := ⟨below_alloc i.out o⟩
instance St.dn_ (W W' : World) (n : Nat) [i : St W W'] : St W (W'.drewN n) := ⟨pw_below_drewN i.out n⟩
instance St.dr_ (W W' : World) [i : St W W'] : St W W'.drew := ⟨below_drew1 i.out⟩
/-- The second world's memory is no smaller. -/
class Sz (W W' : World) : Prop where out : W.heap.size ≤ W'.heap.size
instance Sz.rfl_ (W : World) : Sz W W := ⟨Nat.le_refl _⟩
instance Sz.al_ (W W' : World) (o : Obj) [i : Sz W W'] : Sz W (W'.alloc o) := ⟨Nat.le_trans i.out (below_alloc (Below.refl _ W') o).size⟩
instance Sz.dn_ (W W' : World) (n : Nat) [i : Sz W W'] : Sz W (W'.drewN n) := ⟨i.out⟩
instance Sz.dr_ (W W' : World) [i : Sz W W'] : Sz W W'.drew := ⟨i.out⟩
instance Sz.sc_ (W W' : World) (p : Addr) (v : Value) [i : Sz W W'] : Sz W (W'.setCell p v) := ⟨by rw [World.setCell]; simpa using i.out⟩
section
variable {w W W' : World}
theorem zB (h : Below w.heap.size w W) [i : St W W'] : Below w.heap.size w W' := below_step h i.out
theorem zs_ (h : Below w.heap.size w W) [i : Sz W W'] : w.heap.size ≤ W'.heap.size := Nat.le_trans h.size i.out
theorem gw_ {g : Nat} (hg : g = W'.heap.size) (h : Below w.heap.size w W) [i : Sz W W'] : w.heap.size ≤ g := by rw [hg]; exact zs_ h
theorem nl_ {g g' : Nat} {o : Obj} (hg : g' = W'.heap.size) (h : W.heap[g]? = some o) [i : Sz W W'] : g ≠ g' := by
  have h1 := blk_lt h
  have h2 := i.out
  omega
theorem nr_ {g g' : Nat} {o : Obj} (hg : g' = W'.heap.size) (h : W.heap[g]? = some o) [i : Sz W W'] : g' ≠ g := (nl_ hg h).symm
theorem zK {g : Nat} {o : Obj} (h : W.heap[g]? = some o) [i : St W W'] : W'.heap[g]? = some o := blk_below h i.out
variable {α : Type} {d : Kd α} {e base : Nat} {ok : Nat → Prop} {v : Value} {xs : List α}
theorem zR (h : d.R e W base ok v xs) [i : St W W'] : d.R e W' base ok v xs := Kd.R_below h i.out
theorem zS (h : Kd.S d e W base ok v xs) [i : St W W'] : Kd.S d e W' base ok v xs := Kd.S_below h i.out
theorem zN (h : Kd.N d e W base ok v xs) [i : St W W'] : Kd.N d e W' base ok v xs := Kd.N_below h i.out
theorem zV (h : Kd.V d e W base ok v xs) [i : St W W'] : Kd.V d e W' base ok v xs := Kd.V_below h i.out
theorem zQ (h : d.Q e W base ok v xs) [i : St W W'] : d.Q e W' base ok v xs := Kd.Q_below h i.out
theorem zC {A : Option Addr} {n : Nat} (h : d.C W A n xs) [i : St W W'] : d.C W' A n xs := Kd.C_below h i.out
end
section
variable {P : Program} {ops : Array Oper} {Q : Exit → Act → World → Prop} {w : World}
theorem goL_ {rest : List Oper} {oi : Oper} {a : Act} (N : Option Tmp) {f : FuncId} {fn : Func} {as : Array Operand} {ts : Array TypeId} (hf : P.funcs[f]? = some fn) (args : Array Value)
    (h : Calls P f args w fun e w' => ∃ v, e = .returned v ∧ wpList P ops Q rest (a.put N v) w')
    (hd : oi.dst = N := by rfl) (hg : oi.guard = none := by rfl) (hname : (fn.name == "runtime.NumGoroutine") = false := by kernel_rfl) (hb : fn.body.isSome = true := by rfl) (hop : oi.op = .call { callee := .value (.func f), args := as, argTypes := ts } := by rfl)
    (hargs : as.map a.eval = args := by (try simp only [List.map_toArray, List.map_cons, List.map_nil]); first | done | rfl | (simp only [List.length_drop, List.length_take]; rfl)) : wpList P ops Q (oi :: rest) a w := goesL_ N hd hg hf hname hb args hop hargs h
end
section
variable {P : Program} {ops : Array Oper} {Q : Exit → Act → World → Prop} {md : Region.Mode} {S : World → Prop} {ds : List Nat}
theorem goR_ {oi : Oper} {N : Option Tmp} {a : Act} {w : World} {K : Act → World → Prop} {f : FuncId} {fn : Func} {as : Array Operand} {ts : Array TypeId} (hf : P.funcs[f]? = some fn) (args : Array Value)
    (h : Calls P f args w fun e w' => ∃ v, e = .returned v ∧ K (a.put N v) w') (hname : (fn.name == "runtime.NumGoroutine") = false := by kernel_rfl) (hb : fn.body.isSome = true := by rfl)
    (hw : Region.wanted oi (yielded ops a.tmps) = true := by rfl) (hN : oi.dst = N := by rfl) (hop : oi.op = .call { callee := .value (.func f), args := as, argTypes := ts } := by rfl)
    (hargs : as.map a.eval = args := by (try simp only [List.map_toArray, List.map_cons, List.map_nil]); first | done | rfl | (simp only [List.length_drop, List.length_take]; rfl)) : if Region.wanted oi (yielded ops a.tmps) = true then Oper.wp P oi a w K Q else K (a.put N undef) w := goes_ hf hname hb args hw hN hop hargs h
/-- Flags as a number's bits. -/
def bt_ (n m : Nat) : Array Bool := ((List.range n).map fun i => m.testBit i).toArray
theorem nm_ {fuel : Nat} {l : Array Bool} {a a' : Act} {w : World} (h : wpAnyLast P md ops Q S ds fuel l a' w) (ha : a = a' := by first | (simp only [putAll, Act.put, List.setIfInBounds_toArray, List.set_cons_zero, List.set_cons_succ]; done) | (simp only [putAll, Act.put, List.setIfInBounds_toArray, List.set_cons_zero, List.set_cons_succ]; rfl)) : wpAnyLast P md ops Q S ds fuel l a w := norm_ ha h
theorem pu_ {T : Bool × List (List Nat × List Nat)} {i : Nat} {oi : Oper} {v : Value} {fuel : Nat} {l : Array Bool} {a a' : Act} {w : World} (N : Option Tmp) (l' : Array Bool) (hT : Aside0 (rtab md ops = T)) (h : wpAnyLast P md ops Q S ds fuel l' a' w)
    (hi : ops[i]? = some oi := by rfl) (hN : oi.dst = N := by rfl) (hc : anyT T l.toList l'.toList i = true := by kernel_rfl) (hQ : ∀ c a w, Q (.panic c) (a.put oi.dst v) w → Q (.panic c) a w := by exact fun _ _ _ h => h)
    (hy : Yields P ops oi v a := by exact Or.inl ⟨by rfl, by intro w'; go_simp; with_reducible rfl⟩) (ha : a.put N v = a' := by simp only [Act.put, List.setIfInBounds_toArray, List.set_cons_zero, List.set_cons_succ, i64_w, i32_w]; rfl) :
    wpAnyLast P md ops Q S ds (fuel + 1) l a w := pure_ l' hi hN (any_of hT.out hc) hQ hy ha h
theorem ta_ {T : Bool × List (List Nat × List Nat)} {B : List Nat} {i : Nat} {oi : Oper} {v : Value} {fuel : Nat} {l : Array Bool} {a a' : Act} {w : World} (N : Option Tmp) (l' : Array Bool) (hT : Aside0 (rtab md ops = T)) (hW : Aside0 (waitsOk T.2 B = true)) (hS : S w) (h : wpAnyLast P md ops Q S ds fuel l' a' w)
    (hi : ops[i]? = some oi := by rfl) (hN : oi.dst = N := by rfl) (hc : takeW T B ds l.toList l'.toList i = true := by kernel_rfl) (hQ : ∀ c a w, Q (.panic c) (a.put oi.dst v) w → Q (.panic c) a w := by exact fun _ _ _ h => h)
    (hy : YieldsIf P ops S oi v a := by exact Or.inl ⟨by rfl, by intro w' hs_; (repeat (refine And.elim (fun s_ hs_ => ?_) hs_)); go_simp; with_reducible rfl⟩) (ha : a.put N v = a' := by simp only [Act.put, List.setIfInBounds_toArray, List.set_cons_zero, List.set_cons_succ, i64_w, i32_w]; rfl) :
    wpAnyLast P md ops Q S ds (fuel + 1) l a w := take_ l' hi hN (take_ofW hT.out hW.out hc) hQ hy hS ha h
end
end Go.Proofs.YtimajkahadhhhaaW.PrintMore
