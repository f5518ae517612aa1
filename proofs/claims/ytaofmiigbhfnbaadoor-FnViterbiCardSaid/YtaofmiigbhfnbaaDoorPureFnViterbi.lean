/- The law FnViterbi answers true for all drawn strings: no bits cost less than the decoded ones, and of those that cost as much none stands ahead of them. -/
import Derived.Test.YtaofmiigbhfnbaaDoorPFnViterbix9
import Derived.Test.YtaofmiigbhfnbaaDoorKKit
import Derived.Test.YtaofmiigbhfnbaaDoorKVit
set_option linter.unusedVariables false
set_option linter.unusedSimpArgs false
namespace Go.Proofs.YtaofmiigbhfnbaaDoor.Pure
open Go Go.RowKit Go.Proofs.YtaofmiigbhfnbaaDoor Go.Proofs.YtaofmiigbhfnbaaDoor.PFnViterbi Go.Proofs.YtaofmiigbhfnbaaDoorW.PrintWords Go.Proofs.YtaofmiigbhfnbaaDoorW.PrintLast Go.Proofs.YtaofmiigbhfnbaaDoorW.PrintMore

def start4 : List S39 := [⟨⟨#[]⟩, 0⟩, ⟨⟨#[]⟩, -1⟩, ⟨⟨#[]⟩, -1⟩, ⟨⟨#[]⟩, -1⟩]
def none4 : List S39 := [⟨⟨#[]⟩, -1⟩, ⟨⟨#[]⟩, -1⟩, ⟨⟨#[]⟩, -1⟩, ⟨⟨#[]⟩, -1⟩]
/-- The digit of a bit. -/
def dig (b : Nat) : ByteArray := strOfNums [((48 + b : Nat) : Int)]
/-- A path goes on. -/
def onward (r : List Int) (st : Nat) (p : S39) (b : Nat) : S39 := ⟨p.f0 ++ dig b, p.f1 + (K.ham (K.outB st b) r : Nat)⟩
/-- Whether a path is better than another one. -/
def pbetter (x n : S39) : Bool := decide (n.f1 < 0) || (decide (x.f1 < n.f1) || (decide (x.f1 = n.f1) && Op.bytesLess x.f0.toList n.f0.toList))
def upd (L : List S39) (q : Nat) (x : S39) : List S39 := if pbetter x (rd_T39 L (q : Int)) = true then L.set q x else L
def stepBit (r : List Int) (st : Nat) (p : S39) (b : Nat) (L : List S39) : List S39 := if p.f1 < 0 then L else upd L (K.nextS st b) (onward r st p b)
def step2 (last : Bool) (r : List Int) (st : Nat) (p : S39) (L : List S39) : List S39 := if last = true then stepBit r st p 0 L else stepBit r st p 1 (stepBit r st p 0 L)
def stepL (last : Bool) (r : List Int) : List S39 → Nat → List S39 → List S39
  | [], _, L => L
  | p :: l, st, L => stepL last r l (st + 1) (step2 last r st p L)
def step (last : Bool) (r : List Int) (l : List S39) : List S39 := stepL last r l 0 none4
/-- The paths after n steps. -/
def pathsL (x : ByteArray) : Nat → List S39
  | 0 => start4
  | n + 1 => step false (bytesOf (x.extract (3 * n) (3 * n + 3))) (pathsL x n)
/-- What holds of the paths after i steps. -/
structure Four (i : Nat) (L : List S39) : Prop where
  len : L.length = 4
  lo : ∀ p ∈ L, -1 ≤ p.f1
  hi : ∀ p ∈ L, p.f1 ≤ 3 * i
  sz : ∀ p ∈ L, p.f0.size ≤ i
theorem upd_four {i : Nat} {L : List S39} (h : Four i L) (q : Nat) (x : S39) (h1 : -1 ≤ x.f1) (h2 : x.f1 ≤ 3 * i) (h3 : x.f0.size ≤ i) : Four i (upd L q x) := by
  unfold upd
  split
  · refine ⟨by rw [List.length_set]; exact h.len, ?_, ?_, ?_⟩ <;> intro p hp <;> rcases List.mem_or_eq_of_mem_set hp with hq | rfl
    · exact h.lo p hq
    · exact h1
    · exact h.hi p hq
    · exact h2
    · exact h.sz p hq
    · exact h3
  · exact h
theorem dig_size (b : Nat) : (dig b).size = 1 := by unfold dig; rw [strOfNums_size]; rfl
theorem onward_four {i : Nat} (r : List Int) (st : Nat) (p : S39) (b : Nat) (h0 : 0 ≤ p.f1) (h1 : p.f1 ≤ 3 * i) (h2 : p.f0.size ≤ i) : 0 ≤ (onward r st p b).f1 ∧ (onward r st p b).f1 ≤ 3 * (i + 1 : Nat) ∧ (onward r st p b).f0.size ≤ i + 1 := by
  have hh := K.ham_le (K.outB st b) r
  rw [K.outB_length] at hh
  refine ⟨?_, ?_, ?_⟩
  · show 0 ≤ p.f1 + (K.ham (K.outB st b) r : Nat); omega
  · show p.f1 + (K.ham (K.outB st b) r : Nat) ≤ 3 * (i + 1 : Nat); omega
  · show (p.f0 ++ dig b).size ≤ i + 1
    rw [ByteArray.size_append, dig_size]; omega
theorem stepBit_four {i : Nat} (r : List Int) (st : Nat) (p : S39) (b : Nat) {L : List S39} (h : Four (i + 1) L) (h1 : p.f1 ≤ 3 * i) (h2 : p.f0.size ≤ i) : Four (i + 1) (stepBit r st p b L) := by
  unfold stepBit
  by_cases hn : p.f1 < 0
  · rw [if_pos hn]; exact h
  · rw [if_neg hn]
    have := onward_four r st p b (by omega) h1 h2
    exact upd_four h _ _ (by omega) this.2.1 this.2.2
theorem step2_four {i : Nat} (last : Bool) (r : List Int) (st : Nat) (p : S39) {L : List S39} (h : Four (i + 1) L) (h1 : p.f1 ≤ 3 * i) (h2 : p.f0.size ≤ i) : Four (i + 1) (step2 last r st p L) := by
  unfold step2
  split
  · exact stepBit_four r st p 0 h h1 h2
  · exact stepBit_four r st p 1 (stepBit_four r st p 0 h h1 h2) h1 h2
theorem stepL_four {i : Nat} (last : Bool) (r : List Int) : ∀ (l : List S39) (st : Nat) (L : List S39), Four (i + 1) L → (∀ p ∈ l, p.f1 ≤ 3 * i ∧ p.f0.size ≤ i) → Four (i + 1) (stepL last r l st L)
  | [], _, _, h, _ => h
  | p :: l, st, L, h, hl => stepL_four last r l (st + 1) _ (step2_four last r st p h (hl p (by simp)).1 (hl p (by simp)).2) (fun q hq => hl q (by simp [hq]))
theorem none4_four (i : Nat) : Four i none4 := by
  refine ⟨rfl, ?_, ?_, ?_⟩ <;> intro p hp <;> simp only [none4, List.mem_cons, List.not_mem_nil, or_false, or_self] at hp <;> subst hp
  · show (-1 : Int) ≤ -1; omega
  · show (-1 : Int) ≤ 3 * i; omega
  · show (0 : Nat) ≤ i; omega
theorem step_four {i : Nat} (last : Bool) (r : List Int) {l : List S39} (h : Four i l) : Four (i + 1) (step last r l) :=
  stepL_four last r l 0 none4 (none4_four _) (fun p hp => ⟨h.hi p hp, h.sz p hp⟩)
theorem start4_four : Four 0 start4 := by
  refine ⟨rfl, ?_, ?_, ?_⟩ <;> intro p hp <;> simp only [start4, List.mem_cons, List.not_mem_nil, or_false, or_self] at hp <;> rcases hp with rfl | rfl
  · show (-1 : Int) ≤ 0; omega
  · show (-1 : Int) ≤ -1; omega
  · show (0 : Int) ≤ 3 * (0 : Nat); omega
  · show (-1 : Int) ≤ 3 * (0 : Nat); omega
  · show (0 : Nat) ≤ 0; omega
  · show (0 : Nat) ≤ 0; omega
theorem pathsL_four (x : ByteArray) : ∀ n, Four n (pathsL x n)
  | 0 => start4_four
  | n + 1 => step_four false _ (pathsL_four x n)
theorem rdP {L : List S39} {n : Nat} (h : n < L.length) : rd_T39 L (n : Int) = L[n] := by simp [rd_T39, List.getElem?_eq_getElem h]
theorem l10Unlike_ev (a b : ByteArray) (ha : a.size ≤ 140737488351232) (h : a.size ≤ b.size) : Ev (fun k => spec_l10Unlike.f k a b) ((K.ham (bytesOf a) (bytesOf b) : Nat) : Int) := by
  have key : ∀ (d n c : Nat), n + d = a.size → c ≤ n → Ev (fun k => spec_l10Unlike.l0 k a b (c : Int) (n : Int)) ((c + K.ham ((bytesOf a).drop n) ((bytesOf b).drop n) : Nat) : Int) := by
    intro d
    induction d with
    | zero =>
      intro n c h1 h2
      apply K.Ev.succ
      simp only [spec_l10Unlike.l0, if_neg (show ¬ ((n : Int) < (a.size : Int)) by omega)]
      rw [List.drop_of_length_le (show (bytesOf a).length ≤ n by rw [bytesOf_length]; omega)]
      exact Ev.now _
    | succ d ih =>
      intro n c h1 h2
      have hn : n < a.size := by omega
      have hn2 : n < b.size := by omega
      have ws := K.w64s n (show n < 9223372036854775807 by omega)
      have wc := K.w64s c (show c < 9223372036854775807 by omega)
      have c1 : (n : Int) < (a.size : Int) := by omega
      have c2 : (0 : Int) ≤ (n : Int) := by omega
      have c3 : (n : Int) < (b.size : Int) := by omega
      rw [K.drop_bytes a n hn, K.drop_bytes b n hn2]
      apply K.Ev.succ
      by_cases he : bt a (n : Int) = bt b (n : Int)
      · have r := ih (n + 1) c (by omega) (by omega)
        simp only [spec_l10Unlike.l0, if_pos c1, if_pos c2, if_pos c3, if_pos he, ws, K.ham, Nat.zero_add]; exact r
      · have r := ih (n + 1) (c + 1) (by omega) (by omega)
        simp only [spec_l10Unlike.l0, if_pos c1, if_pos c2, if_pos c3, if_neg he, ws, wc, K.ham, ← Nat.add_assoc]; exact r
  have := key a.size 0 0 (by omega) (by omega)
  simp only [List.drop_zero, Nat.zero_add] at this
  simp only [spec_l10Unlike.f]
  exact this

theorem l10Out_eq (s b : Nat) (hs : s < 4) (hb : b < 2) : spec_l10Out.f (s : Int) (b : Int) = some (strOfNums (K.outB s b), ((K.nextS s b : Nat) : Int)) := by
  have : ∀ (s : Fin 4) (b : Fin 2), spec_l10Out.f (s.val : Int) (b.val : Int) = some (strOfNums (K.outB s.val b.val), ((K.nextS s.val b.val : Nat) : Int)) := by decide +kernel
  exact this ⟨s, hs⟩ ⟨b, hb⟩

theorem l10Better_eq (x n : S39) : spec_l10Better.f x.f0 x.f1 n.f0 n.f1 = some (pbetter x n) := by
  unfold spec_l10Better.f pbetter
  by_cases h1 : n.f1 < 0
  · rw [if_pos h1, decide_eq_true h1, Bool.true_or]
  · rw [if_neg h1, decide_eq_false h1, Bool.false_or]
    by_cases h2 : x.f1 < n.f1
    · rw [if_pos h2, decide_eq_true h2, Bool.true_or]
    · rw [if_neg h2, decide_eq_false h2, Bool.false_or]
      by_cases h3 : x.f1 = n.f1
      · rw [if_pos h3, decide_eq_true h3, Bool.true_and]
      · rw [if_neg h3, decide_eq_false h3, Bool.false_and]

theorem l10Bit_eq (b : Nat) (hb : b < 2) : spec_l10Bit.f (b : Int) = some (dig b) := by
  have : ∀ b : Fin 2, spec_l10Bit.f (b.val : Int) = some (dig b.val) := by decide +kernel
  exact this ⟨b, hb⟩
theorem l10Step_bit (r : ByteArray) (hr : r.size = 3) (last : Bool) (l : List S39) (st : Nat) (hst : st < 4) (p : S39) (i : Nat) (hi : i ≤ 1000000) (h0 : 0 ≤ p.f1) (h1 : p.f1 ≤ 3 * i) (h2 : p.f0.size ≤ i) (b : Nat) (hb : b < 2) (L : List S39) (hL : L.length = 4) (R : List S39)
    (h : Ev (fun k => spec_l10Step.l1 k r last (upd L (K.nextS st b) (onward (bytesOf r) st p b)) (st : Int) ((b + 1 : Nat) : Int) l (l.length : Int) (st : Int) p.f0 p.f1) R) :
    Ev (fun k => spec_l10Step.j2 k r last L (st : Int) (b : Int) l (l.length : Int) (st : Int) false p.f0 p.f1) R := by
  have hn := K.nextS_lt hst hb
  have hu := l10Unlike_ev (strOfNums (K.outB st b)) r (by rw [strOfNums_size, K.outB_length]; omega) (by rw [strOfNums_size, K.outB_length]; omega)
  have hbo : bytesOf (strOfNums (K.outB st b)) = K.outB st b := K.bytesOf_strOf _ (fun x hx => by have := K.outB_rng st b x hx; omega)
  rw [hbo] at hu
  have hle := K.ham_le (K.outB st b) (bytesOf r)
  rw [K.outB_length] at hle
  have c1 : p.f0.size + (dig b).size ≤ 9223372036854775807 := by rw [dig_size]; omega
  have c2 : (0 : Int) ≤ ((K.nextS st b : Nat) : Int) := by omega
  have c3 : ((K.nextS st b : Nat) : Int) < (L.length : Int) := by omega
  have w : K.Eqn (wrap64 (p.f1 + ((K.ham (K.outB st b) (bytesOf r) : Nat) : Int))) (p.f1 + ((K.ham (K.outB st b) (bytesOf r) : Nat) : Int)) := ⟨K.w64 (by omega) (by omega)⟩
  have wb : K.Eqn (wrap64 ((b : Int) + 1)) ((b + 1 : Nat) : Int) := ⟨K.w64s b (by omega)⟩
  have hbet := l10Better_eq (onward (bytesOf r) st p b) (rd_T39 L ((K.nextS st b : Nat) : Int))
  apply K.Ev.succ
  simp only [spec_l10Step.j2, Bool.false_eq_true, if_false, l10Out_eq st b hst hb, Option.bind_some, l10Bit_eq b hb, if_pos c1]
  refine Ev.bind hu ?_
  simp only [if_pos c2, if_pos c3, w.out, wb.out]
  rw [show p.f0 ++ dig b = (onward (bytesOf r) st p b).f0 from rfl, show p.f1 + ((K.ham (K.outB st b) (bytesOf r) : Nat) : Int) = (onward (bytesOf r) st p b).f1 from rfl]
  simp only [hbet, Option.bind_some]
  by_cases hq : pbetter (onward (bytesOf r) st p b) (rd_T39 L ((K.nextS st b : Nat) : Int)) = true
  · rw [upd, if_pos hq] at h
    simp only [hq, if_true, Int.toNat_natCast]
    exact h
  · rw [upd, if_neg hq] at h
    simp only [hq, if_false]
    exact h
theorem l10Step_state (r : ByteArray) (hr : r.size = 3) (last : Bool) (l : List S39) (st : Nat) (hst : st < 4) (p : S39) (i : Nat) (hi : i ≤ 1000000) (h1 : p.f1 ≤ 3 * i) (h2 : p.f0.size ≤ i) (L : List S39) (hL : L.length = 4) (R : List S39)
    (h : Ev (fun k => spec_l10Step.l0 k r last (step2 last (bytesOf r) st p L) l (l.length : Int) ((st + 1 : Nat) : Int)) R) :
    Ev (fun k => spec_l10Step.l1 k r last L (st : Int) 0 l (l.length : Int) (st : Int) p.f0 p.f1) R := by
  have ws : K.Eqn (wrap64 ((st : Int) + 1)) ((st + 1 : Nat) : Int) := ⟨K.w64s st (by omega)⟩
  have fin : Ev (fun k => spec_l10Step.l1 k r last (step2 last (bytesOf r) st p L) (st : Int) ((2 : Nat) : Int) l (l.length : Int) (st : Int) p.f0 p.f1) R := by
    apply K.Ev.succ
    simp only [spec_l10Step.l1, show ¬ (((2 : Nat) : Int) < 2) by omega, if_false, ws.out]
    exact h
  by_cases hn : p.f1 < 0
  · have skip : ∀ (b : Nat), b < 2 → Ev (fun k => spec_l10Step.l1 k r last L (st : Int) ((b + 1 : Nat) : Int) l (l.length : Int) (st : Int) p.f0 p.f1) R → Ev (fun k => spec_l10Step.l1 k r last L (st : Int) (b : Int) l (l.length : Int) (st : Int) p.f0 p.f1) R := by
      intro b hb hh
      apply K.Ev.succ
      simp only [spec_l10Step.l1, if_pos (show (b : Int) < 2 by omega), if_pos hn]
      apply K.Ev.succ
      simp only [spec_l10Step.j2, if_true, K.w64s b (show b < 9223372036854775807 by omega)]
      exact hh
    have e : step2 last (bytesOf r) st p L = L := by unfold step2 stepBit; simp only [if_pos hn, ite_self]
    rw [e] at fin
    exact skip 0 (by omega) (skip 1 (by omega) fin)
  · have one := l10Step_bit r hr last l st hst p i hi (by omega) h1 h2
    have go : ∀ (b : Nat) (L : List S39), b < 2 → (last = true → b = 0) → L.length = 4 → Ev (fun k => spec_l10Step.l1 k r last (stepBit (bytesOf r) st p b L) (st : Int) ((b + 1 : Nat) : Int) l (l.length : Int) (st : Int) p.f0 p.f1) R → Ev (fun k => spec_l10Step.l1 k r last L (st : Int) (b : Int) l (l.length : Int) (st : Int) p.f0 p.f1) R := by
      intro b L hb hlb hL hh
      rw [stepBit, if_neg hn] at hh
      apply K.Ev.succ
      cases last with
      | false => simp only [spec_l10Step.l1, if_pos (show (b : Int) < 2 by omega), if_neg hn, Bool.false_eq_true, if_false]; exact one b hb L hL R hh
      | true =>
        obtain rfl : b = 0 := hlb rfl
        have e : (((0 : Nat) : Int) == 1) = false := rfl
        simp only [spec_l10Step.l1, if_pos (show ((0 : Nat) : Int) < 2 by omega), if_neg hn, if_true, e]; exact one 0 hb L hL R hh
    cases last with
    | false =>
      simp only [step2, Bool.false_eq_true, if_false] at fin
      refine go 0 L (by omega) (fun h => by cases h) hL ?_
      refine go 1 _ (by omega) (fun h => by cases h) ?_ fin
      unfold stepBit upd
      split
      · exact hL
      · split
        · rw [List.length_set]; exact hL
        · exact hL
    | true =>
      simp only [step2, if_true] at fin
      refine go 0 L (by omega) (fun _ => rfl) hL ?_
      apply K.Ev.succ
      have e : (((0 + 1 : Nat) : Int) == 1) = true := rfl
      simp only [spec_l10Step.l1, if_pos (show ((0 + 1 : Nat) : Int) < 2 by omega), if_neg hn, if_true, e]
      apply K.Ev.succ
      have w2 := K.w64s (0 + 1) (by omega)
      simp only [spec_l10Step.j2, if_true, w2]
      exact fin
theorem l10Step_ev (r : ByteArray) (hr : r.size = 3) (last : Bool) (l : List S39) (i : Nat) (hi : i ≤ 1000000) (hl : Four i l) : Ev (fun k => spec_l10Step.f k l r last) (step last (bytesOf r) l) := by
  have key : ∀ (d n : Nat) (L : List S39), n + d = l.length → Four (i + 1) L → Ev (fun k => spec_l10Step.l0 k r last L l (l.length : Int) (n : Int)) (stepL last (bytesOf r) (l.drop n) n L) := by
    intro d
    induction d with
    | zero =>
      intro n L h1 h2
      rw [List.drop_of_length_le (by omega)]
      apply K.Ev.succ
      simp only [spec_l10Step.l0, if_neg (show ¬ ((n : Int) < (l.length : Int)) by omega), stepL]
      exact Ev.now _
    | succ d ih =>
      intro n L h1 h2
      have hn : n < l.length := by omega
      have h4 := hl.len
      have hp := List.getElem_mem hn
      have r1 := ih (n + 1) (step2 last (bytesOf r) n l[n] L) (by omega) (step2_four last _ n _ h2 (hl.hi _ hp) (hl.sz _ hp))
      rw [List.drop_eq_getElem_cons hn, stepL]
      apply K.Ev.succ
      simp only [spec_l10Step.l0, if_pos (show (n : Int) < (l.length : Int) by omega), if_pos (show (0 : Int) ≤ (n : Int) by omega), rdP hn]
      exact l10Step_state r hr last l n (by omega) l[n] i hi (hl.hi _ hp) (hl.sz _ hp) L h2.len _ r1
  have := key l.length 0 none4 (by omega) (none4_four _)
  rw [List.drop_zero] at this
  simp only [spec_l10Step.f]
  exact this

theorem ext3_size (x : ByteArray) (n : Nat) (h : 3 * n + 3 ≤ x.size) : (x.extract (3 * n) (3 * n + 3)).size = 3 := by
  rw [ByteArray.size_extract]; omega
theorem l10Paths_ev (x : ByteArray) (n : Nat) (hx : x.size = 3 * (n + 2)) (hn : n ≤ 100000) : Ev (fun k => spec_l10Paths.f k x) (pathsL x n) := by
  have key : ∀ (d i : Nat), i + d = n → Ev (fun k => spec_l10Paths.l0 k x (pathsL x i) ((3 * i : Nat) : Int)) (pathsL x n) := by
    intro d
    induction d with
    | zero =>
      intro i h
      obtain rfl : i = n := by omega
      have w1 : K.Eqn (wrap64 (((3 * i : Nat) : Int) + 3)) ((3 * i + 3 : Nat) : Int) := ⟨by rw [K.w64 (by omega) (by omega)]; omega⟩
      have w2 : K.Eqn (wrap64 ((x.size : Int) - 6)) ((3 * i : Nat) : Int) := ⟨by rw [K.w64 (by omega) (by omega)]; omega⟩
      have c : ¬ ((3 * i + 3 : Nat) : Int) ≤ ((3 * i : Nat) : Int) := by omega
      apply K.Ev.succ
      simp only [spec_l10Paths.l0, w1.out, w2.out, if_neg c]
      exact Ev.now _
    | succ d ih =>
      intro i h
      have r := ih (i + 1) (by omega)
      have w1 : K.Eqn (wrap64 (((3 * i : Nat) : Int) + 3)) ((3 * i + 3 : Nat) : Int) := ⟨by rw [K.w64 (by omega) (by omega)]; omega⟩
      have w2 : K.Eqn (wrap64 ((x.size : Int) - 6)) ((3 * n : Nat) : Int) := ⟨by rw [K.w64 (by omega) (by omega)]; omega⟩
      have c : ((3 * i + 3 : Nat) : Int) ≤ ((3 * n : Nat) : Int) := by omega
      have c2 : (0 : Int) ≤ ((3 * i : Nat) : Int) := by omega
      have c3 : ((3 * i : Nat) : Int) ≤ ((3 * i + 3 : Nat) : Int) := by omega
      have c4 : ((3 * i + 3 : Nat) : Int) ≤ (x.size : Int) := by omega
      apply K.Ev.succ
      simp only [spec_l10Paths.l0, w1.out, w2.out, if_pos c, if_pos c2, if_pos c3, if_pos c4, Int.toNat_natCast]
      exact Ev.bind (l10Step_ev _ (ext3_size x i (by omega)) false _ i (by omega) (pathsL_four x i)) r
  simp only [spec_l10Paths.f]
  exact key n 0 (by omega)

/-- Whether a string is a received one. -/
def recvB (r : ByteArray) : Bool := K.bitsB r && (decide (r.size ≤ 96) && (decide (r.size % 3 = 0) && decide (6 ≤ r.size)))
theorem l10Bits_ev (s : ByteArray) (hs : s.size ≤ 140737488351232) (m : Int) : Ev (fun k => spec_l10Bits.f k s m) (K.bitsB s && decide ((s.size : Int) ≤ m)) := by
  have key : ∀ (d n : Nat), n + d = s.size → Ev (fun k => spec_l10Bits.l0 k s m (n : Int)) (((bytesOf s).drop n).all (fun x => x == 48 || x == 49) && decide ((s.size : Int) ≤ m)) := by
    intro d
    induction d with
    | zero =>
      intro n h
      apply K.Ev.succ
      simp only [spec_l10Bits.l0, if_neg (show ¬ ((n : Int) < (s.size : Int)) by omega)]
      rw [List.drop_of_length_le (by rw [bytesOf_length]; omega), List.all_nil, Bool.true_and]
      exact Ev.now _
    | succ d ih =>
      intro n h
      have hn : n < s.size := by omega
      have r := ih (n + 1) (by omega)
      have ws := K.w64s n (show n < 9223372036854775807 by omega)
      rw [K.drop_bytes s n hn, List.all_cons]
      apply K.Ev.succ
      by_cases h0 : bt s (n : Int) = 48
      · have e : (bt s (n : Int) == 48 || bt s (n : Int) == 49) = true := by simp [h0]
        rw [e, Bool.true_and]
        simp only [spec_l10Bits.l0, if_pos (show (n : Int) < (s.size : Int) by omega), if_pos (show (0 : Int) ≤ (n : Int) by omega), if_pos h0, ws]; exact r
      · by_cases h1 : bt s (n : Int) = 49
        · have e : (bt s (n : Int) == 48 || bt s (n : Int) == 49) = true := by simp [h1]
          rw [e, Bool.true_and]
          simp only [spec_l10Bits.l0, if_pos (show (n : Int) < (s.size : Int) by omega), if_pos (show (0 : Int) ≤ (n : Int) by omega), if_neg h0, if_pos h1, ws]; exact r
        · have e : (bt s (n : Int) == 48 || bt s (n : Int) == 49) = false := by simp [h0, h1]
          rw [e, Bool.false_and, Bool.false_and]
          simp only [spec_l10Bits.l0, if_pos (show (n : Int) < (s.size : Int) by omega), if_pos (show (0 : Int) ≤ (n : Int) by omega), if_neg h0, if_neg h1]; exact Ev.now _
  have := key s.size 0 (by omega)
  rw [List.drop_zero] at this
  simp only [spec_l10Bits.f]
  exact this

theorem l10Received_ev (r : ByteArray) (hr : r.size ≤ 140737488351232) : Ev (fun k => spec_l10Received.f k r) (recvB r) := by
  have s := l10Bits_ev r hr 96
  have e : decide ((r.size : Int) ≤ 96) = decide (r.size ≤ 96) := by rw [decide_eq_decide]; omega
  rw [e] at s
  unfold recvB
  simp only [spec_l10Received.f]
  refine Ev.bind s ?_
  by_cases h1 : (K.bitsB r && decide (r.size ≤ 96)) = true
  · rw [h1]
    rw [Bool.and_eq_true] at h1
    simp only [if_true, h1.1, h1.2, Bool.true_and]
    by_cases h2 : r.size % 3 = 0
    · rw [if_pos (by omega), decide_eq_true h2, Bool.true_and]
      have e2 : decide ((r.size : Int) ≥ 6) = decide (6 ≤ r.size) := by rw [decide_eq_decide]; omega
      rw [e2]
      exact Ev.now _
    · rw [if_neg (by omega), decide_eq_false h2, Bool.false_and]
      exact Ev.now _
  · have h1' : (K.bitsB r && decide (r.size ≤ 96)) = false := by simpa using h1
    rw [h1', ← Bool.and_assoc, h1', Bool.false_and]
    simp only [Bool.false_eq_true, if_false]
    exact Ev.now _
theorem recv_size {r : ByteArray} (h : recvB r = true) : ∃ n : Nat, r.size = 3 * (n + 2) ∧ n ≤ 30 := by
  unfold recvB at h
  simp only [Bool.and_eq_true, decide_eq_true_eq] at h
  exact ⟨r.size / 3 - 2, by omega, by omega⟩
theorem specBestPaths_ev (r : ByteArray) (hr : r.size ≤ 140737488351232) : Ev (fun k => spec_BestPaths.f k r) (if recvB r = true then (pathsL r (r.size / 3 - 2), true) else ([], false)) := by
  simp only [spec_BestPaths.f]
  refine Ev.bind (l10Received_ev r hr) ?_
  by_cases h : recvB r = true
  · obtain ⟨n, e, hn⟩ := recv_size h
    have e2 : r.size / 3 - 2 = n := by omega
    simp only [h, if_true, e2]
    exact Ev.bind (l10Paths_ev r n e (by omega)) (Ev.now _)
  · have h' : recvB r = false := by simpa using h
    simp only [h', Bool.false_eq_true, if_false]
    exact Ev.now _

theorem dropWhile_nil {p : UInt8 → Bool} : ∀ l : List UInt8, l.dropWhile p = [] ↔ l.all p = true
  | [] => by simp
  | b :: l => by
    rw [List.dropWhile_cons, List.all_cons]
    by_cases h : p b = true
    · rw [if_pos h, h, Bool.true_and]; exact dropWhile_nil l
    · rw [if_neg h]
      have : p b = false := by simpa using h
      simp [this]
theorem trimS_nil (l cs : List UInt8) : Lib.trimS l cs = [] ↔ l.all (cs.contains ·) = true := by
  unfold Lib.trimS Lib.trimLeftS Lib.trimRightS
  rw [dropWhile_nil, List.all_reverse]
  constructor
  · intro h
    have : (l.reverse.dropWhile (cs.contains ·)) = [] := by
      cases hd : l.reverse.dropWhile (cs.contains ·) with
      | nil => rfl
      | cons b r =>
        have h1 : cs.contains b = true := by rw [hd, List.all_cons, Bool.and_eq_true] at h; exact h.1
        have h2 := List.head?_dropWhile_not (cs.contains ·) l.reverse
        rw [hd] at h2
        simp only [List.head?_cons] at h2
        rw [h1] at h2
        exact absurd h2 (by simp)
    rw [dropWhile_nil, List.all_reverse] at this
    exact this
  · intro h
    have : (l.reverse.dropWhile (cs.contains ·)) = [] := by rw [dropWhile_nil, List.all_reverse]; exact h
    rw [this]; rfl
theorem areBits_eq (s : ByteArray) (hs : s.size ≤ 140737488351232) (m : Int) : impl_areBits.f s m = some (K.bitsB s && decide ((s.size : Int) ≤ m)) := by
  unfold impl_areBits.f
  by_cases h : (s.size : Int) ≤ m
  · rw [if_pos h, decide_eq_true h, Bool.and_true]
    have c2 : (⟨#[48, 49]⟩ : ByteArray).data.toList.all (fun b => decide (b.toNat < 128)) = true := by decide
    have c3 : (⟨#[48, 49]⟩ : ByteArray).size < 4294967281 := by decide
    simp only [strings_Trim.f, if_pos (show s.size ≤ 9223372036854775807 by omega), if_pos c2, if_pos c3, Option.bind_some, K.toList_data]
    congr 1
    rw [Bool.eq_iff_iff, beq_iff_eq]
    show Lib.trimS s.data.toList [48, 49] = [] ↔ _
    rw [trimS_nil]
    unfold K.bitsB bytesOf
    rw [List.all_map]
    have e : ∀ b : UInt8, ([48, 49] : List UInt8).contains b = ((fun x : Int => x == 48 || x == 49) ∘ fun b : UInt8 => (b.toNat : Int)) b := by
      intro b
      have hb : b = UInt8.ofNat b.toNat := by simp
      have h : ∀ n : Fin 256, ([48, 49] : List UInt8).contains (UInt8.ofNat n.val) = ((((UInt8.ofNat n.val).toNat : Int) == 48) || (((UInt8.ofNat n.val).toNat : Int) == 49)) := by decide +kernel
      rw [hb]
      exact h ⟨b.toNat, b.toNat_lt⟩
    simp only [e]
  · rw [if_neg h, decide_eq_false h, Bool.and_false]

theorem isReceived_eq (r : ByteArray) (hr : r.size ≤ 140737488351232) : impl_isReceived.f r = some (K.bitsB r && (decide (r.size ≤ 96) && (decide (r.size % 3 = 0) && decide (6 ≤ r.size)))) := by
  unfold impl_isReceived.f
  rw [areBits_eq r hr 96]
  have e : decide ((r.size : Int) ≤ 96) = decide (r.size ≤ 96) := by rw [decide_eq_decide]; omega
  rw [e]
  simp only [Option.bind_some]
  by_cases h1 : (K.bitsB r && decide (r.size ≤ 96)) = true
  · rw [h1]
    rw [Bool.and_eq_true] at h1
    simp only [if_true, h1.1, h1.2, Bool.true_and]
    by_cases h2 : r.size % 3 = 0
    · rw [if_pos (by omega), decide_eq_true h2, Bool.true_and]
      congr 1
      rw [decide_eq_decide]; omega
    · rw [if_neg (by omega), decide_eq_false h2, Bool.false_and]
  · have h1' : (K.bitsB r && decide (r.size ≤ 96)) = false := by simpa using h1
    rw [h1']
    simp only [Bool.false_eq_true, if_false]
    rw [← Bool.and_assoc, h1', Bool.false_and]

theorem distance_ev (a b : ByteArray) (ha : a.size ≤ 140737488351232) (h : a.size ≤ b.size) : Ev (fun k => impl_distance.f k a b) ((K.ham (bytesOf a) (bytesOf b) : Nat) : Int) := by
  have key : ∀ (d n c : Nat), n + d = a.size → c ≤ n → Ev (fun k => impl_distance.l0 k a b (c : Int) (a.size : Int) (n : Int)) ((c + K.ham ((bytesOf a).drop n) ((bytesOf b).drop n) : Nat) : Int) := by
    intro d
    induction d with
    | zero =>
      intro n c h1 h2
      apply K.Ev.succ
      simp only [impl_distance.l0, if_neg (show ¬ ((n : Int) < (a.size : Int)) by omega)]
      rw [List.drop_of_length_le (show (bytesOf a).length ≤ n by rw [bytesOf_length]; omega)]
      exact Ev.now _
    | succ d ih =>
      intro n c h1 h2
      have hn : n < a.size := by omega
      have hn2 : n < b.size := by omega
      have ws := K.w64s n (show n < 9223372036854775807 by omega)
      have wc := K.w64s c (show c < 9223372036854775807 by omega)
      have c1 : (n : Int) < (a.size : Int) := by omega
      have c2 : (0 : Int) ≤ (n : Int) := by omega
      have c3 : (n : Int) < (b.size : Int) := by omega
      rw [K.drop_bytes a n hn, K.drop_bytes b n hn2]
      apply K.Ev.succ
      by_cases he : bt a (n : Int) = bt b (n : Int)
      · have r := ih (n + 1) c (by omega) (by omega)
        simp only [impl_distance.l0, if_pos c1, if_pos c2, if_pos c3, if_pos he, ws, K.ham, Nat.zero_add]; exact r
      · have r := ih (n + 1) (c + 1) (by omega) (by omega)
        simp only [impl_distance.l0, if_pos c1, if_pos c2, if_pos c3, if_neg he, ws, wc, K.ham, ← Nat.add_assoc]; exact r
  have := key a.size 0 0 (by omega) (by omega)
  simp only [List.drop_zero, Nat.zero_add] at this
  simp only [impl_distance.f]
  exact this

theorem better_eq (x n : S39) (hx : 0 ≤ x.f1) : impl_better.f n.f0 n.f1 x.f0 x.f1 = some (if pbetter x n = true then (x.f0, x.f1) else (n.f0, n.f1)) := by
  unfold impl_better.f pbetter
  rw [if_pos (show x.f1 ≥ 0 by omega)]
  by_cases h1 : n.f1 < 0
  · rw [if_pos h1, decide_eq_true h1, Bool.true_or, if_pos rfl]
  · rw [if_neg h1, decide_eq_false h1, Bool.false_or]
    by_cases h2 : x.f1 < n.f1
    · rw [if_pos h2, decide_eq_true h2, Bool.true_or, if_pos rfl]
    · rw [if_neg h2, decide_eq_false h2, Bool.false_or]
      by_cases h3 : x.f1 = n.f1
      · rw [if_pos h3, decide_eq_true h3, Bool.true_and]
        split <;> rfl
      · rw [if_neg h3, decide_eq_false h3, Bool.false_and, if_neg (by simp)]

theorem outputs_eq (s b : Nat) (hs : s < 4) (hb : b < 2) : impl_outputs.f (s : Int) (b : Int) = some (strOfNums (K.outB s b), ((K.nextS s b : Nat) : Int)) := by
  have : ∀ (s : Fin 4) (b : Fin 2), impl_outputs.f (s.val : Int) (b.val : Int) = some (strOfNums (K.outB s.val b.val), ((K.nextS s.val b.val : Nat) : Int)) := by decide +kernel
  exact this ⟨s, hs⟩ ⟨b, hb⟩

theorem rune_dig (b : Nat) (hb : b < 2) : Utf8.encode (wrap32 (wrap64 (48 + (b : Int)))) = dig b := by
  have : ∀ b : Fin 2, Utf8.encode (wrap32 (wrap64 (48 + (b.val : Int)))) = dig b.val := by decide +kernel
  exact this ⟨b, hb⟩
theorem set_same (L : List S39) (n : Nat) (h : n < L.length) : L.set n ⟨L[n].f0, L[n].f1⟩ = L := List.set_getElem_self h
theorem bestPaths_bit (x : ByteArray) (n : Nat) (m : Nat) (hm : 3 * m + 3 ≤ x.size) (hm2 : m ≤ 1000000) (l : List S39) (st : Nat) (hst : st < 4) (p : S39) (i : Nat) (hi : i ≤ 1000000) (h1 : p.f1 ≤ 3 * i) (h2 : p.f0.size ≤ i) (b : Nat) (hb : b < 2) (L : List S39) (hL : L.length = 4) (R : List S39)
    (h : Ev (fun k => impl_bestPaths.l2 k x (m : Int) (stepBit (bytesOf (x.extract (3 * m) (3 * m + 3))) st p b L) (st : Int) (n : Int) (m : Int) l (l.length : Int) (st : Int) ((b + 1 : Nat) : Int) p.f0 p.f1) R) :
    Ev (fun k => impl_bestPaths.l2 k x (m : Int) L (st : Int) (n : Int) (m : Int) l (l.length : Int) (st : Int) (b : Int) p.f0 p.f1) R := by
  have hn := K.nextS_lt hst hb
  have e3 := ext3_size x m hm
  have wb : K.Eqn (wrap64 ((b : Int) + 1)) ((b + 1 : Nat) : Int) := ⟨K.w64s b (by omega)⟩
  by_cases h0 : p.f1 < 0
  · rw [stepBit, if_pos h0] at h
    apply K.Ev.succ
    simp only [impl_bestPaths.l2, if_pos (show (b : Int) < 2 by omega), outputs_eq st b hst hb, Option.bind_some, if_neg (show ¬ p.f1 ≥ 0 by omega), wb.out]
    exact h
  · rw [stepBit, if_neg h0] at h
    have hu := distance_ev (strOfNums (K.outB st b)) (x.extract (3 * m) (3 * m + 3)) (by rw [strOfNums_size, K.outB_length]; omega) (by rw [strOfNums_size, K.outB_length]; omega)
    have hbo : bytesOf (strOfNums (K.outB st b)) = K.outB st b := K.bytesOf_strOf _ (fun x hx => by have := K.outB_rng st b x hx; omega)
    rw [hbo] at hu
    have hle := K.ham_le (K.outB st b) (bytesOf (x.extract (3 * m) (3 * m + 3)))
    rw [K.outB_length] at hle
    have c1 : p.f0.size + (dig b).size ≤ 9223372036854775807 := by rw [dig_size]; omega
    have c2 : (0 : Int) ≤ ((K.nextS st b : Nat) : Int) := by omega
    have c3 : ((K.nextS st b : Nat) : Int) < (L.length : Int) := by omega
    have c4 : (0 : Int) ≤ ((3 * m : Nat) : Int) := by omega
    have c5 : ((3 * m : Nat) : Int) ≤ ((3 * m + 3 : Nat) : Int) := by omega
    have c6 : ((3 * m + 3 : Nat) : Int) ≤ (x.size : Int) := by omega
    have hto : K.nextS st b < L.length := by omega
    have ho := onward_four (bytesOf (x.extract (3 * m) (3 * m + 3))) st p b (by omega) h1 h2
    have w1 : K.Eqn (wrap64 (3 * (m : Int))) ((3 * m : Nat) : Int) := ⟨by rw [K.w64 (by omega) (by omega)]; omega⟩
    have w2 : K.Eqn (wrap64 (((3 * m : Nat) : Int) + 3)) ((3 * m + 3 : Nat) : Int) := ⟨by rw [K.w64 (by omega) (by omega)]; omega⟩
    have w : K.Eqn (wrap64 (p.f1 + ((K.ham (K.outB st b) (bytesOf (x.extract (3 * m) (3 * m + 3))) : Nat) : Int))) (p.f1 + ((K.ham (K.outB st b) (bytesOf (x.extract (3 * m) (3 * m + 3))) : Nat) : Int)) := ⟨K.w64 (by omega) (by omega)⟩
    have hbet := better_eq (onward (bytesOf (x.extract (3 * m) (3 * m + 3))) st p b) L[K.nextS st b] ho.1
    apply K.Ev.succ
    simp only [impl_bestPaths.l2, if_pos (show (b : Int) < 2 by omega), outputs_eq st b hst hb, Option.bind_some, if_pos (show p.f1 ≥ 0 by omega), if_pos c2, if_pos c3, rune_dig b hb, if_pos c1, w1.out, w2.out, if_pos c4, if_pos c5, if_pos c6, Int.toNat_natCast, wb.out, rdP hto]
    refine Ev.bind hu ?_
    simp only [w.out]
    rw [show p.f0 ++ dig b = (onward (bytesOf (x.extract (3 * m) (3 * m + 3))) st p b).f0 from rfl, show p.f1 + ((K.ham (K.outB st b) (bytesOf (x.extract (3 * m) (3 * m + 3))) : Nat) : Int) = (onward (bytesOf (x.extract (3 * m) (3 * m + 3))) st p b).f1 from rfl]
    simp only [hbet, Option.bind_some]
    rw [upd, rdP hto] at h
    by_cases hq : pbetter (onward (bytesOf (x.extract (3 * m) (3 * m + 3))) st p b) L[K.nextS st b] = true
    · rw [if_pos hq] at h
      simp only [if_pos hq]
      exact h
    · rw [if_neg hq] at h
      have es := set_same L (K.nextS st b) hto
      simp only [if_neg hq]
      first | (simp only [es]; exact h) | (simp only [List.set_getElem_self]; exact h) | (rw [es]; exact h)
theorem bestPaths_step (x : ByteArray) (n : Nat) (m : Nat) (hm : 3 * m + 3 ≤ x.size) (hm2 : m ≤ 1000000) (l : List S39) (i : Nat) (hi : i ≤ 1000000) (hl : Four i l) (R : List S39)
    (h : Ev (fun k => impl_bestPaths.l0 k x (step false (bytesOf (x.extract (3 * m) (3 * m + 3))) l) (n : Int) ((m + 1 : Nat) : Int)) R) :
    Ev (fun k => impl_bestPaths.l1 k x (m : Int) none4 (n : Int) (m : Int) l (l.length : Int) 0) R := by
  have wm : K.Eqn (wrap64 ((m : Int) + 1)) ((m + 1 : Nat) : Int) := ⟨K.w64s m (by omega)⟩
  have key : ∀ (d j : Nat) (L : List S39), j + d = l.length → Four (i + 1) L → Ev (fun k => impl_bestPaths.l0 k x (stepL false (bytesOf (x.extract (3 * m) (3 * m + 3))) (l.drop j) j L) (n : Int) ((m + 1 : Nat) : Int)) R → Ev (fun k => impl_bestPaths.l1 k x (m : Int) L (n : Int) (m : Int) l (l.length : Int) (j : Int)) R := by
    intro d
    induction d with
    | zero =>
      intro j L h1 h2 hh
      rw [List.drop_of_length_le (by omega)] at hh
      apply K.Ev.succ
      simp only [impl_bestPaths.l1, if_neg (show ¬ ((j : Int) < (l.length : Int)) by omega), wm.out]
      exact hh
    | succ d ih =>
      intro j L h1 h2 hh
      have hj : j < l.length := by omega
      have h4 := hl.len
      have hp := List.getElem_mem hj
      have q1 := hl.hi _ hp
      have q2 := hl.sz _ hp
      have wj : K.Eqn (wrap64 ((j : Int) + 1)) ((j + 1 : Nat) : Int) := ⟨K.w64s j (by omega)⟩
      rw [List.drop_eq_getElem_cons hj, stepL] at hh
      have f2 := step2_four false (bytesOf (x.extract (3 * m) (3 * m + 3))) j l[j] h2 q1 q2
      have r1 := ih (j + 1) _ (by omega) f2 hh
      have fin : Ev (fun k => impl_bestPaths.l2 k x (m : Int) (step2 false (bytesOf (x.extract (3 * m) (3 * m + 3))) j l[j] L) (j : Int) (n : Int) (m : Int) l (l.length : Int) (j : Int) ((2 : Nat) : Int) l[j].f0 l[j].f1) R := by
        apply K.Ev.succ
        simp only [impl_bestPaths.l2, show ¬ (((2 : Nat) : Int) < 2) by omega, if_false, wj.out]
        exact r1
      simp only [step2, Bool.false_eq_true, if_false] at fin
      have f1 := stepBit_four (bytesOf (x.extract (3 * m) (3 * m + 3))) j l[j] 0 h2 q1 q2
      apply K.Ev.succ
      simp only [impl_bestPaths.l1, if_pos (show (j : Int) < (l.length : Int) by omega), if_pos (show (0 : Int) ≤ (j : Int) by omega), rdP hj]
      refine bestPaths_bit x n m hm hm2 l j (by omega) l[j] i hi q1 q2 0 (by omega) L h2.len R ?_
      exact bestPaths_bit x n m hm hm2 l j (by omega) l[j] i hi q1 q2 1 (by omega) _ f1.len R fin
  have := key l.length 0 none4 (by omega) (none4_four _)
  rw [List.drop_zero] at this
  exact this h
theorem bestPaths_ev (x : ByteArray) (n : Nat) (hx : x.size = 3 * (n + 2)) (hn : n ≤ 100000) : Ev (fun k => impl_bestPaths.f k x (n : Int)) (pathsL x n) := by
  have key : ∀ (d i : Nat), i + d = n → Ev (fun k => impl_bestPaths.l0 k x (pathsL x i) (n : Int) (i : Int)) (pathsL x n) := by
    intro d
    induction d with
    | zero =>
      intro i h
      obtain rfl : i = n := by omega
      apply K.Ev.succ
      simp only [impl_bestPaths.l0, if_neg (show ¬ ((i : Int) < (i : Int)) by omega)]
      exact Ev.now _
    | succ d ih =>
      intro i h
      have r := ih (i + 1) (by omega)
      apply K.Ev.succ
      simp only [impl_bestPaths.l0, if_pos (show (i : Int) < (n : Int) by omega)]
      exact bestPaths_step x n i (by omega) (by omega) (pathsL x i) i (by omega) (pathsL_four x i) _ r
  simp only [impl_bestPaths.f]
  exact key n 0 (by omega)

theorem implBestPaths_ev (r : ByteArray) (hr : r.size ≤ 140737488351232) : Ev (fun k => impl_BestPaths.f k r) (if recvB r = true then (pathsL r (r.size / 3 - 2), true) else ([], false)) := by
  simp only [impl_BestPaths.f, isReceived_eq r hr, Option.bind_some]
  rw [show (K.bitsB r && (decide (r.size ≤ 96) && (decide (r.size % 3 = 0) && decide (6 ≤ r.size)))) = recvB r from rfl]
  by_cases h : recvB r = true
  · obtain ⟨n, e, hn⟩ := recv_size h
    have e2 : r.size / 3 - 2 = n := by omega
    have w1 : K.Eqn (wrap64 ((r.size : Int) / 3)) ((n + 2 : Nat) : Int) := ⟨by rw [K.w64 (by omega) (by omega)]; omega⟩
    have w2 : K.Eqn (wrap64 (((n + 2 : Nat) : Int) - 2)) (n : Int) := ⟨by rw [K.w64 (by omega) (by omega)]; omega⟩
    simp only [h, if_true, e2, w1.out, w2.out]
    exact Ev.bind (bestPaths_ev r n e (by omega)) (Ev.now _)
  · have h' : recvB r = false := by simpa using h
    simp only [h', Bool.false_eq_true, if_false]
    exact Ev.now _

theorem recv_bits {r : ByteArray} (h : recvB r = true) : K.bitsB r = true := by
  unfold recvB at h
  rw [Bool.and_eq_true] at h
  exact h.1
theorem encodedBits_ev (x : ByteArray) (l : List Nat) (hx : bytesOf x = K.digs l) (hl : K.Bits l) (hs : l.length ≤ 1048576) : Ev (fun k => impl_encodedBits.f k x) (strOfNums (K.encL 0 (l ++ [0, 0]))) := by
  have hsz : x.size = l.length := by rw [← bytesOf_length, hx, K.digs_length]
  have key : ∀ (L : List Nat), K.Bits L → L.length ≤ 1048580 → ∀ (d n : Nat) (acc : List Int) (st : Nat), n + d = L.length → acc.length = 3 * n → st < 4 → Ev (fun k => impl_encodedBits.l0 k (strOfNums acc) (st : Int) (K.digs L) (L.length : Int) (n : Int)) (strOfNums (acc ++ K.encL st (L.drop n))) := by
    intro L hL hLs d
    induction d with
    | zero =>
      intro n acc st h1 h2 h3
      rw [List.drop_of_length_le (by omega)]
      apply K.Ev.succ
      simp only [impl_encodedBits.l0, if_neg (show ¬ ((n : Int) < (L.length : Int)) by omega), K.encL, List.append_nil]
      exact Ev.now _
    | succ d ih =>
      intro n acc st h1 h2 h3
      have hn : n < L.length := by omega
      have hb := hL L[n] (List.getElem_mem hn)
      have hrd : rd (K.digs L) (n : Int) = ((48 + L[n] : Nat) : Int) := by
        rw [K.rd_nat (by rw [K.digs_length]; exact hn)]
        simp only [K.digs, List.getElem_map]
      have e : (rd (K.digs L) (n : Int) - 48) % 256 = ((L[n] : Nat) : Int) := by rw [hrd]; omega
      have hz : (strOfNums acc).size + (strOfNums (K.outB st L[n])).size ≤ 9223372036854775807 := by
        rw [strOfNums_size, strOfNums_size, K.outB_length]; omega
      have r := ih (n + 1) (acc ++ K.outB st L[n]) (K.nextS st L[n]) (by omega) (by simp only [List.length_append, K.outB_length]; omega) (K.nextS_lt h3 hb)
      rw [List.drop_eq_getElem_cons hn, K.encL, ← List.append_assoc]
      rw [K.strOf_append acc] at r
      have c1 : (n : Int) < (L.length : Int) := by omega
      have c2 : (0 : Int) ≤ (n : Int) := by omega
      have ws := K.w64s n (show n < 9223372036854775807 by omega)
      apply K.Ev.succ
      simp only [impl_encodedBits.l0, if_pos c1, if_pos c2, K.digs_length, e, outputs_eq st L[n] h3 hb, Option.bind_some, if_pos hz, ws]
      exact r
  have hR : strings_Repeat.f (⟨#[48]⟩ : ByteArray) 2 = some ⟨#[48, 48]⟩ := by
    unfold strings_Repeat.f
    have e : (⟨#[48]⟩ : ByteArray).size * (2 : Int).toNat ≤ 140737488355328 := by
      show 1 * 2 ≤ 140737488355328
      omega
    rw [if_pos (by omega), if_pos (by omega), if_pos e]
    rfl
  have hb2 : bytesOf (x ++ ⟨#[48, 48]⟩) = K.digs (l ++ [0, 0]) := by
    rw [K.bytesOf_append, hx, K.digs_append, K.two_zeros]
  have hbits : K.Bits (l ++ [0, 0]) := fun b hb => by
    rcases List.mem_append.1 hb with h | h
    · exact hl b h
    · simp only [List.mem_cons, List.not_mem_nil, or_false] at h; omega
  have hz2 : x.size + (⟨#[48, 48]⟩ : ByteArray).size ≤ 9223372036854775807 := by
    have : (⟨#[48, 48]⟩ : ByteArray).size = 2 := rfl
    omega
  have hz3 : (x ++ ⟨#[48, 48]⟩ : ByteArray).size ≤ 9223372036854775807 := by rw [ByteArray.size_append]; exact hz2
  simp only [impl_encodedBits.f, hR, Option.bind_some, if_pos hz2, conv_bytes.f, if_pos hz3, hb2, K.digs_length]
  have := key (l ++ [0, 0]) hbits (by simp; omega) (l ++ [0, 0]).length 0 [] 0 (by omega) (by simp) (by omega)
  rw [List.drop_zero, List.nil_append] at this
  exact this

theorem costOf_ok (m : List Nat) (hm : K.Bits m) (n : Nat) (hl : m.length = n) (hn : n ≤ 30) (r : ByteArray) (hr : recvB r = true) (hs : r.size = 3 * (n + 2)) : Ev (fun k => impl_CostOf.f k (strOfNums (K.digs m)) r) (((K.cost (bytesOf r) (m ++ [0, 0]) : Nat) : Int), true) := by
  have sz : (strOfNums (K.digs m)).size = n := by rw [strOfNums_size, K.digs_length, hl]
  have i1 := areBits_eq (strOfNums (K.digs m)) (by omega) 30
  have i2 := isReceived_eq r (by omega)
  rw [K.bits_digs hm, sz, Bool.true_and, decide_eq_true (show (n : Int) ≤ 30 by omega)] at i1
  have hb := recv_bits hr
  rw [hb, decide_eq_true (show r.size ≤ 96 by omega), decide_eq_true (show r.size % 3 = 0 by omega), decide_eq_true (show 6 ≤ r.size by omega)] at i2
  have hsz : (strOfNums (K.encL 0 (m ++ [0, 0]))).size = 3 * (n + 2) := by rw [strOfNums_size, K.encL_length]; simp; omega
  have hw : K.Eqn (wrap64 (3 * (wrap64 ((n : Int) + 2)))) ((3 * (n + 2) : Nat) : Int) := ⟨by
    rw [K.w64 (x := (n : Int) + 2) (by omega) (by omega), K.w64 (by omega) (by omega)]; omega⟩
  have hne : ((r.size : Int) != ((3 * (n + 2) : Nat) : Int)) = false := by rw [hs]; simp
  simp only [impl_CostOf.f, i1, i2, Option.bind_some, if_true, Bool.and_self, sz, hw.out, hne]
  apply K.Ev.succ
  simp only [impl_CostOf.j0, Bool.false_eq_true, if_false]
  refine Ev.bind (encodedBits_ev (strOfNums (K.digs m)) m (K.bytes_digs hm) hm (by omega)) ?_
  have := distance_ev (strOfNums (K.encL 0 (m ++ [0, 0]))) r (by omega) (by omega)
  rw [K.bytes_enc] at this
  refine Ev.bind this ?_
  exact Ev.now _

/-- The string of n bits that costs least, the first of these. -/
structure Decoded (x : ByteArray) (n : Nat) (l : List Nat) : Prop where
  bits : K.Bits l
  len : l.length = n
  least : ∀ m, K.Bits m → m.length = n → K.cost (bytesOf x) (l ++ [0, 0]) < K.cost (bytesOf x) (m ++ [0, 0]) ∨ (K.cost (bytesOf x) (l ++ [0, 0]) = K.cost (bytesOf x) (m ++ [0, 0]) ∧ K.val l ≤ K.val m)
theorem Decoded.one {x : ByteArray} {n : Nat} {l m : List Nat} (h1 : Decoded x n l) (h2 : Decoded x n m) : l = m := by
  have a := h1.least m h2.bits h2.len
  have b := h2.least l h1.bits h1.len
  exact K.val_inj l m h1.bits h2.bits (by rw [h1.len, h2.len]) (by omega)
/-- Two steps more, of the bit 0. -/
def last2 (x : ByteArray) (n : Nat) : List S39 := step true (bytesOf (x.extract (3 * (n + 1)) (3 * (n + 1) + 3))) (step true (bytesOf (x.extract (3 * n) (3 * n + 3))) (pathsL x n))
/-- A path is the best one of some strings of bits (or there are none). -/
def BestIn (co : List Nat → Nat) (S : List Nat → Prop) (p : S39) : Prop :=
  (p.f1 = -1 ∧ ∀ m, ¬ S m) ∨ ∃ l, S l ∧ p.f0 = strOfNums (K.digs l) ∧ p.f1 = ((co l : Nat) : Int) ∧ ∀ m, S m → co l < co m ∨ (co l = co m ∧ K.val l ≤ K.val m)
theorem BestIn.congr {co : List Nat → Nat} {S T : List Nat → Prop} {p : S39} (h : BestIn co S p) (e : ∀ m, S m ↔ T m) : BestIn co T p := by
  rcases h with ⟨h1, h2⟩ | ⟨l, h1, h2, h3, h4⟩
  · exact .inl ⟨h1, fun m hm => h2 m ((e m).2 hm)⟩
  · exact .inr ⟨l, (e l).1 h1, h2, h3, fun m hm => h4 m ((e m).2 hm)⟩
/-- The strings that lead to a state, by states below k. -/
def Led (last : Bool) (A : Nat → List Nat → Prop) (k s : Nat) (m : List Nat) : Prop := ∃ st b l, st < k ∧ (last = true → b = 0) ∧ b < 2 ∧ K.nextS st b = s ∧ A st l ∧ m = l ++ [b]
/-- Strings of bits of one length. -/
def Uni (n : Nat) (S : List Nat → Prop) : Prop := ∀ m, S m → K.Bits m ∧ m.length = n
theorem led_uni {last : Bool} {n : Nat} {A : Nat → List Nat → Prop} (hA : ∀ s, Uni n (A s)) (k s : Nat) : Uni (n + 1) (Led last A k s) := by
  rintro m ⟨st, b, l, _, _, hb, _, hl, rfl⟩
  refine ⟨((hA st) l hl).1.append (fun y hy => by rw [List.mem_singleton.1 hy]; exact hb), by simp [((hA st) l hl).2]⟩
theorem BestIn.union {co : List Nat → Nat} {n : Nat} {S T : List Nat → Prop} {p x : S39} (hS : Uni n S) (hT : Uni n T) (hp : BestIn co S p) (hx : BestIn co T x) (h0 : 0 ≤ x.f1) : BestIn co (fun m => S m ∨ T m) (if pbetter x p = true then x else p) := by
  rcases hx with ⟨h1, _⟩ | ⟨l2, a1, a2, a3, a4⟩
  · omega
  rcases hp with ⟨h1, h2⟩ | ⟨l1, b1, b2, b3, b4⟩
  · have hb : pbetter x p = true := by unfold pbetter; rw [decide_eq_true (show p.f1 < 0 by omega), Bool.true_or]
    rw [if_pos hb]
    exact .inr ⟨l2, .inr a1, a2, a3, fun m hm => hm.elim (fun h => absurd h (h2 m)) (a4 m)⟩
  · have hless : Op.bytesLess x.f0.toList p.f0.toList = decide (K.val l2 < K.val l1) := by
      rw [a2, b2, K.digs_bytes, K.digs_bytes]
      exact K.less_bits l2 l1 (hT l2 a1).1 (hS l1 b1).1 (by rw [(hT l2 a1).2, (hS l1 b1).2])
    have hb : pbetter x p = true ↔ (co l2 < co l1 ∨ (co l2 = co l1 ∧ K.val l2 < K.val l1)) := by
      unfold pbetter
      rw [hless, decide_eq_false (show ¬ p.f1 < 0 by omega), Bool.false_or]
      simp only [Bool.or_eq_true, Bool.and_eq_true, decide_eq_true_eq]
      omega
    by_cases hq : pbetter x p = true
    · rw [if_pos hq]
      have hq2 := hb.1 hq
      refine .inr ⟨l2, .inr a1, a2, a3, fun m hm => hm.elim (fun h => ?_) (a4 m)⟩
      have := b4 m h
      omega
    · rw [if_neg hq]
      have hq2 : ¬ (co l2 < co l1 ∨ (co l2 = co l1 ∧ K.val l2 < K.val l1)) := fun h => hq (hb.2 h)
      refine .inr ⟨l1, .inl b1, b2, b3, fun m hm => hm.elim (b4 m) (fun h => ?_)⟩
      have := a4 m h
      omega
theorem rdP_set (L : List S39) (q s : Nat) (x : S39) (hq : q < L.length) (hs : s < L.length) : rd_T39 (L.set q x) (s : Int) = if s = q then x else rd_T39 L (s : Int) := by
  rw [rdP (by simpa using hs), rdP hs, List.getElem_set]
  by_cases h : q = s
  · rw [if_pos h, if_pos h.symm]
  · rw [if_neg h, if_neg (fun e => h e.symm)]
theorem upd_best {co : List Nat → Nat} {n : Nat} {A : Nat → List Nat → Prop} {T : List Nat → Prop} {L : List S39} (hL : L.length = 4) {q : Nat} (hq : q < 4) {x : S39} (hA : ∀ s, Uni n (A s)) (hT : Uni n T) (h : ∀ s, s < 4 → BestIn co (A s) (rd_T39 L (s : Int))) (hx : BestIn co T x) (h0 : 0 ≤ x.f1) :
    ∀ s, s < 4 → BestIn co (fun m => A s m ∨ (s = q ∧ T m)) (rd_T39 (upd L q x) (s : Int)) := by
  intro s hs
  by_cases e : s = q
  · subst e
    have u := BestIn.union (hA s) hT (h s hs) hx h0
    have e2 : rd_T39 (upd L s x) (s : Int) = if pbetter x (rd_T39 L (s : Int)) = true then x else rd_T39 L (s : Int) := by
      unfold upd
      split
      · rw [rdP_set L s s x (by omega) (by omega), if_pos rfl]
      · rfl
    rw [e2]
    exact u.congr (fun m => ⟨fun h => h.elim .inl (fun t => .inr ⟨rfl, t⟩), fun h => h.elim .inl (fun t => .inr t.2)⟩)
  · have e2 : rd_T39 (upd L q x) (s : Int) = rd_T39 L (s : Int) := by
      unfold upd
      split
      · rw [rdP_set L q s x (by omega) (by omega), if_neg e]
      · rfl
    rw [e2]
    exact (h s hs).congr (fun m => ⟨.inl, fun h => h.elim id (fun t => absurd t.1 e)⟩)
theorem onward_best {x : ByteArray} {n st b : Nat} {S : List Nat → Prop} (hS : Uni n S) (hE : ∀ m, S m → K.endS 0 m = st) (hx : 3 * n + 3 ≤ x.size) {p : S39} (hp : BestIn (K.cost (bytesOf x)) S p) (h0 : 0 ≤ p.f1) :
    BestIn (K.cost (bytesOf x)) (fun m => ∃ l, S l ∧ m = l ++ [b]) (onward (bytesOf (x.extract (3 * n) (3 * n + 3))) st p b) := by
  rcases hp with ⟨h1, _⟩ | ⟨l, a1, a2, a3, a4⟩
  · omega
  have hc : ∀ m, S m → K.cost (bytesOf x) (m ++ [b]) = K.cost (bytesOf x) m + K.ham (K.outB st b) (bytesOf (x.extract (3 * n) (3 * n + 3))) := fun m hm => by
    rw [K.cost_snoc x m b n (hS m hm).2 hx, hE m hm]
  refine .inr ⟨l ++ [b], ⟨l, a1, rfl⟩, ?_, ?_, ?_⟩
  · show p.f0 ++ dig b = _
    rw [a2, K.digs_append, K.strOf_append]; rfl
  · show p.f1 + ((K.ham (K.outB st b) (bytesOf (x.extract (3 * n) (3 * n + 3))) : Nat) : Int) = _
    rw [a3, hc l a1]; omega
  · rintro m ⟨l2, c1, rfl⟩
    have := a4 l2 c1
    rw [hc l a1, hc l2 c1, K.val_snoc, K.val_snoc]
    omega
theorem stepBit_best {x : ByteArray} {n st b : Nat} {A B : Nat → List Nat → Prop} (hst : st < 4) (hb : b < 2) (hA : ∀ s, Uni n (A s)) (hE : ∀ m, A st m → K.endS 0 m = st) (hx : 3 * n + 3 ≤ x.size) {p : S39} (hp : BestIn (K.cost (bytesOf x)) (A st) p) {L : List S39} (hL : L.length = 4) (hB : ∀ s, Uni (n + 1) (B s)) (h : ∀ s, s < 4 → BestIn (K.cost (bytesOf x)) (B s) (rd_T39 L (s : Int))) :
    ∀ s, s < 4 → BestIn (K.cost (bytesOf x)) (fun m => B s m ∨ (s = K.nextS st b ∧ ∃ l, A st l ∧ m = l ++ [b])) (rd_T39 (stepBit (bytesOf (x.extract (3 * n) (3 * n + 3))) st p b L) (s : Int)) := by
  intro s hs
  by_cases h0 : p.f1 < 0
  · rw [stepBit, if_pos h0]
    have hno : ∀ m, ¬ A st m := by
      rcases hp with ⟨_, h2⟩ | ⟨l, _, _, a3, _⟩
      · exact h2
      · omega
    exact (h s hs).congr (fun m => ⟨.inl, fun q => q.elim id (fun ⟨_, l, hl, _⟩ => absurd hl (hno l))⟩)
  · rw [stepBit, if_neg h0]
    have ho := onward_best (b := b) (hA st) hE hx hp (by omega)
    have h1 : 0 ≤ (onward (bytesOf (x.extract (3 * n) (3 * n + 3))) st p b).f1 := by
      show 0 ≤ p.f1 + ((K.ham (K.outB st b) (bytesOf (x.extract (3 * n) (3 * n + 3))) : Nat) : Int)
      omega
    refine upd_best hL (K.nextS_lt hst hb) hB ?_ h ho h1 s hs
    rintro m ⟨l, hl, rfl⟩
    exact ⟨((hA st) l hl).1.append (fun y hy => by rw [List.mem_singleton.1 hy]; exact hb), by simp [((hA st) l hl).2]⟩
theorem stepBit_length {r : List Int} {st b : Nat} {p : S39} {L : List S39} : (stepBit r st p b L).length = L.length := by
  unfold stepBit upd
  split
  · rfl
  · split
    · rw [List.length_set]
    · rfl
theorem step_best {x : ByteArray} {n : Nat} {last : Bool} {A : Nat → List Nat → Prop} (hA : ∀ s, Uni n (A s)) (hE : ∀ st m, A st m → K.endS 0 m = st) (hx : 3 * n + 3 ≤ x.size) {l : List S39} (hl : l.length = 4) (h : ∀ s, s < 4 → BestIn (K.cost (bytesOf x)) (A s) (rd_T39 l (s : Int))) :
    ∀ s, s < 4 → BestIn (K.cost (bytesOf x)) (Led last A 4 s) (rd_T39 (step last (bytesOf (x.extract (3 * n) (3 * n + 3))) l) (s : Int)) := by
  have key : ∀ (d k : Nat) (L : List S39), k + d = 4 → L.length = 4 → (∀ s, s < 4 → BestIn (K.cost (bytesOf x)) (Led last A k s) (rd_T39 L (s : Int))) → ∀ s, s < 4 → BestIn (K.cost (bytesOf x)) (Led last A 4 s) (rd_T39 (stepL last (bytesOf (x.extract (3 * n) (3 * n + 3))) (l.drop k) k L) (s : Int)) := by
    intro d
    induction d with
    | zero =>
      intro k L h1 h2 h3 s hs
      obtain rfl : k = 4 := by omega
      rw [List.drop_of_length_le (by omega), stepL]
      exact h3 s hs
    | succ d ih =>
      intro k L h1 h2 h3 s hs
      have hk : k < l.length := by omega
      rw [List.drop_eq_getElem_cons hk, stepL]
      have hp := h k (by omega)
      rw [rdP hk] at hp
      have s0 := stepBit_best (b := 0) (by omega) (by omega) hA (hE k) hx hp h2 (fun s => led_uni (last := last) hA k s) h3
      refine ih (k + 1) _ (by omega) ?_ ?_ s hs
      · unfold step2
        split
        · rw [stepBit_length]; exact h2
        · rw [stepBit_length, stepBit_length]; exact h2
      · intro s hs
        cases hlast : last with
        | true =>
          subst hlast
          simp only [step2, if_true]
          refine (s0 s hs).congr (fun m => ⟨?_, ?_⟩)
          · rintro (⟨st, b, l', q1, q2, q3, q4, q5, q6⟩ | ⟨q1, l', q2, q3⟩)
            · exact ⟨st, b, l', by omega, q2, q3, q4, q5, q6⟩
            · exact ⟨k, 0, l', by omega, fun _ => rfl, by omega, q1.symm, q2, q3⟩
          · rintro ⟨st, b, l', q1, q2, q3, q4, q5, q6⟩
            by_cases e : st = k
            · subst e
              obtain rfl : b = 0 := q2 rfl
              exact .inr ⟨q4.symm, l', q5, q6⟩
            · exact .inl ⟨st, b, l', by omega, q2, q3, q4, q5, q6⟩
        | false =>
          subst hlast
          simp only [step2, Bool.false_eq_true, if_false]
          have s1 := stepBit_best (b := 1) (B := fun s m => Led false A k s m ∨ (s = K.nextS k 0 ∧ ∃ l, A k l ∧ m = l ++ [0])) (by omega) (by omega) hA (hE k) hx hp (by rw [stepBit_length]; exact h2) (fun s m hm => by
            rcases hm with hm | ⟨_, l', q2, rfl⟩
            · exact led_uni hA k s m hm
            · exact ⟨((hA k) l' q2).1.append (fun y hy => by rw [List.mem_singleton.1 hy]; omega), by simp [((hA k) l' q2).2]⟩) s0
          refine (s1 s hs).congr (fun m => ⟨?_, ?_⟩)
          · rintro ((⟨st, b, l', q1, q2, q3, q4, q5, q6⟩ | ⟨q1, l', q2, q3⟩) | ⟨q1, l', q2, q3⟩)
            · exact ⟨st, b, l', by omega, q2, q3, q4, q5, q6⟩
            · exact ⟨k, 0, l', by omega, (fun h => by cases h), by omega, q1.symm, q2, q3⟩
            · exact ⟨k, 1, l', by omega, (fun h => by cases h), by omega, q1.symm, q2, q3⟩
          · rintro ⟨st, b, l', q1, q2, q3, q4, q5, q6⟩
            by_cases e : st = k
            · subst e
              have hb : b = 0 ∨ b = 1 := by omega
              rcases hb with rfl | rfl
              · exact .inl (.inr ⟨q4.symm, l', q5, q6⟩)
              · exact .inr ⟨q4.symm, l', q5, q6⟩
            · exact .inl (.inl ⟨st, b, l', by omega, q2, q3, q4, q5, q6⟩)
  have hnone : ∀ s : Nat, s < 4 → rd_T39 none4 (s : Int) = ⟨⟨#[]⟩, -1⟩ := by
    intro s hs
    rw [rdP (show s < none4.length from hs)]
    have e : s = 0 ∨ s = 1 ∨ s = 2 ∨ s = 3 := by omega
    rcases e with rfl | rfl | rfl | rfl <;> rfl
  have := key 4 0 none4 (by omega) rfl (fun s hs => by
    rw [hnone s hs]
    exact .inl ⟨rfl, fun m ⟨st, b, l', q1, _⟩ => by omega⟩)
  rw [List.drop_zero] at this
  exact this
/-- The strings of n bits that lead to a state. -/
def At (n s : Nat) (m : List Nat) : Prop := K.Bits m ∧ m.length = n ∧ K.endS 0 m = s
theorem at_uni (n s : Nat) : Uni n (At n s) := fun m h => ⟨h.1, h.2.1⟩
theorem snoc_of {n : Nat} {m : List Nat} (h : m.length = n + 1) : ∃ l b, m = l ++ [b] := by
  have : m ≠ [] := fun e => by rw [e] at h; simp at h
  exact ⟨m.dropLast, m.getLast this, (List.dropLast_concat_getLast this).symm⟩
theorem paths_best (x : ByteArray) : ∀ (n : Nat), 3 * n ≤ x.size → ∀ s, s < 4 → BestIn (K.cost (bytesOf x)) (At n s) (rd_T39 (pathsL x n) (s : Int))
  | 0, _, s, hs => by
    rw [pathsL, rdP (show s < start4.length from hs)]
    have e : s = 0 ∨ s = 1 ∨ s = 2 ∨ s = 3 := by omega
    rcases e with rfl | rfl | rfl | rfl
    · refine .inr ⟨[], ⟨(fun y hy => by cases hy), rfl, rfl⟩, rfl, rfl, ?_⟩
      rintro m ⟨_, h2, _⟩
      obtain rfl : m = [] := List.eq_nil_of_length_eq_zero h2
      exact .inr ⟨rfl, Nat.le_refl _⟩
    all_goals
      refine .inl ⟨rfl, ?_⟩
      rintro m ⟨_, h2, h3⟩
      obtain rfl : m = [] := List.eq_nil_of_length_eq_zero h2
      simp [K.endS] at h3
  | n + 1, hn, s, hs => by
    have ih := paths_best x n (by omega)
    have := step_best (last := false) (A := At n) (fun s => at_uni n s) (fun st m h => h.2.2) (by omega) (pathsL_four x n).len ih s hs
    rw [pathsL]
    refine this.congr (fun m => ⟨?_, ?_⟩)
    · rintro ⟨st, b, l, q1, _, q3, q4, ⟨c1, c2, c3⟩, rfl⟩
      refine ⟨c1.append (fun y hy => by rw [List.mem_singleton.1 hy]; exact q3), by simp [c2], ?_⟩
      rw [K.endS_snoc, c3, q4]
    · rintro ⟨c1, c2, c3⟩
      obtain ⟨l, b, rfl⟩ := snoc_of c2
      have hb : b < 2 := c1 b (by simp)
      rw [K.endS_snoc] at c3
      exact ⟨K.endS 0 l, b, l, K.endS_lt l 0 (by omega) c1.left, (fun h => by cases h), hb, c3, ⟨c1.left, by simpa using c2, rfl⟩, rfl⟩
theorem last2_best (x : ByteArray) (n : Nat) (hx : x.size = 3 * (n + 2)) : ∃ l, Decoded x n l ∧ rd_T39 (last2 x n) 0 = ⟨strOfNums (K.digs (l ++ [0, 0])), ((K.cost (bytesOf x) (l ++ [0, 0]) : Nat) : Int)⟩ := by
  have p0 := paths_best x n (by omega)
  have p1 := step_best (last := true) (A := At n) (fun s => at_uni n s) (fun st m h => h.2.2) (by omega) (pathsL_four x n).len p0
  have f1 := step_four true (bytesOf (x.extract (3 * n) (3 * n + 3))) (pathsL_four x n)
  have p2 := step_best (last := true) (n := n + 1) (A := Led true (At n) 4) (fun s => led_uni (fun s => at_uni n s) 4 s) (fun st m h => by
    obtain ⟨s', b, l, q1, q2, q3, q4, ⟨c1, c2, c3⟩, rfl⟩ := h
    rw [K.endS_snoc, c3, q4]) (by omega) f1.len p1 0 (by omega)
  have hset : ∀ m, Led true (Led true (At n) 4) 4 0 m ↔ ∃ l, K.Bits l ∧ l.length = n ∧ m = l ++ [0, 0] := by
    intro m
    constructor
    · rintro ⟨st, b, m1, q1, q2, q3, q4, ⟨s', b', l, r1, r2, r3, r4, ⟨c1, c2, c3⟩, rfl⟩, rfl⟩
      obtain rfl : b = 0 := q2 rfl
      obtain rfl : b' = 0 := r2 rfl
      exact ⟨l, c1, c2, by rw [List.append_assoc]; rfl⟩
    · rintro ⟨l, c1, c2, rfl⟩
      have hl := K.endS_lt l 0 (by omega) c1
      refine ⟨K.nextS (K.endS 0 l) 0, 0, l ++ [0], K.nextS_lt hl (by omega), fun _ => rfl, by omega, ?_, ⟨K.endS 0 l, 0, l, hl, fun _ => rfl, by omega, rfl, ⟨c1, c2, rfl⟩, rfl⟩, by rw [List.append_assoc]; rfl⟩
      simp only [K.nextS]; omega
  have p3 := p2.congr hset
  rcases p3 with ⟨_, h2⟩ | ⟨m, ⟨l, c1, c2, rfl⟩, a2, a3, a4⟩
  · exact absurd ⟨List.replicate n 0, (fun y hy => by rw [(List.mem_replicate.1 hy).2]; omega), by simp, rfl⟩ (h2 (List.replicate n 0 ++ [0, 0]))
  · refine ⟨l, ⟨c1, c2, ?_⟩, ?_⟩
    · intro m hm hml
      have := a4 (m ++ [0, 0]) ⟨m, hm, hml, rfl⟩
      have e1 : K.val (l ++ [0, 0]) = 4 * K.val l := by rw [K.val_append]; simp [K.val]; omega
      have e2 : K.val (m ++ [0, 0]) = 4 * K.val m := by rw [K.val_append]; simp [K.val]; omega
      omega
    · have e : (((0 : Nat) : Int)) = 0 := rfl
      rw [e] at a2 a3
      show rd_T39 (step true (bytesOf (x.extract (3 * (n + 1)) (3 * (n + 1) + 3))) (step true (bytesOf (x.extract (3 * n) (3 * n + 3))) (pathsL x n))) 0 = _
      generalize rd_T39 (step true (bytesOf (x.extract (3 * (n + 1)) (3 * (n + 1) + 3))) (step true (bytesOf (x.extract (3 * n) (3 * n + 3))) (pathsL x n))) 0 = p at a2 a3 ⊢
      obtain ⟨f0, f1⟩ := p
      simp only at a2 a3
      rw [a2, a3]
theorem specDecode_ev (x : ByteArray) (hx : x.size ≤ 140737488351232) : (recvB x = false ∧ Ev (fun k => spec_DecodeBits.f k x) (⟨#[]⟩, 0, false)) ∨ (recvB x = true ∧ ∃ n l, x.size = 3 * (n + 2) ∧ n ≤ 30 ∧ Decoded x n l ∧ Ev (fun k => spec_DecodeBits.f k x) (strOfNums (K.digs l), ((K.cost (bytesOf x) (l ++ [0, 0]) : Nat) : Int), true)) := by
  have s := l10Received_ev x hx
  by_cases h : recvB x = true
  · right
    rw [h] at s
    obtain ⟨n, e, hn⟩ := recv_size h
    obtain ⟨l, hd, hp⟩ := last2_best x n e
    refine ⟨h, n, l, e, hn, hd, ?_⟩
    have f0 := pathsL_four x n
    have f1 := step_four true (bytesOf (x.extract (3 * n) (3 * n + 3))) f0
    have f2 := step_four true (bytesOf (x.extract (3 * (n + 1)) (3 * (n + 1) + 3))) f1
    have w0 : K.Eqn (wrap64 ((x.size : Int) - 6)) ((3 * n : Nat) : Int) := ⟨by rw [K.w64 (by omega) (by omega)]; omega⟩
    have w1 : K.Eqn (wrap64 (((3 * n : Nat) : Int) + 3)) ((3 * n + 3 : Nat) : Int) := ⟨by rw [K.w64 (by omega) (by omega)]; omega⟩
    have w2 : K.Eqn (wrap64 (((3 * (n + 1) : Nat) : Int) + 3)) ((3 * (n + 1) + 3 : Nat) : Int) := ⟨by rw [K.w64 (by omega) (by omega)]; omega⟩
    have hs1 : Ev (fun k => spec_l10Step.f k (pathsL x n) (x.extract (3 * n) (3 * n + 3)) true) _ := l10Step_ev _ (ext3_size x n (by omega)) true _ n (by omega) f0
    have hs2 : Ev (fun k => spec_l10Step.f k (step true (bytesOf (x.extract (3 * n) (3 * n + 3))) (pathsL x n)) (x.extract (3 * (n + 1)) (3 * (n + 1) + 3)) true) _ := l10Step_ev _ (ext3_size x (n + 1) (by omega)) true _ (n + 1) (by omega) f1
    have hsz : (strOfNums (K.digs (l ++ [0, 0]))).size = n + 2 := by rw [strOfNums_size, K.digs_length]; simp [hd.len]
    have fin : Ev (fun k => spec_DecodeBits.l0 k x (last2 x n) ((3 * (n + 1) + 3 : Nat) : Int)) (strOfNums (K.digs l), ((K.cost (bytesOf x) (l ++ [0, 0]) : Nat) : Int), true) := by
      have hl : (last2 x n).length = 4 := f2.len
      have w3 : K.Eqn (wrap64 (((n + 2 : Nat) : Int) - 2)) (n : Int) := ⟨by rw [K.w64 (by omega) (by omega)]; omega⟩
      have c1 : ¬ ((3 * (n + 1) + 3 : Nat) : Int) < (x.size : Int) := by omega
      have c2 : 0 < ((last2 x n).length : Int) := by omega
      have c3 : (0 : Int) ≤ (n : Int) := by omega
      have c4 : (n : Int) ≤ ((n + 2 : Nat) : Int) := by omega
      have hex : (strOfNums (K.digs (l ++ [0, 0]))).extract 0 n = strOfNums (K.digs l) := by
        have : bytesOf ((strOfNums (K.digs (l ++ [0, 0]))).extract 0 n) = K.digs l := by
          have hb2 : K.Bits (l ++ [0, 0]) := hd.bits.append (fun y hy => by simp only [List.mem_cons, List.not_mem_nil, or_false] at hy; omega)
          rw [K.bytesOf_extract, K.bytes_digs hb2, List.drop_zero, K.digs_append]
          have hn2 : (K.digs l).length = n := by rw [K.digs_length, hd.len]
          rw [← hn2, List.take_left']
          rfl
        exact K.str_of_bytes this
      apply K.Ev.succ
      simp only [spec_DecodeBits.l0, if_neg c1, if_pos c2, hp, hsz, w3.out, if_pos c3, if_pos c4, Int.toNat_natCast, hex]
      exact Ev.now _
    have mid : Ev (fun k => spec_DecodeBits.l0 k x (step true (bytesOf (x.extract (3 * n) (3 * n + 3))) (pathsL x n)) ((3 * n + 3 : Nat) : Int)) (strOfNums (K.digs l), ((K.cost (bytesOf x) (l ++ [0, 0]) : Nat) : Int), true) := by
      have c1 : ((3 * (n + 1) : Nat) : Int) < (x.size : Int) := by omega
      have c2 : (0 : Int) ≤ ((3 * (n + 1) : Nat) : Int) := by omega
      have c3 : ((3 * (n + 1) : Nat) : Int) ≤ ((3 * (n + 1) + 3 : Nat) : Int) := by omega
      have c4 : ((3 * (n + 1) + 3 : Nat) : Int) ≤ (x.size : Int) := by omega
      have e3 : (3 * n + 3 : Nat) = 3 * (n + 1) := by omega
      rw [show (((3 * n + 3 : Nat)) : Int) = ((3 * (n + 1) : Nat) : Int) by omega]
      apply K.Ev.succ
      simp only [spec_DecodeBits.l0, if_pos c1, if_pos c2, w2.out, if_pos c3, if_pos c4, Int.toNat_natCast]
      exact Ev.bind hs2 fin
    simp only [spec_DecodeBits.f]
    refine Ev.bind s ?_
    simp only [if_true]
    refine Ev.bind (l10Paths_ev x n e (by omega)) ?_
    simp only [w0.out]
    have c1 : ((3 * n : Nat) : Int) < (x.size : Int) := by omega
    have c2 : (0 : Int) ≤ ((3 * n : Nat) : Int) := by omega
    have c3 : ((3 * n : Nat) : Int) ≤ ((3 * n + 3 : Nat) : Int) := by omega
    have c4 : ((3 * n + 3 : Nat) : Int) ≤ (x.size : Int) := by omega
    apply K.Ev.succ
    simp only [spec_DecodeBits.l0, if_pos c1, if_pos c2, w1.out, if_pos c3, if_pos c4, Int.toNat_natCast]
    exact Ev.bind hs1 mid
  · left
    have h' : recvB x = false := by simpa using h
    rw [h'] at s
    refine ⟨h', ?_⟩
    simp only [spec_DecodeBits.f]
    refine Ev.bind s ?_
    simp only [Bool.false_eq_true, if_false]
    exact Ev.now _

/-- The whole cost of a string. -/
def whole (x : ByteArray) (l : List Nat) : Nat := K.cost (bytesOf x) (l ++ [0, 0])
theorem whole_split (x : ByteArray) (l : List Nat) (n : Nat) (hl : l.length = n) (hx : x.size = 3 * (n + 2)) : whole x l = K.cost (bytesOf x) l + K.ham (K.encL (K.endS 0 l) [0, 0]) ((bytesOf x).drop (3 * n)) := by
  unfold whole K.cost
  rw [K.encL_append, K.ham_split _ _ _ (by rw [K.encL_length, bytesOf_length]; omega), K.encL_length, hl]
/-- The best strings for a state are the best ones as a whole. -/
theorem best_whole {x : ByteArray} {n s : Nat} (hx : x.size = 3 * (n + 2)) {p : S39} (hp : BestIn (K.cost (bytesOf x)) (At n s) p) (h0 : 0 ≤ p.f1) : ∃ l, At n s l ∧ p.f0 = strOfNums (K.digs l) ∧ BestIn (whole x) (At n s) ⟨p.f0, ((whole x l : Nat) : Int)⟩ := by
  rcases hp with ⟨h1, _⟩ | ⟨l, a1, a2, a3, a4⟩
  · omega
  refine ⟨l, a1, a2, .inr ⟨l, a1, a2, rfl, ?_⟩⟩
  intro m hm
  have := a4 m hm
  rw [whole_split x l n a1.2.1 hx, whole_split x m n hm.2.1 hx, a1.2.2, hm.2.2]
  omega
theorem best_none {co : List Nat → Nat} {S : List Nat → Prop} {p : S39} (hp : BestIn co S p) (h0 : p.f1 < 0) : ∀ m, ¬ S m := by
  rcases hp with ⟨_, h2⟩ | ⟨l, _, _, a3, _⟩
  · exact h2
  · omega
theorem implDecode_loop (x : ByteArray) (n : Nat) (hx : x.size = 3 * (n + 2)) (hn : n ≤ 30) : ∀ (d k : Nat) (b : S39), k + d = 4 → BestIn (whole x) (fun m => ∃ s, s < k ∧ At n s m) b → ∃ l, Decoded x n l ∧ Ev (fun j => impl_DecodeBits.l0 j x (pathsL x n) ((pathsL x n).length : Int) (k : Int) b.f0 b.f1) (strOfNums (K.digs l), ((K.cost (bytesOf x) (l ++ [0, 0]) : Nat) : Int), true) := by
  have f0 := pathsL_four x n
  have hlen := f0.len
  intro d
  induction d with
  | zero =>
    intro k b h1 h2
    obtain rfl : k = 4 := by omega
    have all : ∀ m, (∃ s, s < 4 ∧ At n s m) ↔ (K.Bits m ∧ m.length = n) := fun m => ⟨fun ⟨s, _, h⟩ => ⟨h.1, h.2.1⟩, fun h => ⟨K.endS 0 m, K.endS_lt m 0 (by omega) h.1, h.1, h.2, rfl⟩⟩
    have h3 := h2.congr all
    rcases h3 with ⟨_, h4⟩ | ⟨l, ⟨c1, c2⟩, a2, a3, a4⟩
    · exact absurd ⟨(fun y hy => by rw [(List.mem_replicate.1 hy).2]; omega), by simp⟩ (h4 (List.replicate n 0))
    · refine ⟨l, ⟨c1, c2, fun m hm hml => a4 m ⟨hm, hml⟩⟩, ?_⟩
      have c : ¬ (((4 : Nat) : Int) < ((pathsL x n).length : Int)) := by omega
      apply K.Ev.succ
      simp only [impl_DecodeBits.l0, if_neg c, a2, a3]
      exact Ev.now _
  | succ d ih =>
    intro k b h1 h2
    have hk : k < (pathsL x n).length := by omega
    have hp := paths_best x n (by omega) k (by omega)
    have hrd := rdP hk
    have ws : K.Eqn (wrap64 ((k : Int) + 1)) ((k + 1 : Nat) : Int) := ⟨K.w64s k (by omega)⟩
    have c1 : (k : Int) < ((pathsL x n).length : Int) := by omega
    have c2 : (0 : Int) ≤ (k : Int) := by omega
    by_cases h0 : (rd_T39 (pathsL x n) (k : Int)).f1 ≥ 0
    · obtain ⟨l, a1, a2, hb⟩ := best_whole hx hp h0
      have u := BestIn.union (n := n) (fun m hm => by obtain ⟨s, _, h⟩ := hm; exact ⟨h.1, h.2.1⟩) (at_uni n k) h2 hb (by show (0 : Int) ≤ ((whole x l : Nat) : Int); omega)
      have u2 := u.congr (T := fun m => ∃ s, s < k + 1 ∧ At n s m) (fun m => ⟨fun h => h.elim (fun ⟨s, q, t⟩ => ⟨s, by omega, t⟩) (fun t => ⟨k, by omega, t⟩), fun ⟨s, q, t⟩ => by
        by_cases e : s = k
        · subst e; exact .inr t
        · exact .inl ⟨s, by omega, t⟩⟩)
      obtain ⟨l2, d1, d2⟩ := ih (k + 1) _ (by omega) u2
      refine ⟨l2, d1, ?_⟩
      have he := encodedBits_ev (rd_T39 (pathsL x n) (k : Int)).f0 l (by rw [a2]; exact K.bytes_digs a1.1) a1.1 (by rw [a1.2.1]; omega)
      have hz : (strOfNums (K.encL 0 (l ++ [0, 0]))).size = x.size := by rw [strOfNums_size, K.encL_length]; simp [a1.2.1]; omega
      have hd := distance_ev (strOfNums (K.encL 0 (l ++ [0, 0]))) x (by omega) (by omega)
      rw [K.bytes_enc] at hd
      have hbet := better_eq ⟨(rd_T39 (pathsL x n) (k : Int)).f0, ((whole x l : Nat) : Int)⟩ b (by show (0 : Int) ≤ ((whole x l : Nat) : Int); omega)
      apply K.Ev.succ
      simp only [impl_DecodeBits.l0, if_pos c1, if_pos c2, if_pos h0]
      refine Ev.bind he ?_
      refine Ev.bind hd ?_
      have ew : ((K.ham (K.encL 0 (l ++ [0, 0])) (bytesOf x) : Nat) : Int) = ((whole x l : Nat) : Int) := rfl
      simp only [ew, hbet, Option.bind_some, ws.out]
      by_cases hq : pbetter ⟨(rd_T39 (pathsL x n) (k : Int)).f0, ((whole x l : Nat) : Int)⟩ b = true
      · rw [if_pos hq] at d2
        simp only [if_pos hq]
        exact d2
      · rw [if_neg hq] at d2
        simp only [if_neg hq]
        exact d2
    · have hno := best_none hp (by omega)
      have u2 := h2.congr (T := fun m => ∃ s, s < k + 1 ∧ At n s m) (fun m => ⟨fun ⟨s, q, t⟩ => ⟨s, by omega, t⟩, fun ⟨s, q, t⟩ => by
        by_cases e : s = k
        · subst e; exact absurd t (hno m)
        · exact ⟨s, by omega, t⟩⟩)
      obtain ⟨l2, d1, d2⟩ := ih (k + 1) b (by omega) u2
      refine ⟨l2, d1, ?_⟩
      apply K.Ev.succ
      simp only [impl_DecodeBits.l0, if_pos c1, if_pos c2, if_neg h0, ws.out]
      exact d2
theorem implDecode_ev (x : ByteArray) (hx : x.size ≤ 140737488351232) : (recvB x = false ∧ Ev (fun k => impl_DecodeBits.f k x) (⟨#[]⟩, 0, false)) ∨ (recvB x = true ∧ ∃ n l, x.size = 3 * (n + 2) ∧ n ≤ 30 ∧ Decoded x n l ∧ Ev (fun k => impl_DecodeBits.f k x) (strOfNums (K.digs l), ((K.cost (bytesOf x) (l ++ [0, 0]) : Nat) : Int), true)) := by
  have s := implBestPaths_ev x hx
  by_cases h : recvB x = true
  · right
    obtain ⟨n, e, hn⟩ := recv_size h
    have e2 : x.size / 3 - 2 = n := by omega
    rw [if_pos h, e2] at s
    obtain ⟨l, hd, he⟩ := implDecode_loop x n e hn 4 0 ⟨⟨#[]⟩, -1⟩ (by omega) (.inl ⟨rfl, fun m ⟨s, q, _⟩ => by omega⟩)
    refine ⟨h, n, l, e, hn, hd, ?_⟩
    simp only [impl_DecodeBits.f]
    refine Ev.bind s ?_
    simp only [if_true]
    exact he
  · left
    have h' : recvB x = false := by simpa using h
    rw [if_neg h] at s
    refine ⟨h', ?_⟩
    simp only [impl_DecodeBits.f]
    refine Ev.bind s ?_
    simp only [Bool.false_eq_true, if_false]
    exact Ev.now _
theorem next_ok (c : List Int) (hc : K.Code c) (a : Int) (h0 : 0 ≤ a) (h1 : a ≤ 1152921504606846976) (sd : Int) : ∃ v sd', spec_l1Cur_next.f c a sd = some (v, a + 1, sd') ∧ 0 ≤ v ∧ v ≤ 255 := by
  have hl := hc.len
  have w : K.Eqn (wrap64 (a + 1)) (a + 1) := ⟨K.w64 (by omega) (by omega)⟩
  by_cases h : a < (c.length : Int)
  · have hr := hc.rd_rng a
    have wr : K.Eqn (wrap64 (rd c a)) (rd c a) := ⟨K.w64 (by omega) (by omega)⟩
    have h2 : a + 1 ≤ (c.length : Int) := by omega
    simp only [spec_l1Cur_next.f, if_pos h, if_pos h0, w.out, if_pos h2, wr.out]
    exact ⟨_, _, rfl, hr.1, hr.2⟩
  · have h2 : ¬ (a + 1 ≤ (c.length : Int)) := by omega
    have hb : ∀ y : Int, wrap64 (Go.bits .and .u64 y 255) = Go.bits .and .u64 y 255 ∧ 0 ≤ Go.bits .and .u64 y 255 ∧ Go.bits .and .u64 y 255 ≤ 255 := fun y => by
      have := K.u64_and255 y
      exact ⟨K.w64 (by omega) (by omega), this⟩
    simp only [spec_l1Cur_next.f, if_neg h, w.out, if_neg h2, (hb _).1]
    exact ⟨_, _, rfl, (hb _).2.1, (hb _).2.2⟩

theorem pick_ok (c : List Int) (hc : K.Code c) (a : Int) (h0 : 0 ≤ a) (h1 : a ≤ 1000000000000000000) (sd : Int) (n : Int) (hn : n ≤ 1000000) : ∃ v a' sd', spec_l1Cur_pick.f c a sd n = some (v, a', sd') ∧ 0 ≤ v ∧ (v < n ∨ v = 0) ∧ a ≤ a' ∧ a' ≤ a + 2 := by
  by_cases h : n ≤ 1
  · exact ⟨0, a, sd, by simp only [spec_l1Cur_pick.f, if_pos h], by omega, .inr rfl, by omega, by omega⟩
  obtain ⟨v, sd1, e1, v0, v1⟩ := next_ok c hc a h0 (by omega) sd
  have hnz : ¬ n = 0 := by omega
  have tm : ∀ x : Int, 0 ≤ x → 0 ≤ Int.tmod x n ∧ Int.tmod x n < n := fun x hx => by
    rw [Int.tmod_eq_emod_of_nonneg hx]
    exact ⟨Int.emod_nonneg _ (by omega), Int.emod_lt_of_pos _ (by omega)⟩
  by_cases h2 : n > 200
  · obtain ⟨u, sd2, e2, u0, u1⟩ := next_ok c hc (a + 1) (by omega) (by omega) sd1
    have w1 : K.Eqn (wrap64 (v * 256)) (v * 256) := ⟨K.w64 (by omega) (by omega)⟩
    have w2 : K.Eqn (wrap64 (v * 256 + u)) (v * 256 + u) := ⟨K.w64 (by omega) (by omega)⟩
    have t := tm (v * 256 + u) (by omega)
    refine ⟨_, a + 1 + 1, sd2, by simp only [spec_l1Cur_pick.f, if_neg h, e1, Option.bind_some, if_pos h2, e2, if_neg hnz, w1.out, w2.out], t.1, .inl t.2, by omega, by omega⟩
  · have t := tm v v0
    exact ⟨_, a + 1, sd1, by simp only [spec_l1Cur_pick.f, if_neg h, e1, Option.bind_some, if_neg h2, if_neg hnz], t.1, .inl t.2, by omega, by omega⟩

theorem curBits_loop (c : List Int) (hc : K.Code c) : ∀ (d : Nat) (x : ByteArray) (a sd : Int), d ≤ 1000 → x.size + d ≤ 1000 → 0 ≤ a → a + 2 * d ≤ 1000000000000000000 → ∃ (y : ByteArray) (a' sd' : Int), Ev (fun k => spec_l1Cur_bits.l0 k (d : Int) x c a sd) (y, a', sd') ∧ y.size = x.size + d ∧ a ≤ a' ∧ a' ≤ a + 2 * d := by
  intro d
  induction d with
  | zero =>
    intro x a sd _ _ _ _
    refine ⟨x, a, sd, ?_, rfl, by omega, by omega⟩
    apply K.Ev.succ
    simp only [spec_l1Cur_bits.l0, if_neg (show ¬ (((0 : Nat) : Int) > 0) by omega)]
    exact Ev.now _
  | succ d ih =>
    intro x a sd h1 h2 h0 h3
    obtain ⟨v, a1, sd1, e1, v0, v1, b1, b2⟩ := pick_ok c hc a h0 (by omega) sd 2 (by omega)
    have hz : (strOfNums [(wrap64 (48 + v)) % 256]).size = 1 := by rw [strOfNums_size]; rfl
    obtain ⟨y, a', sd', e, r1, r2, r3⟩ := ih (x ++ strOfNums [(wrap64 (48 + v)) % 256]) a1 sd1 (by omega) (by rw [ByteArray.size_append, hz]; omega) (by omega) (by omega)
    refine ⟨y, a', sd', ?_, by rw [r1, ByteArray.size_append, hz]; omega, by omega, by omega⟩
    have ws : K.Eqn (wrap64 (((d + 1 : Nat) : Int) - 1)) (d : Int) := ⟨K.w64p d (by omega)⟩
    apply K.Ev.succ
    simp only [spec_l1Cur_bits.l0, if_pos (show ((d + 1 : Nat) : Int) > 0 by omega), e1, Option.bind_some, spec_l10Bit.f, hz, if_pos (show x.size + 1 ≤ 9223372036854775807 by omega), ws.out]
    exact e
theorem curBits_ok (c : List Int) (hc : K.Code c) (m : Int) (hm : m ≤ 900) (a : Int) (h0 : 0 ≤ a) (h1 : a ≤ 900000000000000000) (sd : Int) : ∃ (y : ByteArray) (a' sd' : Int), Ev (fun k => spec_l1Cur_bits.f k c a sd m) (y, a', sd') ∧ y.size ≤ 900 ∧ (y.size : Int) ≤ max m 0 ∧ a ≤ a' ∧ a' ≤ a + 1800 := by
  by_cases h : 0 ≤ m
  · obtain ⟨d, rfl⟩ := Int.eq_ofNat_of_zero_le h
    obtain ⟨y, a', sd', e, r1, r2, r3⟩ := curBits_loop c hc d ⟨#[]⟩ a sd (by omega) (by show 0 + d ≤ 1000; omega) h0 (by omega)
    have z : (⟨#[]⟩ : ByteArray).size = 0 := rfl
    exact ⟨y, a', sd', e, by omega, by omega, r2, by omega⟩
  · refine ⟨⟨#[]⟩, a, sd, ?_, by show 0 ≤ 900; omega, by show ((0 : Nat) : Int) ≤ _; omega, by omega, by omega⟩
    simp only [spec_l1Cur_bits.f]
    apply K.Ev.succ
    simp only [spec_l1Cur_bits.l0, if_neg (show ¬ (m > 0) by omega)]
    exact Ev.now _

theorem specEncode_no (x : ByteArray) (hs : x.size ≤ 140737488351232) (h : (K.bitsB x && decide ((x.size : Int) ≤ 30)) = false) : Ev (fun k => spec_EncodeBits.f k x) (⟨#[]⟩, false) := by
  have s1 := l10Bits_ev x hs 30
  rw [h] at s1
  simp only [spec_EncodeBits.f]; refine Ev.bind s1 ?_; simp only [Bool.false_eq_true, if_false]; exact Ev.now _
theorem l10Run_ev (x : ByteArray) (l : List Nat) (hx : bytesOf x = K.digs l) (hl : K.Bits l) (hs : l.length ≤ 1048576) : Ev (fun k => spec_l10Run.f k x) (strOfNums (K.encL 0 l)) := by
  have hsz : x.size = l.length := by rw [← bytesOf_length, hx, K.digs_length]
  have key : ∀ (d n : Nat) (acc : List Int) (st : Nat), n + d = l.length → acc.length = 3 * n → st < 4 → Ev (fun k => spec_l10Run.l0 k x (strOfNums acc) (st : Int) (n : Int)) (strOfNums (acc ++ K.encL st (l.drop n))) := by
    intro d
    induction d with
    | zero =>
      intro n acc st h1 h2 h3
      rw [List.drop_of_length_le (by omega)]
      apply K.Ev.succ
      simp only [spec_l10Run.l0, if_neg (show ¬ ((n : Int) < (x.size : Int)) by omega), K.encL, List.append_nil]
      exact Ev.now _
    | succ d ih =>
      intro n acc st h1 h2 h3
      have hn : n < l.length := by omega
      have hb := hl l[n] (List.getElem_mem hn)
      have hbt : bt x (n : Int) = ((48 + l[n] : Nat) : Int) := by
        rw [K.bytesOf_get x n (by omega)]
        simp only [hx, K.digs, List.getElem_map]
      have e : (bt x (n : Int) - 48) % 256 = ((l[n] : Nat) : Int) := by rw [hbt]; omega
      have hz : (strOfNums acc).size + (strOfNums (K.outB st l[n])).size ≤ 9223372036854775807 := by
        rw [strOfNums_size, strOfNums_size, K.outB_length]; omega
      have r := ih (n + 1) (acc ++ K.outB st l[n]) (K.nextS st l[n]) (by omega) (by simp only [List.length_append, K.outB_length]; omega) (K.nextS_lt h3 hb)
      rw [List.drop_eq_getElem_cons hn, K.encL, ← List.append_assoc]
      rw [K.strOf_append acc] at r
      have c1 : (n : Int) < (x.size : Int) := by omega
      have c2 : (0 : Int) ≤ (n : Int) := by omega
      have ws := K.w64s n (show n < 9223372036854775807 by omega)
      apply K.Ev.succ
      simp only [spec_l10Run.l0, if_pos c1, if_pos c2, e, l10Out_eq st l[n] h3 hb, Option.bind_some, if_pos hz, ws]
      exact r
  have := key l.length 0 [] 0 (by omega) (by simp) (by omega)
  rw [List.drop_zero, List.nil_append] at this
  simp only [spec_l10Run.f]
  exact this

theorem specEncode_ev (x : ByteArray) (l : List Nat) (hx : bytesOf x = K.digs l) (hl : K.Bits l) (h30 : l.length ≤ 30) : Ev (fun k => spec_EncodeBits.f k x) (strOfNums (K.encL 0 (l ++ [0, 0])), true) := by
  have hsz : x.size = l.length := by rw [← bytesOf_length, hx, K.digs_length]
  have s1 := l10Bits_ev x (by omega) 30
  have hb : K.bitsB x = true := by rw [K.str_of_bytes hx]; exact K.bits_digs hl
  rw [hb, decide_eq_true (show (x.size : Int) ≤ 30 by omega), Bool.and_true] at s1
  have hb2 : bytesOf (x ++ ⟨#[48, 48]⟩) = K.digs (l ++ [0, 0]) := by
    rw [K.bytesOf_append, hx, K.digs_append, K.two_zeros]
  have hbits : K.Bits (l ++ [0, 0]) := fun b hb => by
    rcases List.mem_append.1 hb with h | h
    · exact hl b h
    · simp only [List.mem_cons, List.not_mem_nil, or_false] at h; omega
  simp only [spec_EncodeBits.f]; refine Ev.bind s1 ?_; simp only [if_true, if_pos (show x.size + 2 ≤ 9223372036854775807 by omega)]
  exact Ev.bind (l10Run_ev _ _ hb2 hbits (by simp; omega)) (Ev.now _)

theorem specEncode_any (x : ByteArray) (hs : x.size ≤ 140737488351232) : ∃ r : ByteArray × Bool, Ev (fun k => spec_EncodeBits.f k x) r ∧ r.1.size ≤ 96 := by
  by_cases h : (K.bitsB x && decide ((x.size : Int) ≤ 30)) = true
  · rw [Bool.and_eq_true] at h
    obtain ⟨l, e, hl, hn⟩ := K.bits_of h.1
    have h30 := of_decide_eq_true h.2
    refine ⟨_, specEncode_ev x l e hl (by omega), ?_⟩
    simp only [strOfNums_size, K.encL_length, List.length_append, List.length_cons, List.length_nil]
    omega
  · exact ⟨_, specEncode_no x hs (by simpa using h), by show 0 ≤ 96; omega⟩
theorem one_ok (c : List Int) (hc : K.Code c) (a : Int) (h0 : 0 ≤ a) (h1 : a ≤ 1000000000000000000) (sd : Int) (n : Int) (hn : n ≤ 1000000) : ∃ (b : Bool) (a' sd' : Int), spec_l1Cur_one.f c a sd n = some (b, a', sd') ∧ a ≤ a' ∧ a' ≤ a + 2 := by
  obtain ⟨v, a', sd', e, _, _, g1, g2⟩ := pick_ok c hc a h0 h1 sd n hn
  exact ⟨v == 0, a', sd', by simp only [spec_l1Cur_one.f, e, Option.bind_some], g1, g2⟩

theorem received_end (c : List Int) (hc : K.Code c) (x : List Int) (hx : x.length ≤ 96) (a : Int) (h0 : 0 ≤ a) (h1 : a ≤ 900000000000000000) (sd : Int) : ∃ (y : ByteArray) (a' sd' : Int), Ev (fun _ => (spec_l1Cur_one.f c a sd 20).bind fun bt240 => (if bt240.1 = true then (if x.length < 140737488355328 then (some (strOfNums (x ++ [48]), bt240.2.1, bt240.2.2)) else (none)) else (some (strOfNums x, bt240.2.1, bt240.2.2)))) (y, a', sd') ∧ y.size ≤ 97 ∧ a ≤ a' ∧ a' ≤ a + 2 := by
  obtain ⟨b, a3, sd3, e3, b5, b6⟩ := one_ok c hc a h0 (by omega) sd 20 (by omega)
  cases b with
  | true =>
    refine ⟨strOfNums (x ++ [48]), a3, sd3, ?_, by rw [strOfNums_size, List.length_append]; simp; omega, by omega, by omega⟩
    simp only [e3, Option.bind_some, if_true, if_pos (show x.length < 140737488355328 by omega)]
    exact Ev.now _
  | false =>
    refine ⟨strOfNums x, a3, sd3, ?_, by rw [strOfNums_size]; omega, by omega, by omega⟩
    simp only [e3, Option.bind_some, Bool.false_eq_true, if_false]
    exact Ev.now _
theorem received_loop (c : List Int) (hc : K.Code c) : ∀ (d : Nat) (x : List Int) (a sd : Int), d ≤ 10 → x.length ≤ 96 → 0 ≤ a → a + 2 * d ≤ 900000000000000000 → ∃ (y : ByteArray) (a' sd' : Int), Ev (fun k => spec_l1Cur_received.l0 k x (d : Int) c a sd) (y, a', sd') ∧ y.size ≤ 97 ∧ a ≤ a' ∧ a' ≤ a + 2 * d + 2 := by
  intro d
  induction d with
  | zero =>
    intro x a sd _ hx h0 h1
    obtain ⟨y, a', sd', e, r1, r2, r3⟩ := received_end c hc x hx a h0 (by omega) sd
    refine ⟨y, a', sd', ?_, r1, r2, by omega⟩
    apply K.Ev.succ
    simp only [spec_l1Cur_received.l0, if_neg (show ¬ (((0 : Nat) : Int) > 0) by omega)]
    exact e
  | succ d ih =>
    intro x a sd hd hx h0 h1
    by_cases h : (x.length : Int) > 0
    · obtain ⟨v, a1, sd1, e1, v0, v1, b1, b2⟩ := pick_ok c hc a h0 (by omega) sd (x.length : Int) (by omega)
      obtain ⟨y, a', sd', e, r1, r2, r3⟩ := ih (x.set v.toNat (Go.bits .xor .u8 (rd x v) 1)) a1 sd1 (by omega) (by rw [List.length_set]; exact hx) (by omega) (by omega)
      refine ⟨y, a', sd', ?_, r1, by omega, by omega⟩
      have ws : K.Eqn (wrap64 (((d + 1 : Nat) : Int) - 1)) (d : Int) := ⟨K.w64p d (by omega)⟩
      apply K.Ev.succ
      simp only [spec_l1Cur_received.l0, if_pos (show ((d + 1 : Nat) : Int) > 0 by omega), if_pos h, e1, Option.bind_some, if_pos v0, if_pos (show v < (x.length : Int) by omega), ws.out]
      exact e
    · obtain ⟨y, a', sd', e, r1, r2, r3⟩ := received_end c hc x hx a h0 (by omega) sd
      refine ⟨y, a', sd', ?_, r1, r2, by omega⟩
      apply K.Ev.succ
      simp only [spec_l1Cur_received.l0, if_pos (show ((d + 1 : Nat) : Int) > 0 by omega), if_neg h]
      exact e
theorem received_ok (c : List Int) (hc : K.Code c) : ∃ (y : ByteArray) (a' sd' : Int), Ev (fun k => spec_l1Cur_received.f k c 0 0) (y, a', sd') ∧ y.size ≤ 97 ∧ 0 ≤ a' ∧ a' ≤ 10000 := by
  obtain ⟨v, a1, sd1, e1, v0, v1, b1, b2⟩ := pick_ok c hc 0 (by omega) (by omega) 0 9 (by omega)
  obtain ⟨x, a2, sd2, e2, x1, _, b3, b4⟩ := curBits_ok c hc v (by omega) a1 (by omega) (by omega) sd1
  obtain ⟨r, e3, hr⟩ := specEncode_any x (by omega)
  obtain ⟨n, a3, sd3, e4, n0, n1, b5, b6⟩ := pick_ok c hc a2 (by omega) (by omega) sd2 4 (by omega)
  obtain ⟨n, rfl⟩ := Int.eq_ofNat_of_zero_le n0
  obtain ⟨y, a', sd', e, r1, r2, r3⟩ := received_loop c hc n (bytesOf r.1) a3 sd3 (by omega) (by rw [bytesOf_length]; exact hr) (by omega) (by omega)
  refine ⟨y, a', sd', ?_, r1, by omega, by omega⟩
  simp only [spec_l1Cur_received.f, e1, Option.bind_some]
  refine Ev.bind e2 ?_
  refine Ev.bind e3 ?_
  simp only [conv_bytes.f, if_pos (show r.1.size ≤ 9223372036854775807 by omega), Option.bind_some, e4]
  exact e

theorem flip48 : ∀ b, b < 2 → Go.bits .xor .u8 ((48 + b : Nat) : Int) 1 = ((48 + (1 - b) : Nat) : Int)
  | 0, _ => by decide +kernel
  | 1, _ => by decide +kernel
  | n + 2, h => by omega
theorem bits_set {l : List Nat} (h : K.Bits l) (i b : Nat) (hb : b < 2) : K.Bits (l.set i b) := by
  intro x hx
  rcases List.mem_or_eq_of_mem_set hx with q | rfl
  · exact h x q
  · exact hb
theorem vit_l3 (r : ByteArray) (hr : recvB r = true) (n : Nat) (hs : r.size = 3 * (n + 2)) (hn : n ≤ 30) (l : List Nat) (hd : Decoded r n l) : ∀ (d i : Nat), i + d = n → Ev (fun k => laws_FnViterbi.l3 k r (n : Int) (i : Int) (strOfNums (K.digs l)) ((K.cost (bytesOf r) (l ++ [0, 0]) : Nat) : Int)) true := by
  intro d
  induction d with
  | zero =>
    intro i hi
    apply K.Ev.succ
    simp only [laws_FnViterbi.l3, if_neg (show ¬ ((i : Int) < (n : Int)) by omega)]
    exact Ev.now _
  | succ d ih =>
    intro i hi
    have hll := hd.len
    have hil : i < l.length := by omega
    have hdl : i < (K.digs l).length := by rw [K.digs_length]; exact hil
    have hb := hd.bits l[i] (List.getElem_mem hil)
    have bd := K.bytes_digs hd.bits
    have dg : (K.digs l)[i] = ((48 + l[i] : Nat) : Int) := by simp [K.digs]
    have sz : (strOfNums (K.digs l)).size = n := by rw [strOfNums_size, K.digs_length, hll]
    have hbt : bt (strOfNums (K.digs l)) (i : Int) = ((48 + l[i] : Nat) : Int) := by
      rw [K.bytesOf_get _ _ (by omega), ← dg]
      exact List.getElem_of_eq bd _
    have hrd : rd (K.digs l) (i : Int) = ((48 + l[i] : Nat) : Int) := by rw [K.rd_nat hdl, dg]
    have st : (K.digs l).set i ((48 + (1 - l[i]) : Nat) : Int) = K.digs (l.set i (1 - l[i])) := by simp [K.digs, List.map_set]
    have hbs := bits_set hd.bits i (1 - l[i]) (by omega)
    have hle := hd.least (l.set i (1 - l[i])) hbs (by rw [List.length_set]; exact hll)
    have hx := ih (i + 1) (by omega)
    have cv : conv_bytes.f (strOfNums (K.digs l)) = some (K.digs l) := by
      unfold conv_bytes.f
      rw [if_pos (by omega), bd]
    apply K.Ev.succ
    simp only [laws_FnViterbi.l3, if_pos (show (i : Int) < (n : Int) by omega), hbt, if_pos (show ((48 + l[i] : Nat) : Int) < 128 by omega), cv, Option.bind_some, if_pos (show (0 : Int) ≤ (i : Int) by omega), if_pos (show (i : Int) < ((K.digs l).length : Int) by omega), hrd, flip48 _ hb, Int.toNat_natCast, st]
    refine Ev.bind (costOf_ok _ hbs n (by rw [List.length_set]; exact hll) hn r hr hs) ?_
    simp only [if_true, if_neg (show ¬ (((K.cost (bytesOf r) (l.set i (1 - l[i]) ++ [0, 0]) : Nat) : Int) < ((K.cost (bytesOf r) (l ++ [0, 0]) : Nat) : Int)) by omega), K.w64s i (show i < 9223372036854775807 by omega)]
    exact hx
theorem digs_of (x : List Int) (h : ∀ v ∈ x, v = 48 ∨ v = 49) : ∃ m : List Nat, x = K.digs m ∧ K.Bits m ∧ m.length = x.length := by
  refine ⟨x.map (fun v => (v - 48).toNat), ?_, ?_, by simp⟩
  · unfold K.digs
    rw [List.map_map]
    have : x.map ((fun b : Nat => ((48 + b : Nat) : Int)) ∘ fun v => (v - 48).toNat) = x.map id := List.map_congr_left (fun v hv => by
      rcases h v hv with rfl | rfl <;> rfl)
    rw [this, List.map_id]
  · intro b hb
    obtain ⟨v, hv, rfl⟩ := List.mem_map.1 hb
    rcases h v hv with rfl | rfl <;> decide
theorem vit_l2 (c : List Int) (hc : K.Code c) (r : ByteArray) (hr : recvB r = true) (n : Nat) (hs : r.size = 3 * (n + 2)) (hn : n ≤ 30) (l : List Nat) (hd : Decoded r n l) (m8 : Nat) (h8 : m8 < 8)
    (next : ∀ x : List Int, x.length = n → Ev (fun k => laws_FnViterbi.l1 k c r x ((m8 + 1 : Nat) : Int) (strOfNums (K.digs l)) ((K.cost (bytesOf r) (l ++ [0, 0]) : Nat) : Int)) true) :
    ∀ (d i : Nat) (x : List Int), i + d = n → x.length = n → (∀ j, j < i → x[j]? = some 48 ∨ x[j]? = some 49) → Ev (fun k => laws_FnViterbi.l2 k c r x (m8 : Int) (n : Int) (i : Int) (strOfNums (K.digs l)) ((K.cost (bytesOf r) (l ++ [0, 0]) : Nat) : Int)) true := by
  have hclen := hc.len
  intro d
  induction d with
  | zero =>
    intro i x hi hx hb
    obtain ⟨m, rfl, hm, hml⟩ := digs_of x (fun v hv => by
      obtain ⟨j, hj, rfl⟩ := List.mem_iff_getElem.1 hv
      have := hb j (by omega)
      rw [List.getElem?_eq_getElem hj] at this
      simpa using this)
    rw [K.digs_length] at hx
    have hle := hd.least m hm hx
    have w8 := K.w64s m8 (show m8 < 9223372036854775807 by omega)
    apply K.Ev.succ
    simp only [laws_FnViterbi.l2, if_neg (show ¬ ((i : Int) < (n : Int)) by omega)]
    refine Ev.bind (costOf_ok m hm n hx hn r hr hs) ?_
    simp only [if_true, if_neg (show ¬ (((K.cost (bytesOf r) (m ++ [0, 0]) : Nat) : Int) < ((K.cost (bytesOf r) (l ++ [0, 0]) : Nat) : Int)) by omega), K.digs_bytes, K.less_bits m l hm hd.bits (by rw [hx, hd.len]), w8]
    by_cases e : ((K.cost (bytesOf r) (m ++ [0, 0]) : Nat) : Int) = ((K.cost (bytesOf r) (l ++ [0, 0]) : Nat) : Int)
    · simp only [if_pos e, decide_eq_false (show ¬ K.val m < K.val l by omega), Bool.false_eq_true, if_false]
      exact next _ (by rw [K.digs_length]; exact hx)
    · simp only [if_neg e]
      exact next _ (by rw [K.digs_length]; exact hx)
  | succ d ih =>
    intro i x hi hx hb
    have hil : i < x.length := by omega
    have hmul : m8 * n ≤ 7 * n := Nat.mul_le_mul_right n (by omega)
    have wm : K.Eqn (wrap64 ((m8 : Int) * (n : Int))) ((m8 * n : Nat) : Int) := ⟨by rw [← Int.natCast_mul]; exact K.w64 (by omega) (by omega)⟩
    have wi : K.Eqn (wrap64 ((i : Int) + ((m8 * n : Nat) : Int))) ((i + m8 * n : Nat) : Int) := ⟨by rw [K.w64 (by omega) (by omega)]; omega⟩
    have set1 : ∀ (y : List Int) (v : Int), y.length = n → (v = 48 ∨ v = 49) → (∀ j, j < i → y[j]? = some 48 ∨ y[j]? = some 49) → ∀ j, j < i + 1 → (y.set i v)[j]? = some 48 ∨ (y.set i v)[j]? = some 49 := by
      intro y v hy hv hyb j hj
      rw [List.getElem?_set]
      by_cases e : i = j
      · subst e
        rw [if_pos rfl, if_pos (by omega)]
        rcases hv with rfl | rfl
        · exact Or.inl rfl
        · exact Or.inr rfl
      · rw [if_neg e]; exact hyb j (by omega)
    have hb1 := set1 x 48 hx (Or.inl rfl) hb
    apply K.Ev.succ
    simp only [laws_FnViterbi.l2, if_pos (show (i : Int) < (n : Int) by omega), if_pos (show (0 : Int) ≤ (i : Int) by omega), hx, if_pos (show (i : Int) < (n : Int) by omega), Option.bind_some, Int.toNat_natCast, wm.out, wi.out, K.w64s i (show i < 9223372036854775807 by omega)]
    by_cases q : ((i + m8 * n : Nat) : Int) < (c.length : Int)
    · have hr0 := hc.rd_rng ((i + m8 * n : Nat) : Int)
      have tv : ∃ v : Int, (48 + (Int.tmod (rd c ((i + m8 * n : Nat) : Int)) 2)) % 256 = v ∧ (v = 48 ∨ v = 49) := by
        obtain ⟨u, hu⟩ := Int.eq_ofNat_of_zero_le hr0.1
        refine ⟨_, rfl, ?_⟩
        rw [hu, Int.tmod_eq_emod_of_nonneg (by omega)]
        omega
      obtain ⟨v, hv, hv2⟩ := tv
      simp only [if_pos q, if_pos (show (0 : Int) ≤ ((i + m8 * n : Nat) : Int) by omega), hv, List.set_set]
      exact ih (i + 1) _ (by omega) (by rw [List.length_set]; exact hx) (set1 x v hx hv2 hb)
    · simp only [if_neg q]
      exact ih (i + 1) _ (by omega) (by rw [List.length_set]; exact hx) hb1
theorem vit_l1 (c : List Int) (hc : K.Code c) (r : ByteArray) (hr : recvB r = true) (n : Nat) (hs : r.size = 3 * (n + 2)) (hn : n ≤ 30) (l : List Nat) (hd : Decoded r n l) :
    ∀ (d m8 : Nat) (x : List Int), m8 + d = 8 → x.length = n → Ev (fun k => laws_FnViterbi.l1 k c r x (m8 : Int) (strOfNums (K.digs l)) ((K.cost (bytesOf r) (l ++ [0, 0]) : Nat) : Int)) true := by
  have sz : (strOfNums (K.digs l)).size = n := by rw [strOfNums_size, K.digs_length, hd.len]
  intro d
  induction d with
  | zero =>
    intro m8 x hm hx
    apply K.Ev.succ
    simp only [laws_FnViterbi.l1, if_neg (show ¬ ((m8 : Int) < 8) by omega), sz]
    exact vit_l3 r hr n hs hn l hd n 0 (by omega)
  | succ d ih =>
    intro m8 x hm hx
    apply K.Ev.succ
    simp only [laws_FnViterbi.l1, if_pos (show (m8 : Int) < 8 by omega), hx]
    exact vit_l2 c hc r hr n hs hn l hd m8 (by omega) (fun y hy => ih (m8 + 1) y (by omega) hy) n 0 x (by omega) hx (fun j hj => by omega)
theorem vit_l0 (c : List Int) (r : ByteArray) (b : Bool) (L : List S39) (hL : L.length ≤ 1000000) (p : ByteArray) (C : Int) (X : Bool)
    (fin : Ev (fun k => laws_FnViterbi.l0 k c r b L L (L.length : Int) (L.length : Int) p C) X) : Ev (fun k => laws_FnViterbi.l0 k c r b L L (L.length : Int) 0 p C) X := by
  have key : ∀ (d i : Nat), i + d = L.length → Ev (fun k => laws_FnViterbi.l0 k c r b L L (L.length : Int) (i : Int) p C) X := by
    intro d
    induction d with
    | zero =>
      intro i hi
      obtain rfl : i = L.length := by omega
      exact fin
    | succ d ih =>
      intro i hi
      have hx := ih (i + 1) (by omega)
      apply K.Ev.succ
      simp only [laws_FnViterbi.l0, if_pos (show (i : Int) < (L.length : Int) by omega), if_pos (show (0 : Int) ≤ (i : Int) by omega), beq_self_eq_true, Bool.not_true, Bool.or_self, Bool.false_eq_true, if_false, K.w64s i (show i < 9223372036854775807 by omega)]
      exact hx
  exact key L.length 0 (by omega)
theorem FnViterbi : laws_FnViterbi.Pure := by
  intro c1 c2 _ hl1 hw1 _ hl2 hw2
  have hc1 : K.Code c1 := ⟨by omega, fun x h => K.b_u8 (hw1 x h)⟩
  have hc2 : K.Code c2 := ⟨by omega, fun x h => K.b_u8 (hw2 x h)⟩
  refine Ev.rounds (?_ : Ev (fun k => laws_FnViterbi.f k c1 c2) true)
  unfold laws_FnViterbi.f
  by_cases h : (wrap64 ((c1.length : Int) + (c2.length : Int))) > 1048576
  · simp only [if_pos h]; exact Ev.now _
  simp only [if_neg h]
  clear h
  obtain ⟨r, a, sd, e0, s1, _, _⟩ := received_ok c1 hc1
  have e1 : Ev (fun k => spec_DrawDecodeBits.f k c1) r := by
    simp only [spec_DrawDecodeBits.f]
    exact Ev.bind e0 (Ev.now _)
  have hsz : r.size ≤ 140737488351232 := by omega
  have b1 := implBestPaths_ev r hsz
  have b2 := specBestPaths_ev r hsz
  refine Ev.bind e1 ?_
  rcases implDecode_ev r hsz with ⟨q, d1⟩ | ⟨q, n, l, hs, hn, hd, d1⟩
  · rcases specDecode_ev r hsz with ⟨_, d2⟩ | ⟨q2, _⟩
    · rw [if_neg (by rw [q]; decide)] at b1 b2
      refine Ev.bind d1 ?_
      refine Ev.bind d2 ?_
      refine Ev.bind b1 ?_
      refine Ev.bind b2 ?_
      simp only [bne_self_eq_false, beq_self_eq_true, Bool.not_true, Bool.or_self, Bool.false_eq_true, if_false]
      apply K.Ev.succ
      simp only [laws_FnViterbi.j0, Bool.false_eq_true, if_false]
      refine vit_l0 c2 r false [] (by simp) _ 0 true ?_
      apply K.Ev.succ
      simp only [laws_FnViterbi.l0, if_neg (show ¬ ((([] : List S39).length : Int) < (([] : List S39).length : Int)) by omega), Bool.false_eq_true, if_false, beq_self_eq_true]
      exact Ev.now _
    · rw [q] at q2; cases q2
  · rcases specDecode_ev r hsz with ⟨q2, _⟩ | ⟨_, n2, l2, hs2, _, hd2, d2⟩
    · rw [q] at q2; cases q2
    obtain rfl : n2 = n := by omega
    obtain rfl := hd2.one hd
    rw [if_pos q] at b1 b2
    have hpl : (pathsL r (r.size / 3 - 2)).length ≤ 1000000 := by
      have : ∀ m, (pathsL r m).length ≤ 1000000 := fun m => by have := (pathsL_four r m).len; omega
      exact this _
    generalize pathsL r (r.size / 3 - 2) = L at b1 b2 hpl
    have sz : (strOfNums (K.digs l2)).size = n2 := by rw [strOfNums_size, K.digs_length, hd.len]
    refine Ev.bind d1 ?_
    refine Ev.bind d2 ?_
    refine Ev.bind b1 ?_
    refine Ev.bind b2 ?_
    simp only [bne_self_eq_false, beq_self_eq_true, Bool.not_true, Bool.or_self, Bool.false_eq_true, if_false]
    apply K.Ev.succ
    simp only [laws_FnViterbi.j0, Bool.false_eq_true, if_false]
    refine vit_l0 c2 r true L hpl _ _ true ?_
    apply K.Ev.succ
    simp only [laws_FnViterbi.l0, if_neg (show ¬ ((L.length : Int) < (L.length : Int)) by omega), if_true]
    refine Ev.bind (costOf_ok l2 hd.bits n2 hd.len hn r q hs) ?_
    simp only [if_true, bne_self_eq_false]
    apply K.Ev.succ
    simp only [laws_FnViterbi.j2, Bool.false_eq_true, if_false, sz, if_pos (show (0 : Int) ≤ (n2 : Int) by omega), Int.toNat_natCast, if_pos (show n2 ≤ 281474976710656 by omega)]
    exact vit_l1 c2 hc2 r q n2 hs hn l2 hd 8 0 _ (by omega) (by simp)

end Go.Proofs.YtaofmiigbhfnbaaDoor.Pure
