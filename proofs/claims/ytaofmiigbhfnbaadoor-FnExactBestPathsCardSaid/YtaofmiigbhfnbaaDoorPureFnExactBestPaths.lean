/- The law FnExactBestPaths answers true for every string: the program's best paths are the reference's, and no later call changes what was handed back. -/
import Derived.Test.YtaofmiigbhfnbaaDoorPFnExactBestPathsx6
import Derived.Test.YtaofmiigbhfnbaaDoorKKit
import Derived.Test.YtaofmiigbhfnbaaDoorKVit
set_option linter.unusedVariables false
set_option linter.unusedSimpArgs false
namespace Go.Proofs.YtaofmiigbhfnbaaDoor.Pure
open Go Go.RowKit Go.Proofs.YtaofmiigbhfnbaaDoor Go.Proofs.YtaofmiigbhfnbaaDoor.PFnExactBestPaths Go.Proofs.YtaofmiigbhfnbaaDoorW.PrintWords Go.Proofs.YtaofmiigbhfnbaaDoorW.PrintLast Go.Proofs.YtaofmiigbhfnbaaDoorW.PrintMore

theorem l10Bits_ev (s : ByteArray) (hs : s.size ≤ 140737488351232) (m : Int) : Ev (fun k => spec_l10Bits.f k s m) (K.bitsB s && decide ((s.size : Int) ≤ m)) := by
  have key : ∀ (d n : Nat), n + d = s.size → Ev (fun k => spec_l10Bits.l0 k s m (n : Int)) (((bytesOf s).drop n).all (fun x => x == 48 || x == 49) && decide ((s.size : Int) ≤ m)) := by
    intro d
    induction d with
    | zero =>
      intro n h
      apply K.Ev.succ
      simp only [spec_l10Bits.l0, if_neg (show ¬ ((n : Int) < (s.size : Int)) by omega)]
      rw [List.drop_of_length_le (by rw [bytesOf_length]; omega), List.all_nil, Bool.true_and]
      exact Ev.now _
    | succ d ih =>
      intro n h
      have hn : n < s.size := by omega
      have r := ih (n + 1) (by omega)
      have ws := K.w64s n (show n < 9223372036854775807 by omega)
      rw [K.drop_bytes s n hn, List.all_cons]
      apply K.Ev.succ
      by_cases h0 : bt s (n : Int) = 48
      · have e : (bt s (n : Int) == 48 || bt s (n : Int) == 49) = true := by simp [h0]
        rw [e, Bool.true_and]
        simp only [spec_l10Bits.l0, if_pos (show (n : Int) < (s.size : Int) by omega), if_pos (show (0 : Int) ≤ (n : Int) by omega), if_pos h0, ws]; exact r
      · by_cases h1 : bt s (n : Int) = 49
        · have e : (bt s (n : Int) == 48 || bt s (n : Int) == 49) = true := by simp [h1]
          rw [e, Bool.true_and]
          simp only [spec_l10Bits.l0, if_pos (show (n : Int) < (s.size : Int) by omega), if_pos (show (0 : Int) ≤ (n : Int) by omega), if_neg h0, if_pos h1, ws]; exact r
        · have e : (bt s (n : Int) == 48 || bt s (n : Int) == 49) = false := by simp [h0, h1]
          rw [e, Bool.false_and, Bool.false_and]
          simp only [spec_l10Bits.l0, if_pos (show (n : Int) < (s.size : Int) by omega), if_pos (show (0 : Int) ≤ (n : Int) by omega), if_neg h0, if_neg h1]; exact Ev.now _
  have := key s.size 0 (by omega)
  rw [List.drop_zero] at this
  simp only [spec_l10Bits.f]
  exact this

theorem l10Unlike_ev (a b : ByteArray) (ha : a.size ≤ 140737488351232) (h : a.size ≤ b.size) : Ev (fun k => spec_l10Unlike.f k a b) ((K.ham (bytesOf a) (bytesOf b) : Nat) : Int) := by
  have key : ∀ (d n c : Nat), n + d = a.size → c ≤ n → Ev (fun k => spec_l10Unlike.l0 k a b (c : Int) (n : Int)) ((c + K.ham ((bytesOf a).drop n) ((bytesOf b).drop n) : Nat) : Int) := by
    intro d
    induction d with
    | zero =>
      intro n c h1 h2
      apply K.Ev.succ
      simp only [spec_l10Unlike.l0, if_neg (show ¬ ((n : Int) < (a.size : Int)) by omega)]
      rw [List.drop_of_length_le (show (bytesOf a).length ≤ n by rw [bytesOf_length]; omega)]
      exact Ev.now _
    | succ d ih =>
      intro n c h1 h2
      have hn : n < a.size := by omega
      have hn2 : n < b.size := by omega
      have ws := K.w64s n (show n < 9223372036854775807 by omega)
      have wc := K.w64s c (show c < 9223372036854775807 by omega)
      have c1 : (n : Int) < (a.size : Int) := by omega
      have c2 : (0 : Int) ≤ (n : Int) := by omega
      have c3 : (n : Int) < (b.size : Int) := by omega
      rw [K.drop_bytes a n hn, K.drop_bytes b n hn2]
      apply K.Ev.succ
      by_cases he : bt a (n : Int) = bt b (n : Int)
      · have r := ih (n + 1) c (by omega) (by omega)
        simp only [spec_l10Unlike.l0, if_pos c1, if_pos c2, if_pos c3, if_pos he, ws, K.ham, Nat.zero_add]; exact r
      · have r := ih (n + 1) (c + 1) (by omega) (by omega)
        simp only [spec_l10Unlike.l0, if_pos c1, if_pos c2, if_pos c3, if_neg he, ws, wc, K.ham, ← Nat.add_assoc]; exact r
  have := key a.size 0 0 (by omega) (by omega)
  simp only [List.drop_zero, Nat.zero_add] at this
  simp only [spec_l10Unlike.f]
  exact this

theorem l10Out_eq (s b : Nat) (hs : s < 4) (hb : b < 2) : spec_l10Out.f (s : Int) (b : Int) = some (strOfNums (K.outB s b), ((K.nextS s b : Nat) : Int)) := by
  have : ∀ (s : Fin 4) (b : Fin 2), spec_l10Out.f (s.val : Int) (b.val : Int) = some (strOfNums (K.outB s.val b.val), ((K.nextS s.val b.val : Nat) : Int)) := by decide +kernel
  exact this ⟨s, hs⟩ ⟨b, hb⟩

/-- Whether a path is better than another one. -/
def pbetter (x n : S39) : Bool := decide (n.f1 < 0) || (decide (x.f1 < n.f1) || (decide (x.f1 = n.f1) && Op.bytesLess x.f0.toList n.f0.toList))
theorem l10Better_eq (x n : S39) : spec_l10Better.f x.f0 x.f1 n.f0 n.f1 = some (pbetter x n) := by
  unfold spec_l10Better.f pbetter
  by_cases h1 : n.f1 < 0
  · rw [if_pos h1, decide_eq_true h1, Bool.true_or]
  · rw [if_neg h1, decide_eq_false h1, Bool.false_or]
    by_cases h2 : x.f1 < n.f1
    · rw [if_pos h2, decide_eq_true h2, Bool.true_or]
    · rw [if_neg h2, decide_eq_false h2, Bool.false_or]
      by_cases h3 : x.f1 = n.f1
      · rw [if_pos h3, decide_eq_true h3, Bool.true_and]
      · rw [if_neg h3, decide_eq_false h3, Bool.false_and]

/-- The digit of a bit. -/
def dig (b : Nat) : ByteArray := strOfNums [((48 + b : Nat) : Int)]
theorem dig_size (b : Nat) : (dig b).size = 1 := by unfold dig; rw [strOfNums_size]; rfl
theorem l10Bit_eq (b : Nat) (hb : b < 2) : spec_l10Bit.f (b : Int) = some (dig b) := by
  have : ∀ b : Fin 2, spec_l10Bit.f (b.val : Int) = some (dig b.val) := by decide +kernel
  exact this ⟨b, hb⟩
def none4 : List S39 := [⟨⟨#[]⟩, -1⟩, ⟨⟨#[]⟩, -1⟩, ⟨⟨#[]⟩, -1⟩, ⟨⟨#[]⟩, -1⟩]
def start4 : List S39 := [⟨⟨#[]⟩, 0⟩, ⟨⟨#[]⟩, -1⟩, ⟨⟨#[]⟩, -1⟩, ⟨⟨#[]⟩, -1⟩]
/-- A path goes on. -/
def onward (r : List Int) (st : Nat) (p : S39) (b : Nat) : S39 := ⟨p.f0 ++ dig b, p.f1 + (K.ham (K.outB st b) r : Nat)⟩
def upd (L : List S39) (q : Nat) (x : S39) : List S39 := if pbetter x (rd_T39 L (q : Int)) = true then L.set q x else L
def stepBit (r : List Int) (st : Nat) (p : S39) (b : Nat) (L : List S39) : List S39 := if p.f1 < 0 then L else upd L (K.nextS st b) (onward r st p b)
def step2 (last : Bool) (r : List Int) (st : Nat) (p : S39) (L : List S39) : List S39 := if last = true then stepBit r st p 0 L else stepBit r st p 1 (stepBit r st p 0 L)
def stepL (last : Bool) (r : List Int) : List S39 → Nat → List S39 → List S39
  | [], _, L => L
  | p :: l, st, L => stepL last r l (st + 1) (step2 last r st p L)
def step (last : Bool) (r : List Int) (l : List S39) : List S39 := stepL last r l 0 none4
/-- What holds of the paths after i steps. -/
structure Four (i : Nat) (L : List S39) : Prop where
  len : L.length = 4
  lo : ∀ p ∈ L, -1 ≤ p.f1
  hi : ∀ p ∈ L, p.f1 ≤ 3 * i
  sz : ∀ p ∈ L, p.f0.size ≤ i
theorem upd_four {i : Nat} {L : List S39} (h : Four i L) (q : Nat) (x : S39) (h1 : -1 ≤ x.f1) (h2 : x.f1 ≤ 3 * i) (h3 : x.f0.size ≤ i) : Four i (upd L q x) := by
  unfold upd
  split
  · refine ⟨by rw [List.length_set]; exact h.len, ?_, ?_, ?_⟩ <;> intro p hp <;> rcases List.mem_or_eq_of_mem_set hp with hq | rfl
    · exact h.lo p hq
    · exact h1
    · exact h.hi p hq
    · exact h2
    · exact h.sz p hq
    · exact h3
  · exact h
theorem onward_four {i : Nat} (r : List Int) (st : Nat) (p : S39) (b : Nat) (h0 : 0 ≤ p.f1) (h1 : p.f1 ≤ 3 * i) (h2 : p.f0.size ≤ i) : 0 ≤ (onward r st p b).f1 ∧ (onward r st p b).f1 ≤ 3 * (i + 1 : Nat) ∧ (onward r st p b).f0.size ≤ i + 1 := by
  have hh := K.ham_le (K.outB st b) r
  rw [K.outB_length] at hh
  refine ⟨?_, ?_, ?_⟩
  · show 0 ≤ p.f1 + (K.ham (K.outB st b) r : Nat); omega
  · show p.f1 + (K.ham (K.outB st b) r : Nat) ≤ 3 * (i + 1 : Nat); omega
  · show (p.f0 ++ dig b).size ≤ i + 1
    rw [ByteArray.size_append, dig_size]; omega
theorem stepBit_four {i : Nat} (r : List Int) (st : Nat) (p : S39) (b : Nat) {L : List S39} (h : Four (i + 1) L) (h1 : p.f1 ≤ 3 * i) (h2 : p.f0.size ≤ i) : Four (i + 1) (stepBit r st p b L) := by
  unfold stepBit
  by_cases hn : p.f1 < 0
  · rw [if_pos hn]; exact h
  · rw [if_neg hn]
    have := onward_four r st p b (by omega) h1 h2
    exact upd_four h _ _ (by omega) this.2.1 this.2.2
theorem step2_four {i : Nat} (last : Bool) (r : List Int) (st : Nat) (p : S39) {L : List S39} (h : Four (i + 1) L) (h1 : p.f1 ≤ 3 * i) (h2 : p.f0.size ≤ i) : Four (i + 1) (step2 last r st p L) := by
  unfold step2
  split
  · exact stepBit_four r st p 0 h h1 h2
  · exact stepBit_four r st p 1 (stepBit_four r st p 0 h h1 h2) h1 h2
theorem stepL_four {i : Nat} (last : Bool) (r : List Int) : ∀ (l : List S39) (st : Nat) (L : List S39), Four (i + 1) L → (∀ p ∈ l, p.f1 ≤ 3 * i ∧ p.f0.size ≤ i) → Four (i + 1) (stepL last r l st L)
  | [], _, _, h, _ => h
  | p :: l, st, L, h, hl => stepL_four last r l (st + 1) _ (step2_four last r st p h (hl p (by simp)).1 (hl p (by simp)).2) (fun q hq => hl q (by simp [hq]))
theorem none4_four (i : Nat) : Four i none4 := by
  refine ⟨rfl, ?_, ?_, ?_⟩ <;> intro p hp <;> simp only [none4, List.mem_cons, List.not_mem_nil, or_false, or_self] at hp <;> subst hp
  · show (-1 : Int) ≤ -1; omega
  · show (-1 : Int) ≤ 3 * i; omega
  · show (0 : Nat) ≤ i; omega
theorem step_four {i : Nat} (last : Bool) (r : List Int) {l : List S39} (h : Four i l) : Four (i + 1) (step last r l) :=
  stepL_four last r l 0 none4 (none4_four _) (fun p hp => ⟨h.hi p hp, h.sz p hp⟩)
theorem start4_four : Four 0 start4 := by
  refine ⟨rfl, ?_, ?_, ?_⟩ <;> intro p hp <;> simp only [start4, List.mem_cons, List.not_mem_nil, or_false, or_self] at hp <;> rcases hp with rfl | rfl
  · show (-1 : Int) ≤ 0; omega
  · show (-1 : Int) ≤ -1; omega
  · show (0 : Int) ≤ 3 * (0 : Nat); omega
  · show (-1 : Int) ≤ 3 * (0 : Nat); omega
  · show (0 : Nat) ≤ 0; omega
  · show (0 : Nat) ≤ 0; omega
theorem rdP {L : List S39} {n : Nat} (h : n < L.length) : rd_T39 L (n : Int) = L[n] := by simp [rd_T39, List.getElem?_eq_getElem h]
theorem l10Step_bit (r : ByteArray) (hr : r.size = 3) (last : Bool) (l : List S39) (st : Nat) (hst : st < 4) (p : S39) (i : Nat) (hi : i ≤ 1000000) (h0 : 0 ≤ p.f1) (h1 : p.f1 ≤ 3 * i) (h2 : p.f0.size ≤ i) (b : Nat) (hb : b < 2) (L : List S39) (hL : L.length = 4) (R : List S39)
    (h : Ev (fun k => spec_l10Step.l1 k r last (upd L (K.nextS st b) (onward (bytesOf r) st p b)) (st : Int) ((b + 1 : Nat) : Int) l (l.length : Int) (st : Int) p.f0 p.f1) R) :
    Ev (fun k => spec_l10Step.j2 k r last L (st : Int) (b : Int) l (l.length : Int) (st : Int) false p.f0 p.f1) R := by
  have hn := K.nextS_lt hst hb
  have hu := l10Unlike_ev (strOfNums (K.outB st b)) r (by rw [strOfNums_size, K.outB_length]; omega) (by rw [strOfNums_size, K.outB_length]; omega)
  have hbo : bytesOf (strOfNums (K.outB st b)) = K.outB st b := K.bytesOf_strOf _ (fun x hx => by have := K.outB_rng st b x hx; omega)
  rw [hbo] at hu
  have hle := K.ham_le (K.outB st b) (bytesOf r)
  rw [K.outB_length] at hle
  have c1 : p.f0.size + (dig b).size ≤ 9223372036854775807 := by rw [dig_size]; omega
  have c2 : (0 : Int) ≤ ((K.nextS st b : Nat) : Int) := by omega
  have c3 : ((K.nextS st b : Nat) : Int) < (L.length : Int) := by omega
  have w : K.Eqn (wrap64 (p.f1 + ((K.ham (K.outB st b) (bytesOf r) : Nat) : Int))) (p.f1 + ((K.ham (K.outB st b) (bytesOf r) : Nat) : Int)) := ⟨K.w64 (by omega) (by omega)⟩
  have wb : K.Eqn (wrap64 ((b : Int) + 1)) ((b + 1 : Nat) : Int) := ⟨K.w64s b (by omega)⟩
  have hbet := l10Better_eq (onward (bytesOf r) st p b) (rd_T39 L ((K.nextS st b : Nat) : Int))
  apply K.Ev.succ
  simp only [spec_l10Step.j2, Bool.false_eq_true, if_false, l10Out_eq st b hst hb, Option.bind_some, l10Bit_eq b hb, if_pos c1]
  refine Ev.bind hu ?_
  simp only [if_pos c2, if_pos c3, w.out, wb.out]
  rw [show p.f0 ++ dig b = (onward (bytesOf r) st p b).f0 from rfl, show p.f1 + ((K.ham (K.outB st b) (bytesOf r) : Nat) : Int) = (onward (bytesOf r) st p b).f1 from rfl]
  simp only [hbet, Option.bind_some]
  by_cases hq : pbetter (onward (bytesOf r) st p b) (rd_T39 L ((K.nextS st b : Nat) : Int)) = true
  · rw [upd, if_pos hq] at h
    simp only [hq, if_true, Int.toNat_natCast]
    exact h
  · rw [upd, if_neg hq] at h
    simp only [hq, if_false]
    exact h
theorem l10Step_state (r : ByteArray) (hr : r.size = 3) (last : Bool) (l : List S39) (st : Nat) (hst : st < 4) (p : S39) (i : Nat) (hi : i ≤ 1000000) (h1 : p.f1 ≤ 3 * i) (h2 : p.f0.size ≤ i) (L : List S39) (hL : L.length = 4) (R : List S39)
    (h : Ev (fun k => spec_l10Step.l0 k r last (step2 last (bytesOf r) st p L) l (l.length : Int) ((st + 1 : Nat) : Int)) R) :
    Ev (fun k => spec_l10Step.l1 k r last L (st : Int) 0 l (l.length : Int) (st : Int) p.f0 p.f1) R := by
  have ws : K.Eqn (wrap64 ((st : Int) + 1)) ((st + 1 : Nat) : Int) := ⟨K.w64s st (by omega)⟩
  have fin : Ev (fun k => spec_l10Step.l1 k r last (step2 last (bytesOf r) st p L) (st : Int) ((2 : Nat) : Int) l (l.length : Int) (st : Int) p.f0 p.f1) R := by
    apply K.Ev.succ
    simp only [spec_l10Step.l1, show ¬ (((2 : Nat) : Int) < 2) by omega, if_false, ws.out]
    exact h
  by_cases hn : p.f1 < 0
  · have skip : ∀ (b : Nat), b < 2 → Ev (fun k => spec_l10Step.l1 k r last L (st : Int) ((b + 1 : Nat) : Int) l (l.length : Int) (st : Int) p.f0 p.f1) R → Ev (fun k => spec_l10Step.l1 k r last L (st : Int) (b : Int) l (l.length : Int) (st : Int) p.f0 p.f1) R := by
      intro b hb hh
      apply K.Ev.succ
      simp only [spec_l10Step.l1, if_pos (show (b : Int) < 2 by omega), if_pos hn]
      apply K.Ev.succ
      simp only [spec_l10Step.j2, if_true, K.w64s b (show b < 9223372036854775807 by omega)]
      exact hh
    have e : step2 last (bytesOf r) st p L = L := by unfold step2 stepBit; simp only [if_pos hn, ite_self]
    rw [e] at fin
    exact skip 0 (by omega) (skip 1 (by omega) fin)
  · have one := l10Step_bit r hr last l st hst p i hi (by omega) h1 h2
    have go : ∀ (b : Nat) (L : List S39), b < 2 → (last = true → b = 0) → L.length = 4 → Ev (fun k => spec_l10Step.l1 k r last (stepBit (bytesOf r) st p b L) (st : Int) ((b + 1 : Nat) : Int) l (l.length : Int) (st : Int) p.f0 p.f1) R → Ev (fun k => spec_l10Step.l1 k r last L (st : Int) (b : Int) l (l.length : Int) (st : Int) p.f0 p.f1) R := by
      intro b L hb hlb hL hh
      rw [stepBit, if_neg hn] at hh
      apply K.Ev.succ
      cases last with
      | false => simp only [spec_l10Step.l1, if_pos (show (b : Int) < 2 by omega), if_neg hn, Bool.false_eq_true, if_false]; exact one b hb L hL R hh
      | true =>
        obtain rfl : b = 0 := hlb rfl
        have e : (((0 : Nat) : Int) == 1) = false := rfl
        simp only [spec_l10Step.l1, if_pos (show ((0 : Nat) : Int) < 2 by omega), if_neg hn, if_true, e]; exact one 0 hb L hL R hh
    cases last with
    | false =>
      simp only [step2, Bool.false_eq_true, if_false] at fin
      refine go 0 L (by omega) (fun h => by cases h) hL ?_
      refine go 1 _ (by omega) (fun h => by cases h) ?_ fin
      unfold stepBit upd
      split
      · exact hL
      · split
        · rw [List.length_set]; exact hL
        · exact hL
    | true =>
      simp only [step2, if_true] at fin
      refine go 0 L (by omega) (fun _ => rfl) hL ?_
      apply K.Ev.succ
      have e : (((0 + 1 : Nat) : Int) == 1) = true := rfl
      simp only [spec_l10Step.l1, if_pos (show ((0 + 1 : Nat) : Int) < 2 by omega), if_neg hn, if_true, e]
      apply K.Ev.succ
      have w2 := K.w64s (0 + 1) (by omega)
      simp only [spec_l10Step.j2, if_true, w2]
      exact fin
theorem l10Step_ev (r : ByteArray) (hr : r.size = 3) (last : Bool) (l : List S39) (i : Nat) (hi : i ≤ 1000000) (hl : Four i l) : Ev (fun k => spec_l10Step.f k l r last) (step last (bytesOf r) l) := by
  have key : ∀ (d n : Nat) (L : List S39), n + d = l.length → Four (i + 1) L → Ev (fun k => spec_l10Step.l0 k r last L l (l.length : Int) (n : Int)) (stepL last (bytesOf r) (l.drop n) n L) := by
    intro d
    induction d with
    | zero =>
      intro n L h1 h2
      rw [List.drop_of_length_le (by omega)]
      apply K.Ev.succ
      simp only [spec_l10Step.l0, if_neg (show ¬ ((n : Int) < (l.length : Int)) by omega), stepL]
      exact Ev.now _
    | succ d ih =>
      intro n L h1 h2
      have hn : n < l.length := by omega
      have h4 := hl.len
      have hp := List.getElem_mem hn
      have r1 := ih (n + 1) (step2 last (bytesOf r) n l[n] L) (by omega) (step2_four last _ n _ h2 (hl.hi _ hp) (hl.sz _ hp))
      rw [List.drop_eq_getElem_cons hn, stepL]
      apply K.Ev.succ
      simp only [spec_l10Step.l0, if_pos (show (n : Int) < (l.length : Int) by omega), if_pos (show (0 : Int) ≤ (n : Int) by omega), rdP hn]
      exact l10Step_state r hr last l n (by omega) l[n] i hi (hl.hi _ hp) (hl.sz _ hp) L h2.len _ r1
  have := key l.length 0 none4 (by omega) (none4_four _)
  rw [List.drop_zero] at this
  simp only [spec_l10Step.f]
  exact this

/-- The paths after n steps. -/
def pathsL (x : ByteArray) : Nat → List S39
  | 0 => start4
  | n + 1 => step false (bytesOf (x.extract (3 * n) (3 * n + 3))) (pathsL x n)
theorem pathsL_four (x : ByteArray) : ∀ n, Four n (pathsL x n)
  | 0 => start4_four
  | n + 1 => step_four false _ (pathsL_four x n)
theorem ext3_size (x : ByteArray) (n : Nat) (h : 3 * n + 3 ≤ x.size) : (x.extract (3 * n) (3 * n + 3)).size = 3 := by
  rw [ByteArray.size_extract]; omega
theorem l10Paths_ev (x : ByteArray) (n : Nat) (hx : x.size = 3 * (n + 2)) (hn : n ≤ 100000) : Ev (fun k => spec_l10Paths.f k x) (pathsL x n) := by
  have key : ∀ (d i : Nat), i + d = n → Ev (fun k => spec_l10Paths.l0 k x (pathsL x i) ((3 * i : Nat) : Int)) (pathsL x n) := by
    intro d
    induction d with
    | zero =>
      intro i h
      obtain rfl : i = n := by omega
      have w1 : K.Eqn (wrap64 (((3 * i : Nat) : Int) + 3)) ((3 * i + 3 : Nat) : Int) := ⟨by rw [K.w64 (by omega) (by omega)]; omega⟩
      have w2 : K.Eqn (wrap64 ((x.size : Int) - 6)) ((3 * i : Nat) : Int) := ⟨by rw [K.w64 (by omega) (by omega)]; omega⟩
      have c : ¬ ((3 * i + 3 : Nat) : Int) ≤ ((3 * i : Nat) : Int) := by omega
      apply K.Ev.succ
      simp only [spec_l10Paths.l0, w1.out, w2.out, if_neg c]
      exact Ev.now _
    | succ d ih =>
      intro i h
      have r := ih (i + 1) (by omega)
      have w1 : K.Eqn (wrap64 (((3 * i : Nat) : Int) + 3)) ((3 * i + 3 : Nat) : Int) := ⟨by rw [K.w64 (by omega) (by omega)]; omega⟩
      have w2 : K.Eqn (wrap64 ((x.size : Int) - 6)) ((3 * n : Nat) : Int) := ⟨by rw [K.w64 (by omega) (by omega)]; omega⟩
      have c : ((3 * i + 3 : Nat) : Int) ≤ ((3 * n : Nat) : Int) := by omega
      have c2 : (0 : Int) ≤ ((3 * i : Nat) : Int) := by omega
      have c3 : ((3 * i : Nat) : Int) ≤ ((3 * i + 3 : Nat) : Int) := by omega
      have c4 : ((3 * i + 3 : Nat) : Int) ≤ (x.size : Int) := by omega
      apply K.Ev.succ
      simp only [spec_l10Paths.l0, w1.out, w2.out, if_pos c, if_pos c2, if_pos c3, if_pos c4, Int.toNat_natCast]
      exact Ev.bind (l10Step_ev _ (ext3_size x i (by omega)) false _ i (by omega) (pathsL_four x i)) r
  simp only [spec_l10Paths.f]
  exact key n 0 (by omega)

theorem dropWhile_nil {p : UInt8 → Bool} : ∀ l : List UInt8, l.dropWhile p = [] ↔ l.all p = true
  | [] => by simp
  | b :: l => by
    rw [List.dropWhile_cons, List.all_cons]
    by_cases h : p b = true
    · rw [if_pos h, h, Bool.true_and]; exact dropWhile_nil l
    · rw [if_neg h]
      have : p b = false := by simpa using h
      simp [this]
theorem trimS_nil (l cs : List UInt8) : Lib.trimS l cs = [] ↔ l.all (cs.contains ·) = true := by
  unfold Lib.trimS Lib.trimLeftS Lib.trimRightS
  rw [dropWhile_nil, List.all_reverse]
  constructor
  · intro h
    have : (l.reverse.dropWhile (cs.contains ·)) = [] := by
      cases hd : l.reverse.dropWhile (cs.contains ·) with
      | nil => rfl
      | cons b r =>
        have h1 : cs.contains b = true := by rw [hd, List.all_cons, Bool.and_eq_true] at h; exact h.1
        have h2 := List.head?_dropWhile_not (cs.contains ·) l.reverse
        rw [hd] at h2
        simp only [List.head?_cons] at h2
        rw [h1] at h2
        exact absurd h2 (by simp)
    rw [dropWhile_nil, List.all_reverse] at this
    exact this
  · intro h
    have : (l.reverse.dropWhile (cs.contains ·)) = [] := by rw [dropWhile_nil, List.all_reverse]; exact h
    rw [this]; rfl
theorem areBits_eq (s : ByteArray) (hs : s.size ≤ 140737488351232) (m : Int) : impl_areBits.f s m = some (K.bitsB s && decide ((s.size : Int) ≤ m)) := by
  unfold impl_areBits.f
  by_cases h : (s.size : Int) ≤ m
  · rw [if_pos h, decide_eq_true h, Bool.and_true]
    have c2 : (⟨#[48, 49]⟩ : ByteArray).data.toList.all (fun b => decide (b.toNat < 128)) = true := by decide
    have c3 : (⟨#[48, 49]⟩ : ByteArray).size < 4294967281 := by decide
    simp only [strings_Trim.f, if_pos (show s.size ≤ 9223372036854775807 by omega), if_pos c2, if_pos c3, Option.bind_some, K.toList_data]
    congr 1
    rw [Bool.eq_iff_iff, beq_iff_eq]
    show Lib.trimS s.data.toList [48, 49] = [] ↔ _
    rw [trimS_nil]
    unfold K.bitsB bytesOf
    rw [List.all_map]
    have e : ∀ b : UInt8, ([48, 49] : List UInt8).contains b = ((fun x : Int => x == 48 || x == 49) ∘ fun b : UInt8 => (b.toNat : Int)) b := by
      intro b
      have hb : b = UInt8.ofNat b.toNat := by simp
      have h : ∀ n : Fin 256, ([48, 49] : List UInt8).contains (UInt8.ofNat n.val) = ((((UInt8.ofNat n.val).toNat : Int) == 48) || (((UInt8.ofNat n.val).toNat : Int) == 49)) := by decide +kernel
      rw [hb]
      exact h ⟨b.toNat, b.toNat_lt⟩
    simp only [e]
  · rw [if_neg h, decide_eq_false h, Bool.and_false]

theorem isReceived_eq (r : ByteArray) (hr : r.size ≤ 140737488351232) : impl_isReceived.f r = some (K.bitsB r && (decide (r.size ≤ 96) && (decide (r.size % 3 = 0) && decide (6 ≤ r.size)))) := by
  unfold impl_isReceived.f
  rw [areBits_eq r hr 96]
  have e : decide ((r.size : Int) ≤ 96) = decide (r.size ≤ 96) := by rw [decide_eq_decide]; omega
  rw [e]
  simp only [Option.bind_some]
  by_cases h1 : (K.bitsB r && decide (r.size ≤ 96)) = true
  · rw [h1]
    rw [Bool.and_eq_true] at h1
    simp only [if_true, h1.1, h1.2, Bool.true_and]
    by_cases h2 : r.size % 3 = 0
    · rw [if_pos (by omega), decide_eq_true h2, Bool.true_and]
      congr 1
      rw [decide_eq_decide]; omega
    · rw [if_neg (by omega), decide_eq_false h2, Bool.false_and]
  · have h1' : (K.bitsB r && decide (r.size ≤ 96)) = false := by simpa using h1
    rw [h1']
    simp only [Bool.false_eq_true, if_false]
    rw [← Bool.and_assoc, h1', Bool.false_and]

theorem distance_ev (a b : ByteArray) (ha : a.size ≤ 140737488351232) (h : a.size ≤ b.size) : Ev (fun k => impl_distance.f k a b) ((K.ham (bytesOf a) (bytesOf b) : Nat) : Int) := by
  have key : ∀ (d n c : Nat), n + d = a.size → c ≤ n → Ev (fun k => impl_distance.l0 k a b (c : Int) (a.size : Int) (n : Int)) ((c + K.ham ((bytesOf a).drop n) ((bytesOf b).drop n) : Nat) : Int) := by
    intro d
    induction d with
    | zero =>
      intro n c h1 h2
      apply K.Ev.succ
      simp only [impl_distance.l0, if_neg (show ¬ ((n : Int) < (a.size : Int)) by omega)]
      rw [List.drop_of_length_le (show (bytesOf a).length ≤ n by rw [bytesOf_length]; omega)]
      exact Ev.now _
    | succ d ih =>
      intro n c h1 h2
      have hn : n < a.size := by omega
      have hn2 : n < b.size := by omega
      have ws := K.w64s n (show n < 9223372036854775807 by omega)
      have wc := K.w64s c (show c < 9223372036854775807 by omega)
      have c1 : (n : Int) < (a.size : Int) := by omega
      have c2 : (0 : Int) ≤ (n : Int) := by omega
      have c3 : (n : Int) < (b.size : Int) := by omega
      rw [K.drop_bytes a n hn, K.drop_bytes b n hn2]
      apply K.Ev.succ
      by_cases he : bt a (n : Int) = bt b (n : Int)
      · have r := ih (n + 1) c (by omega) (by omega)
        simp only [impl_distance.l0, if_pos c1, if_pos c2, if_pos c3, if_pos he, ws, K.ham, Nat.zero_add]; exact r
      · have r := ih (n + 1) (c + 1) (by omega) (by omega)
        simp only [impl_distance.l0, if_pos c1, if_pos c2, if_pos c3, if_neg he, ws, wc, K.ham, ← Nat.add_assoc]; exact r
  have := key a.size 0 0 (by omega) (by omega)
  simp only [List.drop_zero, Nat.zero_add] at this
  simp only [impl_distance.f]
  exact this

theorem better_eq (x n : S39) (hx : 0 ≤ x.f1) : impl_better.f n.f0 n.f1 x.f0 x.f1 = some (if pbetter x n = true then (x.f0, x.f1) else (n.f0, n.f1)) := by
  unfold impl_better.f pbetter
  rw [if_pos (show x.f1 ≥ 0 by omega)]
  by_cases h1 : n.f1 < 0
  · rw [if_pos h1, decide_eq_true h1, Bool.true_or, if_pos rfl]
  · rw [if_neg h1, decide_eq_false h1, Bool.false_or]
    by_cases h2 : x.f1 < n.f1
    · rw [if_pos h2, decide_eq_true h2, Bool.true_or, if_pos rfl]
    · rw [if_neg h2, decide_eq_false h2, Bool.false_or]
      by_cases h3 : x.f1 = n.f1
      · rw [if_pos h3, decide_eq_true h3, Bool.true_and]
        split <;> rfl
      · rw [if_neg h3, decide_eq_false h3, Bool.false_and, if_neg (by simp)]

theorem outputs_eq (s b : Nat) (hs : s < 4) (hb : b < 2) : impl_outputs.f (s : Int) (b : Int) = some (strOfNums (K.outB s b), ((K.nextS s b : Nat) : Int)) := by
  have : ∀ (s : Fin 4) (b : Fin 2), impl_outputs.f (s.val : Int) (b.val : Int) = some (strOfNums (K.outB s.val b.val), ((K.nextS s.val b.val : Nat) : Int)) := by decide +kernel
  exact this ⟨s, hs⟩ ⟨b, hb⟩

theorem rune_dig (b : Nat) (hb : b < 2) : Utf8.encode (wrap32 (wrap64 (48 + (b : Int)))) = dig b := by
  have : ∀ b : Fin 2, Utf8.encode (wrap32 (wrap64 (48 + (b.val : Int)))) = dig b.val := by decide +kernel
  exact this ⟨b, hb⟩
theorem set_same (L : List S39) (n : Nat) (h : n < L.length) : L.set n ⟨L[n].f0, L[n].f1⟩ = L := List.set_getElem_self h
theorem bestPaths_bit (x : ByteArray) (n : Nat) (m : Nat) (hm : 3 * m + 3 ≤ x.size) (hm2 : m ≤ 1000000) (l : List S39) (st : Nat) (hst : st < 4) (p : S39) (i : Nat) (hi : i ≤ 1000000) (h1 : p.f1 ≤ 3 * i) (h2 : p.f0.size ≤ i) (b : Nat) (hb : b < 2) (L : List S39) (hL : L.length = 4) (R : List S39)
    (h : Ev (fun k => impl_bestPaths.l2 k x (m : Int) (stepBit (bytesOf (x.extract (3 * m) (3 * m + 3))) st p b L) (st : Int) (n : Int) (m : Int) l (l.length : Int) (st : Int) ((b + 1 : Nat) : Int) p.f0 p.f1) R) :
    Ev (fun k => impl_bestPaths.l2 k x (m : Int) L (st : Int) (n : Int) (m : Int) l (l.length : Int) (st : Int) (b : Int) p.f0 p.f1) R := by
  have hn := K.nextS_lt hst hb
  have e3 := ext3_size x m hm
  have wb : K.Eqn (wrap64 ((b : Int) + 1)) ((b + 1 : Nat) : Int) := ⟨K.w64s b (by omega)⟩
  by_cases h0 : p.f1 < 0
  · rw [stepBit, if_pos h0] at h
    apply K.Ev.succ
    simp only [impl_bestPaths.l2, if_pos (show (b : Int) < 2 by omega), outputs_eq st b hst hb, Option.bind_some, if_neg (show ¬ p.f1 ≥ 0 by omega), wb.out]
    exact h
  · rw [stepBit, if_neg h0] at h
    have hu := distance_ev (strOfNums (K.outB st b)) (x.extract (3 * m) (3 * m + 3)) (by rw [strOfNums_size, K.outB_length]; omega) (by rw [strOfNums_size, K.outB_length]; omega)
    have hbo : bytesOf (strOfNums (K.outB st b)) = K.outB st b := K.bytesOf_strOf _ (fun x hx => by have := K.outB_rng st b x hx; omega)
    rw [hbo] at hu
    have hle := K.ham_le (K.outB st b) (bytesOf (x.extract (3 * m) (3 * m + 3)))
    rw [K.outB_length] at hle
    have c1 : p.f0.size + (dig b).size ≤ 9223372036854775807 := by rw [dig_size]; omega
    have c2 : (0 : Int) ≤ ((K.nextS st b : Nat) : Int) := by omega
    have c3 : ((K.nextS st b : Nat) : Int) < (L.length : Int) := by omega
    have c4 : (0 : Int) ≤ ((3 * m : Nat) : Int) := by omega
    have c5 : ((3 * m : Nat) : Int) ≤ ((3 * m + 3 : Nat) : Int) := by omega
    have c6 : ((3 * m + 3 : Nat) : Int) ≤ (x.size : Int) := by omega
    have hto : K.nextS st b < L.length := by omega
    have ho := onward_four (bytesOf (x.extract (3 * m) (3 * m + 3))) st p b (by omega) h1 h2
    have w1 : K.Eqn (wrap64 (3 * (m : Int))) ((3 * m : Nat) : Int) := ⟨by rw [K.w64 (by omega) (by omega)]; omega⟩
    have w2 : K.Eqn (wrap64 (((3 * m : Nat) : Int) + 3)) ((3 * m + 3 : Nat) : Int) := ⟨by rw [K.w64 (by omega) (by omega)]; omega⟩
    have w : K.Eqn (wrap64 (p.f1 + ((K.ham (K.outB st b) (bytesOf (x.extract (3 * m) (3 * m + 3))) : Nat) : Int))) (p.f1 + ((K.ham (K.outB st b) (bytesOf (x.extract (3 * m) (3 * m + 3))) : Nat) : Int)) := ⟨K.w64 (by omega) (by omega)⟩
    have hbet := better_eq (onward (bytesOf (x.extract (3 * m) (3 * m + 3))) st p b) L[K.nextS st b] ho.1
    apply K.Ev.succ
    simp only [impl_bestPaths.l2, if_pos (show (b : Int) < 2 by omega), outputs_eq st b hst hb, Option.bind_some, if_pos (show p.f1 ≥ 0 by omega), if_pos c2, if_pos c3, rune_dig b hb, if_pos c1, w1.out, w2.out, if_pos c4, if_pos c5, if_pos c6, Int.toNat_natCast, wb.out, rdP hto]
    refine Ev.bind hu ?_
    simp only [w.out]
    rw [show p.f0 ++ dig b = (onward (bytesOf (x.extract (3 * m) (3 * m + 3))) st p b).f0 from rfl, show p.f1 + ((K.ham (K.outB st b) (bytesOf (x.extract (3 * m) (3 * m + 3))) : Nat) : Int) = (onward (bytesOf (x.extract (3 * m) (3 * m + 3))) st p b).f1 from rfl]
    simp only [hbet, Option.bind_some]
    rw [upd, rdP hto] at h
    by_cases hq : pbetter (onward (bytesOf (x.extract (3 * m) (3 * m + 3))) st p b) L[K.nextS st b] = true
    · rw [if_pos hq] at h
      simp only [if_pos hq]
      exact h
    · rw [if_neg hq] at h
      have es := set_same L (K.nextS st b) hto
      simp only [if_neg hq]
      first | (simp only [es]; exact h) | (simp only [List.set_getElem_self]; exact h) | (rw [es]; exact h)
theorem bestPaths_step (x : ByteArray) (n : Nat) (m : Nat) (hm : 3 * m + 3 ≤ x.size) (hm2 : m ≤ 1000000) (l : List S39) (i : Nat) (hi : i ≤ 1000000) (hl : Four i l) (R : List S39)
    (h : Ev (fun k => impl_bestPaths.l0 k x (step false (bytesOf (x.extract (3 * m) (3 * m + 3))) l) (n : Int) ((m + 1 : Nat) : Int)) R) :
    Ev (fun k => impl_bestPaths.l1 k x (m : Int) none4 (n : Int) (m : Int) l (l.length : Int) 0) R := by
  have wm : K.Eqn (wrap64 ((m : Int) + 1)) ((m + 1 : Nat) : Int) := ⟨K.w64s m (by omega)⟩
  have key : ∀ (d j : Nat) (L : List S39), j + d = l.length → Four (i + 1) L → Ev (fun k => impl_bestPaths.l0 k x (stepL false (bytesOf (x.extract (3 * m) (3 * m + 3))) (l.drop j) j L) (n : Int) ((m + 1 : Nat) : Int)) R → Ev (fun k => impl_bestPaths.l1 k x (m : Int) L (n : Int) (m : Int) l (l.length : Int) (j : Int)) R := by
    intro d
    induction d with
    | zero =>
      intro j L h1 h2 hh
      rw [List.drop_of_length_le (by omega)] at hh
      apply K.Ev.succ
      simp only [impl_bestPaths.l1, if_neg (show ¬ ((j : Int) < (l.length : Int)) by omega), wm.out]
      exact hh
    | succ d ih =>
      intro j L h1 h2 hh
      have hj : j < l.length := by omega
      have h4 := hl.len
      have hp := List.getElem_mem hj
      have q1 := hl.hi _ hp
      have q2 := hl.sz _ hp
      have wj : K.Eqn (wrap64 ((j : Int) + 1)) ((j + 1 : Nat) : Int) := ⟨K.w64s j (by omega)⟩
      rw [List.drop_eq_getElem_cons hj, stepL] at hh
      have f2 := step2_four false (bytesOf (x.extract (3 * m) (3 * m + 3))) j l[j] h2 q1 q2
      have r1 := ih (j + 1) _ (by omega) f2 hh
      have fin : Ev (fun k => impl_bestPaths.l2 k x (m : Int) (step2 false (bytesOf (x.extract (3 * m) (3 * m + 3))) j l[j] L) (j : Int) (n : Int) (m : Int) l (l.length : Int) (j : Int) ((2 : Nat) : Int) l[j].f0 l[j].f1) R := by
        apply K.Ev.succ
        simp only [impl_bestPaths.l2, show ¬ (((2 : Nat) : Int) < 2) by omega, if_false, wj.out]
        exact r1
      simp only [step2, Bool.false_eq_true, if_false] at fin
      have f1 := stepBit_four (bytesOf (x.extract (3 * m) (3 * m + 3))) j l[j] 0 h2 q1 q2
      apply K.Ev.succ
      simp only [impl_bestPaths.l1, if_pos (show (j : Int) < (l.length : Int) by omega), if_pos (show (0 : Int) ≤ (j : Int) by omega), rdP hj]
      refine bestPaths_bit x n m hm hm2 l j (by omega) l[j] i hi q1 q2 0 (by omega) L h2.len R ?_
      exact bestPaths_bit x n m hm hm2 l j (by omega) l[j] i hi q1 q2 1 (by omega) _ f1.len R fin
  have := key l.length 0 none4 (by omega) (none4_four _)
  rw [List.drop_zero] at this
  exact this h
theorem bestPaths_ev (x : ByteArray) (n : Nat) (hx : x.size = 3 * (n + 2)) (hn : n ≤ 100000) : Ev (fun k => impl_bestPaths.f k x (n : Int)) (pathsL x n) := by
  have key : ∀ (d i : Nat), i + d = n → Ev (fun k => impl_bestPaths.l0 k x (pathsL x i) (n : Int) (i : Int)) (pathsL x n) := by
    intro d
    induction d with
    | zero =>
      intro i h
      obtain rfl : i = n := by omega
      apply K.Ev.succ
      simp only [impl_bestPaths.l0, if_neg (show ¬ ((i : Int) < (i : Int)) by omega)]
      exact Ev.now _
    | succ d ih =>
      intro i h
      have r := ih (i + 1) (by omega)
      apply K.Ev.succ
      simp only [impl_bestPaths.l0, if_pos (show (i : Int) < (n : Int) by omega)]
      exact bestPaths_step x n i (by omega) (by omega) (pathsL x i) i (by omega) (pathsL_four x i) _ r
  simp only [impl_bestPaths.f]
  exact key n 0 (by omega)

/-- Whether a string is a received one. -/
def recvB (r : ByteArray) : Bool := K.bitsB r && (decide (r.size ≤ 96) && (decide (r.size % 3 = 0) && decide (6 ≤ r.size)))
theorem l10Received_ev (r : ByteArray) (hr : r.size ≤ 140737488351232) : Ev (fun k => spec_l10Received.f k r) (recvB r) := by
  have s := l10Bits_ev r hr 96
  have e : decide ((r.size : Int) ≤ 96) = decide (r.size ≤ 96) := by rw [decide_eq_decide]; omega
  rw [e] at s
  unfold recvB
  simp only [spec_l10Received.f]
  refine Ev.bind s ?_
  by_cases h1 : (K.bitsB r && decide (r.size ≤ 96)) = true
  · rw [h1]
    rw [Bool.and_eq_true] at h1
    simp only [if_true, h1.1, h1.2, Bool.true_and]
    by_cases h2 : r.size % 3 = 0
    · rw [if_pos (by omega), decide_eq_true h2, Bool.true_and]
      have e2 : decide ((r.size : Int) ≥ 6) = decide (6 ≤ r.size) := by rw [decide_eq_decide]; omega
      rw [e2]
      exact Ev.now _
    · rw [if_neg (by omega), decide_eq_false h2, Bool.false_and]
      exact Ev.now _
  · have h1' : (K.bitsB r && decide (r.size ≤ 96)) = false := by simpa using h1
    rw [h1', ← Bool.and_assoc, h1', Bool.false_and]
    simp only [Bool.false_eq_true, if_false]
    exact Ev.now _
theorem recv_size {r : ByteArray} (h : recvB r = true) : ∃ n : Nat, r.size = 3 * (n + 2) ∧ n ≤ 30 := by
  unfold recvB at h
  simp only [Bool.and_eq_true, decide_eq_true_eq] at h
  exact ⟨r.size / 3 - 2, by omega, by omega⟩
theorem recv_bits {r : ByteArray} (h : recvB r = true) : K.bitsB r = true := by
  unfold recvB at h
  rw [Bool.and_eq_true] at h
  exact h.1
theorem specBestPaths_ev (r : ByteArray) (hr : r.size ≤ 140737488351232) : Ev (fun k => spec_BestPaths.f k r) (if recvB r = true then (pathsL r (r.size / 3 - 2), true) else ([], false)) := by
  simp only [spec_BestPaths.f]
  refine Ev.bind (l10Received_ev r hr) ?_
  by_cases h : recvB r = true
  · obtain ⟨n, e, hn⟩ := recv_size h
    have e2 : r.size / 3 - 2 = n := by omega
    simp only [h, if_true, e2]
    exact Ev.bind (l10Paths_ev r n e (by omega)) (Ev.now _)
  · have h' : recvB r = false := by simpa using h
    simp only [h', Bool.false_eq_true, if_false]
    exact Ev.now _
theorem implBestPaths_ev (r : ByteArray) (hr : r.size ≤ 140737488351232) : Ev (fun k => impl_BestPaths.f k r) (if recvB r = true then (pathsL r (r.size / 3 - 2), true) else ([], false)) := by
  simp only [impl_BestPaths.f, isReceived_eq r hr, Option.bind_some]
  rw [show (K.bitsB r && (decide (r.size ≤ 96) && (decide (r.size % 3 = 0) && decide (6 ≤ r.size)))) = recvB r from rfl]
  by_cases h : recvB r = true
  · obtain ⟨n, e, hn⟩ := recv_size h
    have e2 : r.size / 3 - 2 = n := by omega
    have w1 : K.Eqn (wrap64 ((r.size : Int) / 3)) ((n + 2 : Nat) : Int) := ⟨by rw [K.w64 (by omega) (by omega)]; omega⟩
    have w2 : K.Eqn (wrap64 (((n + 2 : Nat) : Int) - 2)) (n : Int) := ⟨by rw [K.w64 (by omega) (by omega)]; omega⟩
    simp only [h, if_true, e2, w1.out, w2.out]
    exact Ev.bind (bestPaths_ev r n e (by omega)) (Ev.now _)
  · have h' : recvB r = false := by simpa using h
    simp only [h', Bool.false_eq_true, if_false]
    exact Ev.now _

theorem eqPathS_self (l : List S39) (hl : l.length ≤ 1000000) : Ev (fun k => laws_eqPathS.f k l l) true := by
  have key : ∀ (d n : Nat), n + d = l.length → Ev (fun k => laws_eqPathS.l0 k l l (n : Int)) true := by
    intro d
    induction d with
    | zero =>
      intro n h1
      apply K.Ev.succ
      simp only [laws_eqPathS.l0, if_neg (show ¬ ((n : Int) < (l.length : Int)) by omega)]
      exact Ev.now _
    | succ d ih =>
      intro n h1
      have r := ih (n + 1) (by omega)
      apply K.Ev.succ
      simp only [laws_eqPathS.l0, if_pos (show (n : Int) < (l.length : Int) by omega), if_pos (show (0 : Int) ≤ (n : Int) by omega), laws_eqPath.f, if_true, Option.bind_some, K.w64s n (show n < 9223372036854775807 by omega)]
      exact r
  unfold laws_eqPathS.f
  simp only [if_true]
  exact key l.length 0 (by omega)

theorem markText_ev (c : Nat) (hc : c ≤ 1000000000) : ∃ t, Ev (fun k => laws_markText.f k (c : Int)) t := by
  have key : ∀ (N : Nat) (x : ByteArray), N + x.size ≤ 10000000000 → ∃ t, Ev (fun k => laws_markText.l0 k (N : Int) x) t := by
    intro N
    induction N using Nat.strongRecOn with
    | _ N ih =>
      intro x hx
      by_cases h0 : N = 0
      · subst h0
        refine ⟨⟨#[109]⟩ ++ x, ?_⟩
        apply K.Ev.succ
        simp only [laws_markText.l0, show ¬ (((0 : Nat) : Int) > 0) by omega, if_false, if_pos (show 1 + x.size ≤ 9223372036854775807 by omega)]
        exact Ev.now _
      · have e1 : Int.tdiv (N : Int) 10 = ((N / 10 : Nat) : Int) := by rw [Int.tdiv_eq_ediv_of_nonneg (by omega)]; omega
        have w : K.Eqn (wrap64 (Int.tdiv (N : Int) 10)) ((N / 10 : Nat) : Int) := ⟨by rw [e1, K.w64 (by omega) (by omega)]⟩
        have hs : (strOfNums [(wrap64 (48 + Int.tmod (N : Int) 10)) % 256]).size = 1 := by rw [strOfNums_size]; rfl
        obtain ⟨t, ht⟩ := ih (N / 10) (by omega) (strOfNums [(wrap64 (48 + Int.tmod (N : Int) 10)) % 256] ++ x) (by rw [ByteArray.size_append, hs]; omega)
        have c1 : (strOfNums [(wrap64 (48 + Int.tmod (N : Int) 10)) % 256]).size + x.size ≤ 9223372036854775807 := by rw [hs]; omega
        refine ⟨t, ?_⟩
        apply K.Ev.succ
        simp only [laws_markText.l0, if_pos (show (N : Int) > 0 by omega), Option.bind_some, if_pos c1, w.out]
        exact ht
  by_cases h : (c : Int) ≤ 0
  · exact ⟨_, by simp only [laws_markText.f, if_pos h]; exact Ev.now _⟩
  · obtain ⟨t, ht⟩ := key c ⟨#[]⟩ (by show c + 0 ≤ _; omega)
    exact ⟨t, by simp only [laws_markText.f, if_neg h]; exact ht⟩
theorem markPathS_held (l : List S39) (hl : l.length ≤ 1000000) : ∃ (m : Int) (g : List S39), Ev (fun k => laws_markPathS.f k l 1) (m, g) ∧ Ev (fun k => laws_heldPathS.f k g 1) m ∧ 0 ≤ m := by
  have key : ∀ (d n : Nat) (x : List S39) (c : Nat), n + d = x.length → c + 2 * d ≤ 100000000 → x.length ≤ 1000000 → ∃ (m : Int) (g : List S39), Ev (fun k => laws_markPathS.l0 k x (c : Int) (n : Int)) (m, g) ∧ g.length = x.length ∧ (∀ j, j < n → g[j]? = x[j]?) ∧ Ev (fun k => laws_heldPathS.l0 k g (c : Int) (n : Int)) m ∧ 0 ≤ m := by
    intro d
    induction d with
    | zero =>
      intro n x c h1 h2 h4
      refine ⟨c, x, ?_, rfl, fun _ _ => rfl, ?_, by omega⟩
      · apply K.Ev.succ
        simp only [laws_markPathS.l0, if_neg (show ¬ ((n : Int) < (x.length : Int)) by omega)]
        exact Ev.now _
      · apply K.Ev.succ
        simp only [laws_heldPathS.l0, if_neg (show ¬ ((n : Int) < (x.length : Int)) by omega)]
        exact Ev.now _
    | succ d ih =>
      intro n x c h1 h2 h4
      have hn : n < x.length := by omega
      obtain ⟨t, ht⟩ := markText_ev c (by omega)
      obtain ⟨m, g, e1, e2, e3, e4, e5⟩ := ih (n + 1) (x.set n ⟨t, ((c + 1 : Nat) : Int)⟩) (c + 2) (by simp; omega) (by omega) (by simpa using h4)
      have hg : g[n]? = some ⟨t, ((c + 1 : Nat) : Int)⟩ := by rw [e3 n (by omega)]; simp [hn]
      have hgl : g.length = x.length := by simpa using e2
      have hgn : n < g.length := by omega
      have hgn2 : g[n] = ⟨t, ((c + 1 : Nat) : Int)⟩ := by
        rw [List.getElem?_eq_getElem hgn] at hg; exact Option.some.inj hg
      have w1 : K.Eqn (wrap64 ((c : Int) + 1)) ((c + 1 : Nat) : Int) := ⟨K.w64s c (by omega)⟩
      have w2 : K.Eqn (wrap64 (((c + 1 : Nat) : Int) + 1)) ((c + 2 : Nat) : Int) := ⟨K.w64s (c + 1) (by omega)⟩
      have w3 : K.Eqn (wrap64 ((n : Int) + 1)) ((n + 1 : Nat) : Int) := ⟨K.w64s n (by omega)⟩
      refine ⟨m, g, ?_, hgl, ?_, ?_, e5⟩
      · have hs1 : n < (x.set n (⟨t, x[n].f1⟩ : S39)).length := by simpa using hn
        apply K.Ev.succ
        simp only [laws_markPathS.l0, if_pos (show (n : Int) < (x.length : Int) by omega)]
        refine Ev.bind ht ?_
        simp only [if_pos (show (0 : Int) ≤ (n : Int) by omega), Int.toNat_natCast, Option.bind_some, rdP hn, w1.out, w2.out, w3.out]
        rw [rdP hs1]
        simp only [List.getElem_set_self, List.set_set]
        exact e1
      · intro j hj
        rw [e3 j (by omega)]
        rw [List.getElem?_set_ne (by omega)]
      · apply K.Ev.succ
        simp only [laws_heldPathS.l0, if_pos (show (n : Int) < (g.length : Int) by omega), if_pos (show (0 : Int) ≤ (n : Int) by omega)]
        refine Ev.bind ht ?_
        simp only [rdP hgn, hgn2, if_true, w1.out, w2.out, w3.out]
        exact e4
  obtain ⟨m, g, e1, _, _, e4, e5⟩ := key l.length 0 l 1 (by omega) (by omega) hl
  exact ⟨m, g, by simp only [laws_markPathS.f]; exact e1, by simp only [laws_heldPathS.f]; exact e4, e5⟩

theorem FnExactBestPaths : laws_FnExactBestPaths.Pure := by
  intro x hx
  refine Ev.rounds (?_ : Ev (fun k => laws_FnExactBestPaths.f k x) true)
  unfold laws_FnExactBestPaths.f
  by_cases h1 : (x.size : Int) > 1048576
  · simp only [if_pos h1]; exact Ev.now _
  simp only [if_neg h1]
  have s := specBestPaths_ev x hx
  have i := implBestPaths_ev x hx
  have hlen : (if recvB x = true then (pathsL x (x.size / 3 - 2), true) else ([], false)).1.length ≤ 1000000 := by
    split
    · show (pathsL x (x.size / 3 - 2)).length ≤ 1000000
      rw [(pathsL_four x _).len]; omega
    · show (0 : Nat) ≤ 1000000; omega
  generalize (if recvB x = true then (pathsL x (x.size / 3 - 2), true) else ([], false)) = r at s i hlen
  refine Ev.bind s ?_
  refine Ev.bind i ?_
  refine Ev.bind (eqPathS_self _ hlen) ?_
  simp only [if_true, bne_self_eq_false]
  obtain ⟨m, g, m1, m2, m3⟩ := markPathS_held r.1 hlen
  apply K.Ev.succ
  simp only [laws_FnExactBestPaths.j0, Bool.false_eq_true, if_false]
  refine Ev.bind m1 ?_
  refine Ev.bind m2 ?_
  simp only [if_neg (show ¬ m < 0 by omega), if_true]
  refine Ev.bind i ?_
  refine Ev.bind (eqPathS_self _ hlen) ?_
  simp only [if_true, bne_self_eq_false]
  apply K.Ev.succ
  simp only [laws_FnExactBestPaths.j1, Bool.false_eq_true, if_false]
  refine Ev.bind m2 ?_
  simp only [if_neg (show ¬ m < 0 by omega), if_true]
  exact Ev.now _

end Go.Proofs.YtaofmiigbhfnbaaDoor.Pure
