/- The law FnExactTextOf answers true for every slice of runs: the text that they tell is the reference's, and the slice stays. -/
import Derived.Test.YtfbkiafhfjjceaaPFnExactTextOfx3
import Derived.Test.YtfbkiafhfjjceaaKKit
import Derived.Test.YtfbkiafhfjjceaaKGF
import Derived.Test.YtfbkiafhfjjceaaKGFL
import Derived.Test.YtfbkiafhfjjceaaKElim
import Derived.Test.YtfbkiafhfjjceaaKEch
set_option linter.unusedVariables false
set_option linter.unusedSimpArgs false
namespace Go.Proofs.Ytfbkiafhfjjceaa.Pure
open Go Go.RowKit Go.Proofs.Ytfbkiafhfjjceaa Go.Proofs.Ytfbkiafhfjjceaa.PFnExactTextOf Go.Proofs.YtfbkiafhfjjceaaW.PrintWords Go.Proofs.YtfbkiafhfjjceaaW.PrintLast Go.Proofs.YtfbkiafhfjjceaaW.PrintMore

theorem szRunS_eq (l : List S35) (hl : l.length ≤ maxLen) : laws_szRunS.f l 1048576 = some (if l.length ≤ 1048576 then 1048576 - (l.length : Int) else -1) := by
  have h : l.length ≤ 9223372036854775807 := hl
  have w : wrap64 (1048576 - (l.length : Int)) = 1048576 - (l.length : Int) := K.w64 (by omega) (by omega)
  simp only [laws_szRunS.f, w]
  by_cases h2 : l.length ≤ 1048576
  · rw [if_neg (by omega), if_pos h2]
  · rw [if_pos (by omega), if_neg h2]

/-- The law's runs as the program's. -/
def runOf (r : S35) : S33 := ⟨r.f0, r.f1⟩
theorem laws_toRunS_ev (l : List S35) (hl : l.length ≤ 1048576) : Ev (fun k => laws_toRunS.f k l) (l.map runOf) := by
  have key : ∀ (d n : Nat) (x : List S33), n + d = l.length → x.length = l.length → x.take n = (l.map runOf).take n → Ev (fun k => laws_toRunS.l0 k l x (n : Int)) (l.map runOf) := by
    intro d
    induction d with
    | zero =>
      intro n x h1 h2 h3
      apply K.Ev.succ
      simp only [laws_toRunS.l0, if_neg (show ¬ ((n : Int) < (l.length : Int)) by omega)]
      have e : x = l.map runOf := by
        rw [List.take_of_length_le (by omega), List.take_of_length_le (by simp; omega)] at h3; exact h3
      rw [e]; exact Ev.now _
    | succ d ih =>
      intro n x h1 h2 h3
      apply K.Ev.succ
      have hn : n < l.length := by omega
      have hr : rd_T35 l (n : Int) = l[n] := by simp [rd_T35, List.getElem?_eq_getElem hn]
      simp only [laws_toRunS.l0, if_pos (show (n : Int) < (l.length : Int) by omega), if_pos (show (0 : Int) ≤ (n : Int) by omega), laws_toRun.f, Option.bind_some, if_pos (show (n : Int) < (x.length : Int) by omega), Int.toNat_natCast, hr]
      rw [K.w64s n (by omega)]
      refine ih (n + 1) _ (by omega) (by simpa using h2) ?_
      rw [K.take_set _ _ _ (by omega), K.take_succ' (l.map runOf) n (by simpa using hn), h3]
      simp [runOf]
  unfold laws_toRunS.f
  simp only [if_pos (show (0 : Int) ≤ (l.length : Int) by omega), Int.toNat_natCast, if_pos (show l.length ≤ 17592186044416 by omega)]
  exact key l.length 0 _ (by omega) (by simp) (by simp)

/-- Each run is of 1 to 200 bytes, and its byte is another than the one ahead. -/
def GoodAt (l : List S33) (i : Nat) : Prop := 1 ≤ (rd_T33 l (i : Int)).f1 ∧ (rd_T33 l (i : Int)).f1 ≤ 200 ∧ (0 < i → (rd_T33 l ((i - 1 : Nat) : Int)).f0 ≠ (rd_T33 l (i : Int)).f0)
def nb (s : ByteArray) : List Nat := s.data.toList.map (fun b => b.toNat)
theorem good_same (l : List S33) (hl : l.length ≤ 140737488355328) : ∃ b : Bool, Ev (fun k => spec_GoodRuns.f k l) b ∧ Ev (fun k => impl_GoodRuns.f k l) b ∧ (b = true → l.length ≤ 200 ∧ ∀ i, i < l.length → GoodAt l i) := by
  have key : ∀ (d n : Nat) (c : Int), n + d = l.length → (n : Int) ≤ c → c ≤ 200 → ∃ b : Bool, Ev (fun k => spec_GoodRuns.l0 k l c l (l.length : Int) (n : Int)) b ∧ Ev (fun k => impl_GoodRuns.l0 k l c l (l.length : Int) (n : Int)) b ∧ (b = true → l.length ≤ 200 ∧ ∀ i, n ≤ i → i < l.length → GoodAt l i) := by
    intro d
    induction d with
    | zero =>
      intro n c h1 h2 h3
      refine ⟨true, ?_, ?_, fun _ => ⟨by omega, fun i hi hi2 => by omega⟩⟩ <;> apply K.Ev.succ
      · simp only [spec_GoodRuns.l0, if_neg (show ¬ ((n : Int) < (l.length : Int)) by omega)]; exact Ev.now _
      · simp only [impl_GoodRuns.l0, if_neg (show ¬ ((n : Int) < (l.length : Int)) by omega)]; exact Ev.now _
    | succ d ih =>
      intro n c h1 h2 h3
      have a1 : (n : Int) < (l.length : Int) := by omega
      have a0 : (0 : Int) ≤ (n : Int) := by omega
      have wm : K.Eqn (wrap64 (200 - c)) (200 - c) := ⟨K.w64 (by omega) (by omega)⟩
      generalize hF : (rd_T33 l (n : Int)).f1 = F
      by_cases hr : 1 ≤ F ∧ F ≤ 200 - c
      · have qs : spec_l1In.f F 1 200 = some true := by unfold spec_l1In.f; rw [if_pos hr.1]; simp; omega
        have qi : impl_within.f F 1 (200 - c) = some true := by unfold impl_within.f; rw [if_pos hr.1]; simp; omega
        have wc : K.Eqn (wrap64 (c + F)) (c + F) := ⟨K.w64 (by omega) (by omega)⟩
        have nb : ¬ (c + F > 200) := by omega
        cases n with
        | zero =>
          obtain ⟨b, e1, e2, e3⟩ := ih 1 (c + F) (by omega) (by omega) (by omega)
          refine ⟨b, ?_, ?_, ?_⟩
          · apply K.Ev.succ
            simp only [spec_GoodRuns.l0, if_pos a1, if_pos a0, hF, qs, Option.bind_some, if_true, show ¬ (((0 : Nat) : Int) > 0) by omega, if_false]
            apply K.Ev.succ
            simp only [spec_GoodRuns.j1, Bool.false_eq_true, if_false, wc.out, if_neg nb, K.w64s 0 (by omega)]; exact e1
          · apply K.Ev.succ
            simp only [impl_GoodRuns.l0, if_pos a1, if_pos a0, hF, wm.out, qi, Option.bind_some, if_true, show ¬ (((0 : Nat) : Int) > 0) by omega, if_false, wc.out, K.w64s 0 (by omega)]; exact e2
          · intro hb
            obtain ⟨g1, g2⟩ := e3 hb
            refine ⟨g1, fun i hi hi2 => ?_⟩
            rcases Nat.eq_zero_or_pos i with rfl | hp
            · exact ⟨by rw [hF]; omega, by rw [hF]; omega, fun h => by omega⟩
            · exact g2 i hp hi2
        | succ n =>
          have np : ((n + 1 : Nat) : Int) > 0 := by omega
          have wp := K.Eqn.mk (K.w64p n (by omega))
          have b0 : (0 : Int) ≤ (n : Int) := by omega
          have b1 : (n : Int) < (l.length : Int) := by omega
          by_cases hc : (rd_T33 l (n : Int)).f0 = (rd_T33 l ((n + 1 : Nat) : Int)).f0
          · refine ⟨false, ?_, ?_, fun h => by cases h⟩
            · apply K.Ev.succ
              simp only [spec_GoodRuns.l0, if_pos a1, if_pos a0, hF, qs, Option.bind_some, if_true, if_pos np, wp.out, if_pos b0, if_pos b1]
              apply K.Ev.succ
              simp only [spec_GoodRuns.j1, hc, beq_self_eq_true, if_true]; exact Ev.now _
            · apply K.Ev.succ
              simp only [impl_GoodRuns.l0, if_pos a1, if_pos a0, hF, wm.out, qi, Option.bind_some, if_true, if_pos np, wp.out, if_pos b0, if_pos b1, if_pos hc.symm]; exact Ev.now _
          · obtain ⟨b, e1, e2, e3⟩ := ih (n + 2) (c + F) (by omega) (by omega) (by omega)
            refine ⟨b, ?_, ?_, ?_⟩
            · apply K.Ev.succ
              simp only [spec_GoodRuns.l0, if_pos a1, if_pos a0, hF, qs, Option.bind_some, if_true, if_pos np, wp.out, if_pos b0, if_pos b1]
              apply K.Ev.succ
              simp only [spec_GoodRuns.j1, beq_eq_false_iff_ne.mpr hc, Bool.false_eq_true, if_false, wc.out, if_neg nb, K.w64s (n + 1) (by omega)]; exact e1
            · apply K.Ev.succ
              simp only [impl_GoodRuns.l0, if_pos a1, if_pos a0, hF, wm.out, qi, Option.bind_some, if_true, if_pos np, wp.out, if_pos b0, if_pos b1, if_neg (fun e => hc (Eq.symm e)), wc.out, K.w64s (n + 1) (by omega)]; exact e2
            · intro hb
              obtain ⟨g1, g2⟩ := e3 hb
              refine ⟨g1, fun i hi hi2 => ?_⟩
              rcases Nat.lt_or_ge (n + 1) i with hp | hp
              · exact g2 i hp hi2
              · obtain rfl : i = n + 1 := by omega
                exact ⟨by rw [hF]; omega, by rw [hF]; omega, fun _ => hc⟩
      · refine ⟨false, ?_, ?_, fun h => by cases h⟩
        · by_cases h200 : 1 ≤ F ∧ F ≤ 200
          · have qs : spec_l1In.f F 1 200 = some true := by unfold spec_l1In.f; rw [if_pos h200.1]; simp; omega
            have wc : K.Eqn (wrap64 (c + F)) (c + F) := ⟨K.w64 (by omega) (by omega)⟩
            have nb : c + F > 200 := by omega
            have fin : ∀ x31 X, Ev (fun k => spec_GoodRuns.j1 k l c l (l.length : Int) (n : Int) x31 X F) false := by
              intro x31 X
              apply K.Ev.succ
              simp only [spec_GoodRuns.j1, wc.out, if_pos nb]
              exact K.Ev.const (by cases x31 <;> rfl)
            apply K.Ev.succ
            simp only [spec_GoodRuns.l0, if_pos a1, if_pos a0, hF, qs, Option.bind_some, if_true]
            cases n with
            | zero => simp only [show ¬ (((0 : Nat) : Int) > 0) by omega, if_false]; exact fin _ _
            | succ n =>
              simp only [if_pos (show ((n + 1 : Nat) : Int) > 0 by omega), K.w64p n (show n < 9223372036854775807 by omega), if_pos (show (0 : Int) ≤ (n : Int) by omega), if_pos (show (n : Int) < (l.length : Int) by omega)]
              exact fin _ _
          · have qs : spec_l1In.f F 1 200 = some false := by
              unfold spec_l1In.f; split
              · simp; omega
              · rfl
            apply K.Ev.succ
            simp only [spec_GoodRuns.l0, if_pos a1, if_pos a0, hF, qs, Option.bind_some, Bool.false_eq_true, if_false]
            apply K.Ev.succ
            simp only [spec_GoodRuns.j1, if_true]; exact Ev.now _
        · have qi : impl_within.f F 1 (200 - c) = some false := by
            unfold impl_within.f; split
            · simp; omega
            · rfl
          apply K.Ev.succ
          simp only [impl_GoodRuns.l0, if_pos a1, if_pos a0, hF, wm.out, qi, Option.bind_some, Bool.false_eq_true, if_false]; exact Ev.now _
  obtain ⟨b, e1, e2, e3⟩ := key l.length 0 0 (by omega) (by omega) (by omega)
  refine ⟨b, by simp only [spec_GoodRuns.f]; exact e1, by simp only [impl_GoodRuns.f]; exact e2, fun hb => ?_⟩
  obtain ⟨g1, g2⟩ := e3 hb
  exact ⟨g1, fun i hi => g2 i (Nat.zero_le _) hi⟩

theorem repeatL_one (c : UInt8) : ∀ n, Lib.repeatL [c] n = List.replicate n c
  | 0 => rfl
  | n + 1 => by rw [Lib.repeatL, repeatL_one c n, List.replicate_succ]; rfl
theorem repeat_eq (b : Nat) (hb : b < 256) (n : Nat) (hn : n ≤ 100000000) : strings_Repeat.f (⟨#[UInt8.ofNat b]⟩ : ByteArray) (n : Int) = some (strOfNums (List.replicate n (b : Int))) := by
  unfold strings_Repeat.f
  have e : (⟨#[UInt8.ofNat b]⟩ : ByteArray).size * ((n : Int)).toNat ≤ 140737488355328 := by
    show 1 * ((n : Int)).toNat ≤ 140737488355328
    omega
  rw [if_pos (by omega), if_pos (by omega), if_pos e]
  congr 1
  show (⟨(Lib.repeatL [UInt8.ofNat b] ((n : Int)).toNat).toArray⟩ : ByteArray) = _
  rw [repeatL_one, Int.toNat_natCast]
  apply ByteArray.ext
  simp [strOfNums]

/-- The bytes that runs tell. -/
def textNums (l : List S33) : List Int := l.flatMap (fun r => List.replicate r.f1.toNat r.f0)
theorem textNums_snoc (l : List S33) (i : Nat) (h : i < l.length) : textNums (l.take (i + 1)) = textNums (l.take i) ++ List.replicate l[i].f1.toNat l[i].f0 := by
  unfold textNums
  rw [K.take_succ' l i h, List.flatMap_append]
  simp
theorem strOf_append (a b : List Int) : strOfNums a ++ strOfNums b = strOfNums (a ++ b) := by
  apply ByteArray.ext
  simp [strOfNums, ByteArray.data_append]
/-- Runs whose lengths and bytes are in range. -/
structure RunsOk (l : List S33) : Prop where
  len : l.length ≤ 200
  lo : ∀ i (h : i < l.length), 1 ≤ l[i].f1 ∧ l[i].f1 ≤ 200
  byt : ∀ i (h : i < l.length), 0 ≤ l[i].f0 ∧ l[i].f0 ≤ 255
theorem textNums_len (l : List S33) (hl : RunsOk l) : ∀ i, i ≤ l.length → (textNums (l.take i)).length ≤ 200 * i
  | 0, _ => by simp [textNums]
  | i + 1, h => by
    have := textNums_len l hl i (by omega)
    have := hl.lo i (by omega)
    rw [textNums_snoc l i (by omega), List.length_append, List.length_replicate]
    omega
theorem textOf_runs (l : List S33) (hl : RunsOk l) : Ev (fun k => spec_TextOf.l0 k ([] : List Int) l (l.length : Int) 0) (strOfNums (textNums l), true) ∧ Ev (fun k => impl_TextOf.l0 k (⟨#[]⟩ : ByteArray) l (l.length : Int) 0) (strOfNums (textNums l), true) := by
  have h200 := hl.len
  constructor
  · have key : ∀ (d i : Nat), i + d = l.length → Ev (fun k => spec_TextOf.l0 k (textNums (l.take i)) l (l.length : Int) (i : Int)) (strOfNums (textNums l), true) := by
      intro d
      induction d with
      | zero =>
        intro i hi
        obtain rfl : i = l.length := by omega
        apply K.Ev.succ
        rw [List.take_length]
        simp only [spec_TextOf.l0, if_neg (show ¬ ((l.length : Int) < (l.length : Int)) by omega)]
        exact Ev.now _
      | succ d ih =>
        intro i hi
        have hil : i < l.length := by omega
        have hr : rd_T33 l (i : Int) = l[i] := by simp [rd_T33, hil]
        have hx := ih (i + 1) (by omega)
        have h1 := hl.lo i hil
        have hlen := textNums_len l hl i (by omega)
        rw [textNums_snoc l i hil] at hx
        obtain ⟨n, hn⟩ := Int.eq_ofNat_of_zero_le (show 0 ≤ l[i].f1 by omega)
        rw [hn, Int.toNat_natCast] at hx
        have inner : ∀ (c j : Nat), j + c = n → Ev (fun k => spec_TextOf.l1 k (textNums (l.take i) ++ List.replicate j l[i].f0) (j : Int) l (l.length : Int) (i : Int) l[i].f0 (n : Int)) (strOfNums (textNums l), true) := by
          intro c
          induction c with
          | zero =>
            intro j hj
            obtain rfl : j = n := by omega
            apply K.Ev.succ
            simp only [spec_TextOf.l1, if_neg (show ¬ ((j : Int) < (j : Int)) by omega), K.w64s i (show i < 9223372036854775807 by omega)]
            exact hx
          | succ c ihc =>
            intro j hj
            have hy := ihc (j + 1) (by omega)
            rw [List.replicate_succ', ← List.append_assoc] at hy
            apply K.Ev.succ
            simp only [spec_TextOf.l1, if_pos (show (j : Int) < (n : Int) by omega), K.w64s j (show j < 9223372036854775807 by omega), if_pos (show (textNums (l.take i) ++ List.replicate j l[i].f0).length < 140737488355328 by rw [List.length_append, List.length_replicate]; omega)]
            exact hy
        have := inner n 0 (by omega)
        rw [List.replicate_zero, List.append_nil] at this
        apply K.Ev.succ
        simp only [spec_TextOf.l0, if_pos (show (i : Int) < (l.length : Int) by omega), if_pos (show (0 : Int) ≤ (i : Int) by omega), hr, hn]
        exact this
    exact key l.length 0 (by omega)
  · have key : ∀ (d i : Nat), i + d = l.length → Ev (fun k => impl_TextOf.l0 k (strOfNums (textNums (l.take i))) l (l.length : Int) (i : Int)) (strOfNums (textNums l), true) := by
      intro d
      induction d with
      | zero =>
        intro i hi
        obtain rfl : i = l.length := by omega
        apply K.Ev.succ
        rw [List.take_length]
        simp only [impl_TextOf.l0, if_neg (show ¬ ((l.length : Int) < (l.length : Int)) by omega)]
        exact Ev.now _
      | succ d ih =>
        intro i hi
        have hil : i < l.length := by omega
        have hr : rd_T33 l (i : Int) = l[i] := by simp [rd_T33, hil]
        have hx := ih (i + 1) (by omega)
        have h1 := hl.lo i hil
        have h2 := hl.byt i hil
        have hlen := textNums_len l hl i (by omega)
        rw [textNums_snoc l i hil] at hx
        obtain ⟨n, hn⟩ := Int.eq_ofNat_of_zero_le (show 0 ≤ l[i].f1 by omega)
        obtain ⟨b, hb⟩ := Int.eq_ofNat_of_zero_le h2.1
        rw [hn, hb, Int.toNat_natCast, ← strOf_append] at hx
        have e : strOfNums [(b : Int)] = (⟨#[UInt8.ofNat b]⟩ : ByteArray) := rfl
        apply K.Ev.succ
        simp only [impl_TextOf.l0, if_pos (show (i : Int) < (l.length : Int) by omega), if_pos (show (0 : Int) ≤ (i : Int) by omega), hr, hn, hb, e, repeat_eq b (by omega) n (by omega), Option.bind_some, strOfNums_size, List.length_replicate, if_pos (show (textNums (l.take i)).length + n ≤ 140737488355328 by omega), K.w64s i (show i < 9223372036854775807 by omega)]
        exact hx
    have := key l.length 0 (by omega)
    exact this
theorem textOf_both (l : List S33) (hl : l.length ≤ 1048576) (hb : ∀ x ∈ l, 0 ≤ x.f0 ∧ x.f0 ≤ 255) : ∃ b : Bool, Ev (fun k => impl_GoodRuns.f k l) b ∧ (b = true → RunsOk l) ∧ Ev (fun k => spec_TextOf.f k l) (if b then (strOfNums (textNums l), true) else ((⟨#[]⟩ : ByteArray), false)) ∧ Ev (fun k => impl_TextOf.f k l) (if b then (strOfNums (textNums l), true) else ((⟨#[]⟩ : ByteArray), false)) := by
  obtain ⟨b, e1, e2, e3⟩ := good_same l (by omega)
  have ok : b = true → RunsOk l := fun h => by
    obtain ⟨q1, q2⟩ := e3 h
    refine ⟨q1, fun i hi => ?_, fun i hi => hb _ (List.getElem_mem hi)⟩
    have := q2 i hi
    have hr : rd_T33 l (i : Int) = l[i] := by simp [rd_T33, hi]
    unfold GoodAt at this
    rw [hr] at this
    exact ⟨this.1, this.2.1⟩
  refine ⟨b, e2, ok, ?_, ?_⟩
  · simp only [spec_TextOf.f]
    refine Ev.bind e1 ?_
    cases b with
    | true => simp only [if_true]; exact (textOf_runs l (ok rfl)).1
    | false => simp only [Bool.false_eq_true, if_false]; exact Ev.now _
  · simp only [impl_TextOf.f]
    refine Ev.bind e2 ?_
    cases b with
    | true => simp only [if_true]; exact (textOf_runs l (ok rfl)).2
    | false => simp only [Bool.false_eq_true, if_false]; exact Ev.now _

theorem laws_eqRunS_self (l : List S33) (hl : l.length ≤ 140737488355328) : Ev (fun k => laws_eqRunS.f k l l) true := by
  have key : ∀ (d n : Nat), n + d = l.length → Ev (fun k => laws_eqRunS.l0 k l l (n : Int)) true := by
    intro d
    induction d with
    | zero =>
      intro n h1
      apply K.Ev.succ
      simp only [laws_eqRunS.l0, if_neg (show ¬ ((n : Int) < (l.length : Int)) by omega)]
      exact Ev.now _
    | succ d ih =>
      intro n h1
      apply K.Ev.succ
      simp only [laws_eqRunS.l0, if_pos (show (n : Int) < (l.length : Int) by omega), if_pos (show (0 : Int) ≤ (n : Int) by omega), laws_eqRun.f, if_true, Option.bind_some]
      rw [K.w64s n (by omega)]
      exact ih (n + 1) (by omega)
  unfold laws_eqRunS.f
  simp only [if_true]
  exact key l.length 0 (by omega)

theorem FnExactTextOf : ∀ l : List S35, l.length ≤ maxLen → (∀ x ∈ l, (Lit.int .u8 x.f0).wf = true ∧ (Lit.int .i64 x.f1).wf = true) → ∃ k, laws_FnExactTextOf.f k l = some true := by
  intro l hl hw
  refine Ev.rounds (?_ : Ev (fun k => laws_FnExactTextOf.f k l) true)
  unfold laws_FnExactTextOf.f
  rw [szRunS_eq l hl]
  simp only [Option.bind_some]
  by_cases h : l.length ≤ 1048576
  · simp only [if_pos h, if_neg (show ¬ (1048576 - (l.length : Int) < 0) by omega)]
    obtain ⟨b, _, _, e1, e2⟩ := textOf_both (l.map runOf) (by simp; omega) (fun x hx => by
      obtain ⟨y, hy, rfl⟩ := List.mem_map.1 hx
      have := K.b_u8 (hw y hy).1
      exact this)
    refine Ev.bind (laws_toRunS_ev l h) ?_
    refine Ev.bind e1 ?_
    refine Ev.bind (laws_toRunS_ev l h) ?_
    refine Ev.bind e2 ?_
    simp only [if_true, bne_self_eq_false]
    apply K.Ev.succ
    simp only [laws_FnExactTextOf.j0, Bool.false_eq_true, if_false]
    refine Ev.bind (laws_toRunS_ev l h) ?_
    refine Ev.bind (laws_eqRunS_self _ (by simp; omega)) ?_
    simp only [if_true]
    exact Ev.now _
  · simp only [if_neg h, if_pos (show (-1 : Int) < 0 by omega)]
    exact Ev.now _

end Go.Proofs.Ytfbkiafhfjjceaa.Pure
