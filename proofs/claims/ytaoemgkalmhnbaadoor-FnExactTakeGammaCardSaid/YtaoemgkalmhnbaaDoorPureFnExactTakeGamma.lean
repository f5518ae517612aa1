/- The law FnExactTakeGamma answers true for all texts: the program takes the number that the reference takes. -/
import Derived.Test.YtaoemgkalmhnbaaDoorPFnExactTakeGammax3
import Derived.Test.YtaoemgkalmhnbaaDoorKKit
import Derived.Test.YtaoemgkalmhnbaaDoorKBin
set_option linter.unusedVariables false
set_option linter.unusedSimpArgs false
namespace Go.Proofs.YtaoemgkalmhnbaaDoor.Pure
open Go Go.RowKit Go.Proofs.YtaoemgkalmhnbaaDoor Go.Proofs.YtaoemgkalmhnbaaDoor.PFnExactTakeGamma Go.Proofs.YtaoemgkalmhnbaaDoorW.PrintWords Go.Proofs.YtaoemgkalmhnbaaDoorW.PrintLast Go.Proofs.YtaoemgkalmhnbaaDoorW.PrintMore

theorem repeatL_one (c : UInt8) : ∀ n, Lib.repeatL [c] n = List.replicate n c
  | 0 => rfl
  | n + 1 => by rw [Lib.repeatL, repeatL_one c n, List.replicate_succ]; rfl
theorem repeat_eq (b : Nat) (hb : b < 256) (n : Nat) (hn : n ≤ 100000000) : strings_Repeat.f (⟨#[UInt8.ofNat b]⟩ : ByteArray) (n : Int) = some (strOfNums (List.replicate n (b : Int))) := by
  unfold strings_Repeat.f
  have e : (⟨#[UInt8.ofNat b]⟩ : ByteArray).size * ((n : Int)).toNat ≤ 140737488355328 := by
    show 1 * ((n : Int)).toNat ≤ 140737488355328
    omega
  rw [if_pos (by omega), if_pos (by omega), if_pos e]
  congr 1
  show (⟨(Lib.repeatL [UInt8.ofNat b] ((n : Int)).toNat).toArray⟩ : ByteArray) = _
  rw [repeatL_one, Int.toNat_natCast]
  apply ByteArray.ext
  simp [strOfNums]

/-- A number's binary digits as a text. -/
def digC (n : Nat) : ByteArray := strOfNums ((binL n).map fun d => ((48 + d : Nat) : Int))
theorem binC_len (n : Nat) : 1 ≤ (binL n).length ∧ (∀ j, 1 ≤ j → n < 2 ^ j → (binL n).length ≤ j) ∧ ∀ d ∈ binL n, d < 2 := by
  induction n using Nat.strongRecOn with
  | _ n ih =>
    by_cases h : n < 2
    · rw [binL, if_pos h]
      exact ⟨Nat.le_refl _, fun j hj _ => hj, fun d hd => by rw [List.mem_singleton.mp hd]; exact h⟩
    · obtain ⟨h1, h2, h3⟩ := ih (n / 2) (by omega)
      rw [binL, if_neg h, List.length_append, List.length_singleton]
      refine ⟨by omega, fun j hj hn => ?_, fun d hd => ?_⟩
      · have : j ≠ 1 := by rintro rfl; omega
        obtain ⟨i, rfl⟩ : ∃ i, j = i + 1 := ⟨j - 1, by omega⟩
        have := h2 i (by omega) (by rw [Nat.pow_succ] at hn; omega)
        omega
      · rcases List.mem_append.mp hd with hd | hd
        · exact h3 d hd
        · rw [List.mem_singleton.mp hd]; exact Nat.mod_lt _ (by decide)
theorem digC_size (n : Nat) : (digC n).size = (binL n).length := by rw [digC, strOfNums_size, List.length_map]
theorem digC_le {n : Nat} (h : n ≤ 1000000) : (digC n).size ≤ 20 := by
  rw [digC_size]
  exact (binC_len n).2.1 20 (by omega) (Nat.lt_of_le_of_lt h (by decide))
theorem digC_pos (n : Nat) : 1 ≤ (digC n).size := by
  rw [digC_size]
  exact (binC_len n).1
/-- A number's gamma code. -/
def gamC (n : Nat) : ByteArray := strOfNums (List.replicate ((digC n).size - 1) ((48 : Nat) : Int)) ++ digC n
theorem gamC_le {n : Nat} (h : n ≤ 1000000) : (gamC n).size ≤ 39 := by
  have := digC_le h
  rw [gamC, ByteArray.size_append, strOfNums_size, List.length_replicate]
  omega
theorem wC_pred (s : ByteArray) (h1 : 1 ≤ s.size) (h2 : s.size ≤ 20) : wrap64 ((s.size : Int) - 1) = ((s.size - 1 : Nat) : Int) := by
  rw [K.w64 (by omega) (by omega)]; omega
theorem gamma_eq (n : Nat) (hn : n ≤ 1000000) : impl_gamma.f (n : Int) = some (gamC n) := by
  have h1 := digC_pos n
  have h2 := digC_le hn
  have hr : strings_Repeat.f (⟨#[48]⟩ : ByteArray) (((digC n).size - 1 : Nat) : Int) = some (strOfNums (List.replicate ((digC n).size - 1) ((48 : Nat) : Int))) := repeat_eq 48 (by omega) _ (by omega)
  have hd : impl_digits.f (n : Int) = some (digC n) := by
    unfold impl_digits.f strconv_FormatInt.f
    rw [if_pos rfl, if_pos (by omega), if_pos (by omega)]
    rfl
  simp only [impl_gamma.f, hd, Option.bind_some, wC_pred _ h1 h2, hr]
  rw [if_pos (by rw [strOfNums_size, List.length_replicate]; omega)]
  rfl

theorem countC_ev (s : ByteArray) (hs : s.size ≤ 1048576) : Ev (fun k => impl_countOf.f k s 48) ((K.lead (bytesOf s) : Nat) : Int) := by
  have hl := K.lead_le (bytesOf s)
  rw [bytesOf_length] at hl
  have key : ∀ (d i : Nat), i + d = K.lead (bytesOf s) → Ev (fun k => impl_countOf.l0 k s 48 (i : Int)) ((K.lead (bytesOf s) : Nat) : Int) := by
    intro d
    induction d with
    | zero =>
      intro i h
      obtain rfl : i = K.lead (bytesOf s) := by omega
      apply K.Ev.succ
      by_cases hi : K.lead (bytesOf s) < s.size
      · have hne : ¬ bt s ((K.lead (bytesOf s) : Nat) : Int) = 48 := by
          intro e
          refine K.lead_end (bytesOf s) ?_
          rw [K.bt_bytes] at e
          rw [List.getD_eq_getElem?_getD] at e
          cases q : (bytesOf s)[K.lead (bytesOf s)]? with
          | none => rw [q] at e; simp at e
          | some x => rw [q] at e; simp at e; rw [e]
        simp only [impl_countOf.l0, if_pos (show ((K.lead (bytesOf s) : Nat) : Int) < (s.size : Int) by omega), if_pos (show (0 : Int) ≤ ((K.lead (bytesOf s) : Nat) : Int) by omega), if_neg hne]
        exact Ev.now _
      · simp only [impl_countOf.l0, if_neg (show ¬ ((K.lead (bytesOf s) : Nat) : Int) < (s.size : Int) by omega)]
        exact Ev.now _
    | succ d ih =>
      intro i h
      apply K.Ev.succ
      have he : bt s (i : Int) = 48 := by
        rw [K.bt_bytes, List.getD_eq_getElem?_getD, K.lead_at (bytesOf s) i (by omega)]; rfl
      simp only [impl_countOf.l0, if_pos (show (i : Int) < (s.size : Int) by omega), if_pos (show (0 : Int) ≤ (i : Int) by omega), he, if_true, K.w64s i (by omega)]
      exact ih (i + 1) (by omega)
  simp only [impl_countOf.f]
  exact key (K.lead (bytesOf s)) 0 (by omega)
theorem binL_on : ∀ (l : List Nat) (a : Nat), 1 ≤ a → (∀ d ∈ l, d < 2) → binL (K.valB a l) = binL a ++ l
  | [], a, _, _ => by rw [K.valB, List.append_nil]
  | d :: l, a, ha, h => by
    have hd := h d List.mem_cons_self
    rw [K.valB, binL_on l (2 * a + d) (by omega) (fun x hx => h x (List.mem_cons_of_mem _ hx)), binL, if_neg (by omega), show (2 * a + d) / 2 = a by omega, show (2 * a + d) % 2 = d by omega]
    simp
theorem binL_valB (l : List Nat) (h : ∀ d ∈ l, d < 2) : binL (K.valB 1 l) = 1 :: l := by
  rw [binL_on l 1 (Nat.le_refl _) h, binL, if_pos (by omega)]; rfl

theorem w_dig (a x : Nat) (ha : a < 2 ^ 31) (hx : x = 48 ∨ x = 49) : wrap64 ((wrap64 (2 * (a : Int))) + (((x : Int) - 48) % 256)) = ((2 * a + (x - 48) : Nat) : Int) := by
  have h1 : wrap64 (2 * (a : Int)) = 2 * (a : Int) := K.w64 (by omega) (by omega)
  rw [h1]
  rcases hx with rfl | rfl
  · rw [show (((48 : Nat) : Int) - 48) % 256 = 0 by decide, K.w64 (by omega) (by omega)]; omega
  · rw [show (((49 : Nat) : Int) - 48) % 256 = 1 by decide, K.w64 (by omega) (by omega)]; omega
/-- What the two readings of m bits from place i on come to, from the value a on: x is read by the reference, y by the program. -/
theorem read_same (x y : ByteArray) (m : Nat) (hy : y.size = m) (hx : m ≤ x.size) (hm : m ≤ 30) (hxy : ∀ i : Nat, i < m → bt x (i : Int) = bt y (i : Int)) :
    ∀ (d i a : Nat), i + d = m → a < 2 ^ i → ∃ rs ri : Int × Bool, Ev (fun k => spec_l13Read.l0 k x (m : Int) (a : Int) (i : Int)) rs ∧ Ev (fun k => impl_valueOf.l0 k y (a : Int) (m : Int) (i : Int)) ri ∧
      (ri = rs ∨ (ri = (0, false) ∧ rs.2 = true ∧ 1000000 < rs.1)) ∧
      (rs.2 = true → ∃ l : List Nat, l.length = d ∧ (∀ q ∈ l, q < 2) ∧ rs.1 = ((K.valB a l : Nat) : Int) ∧ ((bytesOf y).drop i) = l.map fun q => ((48 + q : Nat) : Int)) ∧ (rs.2 = false → rs = (0, false)) := by
  intro d
  induction d with
  | zero =>
    intro i a h ha
    obtain rfl : i = m := by omega
    refine ⟨((a : Int), true), ((a : Int), true), ?_, ?_, .inl rfl, fun _ => ⟨[], rfl, by simp, rfl, ?_⟩, by simp⟩
    · apply K.Ev.succ
      simp only [spec_l13Read.l0, if_neg (show ¬ ((i : Int) < (i : Int)) by omega)]
      exact Ev.now _
    · apply K.Ev.succ
      simp only [impl_valueOf.l0, if_neg (show ¬ ((i : Int) < (i : Int)) by omega)]
      exact Ev.now _
    · rw [List.drop_of_length_le (by rw [bytesOf_length]; omega)]; rfl
  | succ d ih =>
    intro i a h ha
    have hi : i < y.size := by omega
    have hb := hxy i (by omega)
    have h30 : 2 ^ i ≤ 2 ^ 29 := Nat.pow_le_pow_right (by decide) (by omega)
    have ha31 : a < 2 ^ 31 := Nat.lt_of_lt_of_le ha (Nat.le_trans h30 (by decide))
    obtain ⟨b, hbb, hbi⟩ : ∃ b : Nat, bt y (i : Int) = (b : Int) ∧ (bytesOf y)[i]? = some (b : Int) := by
      refine ⟨y[i].toNat, K.bt_nat hi, ?_⟩
      simp [bytesOf, hi]
      rfl
    rw [hbb] at hb
    have c0 : (i : Int) < (m : Int) := by omega
    have c1 : (0 : Int) ≤ (i : Int) := by omega
    have c2 : (i : Int) < (x.size : Int) := by omega
    have c3 : (i : Int) < (y.size : Int) := by omega
    have hw := K.w64s i (by omega)
    by_cases hd : b = 48 ∨ b = 49
    · have h2 : 2 * a + (b - 48) < 2 ^ (i + 1) := by rw [Nat.pow_succ]; omega
      obtain ⟨rs, ri, e1, e2, e3, e4, e5⟩ := ih (i + 1) (2 * a + (b - 48)) (by omega) h2
      have hdrop : (bytesOf y).drop i = (b : Int) :: (bytesOf y).drop (i + 1) := by
        obtain ⟨hlt, hgg⟩ := List.getElem?_eq_some_iff.mp hbi
        rw [List.drop_eq_getElem_cons hlt, hgg]
      have spec : Ev (fun k => spec_l13Read.l0 k x (m : Int) (a : Int) (i : Int)) rs := by
        apply K.Ev.succ
        simp only [spec_l13Read.l0, if_pos c0, if_pos c1, if_pos c2, hb, w_dig a b ha31 hd, hw]
        rcases hd with hd | hd
        · simp only [if_pos (show (b : Int) = 48 by omega)]; exact e1
        · simp only [if_neg (show ¬ (b : Int) = 48 by omega), if_pos (show (b : Int) = 49 by omega)]; exact e1
      have tail : rs.2 = true → ∃ l : List Nat, l.length = d + 1 ∧ (∀ q ∈ l, q < 2) ∧ rs.1 = ((K.valB a l : Nat) : Int) ∧ ((bytesOf y).drop i) = l.map fun q => ((48 + q : Nat) : Int) := by
        intro ht
        obtain ⟨l, l1, l2, l3, l4⟩ := e4 ht
        refine ⟨(b - 48) :: l, by rw [List.length_cons, l1], ?_, l3, ?_⟩
        · intro q hq
          rcases List.mem_cons.mp hq with rfl | hq
          · omega
          · exact l2 q hq
        · rw [hdrop, l4, List.map_cons]
          congr 1
          omega
      by_cases hbig : (a : Int) > 1000000
      · refine ⟨rs, (0, false), spec, ?_, ?_, tail, e5⟩
        · apply K.Ev.succ
          simp only [impl_valueOf.l0, if_pos c0, if_pos c1, if_pos c3, hbb, if_pos hbig]
          rcases hd with hd | hd
          · simp only [if_pos (show (b : Int) = 48 by omega)]; exact Ev.now _
          · simp only [if_neg (show ¬ (b : Int) = 48 by omega), if_pos (show (b : Int) = 49 by omega)]; exact Ev.now _
        · cases q : rs.2 with
          | false => exact .inl (e5 q).symm
          | true =>
            refine .inr ⟨rfl, rfl, ?_⟩
            obtain ⟨l, _, _, l3, _⟩ := tail q
            have := K.valB_ge l a
            rw [l3]; omega
      · refine ⟨rs, ri, spec, ?_, e3, tail, e5⟩
        apply K.Ev.succ
        simp only [impl_valueOf.l0, if_pos c0, if_pos c1, if_pos c3, hbb, if_neg hbig, w_dig a b ha31 hd, hw]
        rcases hd with hd | hd
        · simp only [if_pos (show (b : Int) = 48 by omega)]; exact e2
        · simp only [if_neg (show ¬ (b : Int) = 48 by omega), if_pos (show (b : Int) = 49 by omega)]; exact e2
    · have n1 : ¬ ((b : Int) = 48) := by omega
      have n2 : ¬ ((b : Int) = 49) := by omega
      refine ⟨(0, false), (0, false), ?_, ?_, .inl rfl, by simp, by simp⟩
      · apply K.Ev.succ
        simp only [spec_l13Read.l0, if_pos c0, if_pos c1, if_pos c2, hb, if_neg n1, if_neg n2]
        exact Ev.now _
      · apply K.Ev.succ
        simp only [impl_valueOf.l0, if_pos c0, if_pos c1, if_pos c3, hbb, if_neg n1, if_neg n2]
        exact Ev.now _
theorem specLead (s : ByteArray) (hs : s.size ≤ 1048576) (r : Int × Int × Bool) (h : Ev (fun k => spec_l13TakeGamma.j1 k s ((K.lead (bytesOf s) : Nat) : Int)) r) : Ev (fun k => spec_l13TakeGamma.f k s) r := by
  have hl := K.lead_le (bytesOf s)
  rw [bytesOf_length] at hl
  have key : ∀ (d i : Nat), i + d = K.lead (bytesOf s) → Ev (fun k => spec_l13TakeGamma.l0 k s (i : Int)) r := by
    intro d
    induction d with
    | zero =>
      intro i hid
      obtain rfl : i = K.lead (bytesOf s) := by omega
      apply K.Ev.succ
      by_cases hi : K.lead (bytesOf s) < s.size
      · have hne : ¬ bt s ((K.lead (bytesOf s) : Nat) : Int) = 48 := by
          intro e
          refine K.lead_end (bytesOf s) ?_
          rw [K.bt_bytes] at e
          rw [List.getD_eq_getElem?_getD] at e
          cases q : (bytesOf s)[K.lead (bytesOf s)]? with
          | none => rw [q] at e; simp at e
          | some x => rw [q] at e; simp at e; rw [e]
        simp only [spec_l13TakeGamma.l0, if_pos (show ((K.lead (bytesOf s) : Nat) : Int) < (s.size : Int) by omega), if_pos (show (0 : Int) ≤ ((K.lead (bytesOf s) : Nat) : Int) by omega), if_neg hne]
        exact h
      · simp only [spec_l13TakeGamma.l0, if_neg (show ¬ ((K.lead (bytesOf s) : Nat) : Int) < (s.size : Int) by omega)]
        exact h
    | succ d ih =>
      intro i hid
      apply K.Ev.succ
      have he : bt s (i : Int) = 48 := by
        rw [K.bt_bytes, List.getD_eq_getElem?_getD, K.lead_at (bytesOf s) i (by omega)]; rfl
      simp only [spec_l13TakeGamma.l0, if_pos (show (i : Int) < (s.size : Int) by omega), if_pos (show (0 : Int) ≤ (i : Int) by omega), he, if_true, K.w64s i (by omega)]
      exact ih (i + 1) (by omega)
  simp only [spec_l13TakeGamma.f]
  exact key (K.lead (bytesOf s)) 0 (by omega)
theorem bytesOf_ext (x : ByteArray) (a b : Nat) : bytesOf (x.extract a b) = ((bytesOf x).take b).drop a := by
  simp [bytesOf, ByteArray.data_extract, List.map_drop, List.map_take, Array.toList_extract, List.extract_eq_take_drop, List.drop_take]
theorem text_of_bytes {x y : ByteArray} (h : bytesOf x = bytesOf y) : x = y := by rw [← K.strOf_bytesOf x, h, K.strOf_bytesOf]
theorem take_lead (l : List Int) : l.take (K.lead l) = List.replicate (K.lead l) 48 := by
  apply List.ext_getElem?
  intro i
  by_cases h : i < K.lead l
  · rw [List.getElem?_take_of_lt h, K.lead_at l i h, List.getElem?_replicate_of_lt h]
  · rw [List.getElem?_eq_none (by rw [List.length_take]; omega), List.getElem?_eq_none (by rw [List.length_replicate]; omega)]
theorem numS (a : Int) : ∃ b, spec_l13Number.f a = some b ∧ impl_isNumber.f a = some b ∧ (b = true ↔ 1 ≤ a ∧ a ≤ 1000000) := by
  by_cases ha : 1 ≤ a
  · refine ⟨decide (a ≤ 1000000), ?_, ?_, by simp [ha]⟩
    · simp only [spec_l13Number.f, spec_l1In.f, if_pos (show a ≥ 1 from ha), Option.bind_some]
    · simp only [impl_isNumber.f, impl_within.f, if_pos (show a ≥ 1 from ha), Option.bind_some]
  · refine ⟨false, ?_, ?_, by simp; omega⟩
    · simp only [spec_l13Number.f, spec_l1In.f, if_neg (show ¬ a ≥ 1 from ha), Option.bind_some]
    · simp only [impl_isNumber.f, impl_within.f, if_neg (show ¬ a ≥ 1 from ha), Option.bind_some]
theorem take_same (s : ByteArray) (hs : s.size ≤ 1048576) : ∃ r, Ev (fun k => spec_l13TakeGamma.f k s) r ∧ Ev (fun k => impl_TakeGamma.f k s) r := by
  have hl := K.lead_le (bytesOf s)
  have htl := take_lead (bytesOf s)
  have hend := K.lead_end (bytesOf s)
  have hcount := countC_ev s hs
  have hspec := specLead s hs
  rw [bytesOf_length] at hl
  generalize hz : K.lead (bytesOf s) = z at hl htl hend hcount hspec
  have w1 : K.Eqn (wrap64 ((wrap64 (2 * (z : Int))) + 1)) ((2 * z + 1 : Nat) : Int) := ⟨by rw [K.w64 (x := 2 * (z : Int)) (by omega) (by omega), K.w64 (by omega) (by omega)]; omega⟩
  have w2 : K.Eqn (wrap64 ((z : Int) + 1)) ((z + 1 : Nat) : Int) := ⟨K.w64s z (by omega)⟩
  have c0 : (0 : Int) ≤ (z : Int) := by omega
  have c1 : (z : Int) ≤ (s.size : Int) := by omega
  have hxs : (s.extract z s.size).size = s.size - z := by rw [ByteArray.size_extract]; omega
  -- the reference, told by what its reading gives
  have specR : ∀ rd : Int × Bool, Ev (fun k => spec_l13Read.f k (s.extract z s.size) ((z + 1 : Nat) : Int)) rd → ∀ b, spec_l13Number.f rd.1 = some b →
      Ev (fun k => spec_l13TakeGamma.f k s) (if rd.2 = true then (if b = true then (rd.1, ((2 * z + 1 : Nat) : Int), true) else (0, 0, false)) else (0, 0, false)) := by
    intro rd hrd b hb
    apply hspec
    apply K.Ev.succ
    simp only [spec_l13TakeGamma.j1, if_pos c0, if_pos c1, Int.toNat_natCast, w1.out, w2.out]
    refine Ev.bind hrd ?_
    cases rd with
    | mk v t =>
      cases t with
      | false => exact Ev.now _
      | true =>
        simp only [hb, Option.bind_some, if_true]
        cases b <;> exact Ev.now _
  have specNo : Ev (fun k => spec_l13Read.f k (s.extract z s.size) ((z + 1 : Nat) : Int)) (0, false) → Ev (fun k => spec_l13TakeGamma.f k s) (0, 0, false) := by
    intro h
    obtain ⟨b, hb, _⟩ := numS 0
    exact specR (0, false) h b hb
  -- too many noughts, or too short a text
  have implNo : (z : Int) > 20 ∨ ((2 * z + 1 : Nat) : Int) > (s.size : Int) → Ev (fun k => impl_TakeGamma.f k s) (0, 0, false) := by
    intro h
    simp only [impl_TakeGamma.f]
    refine Ev.bind hcount ?_
    by_cases h20 : (z : Int) > 20
    · simp only [if_pos h20]
      apply K.Ev.succ
      simp only [impl_TakeGamma.j0, if_true]
      exact Ev.now _
    · simp only [if_neg h20, w1.out, decide_eq_true (show ((2 * z + 1 : Nat) : Int) > (s.size : Int) by omega)]
      apply K.Ev.succ
      simp only [impl_TakeGamma.j0, if_true]
      exact Ev.now _
  by_cases hshort : s.size < 2 * z + 1
  · refine ⟨(0, 0, false), specNo ?_, implNo (.inr (by omega))⟩
    simp only [spec_l13Read.f, if_pos (show ((z + 1 : Nat) : Int) > ((s.extract z s.size).size : Int) by omega)]
    apply K.Ev.succ
    simp only [spec_l13Read.j0, if_true]
    exact Ev.now _
  have hn : ¬ ((z + 1 : Nat) : Int) > ((s.extract z s.size).size : Int) := by omega
  by_cases h30 : z + 1 > 30
  · refine ⟨(0, 0, false), specNo ?_, implNo (.inl (by omega))⟩
    simp only [spec_l13Read.f, if_neg hn, decide_eq_true (show ((z + 1 : Nat) : Int) > 30 by omega)]
    apply K.Ev.succ
    simp only [spec_l13Read.j0, if_true]
    exact Ev.now _
  have hys : (s.extract z (2 * z + 1)).size = z + 1 := by rw [ByteArray.size_extract]; omega
  obtain ⟨rs, ri, e1, e2, e3, e4, e5⟩ := read_same (s.extract z s.size) (s.extract z (2 * z + 1)) (z + 1) hys (by omega) (by omega) (by
    intro i hi
    rw [K.bt_bytes, K.bt_bytes, bytesOf_ext, bytesOf_ext, List.getD_eq_getElem?_getD, List.getD_eq_getElem?_getD, List.getElem?_drop, List.getElem?_drop, List.getElem?_take_of_lt (by omega), List.getElem?_take_of_lt (by omega)]) (z + 1) 0 0 (by omega) (by simp)
  have hrd : Ev (fun k => spec_l13Read.f k (s.extract z s.size) ((z + 1 : Nat) : Int)) rs := by
    simp only [spec_l13Read.f, if_neg hn, decide_eq_false (show ¬ ((z + 1 : Nat) : Int) > 30 by omega)]
    apply K.Ev.succ
    simp only [spec_l13Read.j0, Bool.false_eq_true, if_false]
    exact e1
  -- what is read where all are bits: the first is 1
  have first : rs.2 = true → ∃ l : List Nat, l.length = z ∧ (∀ q ∈ l, q < 2) ∧ rs.1 = ((K.valB 1 l : Nat) : Int) ∧ bytesOf (s.extract z (2 * z + 1)) = (1 :: l).map fun q => ((48 + q : Nat) : Int) := by
    intro ht
    obtain ⟨l, l1, l2, l3, l4⟩ := e4 ht
    cases l with
    | nil => simp at l1
    | cons d l =>
      have hd := l2 d List.mem_cons_self
      rw [List.drop_zero] at l4
      have hd1 : d = 1 := by
        by_cases q : d = 0
        · exfalso
          apply hend
          subst q
          rw [bytesOf_ext] at l4
          have h0 := congrArg (fun t => t[0]?) l4
          simp only [List.getElem?_drop, List.map_cons, List.getElem?_cons_zero, Nat.add_zero] at h0
          rw [List.getElem?_take_of_lt (by omega)] at h0
          rw [h0]; rfl
        · omega
      subst hd1
      refine ⟨l, by simpa using l1, fun q hq => l2 q (List.mem_cons_of_mem _ hq), by rw [l3]; rfl, l4⟩
  obtain ⟨b, hb1, hb2, hb3⟩ := numS rs.1
  have hS := specR rs hrd b hb1
  by_cases h20 : z > 20
  · refine ⟨(0, 0, false), ?_, implNo (.inl (by omega))⟩
    by_cases ht : rs.2 = true
    · obtain ⟨l, l1, l2, l3, l4⟩ := first ht
      have hgrow := K.valB_grow l 1
      have : 2 ^ 21 ≤ 2 ^ l.length := Nat.pow_le_pow_right (by decide) (by omega)
      have hbf : b = false := by
        cases b with
        | false => rfl
        | true => have := hb3.mp rfl; omega
      rw [if_pos ht, hbf] at hS
      exact hS
    · rw [if_neg ht] at hS
      exact hS
  refine ⟨_, hS, ?_⟩
  simp only [impl_TakeGamma.f]
  refine Ev.bind hcount ?_
  simp only [if_neg (show ¬ (z : Int) > 20 by omega), w1.out, decide_eq_false (show ¬ ((2 * z + 1 : Nat) : Int) > (s.size : Int) by omega)]
  apply K.Ev.succ
  simp only [impl_TakeGamma.j0, Bool.false_eq_true, if_false, if_pos c0, if_pos (show (z : Int) ≤ ((2 * z + 1 : Nat) : Int) by omega), if_pos (show ((2 * z + 1 : Nat) : Int) ≤ (s.size : Int) by omega), Int.toNat_natCast, if_pos (show (0 : Int) ≤ ((2 * z + 1 : Nat) : Int) by omega)]
  have hv : Ev (fun k => impl_valueOf.f k (s.extract z (2 * z + 1))) ri := by
    simp only [impl_valueOf.f, hys]
    exact e2
  refine Ev.bind hv ?_
  rcases e3 with rfl | ⟨rfl, q2, q3⟩
  · by_cases ht : ri.2 = true
    · obtain ⟨l, l1, l2, l3, l4⟩ := first ht
      simp only [if_pos ht, hb2, Option.bind_some]
      cases b with
      | false => simp only [Bool.false_eq_true, if_false]; exact Ev.now _
      | true =>
        simp only [if_true]
        have hr := hb3.mp rfl
        have hg := gamma_eq (K.valB 1 l) (by omega)
        have hsame : gamC (K.valB 1 l) = s.extract 0 (2 * z + 1) := by
          apply text_of_bytes
          rw [gamC, digC, binL_valB l l2, strOfNums_size, ← l4, bytesOf_length, hys, show z + 1 - 1 = z by omega]
          have r1 : bytesOf (strOfNums (List.replicate z ((48 : Nat) : Int)) ++ strOfNums (bytesOf (s.extract z (2 * z + 1)))) = List.replicate z 48 ++ bytesOf (s.extract z (2 * z + 1)) := by
            rw [K.strOf_bytesOf]
            simp [bytesOf, strOfNums]
          rw [r1, ← htl, bytesOf_ext, bytesOf_ext, List.drop_zero]
          have := List.take_append_drop z ((bytesOf s).take (2 * z + 1))
          rw [List.take_take, show min z (2 * z + 1) = z by omega] at this
          exact this
        rw [l3]
        simp only [hg, Option.bind_some, hsame, if_true]
        exact Ev.now _
    · simp only [if_neg ht]
      exact Ev.now _
  · have hbf : b = false := by
      cases b with
      | false => rfl
      | true => have := hb3.mp rfl; omega
    simp only [q2, hbf, Bool.false_eq_true, if_true, if_false]
    exact Ev.now _
theorem FnExactTakeGamma : laws_FnExactTakeGamma.Pure := by
  intro s hs
  refine Ev.rounds (?_ : Ev (fun k => laws_FnExactTakeGamma.f k s) true)
  simp only [laws_FnExactTakeGamma.f]
  by_cases h : (s.size : Int) > 1048576
  · simp only [if_pos h]; exact Ev.now _
  · simp only [if_neg h]
    obtain ⟨r, e1, e2⟩ := take_same s (by omega)
    have hS : Ev (fun k => spec_TakeGamma.f k s) r := by
      simp only [spec_TakeGamma.f]
      exact Ev.bind e1 (Ev.now _)
    refine Ev.bind hS ?_
    refine Ev.bind e2 ?_
    simp only [if_true, bne_self_eq_false, Bool.false_eq_true, if_false]
    exact Ev.now _

end Go.Proofs.YtaoemgkalmhnbaaDoor.Pure
