/- The law FnExactIsDrop answers true for all drops and texts: whether a drop is one of the texts' is told as by the reference, and the texts stay. -/
import Derived.Test.YtimajkahadhhhaaPFnExactIsDropx6
import Derived.Test.YtimajkahadhhhaaKKit
import Derived.Test.YtimajkahadhhhaaKSorted
import Derived.Test.YtimajkahadhhhaaKGF
import Derived.Test.YtimajkahadhhhaaKGFL
set_option linter.unusedVariables false
set_option linter.unusedSimpArgs false
namespace Go.Proofs.Ytimajkahadhhhaa.Pure
open Go Go.RowKit Go.Proofs.Ytimajkahadhhhaa Go.Proofs.Ytimajkahadhhhaa.PFnExactIsDrop Go.Proofs.YtimajkahadhhhaaW.PrintWords Go.Proofs.YtimajkahadhhhaaW.PrintLast Go.Proofs.YtimajkahadhhhaaW.PrintMore

theorem laws_eqStringS_self (l : List ByteArray) (hl : l.length ≤ 140737488355328) : Ev (fun k => laws_eqStringS.f k l l) true := by
  have key : ∀ (d n : Nat), n + d = l.length → Ev (fun k => laws_eqStringS.l0 k l l (n : Int)) true := by
    intro d
    induction d with
    | zero =>
      intro n h1
      apply K.Ev.succ
      simp only [laws_eqStringS.l0, if_neg (show ¬ ((n : Int) < (l.length : Int)) by omega)]
      exact Ev.now _
    | succ d ih =>
      intro n h1
      apply K.Ev.succ
      simp only [laws_eqStringS.l0, if_pos (show (n : Int) < (l.length : Int) by omega), if_pos (show (0 : Int) ≤ (n : Int) by omega), if_true]
      rw [K.w64s n (by omega)]
      exact ih (n + 1) (by omega)
  unfold laws_eqStringS.f
  simp only [if_true]
  exact key l.length 0 (by omega)

/-- The size that the law reckons: below nought where a list of texts is too great. -/
theorem laws_szStringS_ev (l : List ByteArray) (hl : l.length ≤ maxLen) (hs : ∀ s ∈ l, s.size ≤ maxLen) (c : Int) (hc0 : 0 ≤ c) (hc : c ≤ 1048576) : ∃ r : Int, Ev (fun k => laws_szStringS.f k l c) r ∧ (0 ≤ r → (l.length : Int) ≤ c ∧ ∀ s ∈ l, s.size ≤ 1048576) := by
  have hl' : l.length ≤ 9223372036854775807 := hl
  have hw : wrap64 (c - (l.length : Int)) = c - (l.length : Int) := K.w64 (by omega) (by omega)
  by_cases hneg : c - (l.length : Int) < 0
  · refine ⟨-1, ?_, fun h => absurd h (by decide)⟩
    simp only [laws_szStringS.f, hw, if_pos hneg]
    exact Ev.now _
  · have key : ∀ (d n : Nat) (x : Int), n + d = l.length → 0 ≤ x → x ≤ 1048576 → ∃ r : Int, Ev (fun k => laws_szStringS.l0 k l x (n : Int)) r ∧ (0 ≤ r → ∀ j, n ≤ j → (h : j < l.length) → l[j].size ≤ 1048576) := by
      intro d
      induction d with
      | zero =>
        intro n x h1 h2 h3
        refine ⟨x, ?_, fun _ j hj h => by omega⟩
        apply K.Ev.succ
        simp only [laws_szStringS.l0, if_neg (show ¬ ((n : Int) < (l.length : Int)) by omega)]
        exact Ev.now _
      | succ d ih =>
        intro n x h1 h2 h3
        have hn : n < l.length := by omega
        have hr : rdOf ByteArray.empty l (n : Int) = l[n] := by simp [rdOf, hn]
        have hz : l[n].size ≤ 9223372036854775807 := hs _ (List.getElem_mem hn)
        have hwx : K.Eqn (wrap64 (x - (l[n].size : Int))) (x - (l[n].size : Int)) := ⟨K.w64 (by omega) (by omega)⟩
        have hwn : K.Eqn (wrap64 ((n : Int) + 1)) ((n + 1 : Nat) : Int) := ⟨K.w64s n (by omega)⟩
        by_cases hx : x - (l[n].size : Int) < 0
        · refine ⟨-1, ?_, fun h => absurd h (by decide)⟩
          apply K.Ev.succ
          simp only [laws_szStringS.l0, if_pos (show (n : Int) < (l.length : Int) by omega), if_pos (show (0 : Int) ≤ (n : Int) by omega), hr, hwx.out, if_pos hx]
          exact Ev.now _
        · obtain ⟨r, e1, e2⟩ := ih (n + 1) (x - (l[n].size : Int)) (by omega) (by omega) (by omega)
          refine ⟨r, ?_, fun h0 j hj h => ?_⟩
          · apply K.Ev.succ
            simp only [laws_szStringS.l0, if_pos (show (n : Int) < (l.length : Int) by omega), if_pos (show (0 : Int) ≤ (n : Int) by omega), hr, hwx.out, if_neg hx, hwn.out]
            exact e1
          · rcases Nat.lt_or_ge n j with q | q
            · exact e2 h0 j (by omega) h
            · obtain rfl : j = n := by omega
              omega
    obtain ⟨r, e1, e2⟩ := key l.length 0 (c - (l.length : Int)) (by omega) (by omega) (by omega)
    refine ⟨r, ?_, fun h0 => ⟨by omega, fun s hs' => ?_⟩⟩
    · simp only [laws_szStringS.f, hw, if_neg hneg]
      exact e1
    · obtain ⟨j, hj, rfl⟩ := List.mem_iff_getElem.mp hs'
      exact e2 h0 j (by omega) hj

theorem laws_toStringS_ev (l : List ByteArray) (hl : l.length ≤ 1048576) : Ev (fun k => laws_toStringS.f k l) l := by
  have key : ∀ (d n : Nat) (x : List ByteArray), n + d = l.length → x.length = l.length → x.take n = l.take n → Ev (fun k => laws_toStringS.l0 k l x (n : Int)) l := by
    intro d
    induction d with
    | zero =>
      intro n x h1 h2 h3
      apply K.Ev.succ
      simp only [laws_toStringS.l0, if_neg (show ¬ ((n : Int) < (l.length : Int)) by omega)]
      have e : x = l := by
        rw [List.take_of_length_le (by omega), List.take_of_length_le (by omega)] at h3; exact h3
      rw [e]; exact Ev.now _
    | succ d ih =>
      intro n x h1 h2 h3
      apply K.Ev.succ
      have hn : n < l.length := by omega
      have hr : rdOf ByteArray.empty l (n : Int) = l[n] := by simp [rdOf, hn]
      simp only [laws_toStringS.l0, if_pos (show (n : Int) < (l.length : Int) by omega), if_pos (show (0 : Int) ≤ (n : Int) by omega), if_pos (show (n : Int) < (x.length : Int) by omega), Int.toNat_natCast, hr]
      rw [K.w64s n (by omega)]
      refine ih (n + 1) _ (by omega) (by simpa using h2) ?_
      rw [K.take_set _ _ _ (by omega), K.take_succ' l n hn, h3]
  unfold laws_toStringS.f
  simp only [if_pos (show (0 : Int) ≤ (l.length : Int) by omega), Int.toNat_natCast, if_pos (show l.length ≤ 17592186044416 by omega)]
  exact key l.length 0 _ (by omega) (by simp) (by simp)

theorem l9Collect (l : List Bool) (hl : l.length ≤ 1000) : Ev (fun k => spec_l9Blocks.l1 k ([] : List Int) l (l.length : Int) 0) (K.trues 0 l) := by
  have key : ∀ (d i : Nat) (acc : List Int), i + d = l.length → acc.length ≤ i → Ev (fun k => spec_l9Blocks.l1 k acc l (l.length : Int) (i : Int)) (acc ++ K.trues i (l.drop i)) := by
    intro d
    induction d with
    | zero =>
      intro i acc h _
      apply K.Ev.succ
      simp only [spec_l9Blocks.l1, if_neg (show ¬ ((i : Int) < (l.length : Int)) by omega)]
      rw [List.drop_of_length_le (by omega), K.trues, List.append_nil]
      exact Ev.now _
    | succ d ih =>
      intro i acc h ha
      have hi : i < l.length := by omega
      have hr : rdOf false l (i : Int) = l[i] := by simp [rdOf, hi]
      apply K.Ev.succ
      simp only [spec_l9Blocks.l1, if_pos (show (i : Int) < (l.length : Int) by omega), if_pos (show (0 : Int) ≤ (i : Int) by omega), hr, K.w64s i (by omega)]
      rw [List.drop_eq_getElem_cons hi]
      cases hb : l[i] with
      | true =>
        simp only [if_true, if_pos (show acc.length < 17592186044416 by omega), K.trues]
        have := ih (i + 1) (acc ++ [(i : Int)]) (by omega) (by simp; omega)
        rw [List.append_assoc] at this
        exact this
      | false =>
        simp only [Bool.false_eq_true, if_false, K.trues]
        exact ih (i + 1) acc (by omega) (by omega)
  have := key l.length 0 [] (by omega) (by simp)
  rw [List.nil_append, List.drop_zero] at this
  exact this

/-- Whether texts have one length, which is not too great. -/
def evenB (l : List ByteArray) : Bool := l.all fun s => decide (s.size = (rdOf ByteArray.empty l 0).size) && decide (s.size ≤ 40)
theorem l3Texts_ev (l : List ByteArray) (hl : l.length ≤ 1048576) (hs : ∀ s ∈ l, s.size ≤ 1048576) : Ev (fun k => spec_l3Texts.f k l) (evenB l) := by
  have key : ∀ (d i : Nat), i + d = l.length → Ev (fun k => spec_l3Texts.l0 k l l (l.length : Int) (i : Int)) ((l.drop i).all fun s => decide (s.size = (rdOf ByteArray.empty l 0).size) && decide (s.size ≤ 40)) := by
    intro d
    induction d with
    | zero =>
      intro i hi
      apply K.Ev.succ
      simp only [spec_l3Texts.l0, if_neg (show ¬ ((i : Int) < (l.length : Int)) by omega)]
      rw [List.drop_of_length_le (by omega)]
      exact Ev.now _
    | succ d ih =>
      intro i hi
      have hil : i < l.length := by omega
      have hr : rdOf ByteArray.empty l (i : Int) = l[i] := by simp [rdOf, hil]
      apply K.Ev.succ
      simp only [spec_l3Texts.l0, if_pos (show (i : Int) < (l.length : Int) by omega), if_pos (show (0 : Int) ≤ (i : Int) by omega), if_pos (show (0 : Int) < (l.length : Int) by omega), hr, K.w64s i (show i < 9223372036854775807 by omega)]
      rw [List.drop_eq_getElem_cons hil, List.all_cons]
      by_cases h1 : (l[i].size : Int) = ((rdOf ByteArray.empty l 0).size : Int)
      · by_cases h2 : (l[i].size : Int) > 40
        · simp only [if_pos h1, if_pos h2, decide_eq_false (show ¬ l[i].size ≤ 40 by omega), Bool.and_false, Bool.false_and]
          exact Ev.now _
        · simp only [if_pos h1, if_neg h2, decide_eq_true (show l[i].size ≤ 40 by omega), decide_eq_true (show l[i].size = (rdOf ByteArray.empty l 0).size by omega), Bool.and_true, Bool.true_and]
          exact ih (i + 1) (by omega)
      · simp only [if_neg h1, decide_eq_false (show ¬ l[i].size = (rdOf ByteArray.empty l 0).size by omega), Bool.false_and]
        exact Ev.now _
  simp only [spec_l3Texts.f]
  have := key l.length 0 (by omega)
  rw [List.drop_zero] at this
  exact this
theorem areEqual_eq (l : List ByteArray) : impl_areEqual.f l = some (evenB l) := by
  unfold impl_areEqual.f evenB
  congr 1
  rw [List.all_eq_not_any_not]
  congr 1
  refine congrArg (List.any l) (funext fun s => ?_)
  unfold impl_areEqual.bad
  have e1 : decide (40 < s.size) = !decide (s.size ≤ 40) := by rw [← decide_not]; exact decide_eq_decide.mpr (by omega)
  have e2 : decide (s.size ≠ (rdOf ByteArray.empty l 0).size) = !decide (s.size = (rdOf ByteArray.empty l 0).size) := decide_not
  rw [e1, e2]
  cases decide (s.size ≤ 40) <;> cases decide (s.size = (rdOf ByteArray.empty l 0).size) <;> rfl
/-- Texts of one length, which is not too great; not none, and not too many. -/
structure Whole (l : List ByteArray) : Prop where
  pos : 1 ≤ l.length
  le : l.length ≤ 12
  same : ∀ j : Nat, j < l.length → (rdOf ByteArray.empty l (j : Int)).size = (rdOf ByteArray.empty l 0).size
  small : (rdOf ByteArray.empty l 0).size ≤ 40
theorem whole_of (l : List ByteArray) (h : evenB l = true) (h1 : 1 ≤ l.length) (h2 : l.length ≤ 12) : Whole l := by
  unfold evenB at h
  rw [List.all_eq_true] at h
  have hr : ∀ j : Nat, (hj : j < l.length) → rdOf ByteArray.empty l (j : Int) = l[j] := fun j hj => by simp [rdOf, hj]
  refine ⟨h1, h2, fun j hj => ?_, ?_⟩
  · rw [hr j hj]
    have := h l[j] (List.getElem_mem hj)
    simp at this
    exact this.1
  · have e := hr 0 (by omega)
    have := h l[0] (List.getElem_mem (by omega))
    simp at this
    rw [show (0 : Int) = ((0 : Nat) : Int) from rfl, e]
    exact this.2

theorem l1Times_ev (a b : Nat) (ha : a < 256) (hb : b < 256) : Ev (fun k => spec_l1Times.f k (a : Int) (b : Int)) ((K.gmul a b : Nat) : Int) := by
  have key : ∀ (n x y o : Nat), x < 256 → o < 256 → y < 2 ^ n → n ≤ 8 → Ev (fun k => spec_l1Times.l0 k (o : Int) (x : Int) (y : Int)) ((K.gstep n x y o : Nat) : Int) := by
    intro n
    induction n with
    | zero =>
      intro x y o hx ho hy _
      obtain rfl : y = 0 := by simpa using hy
      apply K.Ev.succ
      simp only [spec_l1Times.l0, show ¬ (((0 : Nat) : Int) > 0) by omega, if_false, K.gstep]
      exact K.Ev.const (by rw [show (o : Int) % 256 = (o : Int) by omega])
    | succ n ih =>
      intro x y o hx ho hy hn
      by_cases h0 : y = 0
      · subst h0
        apply K.Ev.succ
        rw [K.gstep_zero]
        simp only [spec_l1Times.l0, show ¬ (((0 : Nat) : Int) > 0) by omega, if_false]
        exact K.Ev.const (by rw [show (o : Int) % 256 = (o : Int) by omega])
      have hy2 : y < 512 := Nat.lt_of_lt_of_le hy (by
        have : 2 ^ (n + 1) ≤ 2 ^ 9 := Nat.pow_le_pow_right (by omega) (by omega)
        omega)
      have w : K.Eqn (wrap64 ((x : Int) * 2)) ((2 * x : Nat) : Int) := ⟨by rw [K.w64 (by omega) (by omega)]; omega⟩
      have hx2 : (if ((2 * x : Nat) : Int) > 255 then Go.bits .xor .i64 ((2 * x : Nat) : Int) 283 else ((2 * x : Nat) : Int)) = ((K.xt x : Nat) : Int) := by
        unfold K.xt
        by_cases h : 2 * x > 255
        · rw [if_pos (by omega), if_pos h]
          exact K.xor_i64 (b := 283) (by omega) (by omega)
        · rw [if_neg (by omega), if_neg h]
      have hy' : (y : Int) / 2 = ((y / 2 : Nat) : Int) := by omega
      have hnext := ih (K.xt x) (y / 2) (if y % 2 = 1 then o ^^^ x else o) (K.xt_lt hx) (by
        split
        · exact Nat.xor_lt_two_pow (n := 8) ho hx
        · exact ho) (by rw [Nat.pow_succ] at hy; omega) (by omega)
      apply K.Ev.succ
      simp only [spec_l1Times.l0, if_pos (show (y : Int) > 0 by omega), K.and_i64_1 (show y < 1024 by omega), w.out, K.xor_i64 (show o < 1024 by omega) (show x < 1024 by omega), hy']
      by_cases h1 : y % 2 = 1
      · rw [if_pos h1] at hnext
        simp only [h1, show (((1 : Nat) : Int) = 1) = True by simp, if_true, K.gstep]
        by_cases h2 : ((2 * x : Nat) : Int) > 255
        · rw [if_pos h2] at hx2
          simp only [if_pos h2]
          simp only [hx2]
          exact hnext
        · rw [if_neg h2] at hx2
          simp only [if_neg h2]
          simp only [hx2]
          exact hnext
      · rw [if_neg h1] at hnext
        have h1' : ¬ (((y % 2 : Nat) : Int) = 1) := by omega
        simp only [if_neg h1', K.gstep, if_neg h1]
        by_cases h2 : ((2 * x : Nat) : Int) > 255
        · rw [if_pos h2] at hx2
          simp only [if_pos h2]
          simp only [hx2]
          exact hnext
        · rw [if_neg h2] at hx2
          simp only [if_neg h2]
          simp only [hx2]
          exact hnext
  have wa : K.Eqn (wrap64 (a : Int)) (a : Int) := ⟨K.w64 (by omega) (by omega)⟩
  have wb : K.Eqn (wrap64 (b : Int)) (b : Int) := ⟨K.w64 (by omega) (by omega)⟩
  simp only [spec_l1Times.f, wa.out, wb.out]
  exact key 8 a b 0 ha (by omega) (by omega) (by omega)

/-- The sum of two texts, byte for byte. -/
def xorT (x y : ByteArray) : ByteArray := strOfNums (List.zipWith (fun a b => Go.bits .xor .u8 a b) (bytesOf x) (bytesOf y))
theorem l6Plus_ev (x y : ByteArray) (h : x.size = y.size) (hx : x.size ≤ 1048576) : Ev (fun k => spec_l6Plus.f k x 1 y) (xorT x y) := by
  have hbx := bytesOf_length x
  have hby := bytesOf_length y
  have key : ∀ (d i : Nat) (z : List Int), i + d = x.size → z.length = x.size → z.take i = (List.zipWith (fun a b => Go.bits .xor .u8 a b) (bytesOf x) (bytesOf y)).take i → z.drop i = (bytesOf x).drop i → Ev (fun k => spec_l6Plus.l0 k 1 y z ((bytesOf x).length : Int) (i : Int)) (xorT x y) := by
    intro d
    induction d with
    | zero =>
      intro i z hi hz ha _
      rw [List.take_of_length_le (by omega), List.take_of_length_le (by rw [List.length_zipWith]; omega)] at ha
      subst ha
      apply K.Ev.succ
      simp only [spec_l6Plus.l0, if_neg (show ¬ ((i : Int) < ((bytesOf x).length : Int)) by omega)]
      exact Ev.now _
    | succ d ih =>
      intro i z hi hz ha hd
      have hix : i < (bytesOf x).length := by omega
      have hiy : i < (bytesOf y).length := by omega
      obtain ⟨b, hb, hb2⟩ : ∃ b : Nat, bt y (i : Int) = (b : Int) ∧ b < 256 := by
        have := bt_range y (i : Int)
        exact ⟨(bt y (i : Int)).toNat, by omega, by omega⟩
      have hyb : (bytesOf y)[i] = (b : Int) := by
        rw [K.bt_bytes, List.getD_eq_getElem?_getD, List.getElem?_eq_getElem hiy] at hb
        simpa using hb
      have hzi : rd z (i : Int) = (bytesOf x)[i] := by
        rw [K.rd_nat (show i < z.length by omega)]
        have e := congrArg (fun t => t[0]?) hd
        simp only [List.getElem?_drop, Nat.add_zero] at e
        rw [List.getElem?_eq_getElem (show i < z.length by omega), List.getElem?_eq_getElem hix] at e
        exact Option.some.inj e
      apply K.Ev.succ
      simp only [spec_l6Plus.l0, if_pos (show (i : Int) < ((bytesOf x).length : Int) by omega), if_pos (show (0 : Int) ≤ (i : Int) by omega), if_pos (show (i : Int) < (z.length : Int) by omega), if_pos (show (i : Int) < (y.size : Int) by omega), hb]
      refine Ev.bind (l1Times_ev 1 b (by omega) hb2) ?_
      rw [K.one_gmul hb2]
      simp only [K.w64s i (show i < 9223372036854775807 by omega), Int.toNat_natCast, hzi]
      refine ih (i + 1) _ (by omega) (by simpa using hz) ?_ ?_
      · rw [K.take_set _ _ _ (by omega), K.take_succ' _ i (by rw [List.length_zipWith]; omega), ha, List.getElem_zipWith, hyb]
      · rw [List.drop_set_of_lt (by omega)]
        have e := congrArg (List.drop 1) hd
        simpa using e
  unfold spec_l6Plus.f conv_own.f conv_bytes.f
  simp only [if_pos (show x.size ≤ 9223372036854775807 by omega), Option.bind_some]
  exact key x.size 0 _ (by omega) hbx (by simp) rfl

theorem xorT_size (x y : ByteArray) (h : x.size = y.size) : (xorT x y).size = x.size := by
  rw [xorT, strOfNums_size, List.length_zipWith, bytesOf_length, bytesOf_length]; omega
/-- The sum of some texts of a list. -/
def dropT (l : List ByteArray) : List Int → ByteArray → ByteArray
  | [], acc => acc
  | x :: L, acc => dropT l L (xorT acc (rdOf ByteArray.empty l x))
theorem l9Sum_ev (l : List ByteArray) (hW : Whole l) (L : List Int) (hL : ∀ x ∈ L, ∃ j : Nat, x = (j : Int) ∧ j < l.length) (hlen : L.length ≤ 4) :
    Ev (fun k => spec_l9Sum.f k l L) (dropT l L (strOfNums (List.replicate (rdOf ByteArray.empty l 0).size 0))) := by
  have h1 := hW.pos
  have h40 := hW.small
  have key : ∀ (d i : Nat) (acc : ByteArray), i + d = L.length → acc.size = (rdOf ByteArray.empty l 0).size → Ev (fun k => spec_l9Sum.l0 k l acc L (L.length : Int) (i : Int)) (dropT l (L.drop i) acc) := by
    intro d
    induction d with
    | zero =>
      intro i acc hi ha
      apply K.Ev.succ
      simp only [spec_l9Sum.l0, if_neg (show ¬ ((i : Int) < (L.length : Int)) by omega)]
      rw [List.drop_of_length_le (by omega)]
      exact Ev.now _
    | succ d ih =>
      intro i acc hi ha
      have hiL : i < L.length := by omega
      obtain ⟨j, hj, hjl⟩ := hL L[i] (List.getElem_mem hiL)
      have hr : rd L (i : Int) = (j : Int) := by rw [K.rd_nat hiL, hj]
      have hs := hW.same j hjl
      apply K.Ev.succ
      simp only [spec_l9Sum.l0, if_pos (show (i : Int) < (L.length : Int) by omega), if_pos (show (0 : Int) ≤ (i : Int) by omega), hr, if_pos (show (0 : Int) ≤ (j : Int) by omega), if_pos (show (j : Int) < (l.length : Int) by omega)]
      refine Ev.bind (l6Plus_ev acc _ (by omega) (by omega)) ?_
      simp only [K.w64s i (show i < 9223372036854775807 by omega)]
      rw [List.drop_eq_getElem_cons hiL, hj]
      exact ih (i + 1) _ (by omega) (by rw [xorT_size _ _ (by omega)]; exact ha)
  simp only [spec_l9Sum.f, if_pos (show (0 : Int) < (l.length : Int) by omega), if_pos (show (0 : Int) ≤ ((rdOf ByteArray.empty l 0).size : Int) by omega), Int.toNat_natCast, if_pos (show (rdOf ByteArray.empty l 0).size ≤ 281474976710656 by omega)]
  exact key L.length 0 _ (by omega) (by rw [strOfNums_size, List.length_replicate])

theorem inRd (x lo hi : Int) : spec_l1In.f x lo hi = some (decide (lo ≤ x ∧ x ≤ hi)) := by
  unfold spec_l1In.f
  by_cases h : x ≥ lo
  · rw [if_pos h]; congr 1; rw [decide_eq_decide]; omega
  · rw [if_neg h, decide_eq_false (by omega)]
theorem inId (x lo hi : Int) : impl_within.f x lo hi = some (decide (lo ≤ x ∧ x ≤ hi)) := inRd x lo hi
/-- Whether drops are valid. -/
def dropsB (l : List S54) : Bool := l.all (fun d => decide (0 ≤ d.f0 ∧ d.f0 ≤ 100000)) && (decide (l.length ≤ 40) && evenB (l.map (·.f1)))
theorem areDrops_ev (l : List S54) (hl : l.length ≤ 1048576) : Ev (fun k => impl_areDrops.f k l) (dropsB l) := by
  have key : ∀ (d i : Nat), i + d = l.length → Ev (fun k => impl_areDrops.l0 k l ((l.take i).map (·.f1)) l (l.length : Int) (i : Int)) ((l.drop i).all (fun d => decide (0 ≤ d.f0 ∧ d.f0 ≤ 100000)) && (decide (l.length ≤ 40) && evenB (l.map (·.f1)))) := by
    intro d
    induction d with
    | zero =>
      intro i hi
      apply K.Ev.succ
      simp only [impl_areDrops.l0, if_neg (show ¬ ((i : Int) < (l.length : Int)) by omega)]
      rw [List.drop_of_length_le (by omega), List.take_of_length_le (by omega), List.all_nil, Bool.true_and]
      by_cases h : (l.length : Int) ≤ 40
      · simp only [if_pos h, areEqual_eq, Option.bind_some, decide_eq_true (show l.length ≤ 40 by omega), Bool.true_and]
        exact Ev.now _
      · simp only [if_neg h, decide_eq_false (show ¬ l.length ≤ 40 by omega), Bool.false_and]
        exact Ev.now _
    | succ d ih =>
      intro i hi
      have hil : i < l.length := by omega
      have hr : rd_T54 l (i : Int) = l[i] := by simp [rd_T54, hil]
      have ht : ((l.take i).map (·.f1)) ++ [l[i].f1] = (l.take (i + 1)).map (·.f1) := by
        rw [K.take_succ' l i hil, List.map_append]; rfl
      have hlen : ((l.take i).map (·.f1)).length < 8796093022208 := by rw [List.length_map, List.length_take]; omega
      apply K.Ev.succ
      simp only [impl_areDrops.l0, if_pos (show (i : Int) < (l.length : Int) by omega), if_pos (show (0 : Int) ≤ (i : Int) by omega), hr, impl_isSeed.f, inId, Option.bind_some, K.w64s i (show i < 9223372036854775807 by omega), if_pos hlen, ht]
      rw [List.drop_eq_getElem_cons hil, List.all_cons]
      by_cases h : 0 ≤ l[i].f0 ∧ l[i].f0 ≤ 100000
      · simp only [decide_eq_true h, if_true, Bool.true_and]
        exact ih (i + 1) (by omega)
      · simp only [decide_eq_false h, Bool.false_eq_true, if_false, Bool.false_and]
        exact Ev.now _
  simp only [impl_areDrops.f]
  have := key l.length 0 (by omega)
  rw [List.drop_zero, List.take_zero] at this
  exact this
theorem l9Drops_ev (l : List S54) (hl : l.length ≤ 1048576) : Ev (fun k => spec_l9Drops.f k l) (dropsB l) := by
  have key : ∀ (d i : Nat), i + d = l.length → ∃ b : Bool, Ev (fun k => spec_l9Drops.l0 k l l (l.length : Int) (i : Int)) b ∧ b = ((l.drop i).all (fun d => decide (0 ≤ d.f0 ∧ d.f0 ≤ 100000)) && (decide (l.length ≤ 40) && ((l.drop i).map (·.f1)).all fun s => decide (s.size = (rdOf ByteArray.empty (l.map (·.f1)) 0).size) && decide (s.size ≤ 40))) := by
    intro d
    induction d with
    | zero =>
      intro i hi
      refine ⟨decide ((l.length : Int) ≤ 40), ?_, ?_⟩
      · apply K.Ev.succ
        simp only [spec_l9Drops.l0, if_neg (show ¬ ((i : Int) < (l.length : Int)) by omega)]
        exact Ev.now _
      · rw [List.drop_of_length_le (by omega), List.all_nil, List.map_nil, List.all_nil, Bool.true_and, Bool.and_true]
        exact decide_eq_decide.mpr (by omega)
    | succ d ih =>
      intro i hi
      have hil : i < l.length := by omega
      have hr : rd_T54 l (i : Int) = l[i] := by simp [rd_T54, hil]
      have h0 : rdOf ByteArray.empty (l.map (·.f1)) 0 = (rd_T54 l 0).f1 := by
        have : 0 < l.length := by omega
        simp [rdOf, rd_T54, this]
      obtain ⟨b, e1, e2⟩ := ih (i + 1) (by omega)
      rw [List.drop_eq_getElem_cons hil, List.all_cons, List.map_cons, List.all_cons, h0]
      rw [h0] at e2
      by_cases h : 0 ≤ l[i].f0 ∧ l[i].f0 ≤ 100000
      · by_cases h1 : (l[i].f1.size : Int) = ((rd_T54 l 0).f1.size : Int)
        · by_cases h2 : (l[i].f1.size : Int) > 40
          · refine ⟨false, ?_, ?_⟩
            · apply K.Ev.succ
              simp only [spec_l9Drops.l0, if_pos (show (i : Int) < (l.length : Int) by omega), if_pos (show (0 : Int) ≤ (i : Int) by omega), hr, spec_l9Seed.f, inRd, Option.bind_some, decide_eq_true h, if_true, if_pos (show (0 : Int) < (l.length : Int) by omega), if_pos h1, if_pos h2]
              exact Ev.now _
            · rw [decide_eq_false (show ¬ l[i].f1.size ≤ 40 by omega)]; simp
          · refine ⟨b, ?_, ?_⟩
            · apply K.Ev.succ
              simp only [spec_l9Drops.l0, if_pos (show (i : Int) < (l.length : Int) by omega), if_pos (show (0 : Int) ≤ (i : Int) by omega), hr, spec_l9Seed.f, inRd, Option.bind_some, decide_eq_true h, if_true, if_pos (show (0 : Int) < (l.length : Int) by omega), if_pos h1, if_neg h2, K.w64s i (show i < 9223372036854775807 by omega)]
              exact e1
            · rw [decide_eq_true h, decide_eq_true (show l[i].f1.size ≤ 40 by omega), decide_eq_true (show l[i].f1.size = (rd_T54 l 0).f1.size by omega), e2]; simp
        · refine ⟨false, ?_, ?_⟩
          · apply K.Ev.succ
            simp only [spec_l9Drops.l0, if_pos (show (i : Int) < (l.length : Int) by omega), if_pos (show (0 : Int) ≤ (i : Int) by omega), hr, spec_l9Seed.f, inRd, Option.bind_some, decide_eq_true h, if_true, if_pos (show (0 : Int) < (l.length : Int) by omega), if_neg h1]
            exact Ev.now _
          · rw [decide_eq_false (show ¬ l[i].f1.size = (rd_T54 l 0).f1.size by omega)]; simp
      · refine ⟨false, ?_, ?_⟩
        · apply K.Ev.succ
          simp only [spec_l9Drops.l0, if_pos (show (i : Int) < (l.length : Int) by omega), if_pos (show (0 : Int) ≤ (i : Int) by omega), hr, spec_l9Seed.f, inRd, Option.bind_some, decide_eq_false h, Bool.false_eq_true, if_false]
          exact Ev.now _
        · rw [decide_eq_false h]; simp
  simp only [spec_l9Drops.f]
  obtain ⟨b, e1, e2⟩ := key l.length 0 (by omega)
  rw [List.drop_zero] at e2
  subst e2
  exact e1

theorem contains_int_ev (l : List Int) (x : Int) (hl : l.length ≤ 140737488355328) : Ev (fun k => slices_Contains_int_int.f k l x) (decide (x ∈ l)) := by
  have key : ∀ (d n : Nat), n + d = l.length → (∀ j, j < n → l[j]? ≠ some x) → ∃ r : Int, Ev (fun k => slices_Index_int_int.l0 k l x (l.length : Int) (n : Int)) r ∧ (r ≥ 0 ↔ x ∈ l) := by
    intro d
    induction d with
    | zero =>
      intro n h1 h2
      refine ⟨-1, ?_, ?_⟩
      · apply K.Ev.succ
        simp only [slices_Index_int_int.l0, if_neg (show ¬ ((n : Int) < (l.length : Int)) by omega)]
        exact Ev.now _
      · refine ⟨fun h => by omega, fun h => ?_⟩
        obtain ⟨j, hj⟩ := List.getElem?_of_mem h
        exact absurd hj (h2 j (by have := (List.getElem?_eq_some_iff.1 hj).1; omega))
    | succ d ih =>
      intro n h1 h2
      have hn : n < l.length := by omega
      by_cases hc : x = l[n]
      · refine ⟨(n : Int), ?_, fun _ => hc ▸ List.getElem_mem hn, fun _ => by omega⟩
        apply K.Ev.succ
        simp only [slices_Index_int_int.l0, if_pos (show (n : Int) < (l.length : Int) by omega), if_pos (show (0 : Int) ≤ (n : Int) by omega), K.rd_nat hn, if_pos hc]
        exact Ev.now _
      · obtain ⟨r, e1, e2⟩ := ih (n + 1) (by omega) (fun j hj => by
          rcases Nat.lt_or_ge j n with q | q
          · exact h2 j q
          · obtain rfl : j = n := by omega
            rw [List.getElem?_eq_getElem hn]; simpa using fun h => hc h.symm)
        refine ⟨r, ?_, e2⟩
        apply K.Ev.succ
        simp only [slices_Index_int_int.l0, if_pos (show (n : Int) < (l.length : Int) by omega), if_pos (show (0 : Int) ≤ (n : Int) by omega), K.rd_nat hn, if_neg hc, K.w64s n (show n < 9223372036854775807 by omega)]
        exact e1
  obtain ⟨r, e1, e2⟩ := key l.length 0 (by omega) (fun j hj => by omega)
  simp only [slices_Contains_int_int.f, slices_Index_int_int.f]
  refine Ev.bind e1 ?_
  rw [decide_eq_decide.mpr e2]
  exact Ev.now _

theorem nxS_eq (s : Int) (h0 : 0 ≤ s) (h1 : s ≤ 100000) : nxS s = (75 * s + 74) % 65537 := by
  unfold nxS
  rw [K.w64 (x := 75 * s) (by omega) (by omega), K.w64 (by omega) (by omega), Int.tmod_eq_emod_of_nonneg (by omega)]
theorem nxS_rng (s : Int) (h0 : 0 ≤ s) (h1 : s ≤ 100000) : 0 ≤ nxS s ∧ nxS s ≤ 65536 := by
  rw [nxS_eq s h0 h1]; omega
theorem tmod_rng (s : Int) (n : Nat) (h0 : 0 ≤ s) (hn : 0 < n) : ∃ j : Nat, Int.tmod s (n : Int) = (j : Int) ∧ j < n := by
  obtain ⟨a, rfl⟩ := Int.eq_ofNat_of_zero_le h0
  refine ⟨a % n, ?_, Nat.mod_lt _ hn⟩
  rw [Int.tmod_eq_emod_of_nonneg (by omega)]; omega
/-- What the two choices of blocks hold alike. -/
structure Same (n : Nat) (out : List Int) (inn : List Bool) : Prop where
  len : inn.length = n
  nodup : out.Nodup
  mem : ∀ j : Nat, (j : Int) ∈ out ↔ inn[j]? = some true
  rng : ∀ x ∈ out, ∃ j : Nat, x = (j : Int) ∧ j < n
/-- Valid shares. -/
structure GoodShares (m : List (Nat × Nat)) : Prop where
  len : m.length ≤ 20
  nz : ∀ p ∈ m, p.1 ≠ 0
  up : (m.map Prod.fst).Pairwise (· < ·)
theorem GoodShares.nodup {m : List (Nat × Nat)} (h : GoodShares m) : (m.map Prod.fst).Nodup := h.up.imp (fun h e => by omega)

theorem Same.add {n : Nat} {out : List Int} {inn : List Bool} (h : Same n out inn) (j : Nat) (hj : j < n) (hn : ¬ (j : Int) ∈ out) : Same n (out ++ [(j : Int)]) (inn.set j true) := by
  refine ⟨by simpa using h.len, ?_, ?_, ?_⟩
  · rw [List.nodup_append]
    refine ⟨h.nodup, by simp, ?_⟩
    intro a ha b hb e
    rw [List.mem_singleton] at hb
    subst hb; subst e
    exact hn ha
  · intro i
    rw [List.mem_append, List.mem_singleton, List.getElem?_set]
    by_cases e : j = i
    · subst e
      simp [h.len, hj]
    · simp only [e, if_false]
      rw [← h.mem i]
      constructor
      · rintro (h | h)
        · exact h
        · omega
      · exact .inl
  · intro x hx
    rcases List.mem_append.mp hx with hx | hx
    · exact h.rng x hx
    · exact ⟨j, List.mem_singleton.mp hx, hj⟩
theorem Same.end_ {n : Nat} {out : List Int} {inn : List Bool} (h : Same n out inn) : sortI out = K.trues 0 inn := by
  refine K.sort_unique h.nodup (K.trues_sorted inn 0) (fun x => ?_)
  rw [K.trues_mem]
  constructor
  · intro hx
    obtain ⟨j, rfl, hj⟩ := h.rng x hx
    exact ⟨j, by omega, (h.mem j).mp hx⟩
  · rintro ⟨j, rfl, hj⟩
    rw [Nat.zero_add]
    exact (h.mem j).mpr hj
theorem blocks_loop (n : Nat) (hn : 0 < n) (hn2 : n ≤ 12) (c : Nat) (hc : 1 ≤ c) (hc4 : c ≤ 4) : ∀ (d u : Nat) (s : Int) (out : List Int) (inn : List Bool), u + d = 200 → 0 ≤ s → s ≤ 100000 → Same n out inn → out.length ≤ c → (out ≠ [] ∨ 0 < d) →
    ∃ out' inn', Same n out' inn' ∧ out'.length ≤ c ∧ out' ≠ [] ∧ Ev (fun k => impl_blocksOf.l0 k (n : Int) s out (c : Int) (u : Int)) out' ∧ ∀ R, Ev (fun k => spec_l9Blocks.l1 k ([] : List Int) inn' (inn'.length : Int) 0) R → Ev (fun k => spec_l9Blocks.l0 k (n : Int) s (c : Int) inn (out.length : Int) (u : Int)) R := by
  intro d
  induction d with
  | zero =>
    intro u s out inn hu h0 h1 hS hle hne
    obtain rfl : u = 200 := by omega
    refine ⟨out, inn, hS, hle, by rcases hne with h | h; exact h; omega, ?_, fun R hR => ?_⟩
    · apply K.Ev.succ
      simp only [impl_blocksOf.l0, if_neg (show ¬ (((200 : Nat) : Int) < 200) by omega)]
      apply K.Ev.succ
      simp only [impl_blocksOf.j1, Bool.false_eq_true, if_false]
      exact Ev.now _
    · apply K.Ev.succ
      simp only [spec_l9Blocks.l0, if_neg (show ¬ (((200 : Nat) : Int) < 200) by omega)]
      apply K.Ev.succ
      simp only [spec_l9Blocks.j2, Bool.false_eq_true, if_false]
      exact hR
  | succ d ih =>
    intro u s out inn hu h0 h1 hS hle hne
    have hu2 : (u : Int) < 200 := by omega
    by_cases hlt : out.length < c
    · obtain ⟨p0, p1⟩ := nxS_rng s h0 h1
      obtain ⟨j, hj, hjn⟩ := tmod_rng (nxS s) n p0 hn
      have hz : ¬ (n : Int) = 0 := by omega
      have hjl : j < inn.length := by rw [hS.len]; exact hjn
      have hw := K.Eqn.mk (K.w64s u (by omega))
      have hwl := K.Eqn.mk (K.w64s out.length (by omega))
      have hd : decide ((out.length : Int) < (c : Int)) = true := decide_eq_true (by omega)
      have hnx : spec_l9Next.f s = some (nxS s) := rfl
      have hrd : rdOf false inn (j : Int) = inn[j] := by simp [rdOf, hjl]
      have ho : out.length ≤ 140737488355328 := by omega
      by_cases hin : (j : Int) ∈ out
      · obtain ⟨out', inn', q1, q2, q3, q4, q5⟩ := ih (u + 1) (nxS s) out inn (by omega) p0 (by omega) hS hle (by left; intro e; rw [e] at hin; simp at hin)
        refine ⟨out', inn', q1, q2, q3, ?_, fun R hR => ?_⟩
        · apply K.Ev.succ
          simp only [impl_blocksOf.l0, if_pos hu2, hd]
          apply K.Ev.succ
          simp only [impl_blocksOf.j1, if_true, if_neg hz, hj]
          refine Ev.bind (contains_int_ev out (j : Int) ho) ?_
          simp only [decide_eq_true hin, if_true, hw.out]
          exact q4
        · apply K.Ev.succ
          simp only [spec_l9Blocks.l0, if_pos hu2, hd]
          apply K.Ev.succ
          have ht : inn[j] = true := by
            have := (hS.mem j).mp hin
            rw [List.getElem?_eq_getElem hjl] at this
            exact Option.some.inj this
          simp only [spec_l9Blocks.j2, if_true, hnx, Option.bind_some, if_neg hz, hj, if_pos (show (0 : Int) ≤ (j : Int) by omega), if_pos (show (j : Int) < (inn.length : Int) by omega), hrd, ht, hw.out]
          exact q5 R hR
      · have hS' := hS.add j hjn hin
        obtain ⟨out', inn', q1, q2, q3, q4, q5⟩ := ih (u + 1) (nxS s) (out ++ [(j : Int)]) (inn.set j true) (by omega) p0 (by omega) hS' (by simp; omega) (by left; simp)
        refine ⟨out', inn', q1, q2, q3, ?_, fun R hR => ?_⟩
        · apply K.Ev.succ
          simp only [impl_blocksOf.l0, if_pos hu2, hd]
          apply K.Ev.succ
          simp only [impl_blocksOf.j1, if_true, if_neg hz, hj]
          refine Ev.bind (contains_int_ev out (j : Int) ho) ?_
          simp only [decide_eq_false hin, Bool.false_eq_true, if_false, if_pos (show out.length < 17592186044416 by omega), hw.out]
          exact q4
        · apply K.Ev.succ
          simp only [spec_l9Blocks.l0, if_pos hu2, hd]
          apply K.Ev.succ
          have ht : inn[j] = false := by
            cases e : inn[j] with
            | false => rfl
            | true => exact absurd ((hS.mem j).mpr (by rw [List.getElem?_eq_getElem hjl, e])) hin
          simp only [spec_l9Blocks.j2, if_true, hnx, Option.bind_some, if_neg hz, hj, if_pos (show (0 : Int) ≤ (j : Int) by omega), if_pos (show (j : Int) < (inn.length : Int) by omega), hrd, ht, Bool.false_eq_true, if_false, Int.toNat_natCast, hw.out, hwl.out]
          have := q5 R hR
          rw [List.length_append, List.length_singleton] at this
          exact this
    · have hd : decide ((out.length : Int) < (c : Int)) = false := decide_eq_false (by omega)
      refine ⟨out, inn, hS, hle, by intro e; rw [e] at hlt; simp at hlt; omega, ?_, fun R hR => ?_⟩
      · apply K.Ev.succ
        simp only [impl_blocksOf.l0, if_pos hu2, hd]
        apply K.Ev.succ
        simp only [impl_blocksOf.j1, Bool.false_eq_true, if_false]
        exact Ev.now _
      · apply K.Ev.succ
        simp only [spec_l9Blocks.l0, if_pos hu2, hd]
        apply K.Ev.succ
        simp only [spec_l9Blocks.j2, Bool.false_eq_true, if_false]
        exact hR
/-- The blocks of a drop: the program's are the reference's; they are places in the list, increasing, and one to four. -/
theorem blocks_same (a : Int) (n : Nat) (h0 : 0 ≤ a) (h1 : a ≤ 100000) (hn : 1 ≤ n) (hn2 : n ≤ 12) : ∃ L : List Int, Ev (fun k => spec_l9Blocks.f k a (n : Int)) L ∧ Ev (fun k => impl_blocksOf.f k a (n : Int)) L ∧ (∀ x ∈ L, ∃ j : Nat, x = (j : Int) ∧ j < n) ∧ L.Pairwise (· < ·) ∧ 1 ≤ L.length ∧ L.length ≤ 4 := by
  obtain ⟨p0, p1⟩ := nxS_rng a h0 h1
  obtain ⟨m, hm, hm4⟩ := tmod_rng (nxS a) 4 p0 (by omega)
  have hwm : K.Eqn (wrap64 (Int.tmod (nxS a) 4 + 1)) ((m + 1 : Nat) : Int) := ⟨by
    rw [show (4 : Int) = ((4 : Nat) : Int) from rfl, hm]; exact K.w64s m (by omega)⟩
  have hS : Same n ([] : List Int) (List.replicate n false) := ⟨by simp, by simp, fun j => by simp [List.getElem?_replicate], by simp⟩
  have hmn : mn (n : Int) ((m + 1 : Nat) : Int) = ((min n (m + 1) : Nat) : Int) := by
    unfold mn
    split <;> omega
  have hnx : spec_l9Next.f a = some (nxS a) := rfl
  obtain ⟨out, inn, q1, q2, q3, q4, q5⟩ := blocks_loop n hn hn2 (min n (m + 1)) (by omega) (by omega) 200 0 (nxS a) [] (List.replicate n false) (by omega) p0 (by omega) hS (by simp) (.inr (by omega))
  have hL := q1.end_
  have hlen : (sortI out).length = out.length := List.length_mergeSort _
  have hpos : 0 < out.length := List.length_pos_iff.mpr q3
  refine ⟨sortI out, ?_, ?_, ?_, ?_, by omega, by omega⟩
  · have e := q5 _ (l9Collect inn (by rw [q1.len]; omega))
    rw [← hL] at e
    have e2 : Ev (fun k => spec_l9Blocks.j0 k (n : Int) (nxS a) ((min n (m + 1) : Nat) : Int)) (sortI out) := by
      apply K.Ev.succ
      simp only [spec_l9Blocks.j0, if_pos (show (0 : Int) ≤ (n : Int) by omega), Int.toNat_natCast, if_pos (show n ≤ 281474976710656 by omega)]
      exact e
    simp only [spec_l9Blocks.f, hnx, Option.bind_some, hwm.out]
    by_cases h : ((m + 1 : Nat) : Int) > (n : Int)
    · simp only [if_pos h]
      rw [show min n (m + 1) = n by omega] at e2
      exact e2
    · simp only [if_neg h]
      rw [show min n (m + 1) = m + 1 by omega] at e2
      exact e2
  · simp only [impl_blocksOf.f, impl_blocksOf.f0, hwm.out, hmn]
    refine Ev.bind q4 ?_
    simp only [if_pos hpos, if_pos (show out.length ≤ 17592186044416 by omega)]
    exact Ev.now _
  · intro x hx
    exact q1.rng x ((List.mergeSort_perm out _).mem_iff.mp hx)
  · rw [hL]; exact K.trues_sorted inn 0

theorem sumOf_ev (x y : ByteArray) (h : x.size = y.size) (hx : x.size ≤ 1048576) : Ev (fun k => impl_sumOf.f k x y) (xorT x y) := by
  have hbx := bytesOf_length x
  have hby := bytesOf_length y
  have key : ∀ (d i : Nat) (acc : List Int), i + d = x.size → acc = (List.zipWith (fun a b => Go.bits .xor .u8 a b) (bytesOf x) (bytesOf y)).take i → Ev (fun k => impl_added.l0 k (bytesOf y) acc (bytesOf x) ((bytesOf x).length : Int) (i : Int)) (List.zipWith (fun a b => Go.bits .xor .u8 a b) (bytesOf x) (bytesOf y)) := by
    intro d
    induction d with
    | zero =>
      intro i acc hi ha
      rw [List.take_of_length_le (by rw [List.length_zipWith]; omega)] at ha
      subst ha
      apply K.Ev.succ
      simp only [impl_added.l0, if_neg (show ¬ ((i : Int) < ((bytesOf x).length : Int)) by omega)]
      exact Ev.now _
    | succ d ih =>
      intro i acc hi ha
      have hal : acc.length ≤ i := by rw [ha, List.length_take]; omega
      apply K.Ev.succ
      simp only [impl_added.l0, if_pos (show (i : Int) < ((bytesOf x).length : Int) by omega), if_pos (show (0 : Int) ≤ (i : Int) by omega), if_pos (show (i : Int) < ((bytesOf y).length : Int) by omega), if_pos (show acc.length < 140737488355328 by omega), K.w64s i (by omega)]
      refine ih (i + 1) _ (by omega) ?_
      rw [K.rd_nat (show i < (bytesOf x).length by omega), K.rd_nat (show i < (bytesOf y).length by omega), K.take_succ' _ i (by rw [List.length_zipWith]; omega), ha, List.getElem_zipWith]
  unfold impl_sumOf.f conv_bytes.f
  simp only [if_pos (show x.size ≤ 9223372036854775807 by omega), if_pos (show y.size ≤ 9223372036854775807 by omega), Option.bind_some, impl_added.f]
  exact Ev.bind (key x.size 0 [] (by omega) (by simp)) (Ev.now _)

theorem dropLoop_ev (l : List ByteArray) (hW : Whole l) (L : List Int) (hL : ∀ x ∈ L, ∃ j : Nat, x = (j : Int) ∧ j < l.length) (hlen : L.length ≤ 4) :
    ∀ (d i : Nat) (acc : ByteArray), i + d = L.length → acc.size = (rdOf ByteArray.empty l 0).size → Ev (fun k => impl_dropOf.l0 k l acc L (L.length : Int) (i : Int)) (dropT l (L.drop i) acc) := by
  intro d
  induction d with
  | zero =>
    intro i acc hi ha
    apply K.Ev.succ
    simp only [impl_dropOf.l0, if_neg (show ¬ ((i : Int) < (L.length : Int)) by omega)]
    rw [List.drop_of_length_le (by omega)]
    exact Ev.now _
  | succ d ih =>
    intro i acc hi ha
    have hiL : i < L.length := by omega
    obtain ⟨j, hj, hjl⟩ := hL L[i] (List.getElem_mem hiL)
    have hr : rd L (i : Int) = (j : Int) := by rw [K.rd_nat hiL, hj]
    have hs := hW.same j hjl
    have h40 := hW.small
    apply K.Ev.succ
    simp only [impl_dropOf.l0, if_pos (show (i : Int) < (L.length : Int) by omega), if_pos (show (0 : Int) ≤ (i : Int) by omega), hr, if_pos (show (0 : Int) ≤ (j : Int) by omega), if_pos (show (j : Int) < (l.length : Int) by omega)]
    refine Ev.bind (sumOf_ev acc _ (by omega) (by omega)) ?_
    simp only [K.w64s i (show i < 9223372036854775807 by omega)]
    rw [List.drop_eq_getElem_cons hiL, hj]
    exact ih (i + 1) _ (by omega) (by rw [xorT_size _ _ (by omega)]; exact ha)
theorem dropOf_ev (l : List ByteArray) (hW : Whole l) (a : Int) (L : List Int) (hB : Ev (fun k => impl_blocksOf.f k a (l.length : Int)) L) (hL : ∀ x ∈ L, ∃ j : Nat, x = (j : Int) ∧ j < l.length) (hlen : L.length ≤ 4) :
    Ev (fun k => impl_dropOf.f k l a) (dropT l L (strOfNums (List.replicate (rdOf ByteArray.empty l 0).size 0))) := by
  have h1 := hW.pos
  have h40 := hW.small
  simp only [impl_dropOf.f, if_pos (show (0 : Int) < (l.length : Int) by omega), if_pos (show (0 : Int) ≤ ((rdOf ByteArray.empty l 0).size : Int) by omega), Int.toNat_natCast, if_pos (show (rdOf ByteArray.empty l 0).size ≤ 281474976710656 by omega)]
  refine Ev.bind hB ?_
  exact dropLoop_ev l hW L hL hlen L.length 0 _ (by omega) (by rw [strOfNums_size, List.length_replicate])

theorem good_ev (l : List ByteArray) (hl : l.length ≤ 1048576) (hs : ∀ s ∈ l, s.size ≤ 1048576) : Ev (fun k => spec_l9Good.f k l) (decide (1 ≤ (l.length : Int) ∧ (l.length : Int) ≤ 12) && evenB l) := by
  simp only [spec_l9Good.f, inRd, Option.bind_some]
  by_cases h : 1 ≤ (l.length : Int) ∧ (l.length : Int) ≤ 12
  · simp only [decide_eq_true h, if_true, Bool.true_and]
    exact Ev.bind (l3Texts_ev l hl hs) (Ev.now _)
  · simp only [decide_eq_false h, Bool.false_eq_true, if_false, Bool.false_and]
    exact Ev.now _
theorem isWhole_eq (l : List ByteArray) : impl_isWhole.f l = some (decide (1 ≤ (l.length : Int) ∧ (l.length : Int) ≤ 12) && evenB l) := by
  unfold impl_isWhole.f impl_areBlocks.f
  rw [inId, Option.bind_some, Option.bind_some, areEqual_eq, Option.bind_some]
  by_cases h : 1 ≤ (l.length : Int) ∧ (l.length : Int) ≤ 12
  · rw [decide_eq_true h, if_pos rfl, Bool.true_and]
  · rw [decide_eq_false h, if_neg (by decide), Bool.false_and]
theorem isDrop_same (a : Int) (s : ByteArray) (l : List ByteArray) (hl : l.length ≤ 1048576) (hs : ∀ s ∈ l, s.size ≤ 1048576) : ∃ r : Bool × Bool, Ev (fun k => spec_IsDrop.f k a s l) r ∧ Ev (fun k => impl_IsDrop.f k a s l) r := by
  have hg := good_ev l hl hs
  have hd1 := l9Drops_ev [(⟨a, s⟩ : S54)] (by simp)
  have hd2 := areDrops_ev [(⟨a, s⟩ : S54)] (by simp)
  by_cases hw : (decide (1 ≤ (l.length : Int) ∧ (l.length : Int) ≤ 12) && evenB l) = true
  · rw [hw] at hg
    by_cases hd : dropsB [(⟨a, s⟩ : S54)] = true
    · rw [hd] at hd1 hd2
      have ha : 0 ≤ a ∧ a ≤ 100000 := by
        unfold dropsB at hd
        rw [Bool.and_eq_true, List.all_eq_true] at hd
        have := hd.1 _ List.mem_cons_self
        simpa using this
      have hw2 := hw
      rw [Bool.and_eq_true, decide_eq_true_iff] at hw2
      have hW := whole_of l hw2.2 (by omega) (by omega)
      obtain ⟨L, b1, b2, b3, _, _, b6⟩ := blocks_same a l.length ha.1 ha.2 (by omega) (by omega)
      refine ⟨((dropT l L (strOfNums (List.replicate (rdOf ByteArray.empty l 0).size 0))).toList == s.toList, true), ?_, ?_⟩
      · simp only [spec_IsDrop.f]
        refine Ev.bind hg ?_
        simp only [if_true]
        refine Ev.bind hd1 ?_
        simp only [if_true]
        have hm : Ev (fun k => spec_MakeDrop.f k l a) (a, dropT l L (strOfNums (List.replicate (rdOf ByteArray.empty l 0).size 0)), true) := by
          simp only [spec_MakeDrop.f, spec_l9Seed.f, inRd, decide_eq_true ha, Option.bind_some, Bool.not_true]
          refine Ev.bind hg ?_
          simp only [if_true]
          apply K.Ev.succ
          simp only [spec_MakeDrop.j0, Bool.false_eq_true, if_false]
          refine Ev.bind b1 ?_
          exact Ev.bind (l9Sum_ev l hW L b3 b6) (Ev.now _)
        exact Ev.bind hm (Ev.now _)
      · simp only [impl_IsDrop.f]
        refine Ev.bind hd2 ?_
        simp only [if_true, isWhole_eq, hw, Option.bind_some]
        refine Ev.bind (dropOf_ev l hW a L b2 b3 b6) ?_
        rw [Bool.beq_comm]
        exact Ev.now _
    · rw [Bool.not_eq_true] at hd
      rw [hd] at hd1 hd2
      refine ⟨(false, false), ?_, ?_⟩
      · simp only [spec_IsDrop.f]
        refine Ev.bind hg ?_
        simp only [if_true]
        refine Ev.bind hd1 ?_
        simp only [Bool.false_eq_true, if_false]
        exact Ev.now _
      · simp only [impl_IsDrop.f]
        refine Ev.bind hd2 ?_
        simp only [Bool.false_eq_true, if_false]
        exact Ev.now _
  · rw [Bool.not_eq_true] at hw
    rw [hw] at hg
    refine ⟨(false, false), ?_, ?_⟩
    · simp only [spec_IsDrop.f]
      refine Ev.bind hg ?_
      simp only [Bool.false_eq_true, if_false]
      exact Ev.now _
    · simp only [impl_IsDrop.f]
      refine Ev.bind hd2 ?_
      simp only [isWhole_eq, hw, Option.bind_some]
      cases dropsB [(⟨a, s⟩ : S54)] <;> simp only [Bool.false_eq_true, if_false, if_true] <;> exact Ev.now _
theorem FnExactIsDrop : ∀ (a : Int) (s : ByteArray) (l : List ByteArray), (Lit.int .i64 a).wf = true → s.size ≤ maxLen → l.length ≤ maxLen → (∀ s ∈ l, s.size ≤ maxLen) → ∃ k, laws_FnExactIsDrop.f k a s l = some true := by
  intro a s l _ hsz hl hs
  refine Ev.rounds (?_ : Ev (fun k => laws_FnExactIsDrop.f k a s l) true)
  have hsz' : s.size ≤ 9223372036854775807 := hsz
  have hw : wrap64 (1048576 - (s.size : Int)) = 1048576 - (s.size : Int) := K.w64 (by omega) (by omega)
  simp only [laws_FnExactIsDrop.f, laws_szDrop.f, hw]
  by_cases hb : 1048576 - (s.size : Int) < 0
  · simp only [if_pos hb, Option.bind_some, if_pos (show (-1 : Int) < 0 by decide)]
    exact Ev.now _
  · simp only [if_neg hb, Option.bind_some]
    obtain ⟨c, c1, c2⟩ := laws_szStringS_ev l hl hs (1048576 - (s.size : Int)) (by omega) (by omega)
    refine Ev.bind c1 ?_
    by_cases hc : c < 0
    · simp only [if_pos hc]; exact Ev.now _
    · simp only [if_neg hc, laws_toDrop.f, Option.bind_some]
      obtain ⟨q1, q2⟩ := c2 (by omega)
      have ht := laws_toStringS_ev l (by omega)
      obtain ⟨r, e1, e2⟩ := isDrop_same a s l (by omega) q2
      refine Ev.bind ht ?_
      refine Ev.bind e1 ?_
      refine Ev.bind ht ?_
      refine Ev.bind e2 ?_
      simp only [bne_self_eq_false, Bool.false_eq_true, if_false]
      apply K.Ev.succ
      simp only [laws_FnExactIsDrop.j0, Bool.false_eq_true, if_false]
      refine Ev.bind ht ?_
      refine Ev.bind (laws_eqStringS_self l (by omega)) ?_
      simp only [if_true]
      exact Ev.now _

end Go.Proofs.Ytimajkahadhhhaa.Pure
