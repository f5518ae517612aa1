/- Strings of bits, how many places two strings differ in; plain Lean. -/
import Derived.Test.YtaofmiigbhfnbaaDoorKKit
set_option linter.unusedVariables false
set_option linter.unusedSimpArgs false
namespace Go.Proofs.YtaofmiigbhfnbaaDoor.K
open Go Go.RowKit Go.Proofs.YtaofmiigbhfnbaaDoorW.PrintWords

/-- In how many places two lists differ. -/
def ham : List Int → List Int → Nat
  | x :: a, y :: b => (if x = y then 0 else 1) + ham a b
  | _, _ => 0
theorem ham_le : ∀ (a b : List Int), ham a b ≤ a.length
  | [], _ => by simp [ham]
  | _ :: _, [] => by simp [ham]
  | x :: a, y :: b => by
    have := ham_le a b
    simp only [ham, List.length_cons]
    split <;> omega
theorem ham_append : ∀ (a b c d : List Int), a.length = b.length → ham (a ++ c) (b ++ d) = ham a b + ham c d
  | [], [], c, d, _ => by simp [ham]
  | x :: a, y :: b, c, d, h => by
    have := ham_append a b c d (by simpa using h)
    simp only [List.cons_append, ham, this]
    omega
  | [], y :: b, _, _, h => by simp at h
  | x :: a, [], _, _, h => by simp at h
/-- Whether a string is one of the digits 0 and 1. -/
def bitsB (s : ByteArray) : Bool := (bytesOf s).all (fun x => x == 48 || x == 49)
theorem bytesOf_get (s : ByteArray) (n : Nat) (h : n < s.size) : bt s (n : Int) = (bytesOf s)[n]'(by rw [bytesOf_length]; exact h) := by
  rw [bt_bytes, List.getD_eq_getElem?_getD, List.getElem?_eq_getElem (by rw [bytesOf_length]; exact h), Option.getD_some]
theorem drop_bytes (s : ByteArray) (n : Nat) (h : n < s.size) : (bytesOf s).drop n = bt s (n : Int) :: (bytesOf s).drop (n + 1) := by
  rw [bytesOf_get s n h]
  exact List.drop_eq_getElem_cons _
/-! ### The code -/
/-- The three digits for a state and a bit; the next state. -/
def outB (s b : Nat) : List Int := [48 + ((b + s / 2 + s % 2) % 2 : Nat), 48 + ((b + s % 2) % 2 : Nat), 48 + ((b + s / 2) % 2 : Nat)]
def nextS (s b : Nat) : Nat := 2 * b + s / 2
def encL : Nat → List Nat → List Int
  | _, [] => []
  | s, b :: l => outB s b ++ encL (nextS s b) l
def endS : Nat → List Nat → Nat
  | s, [] => s
  | s, b :: l => endS (nextS s b) l
/-- Bits as digits. -/
def digs (l : List Nat) : List Int := l.map (fun b => ((48 + b : Nat) : Int))
def Bits (l : List Nat) : Prop := ∀ b ∈ l, b < 2
theorem nextS_lt {s b : Nat} (hs : s < 4) (hb : b < 2) : nextS s b < 4 := by unfold nextS; omega
theorem outB_length (s b : Nat) : (outB s b).length = 3 := rfl
theorem encL_length : ∀ (l : List Nat) (s : Nat), (encL s l).length = 3 * l.length
  | [], _ => rfl
  | b :: l, s => by simp only [encL, List.length_append, outB_length, encL_length l, List.length_cons]; omega
theorem encL_append : ∀ (l m : List Nat) (s : Nat), encL s (l ++ m) = encL s l ++ encL (endS s l) m
  | [], _, _ => rfl
  | b :: l, m, s => by simp only [List.cons_append, encL, endS, encL_append l m, List.append_assoc]
theorem endS_append : ∀ (l m : List Nat) (s : Nat), endS s (l ++ m) = endS (endS s l) m
  | [], _, _ => rfl
  | b :: l, m, s => by simp only [List.cons_append, endS, endS_append l m]
theorem endS_lt : ∀ (l : List Nat) (s : Nat), s < 4 → Bits l → endS s l < 4
  | [], _, h, _ => h
  | b :: l, s, h, hb => endS_lt l _ (nextS_lt h (hb b (by simp))) (fun x hx => hb x (by simp [hx]))
theorem outB_rng (s b : Nat) : ∀ x ∈ outB s b, 48 ≤ x ∧ x ≤ 49 := by
  intro x hx
  simp only [outB, List.mem_cons, List.not_mem_nil, or_false] at hx
  omega
theorem encL_rng : ∀ (l : List Nat) (s : Nat), ∀ x ∈ encL s l, 48 ≤ x ∧ x ≤ 49
  | [], _, x, hx => by simp [encL] at hx
  | b :: l, s, x, hx => by
    rcases List.mem_append.1 hx with h | h
    · exact outB_rng s b x h
    · exact encL_rng l _ x h
theorem bits_of {s : ByteArray} (h : bitsB s = true) : ∃ l : List Nat, bytesOf s = digs l ∧ Bits l ∧ l.length = s.size := by
  have hx : ∀ x ∈ bytesOf s, x = 48 ∨ x = 49 := by
    intro x hx
    have := List.all_eq_true.1 h x hx
    simpa using this
  refine ⟨(bytesOf s).map (fun x => (x - 48).toNat), ?_, ?_, by rw [List.length_map, bytesOf_length]⟩
  · simp only [digs, List.map_map]
    rw [List.map_congr_left (g := fun x => x), List.map_id']
    intro x h
    have := hx x h
    simp only [Function.comp_apply]; omega
  · intro b hb
    obtain ⟨x, h, rfl⟩ := List.mem_map.1 hb
    have := hx x h
    omega
theorem two_zeros : bytesOf (⟨#[48, 48]⟩ : ByteArray) = digs [0, 0] := by decide +kernel
theorem digs_length (l : List Nat) : (digs l).length = l.length := by simp [digs]
theorem digs_append (l m : List Nat) : digs (l ++ m) = digs l ++ digs m := by simp [digs]
theorem strOf_append (a b : List Int) : strOfNums (a ++ b) = strOfNums a ++ strOfNums b := by
  apply ByteArray.ext
  simp [strOfNums, ByteArray.data_append]
theorem bytesOf_append (a b : ByteArray) : bytesOf (a ++ b) = bytesOf a ++ bytesOf b := by
  simp [bytesOf, ByteArray.data_append]
theorem digs_rng {l : List Nat} (h : Bits l) : ∀ x ∈ digs l, 0 ≤ x ∧ x ≤ 255 := by
  intro x hx
  obtain ⟨b, hb, rfl⟩ := List.mem_map.1 hx
  have := h b hb
  omega
theorem bytes_digs {l : List Nat} (h : Bits l) : bytesOf (strOfNums (digs l)) = digs l := bytesOf_strOf _ (digs_rng h)
theorem str_of_bytes {s : ByteArray} {l : List Int} (h : bytesOf s = l) : s = strOfNums l := by rw [← h, strOf_bytesOf]
theorem bits_digs {l : List Nat} (h : Bits l) : bitsB (strOfNums (digs l)) = true := by
  unfold bitsB
  rw [bytes_digs h, List.all_eq_true]
  intro x hx
  obtain ⟨b, hb, rfl⟩ := List.mem_map.1 hx
  have := h b hb
  have e : b = 0 ∨ b = 1 := by omega
  rcases e with rfl | rfl <;> simp
theorem bits_enc (l : List Nat) (s : Nat) : bitsB (strOfNums (encL s l)) = true := by
  unfold bitsB
  rw [bytesOf_strOf _ (fun x hx => by have := encL_rng l s x hx; omega), List.all_eq_true]
  intro x hx
  have := encL_rng l s x hx
  have e : x = 48 ∨ x = 49 := by omega
  rcases e with rfl | rfl <;> simp
theorem bytes_enc (l : List Nat) (s : Nat) : bytesOf (strOfNums (encL s l)) = encL s l := bytesOf_strOf _ (fun x hx => by have := encL_rng l s x hx; omega)
/-! ### The order of strings of bits -/
def val : List Nat → Nat
  | [] => 0
  | b :: l => b * 2 ^ l.length + val l
theorem Bits.tail {b : Nat} {l : List Nat} (h : Bits (b :: l)) : Bits l := fun x hx => h x (by simp [hx])
theorem Bits.append {l m : List Nat} (h : Bits l) (h2 : Bits m) : Bits (l ++ m) := fun x hx => by
  rcases List.mem_append.1 hx with q | q
  · exact h x q
  · exact h2 x q
theorem Bits.left {l m : List Nat} (h : Bits (l ++ m)) : Bits l := fun x hx => h x (List.mem_append.2 (.inl hx))
theorem val_lt : ∀ (l : List Nat), Bits l → val l < 2 ^ l.length
  | [], _ => by simp [val]
  | b :: l, h => by
    have h1 := val_lt l h.tail
    have hb := h b (by simp)
    have e : 2 ^ (b :: l).length = 2 * 2 ^ l.length := by rw [List.length_cons, Nat.pow_succ, Nat.mul_comm]
    rw [e]
    have hb2 : b = 0 ∨ b = 1 := by omega
    rcases hb2 with rfl | rfl <;> simp only [val] <;> omega
theorem val_append : ∀ (l m : List Nat), val (l ++ m) = val l * 2 ^ m.length + val m
  | [], m => by simp [val]
  | b :: l, m => by
    simp only [List.cons_append, val, val_append l m, List.length_append, Nat.pow_add, Nat.add_mul]
    rw [Nat.mul_assoc, Nat.add_assoc]
theorem val_inj : ∀ (l m : List Nat), Bits l → Bits m → l.length = m.length → val l = val m → l = m
  | [], [], _, _, _, _ => rfl
  | a :: l, b :: m, hl, hm, h, e => by
    have h1 := val_lt l hl.tail
    have h2 := val_lt m hm.tail
    have ha := hl a (by simp)
    have hb := hm b (by simp)
    have hlen : l.length = m.length := by simpa using h
    simp only [val] at e
    rw [hlen] at e h1
    have ha2 : a = 0 ∨ a = 1 := by omega
    have hb2 : b = 0 ∨ b = 1 := by omega
    rcases ha2 with rfl | rfl <;> rcases hb2 with rfl | rfl
    · rw [val_inj l m hl.tail hm.tail hlen (by omega)]
    · omega
    · omega
    · rw [val_inj l m hl.tail hm.tail hlen (by omega)]
  | [], b :: m, _, _, h, _ => by simp at h
  | a :: l, [], _, _, h, _ => by simp at h
/-- A bit's digit. -/
def db (b : Nat) : UInt8 := UInt8.ofNat (48 + b)
theorem digs_bytes (l : List Nat) : (strOfNums (digs l)).toList = l.map db := by
  rw [toList_data, strOfNums_data]
  simp only [digs, List.map_map]
  refine List.map_congr_left fun b _ => ?_
  simp only [Function.comp_apply, Int.toNat_natCast, db]
theorem db_facts (a b : Nat) (ha : a < 2) (hb : b < 2) : decide (db a < db b) = decide (a < b) ∧ (db a == db b) = decide (a = b) := by
  have : ∀ a b : Fin 2, decide (db a.val < db b.val) = decide (a.val < b.val) ∧ (db a.val == db b.val) = decide (a.val = b.val) := by decide +kernel
  exact this ⟨a, ha⟩ ⟨b, hb⟩
theorem less_bits : ∀ (l m : List Nat), Bits l → Bits m → l.length = m.length → Op.bytesLess (l.map db) (m.map db) = decide (val l < val m)
  | [], [], _, _, _ => rfl
  | a :: l, b :: m, hl, hm, h => by
    have ha := hl a (by simp)
    have hb := hm b (by simp)
    have hlen : l.length = m.length := by simpa using h
    have h1 := val_lt l hl.tail
    have h2 := val_lt m hm.tail
    have r := less_bits l m hl.tail hm.tail hlen
    have f := db_facts a b ha hb
    simp only [List.map_cons, Op.bytesLess, f.1, f.2, r]
    rw [Bool.eq_iff_iff]
    simp only [Bool.or_eq_true, Bool.and_eq_true, decide_eq_true_eq]
    show (a < b ∨ a = b ∧ val l < val m) ↔ a * 2 ^ l.length + val l < b * 2 ^ m.length + val m
    rw [hlen] at h1 ⊢
    generalize 2 ^ m.length = q at h1 h2 ⊢
    have ha2 : a = 0 ∨ a = 1 := by omega
    have hb2 : b = 0 ∨ b = 1 := by omega
    rcases ha2 with rfl | rfl <;> rcases hb2 with rfl | rfl <;> omega
  | [], b :: m, _, _, h => by simp at h
  | a :: l, [], _, _, h => by simp at h
/-- In how many places a string's code is unlike a received one. -/
def cost (R : List Int) (l : List Nat) : Nat := ham (encL 0 l) R
theorem ham_take : ∀ (a b : List Int) (n : Nat), a.length ≤ n → ham a (b.take n) = ham a b
  | [], _, _, _ => by simp [ham]
  | x :: a, [], n, _ => by simp [ham]
  | x :: a, y :: b, 0, h => by simp at h
  | x :: a, y :: b, n + 1, h => by
    simp only [List.take_succ_cons, ham, ham_take a b n (by simpa using h)]
theorem ham_split : ∀ (a c b : List Int), a.length ≤ b.length → ham (a ++ c) b = ham a b + ham c (b.drop a.length)
  | [], c, b, _ => by simp [ham]
  | x :: a, c, [], h => by simp at h
  | x :: a, c, y :: b, h => by
    have := ham_split a c b (by simpa using h)
    simp only [List.cons_append, ham, this, List.length_cons, List.drop_succ_cons]
    omega
theorem bytesOf_extract (x : ByteArray) (a b : Nat) : bytesOf (x.extract a b) = ((bytesOf x).take b).drop a := by
  simp [bytesOf, ByteArray.data_extract, List.map_drop, List.map_take, Array.toList_extract, List.extract_eq_take_drop, List.drop_take]
theorem cost_snoc (x : ByteArray) (l : List Nat) (b n : Nat) (hl : l.length = n) (hx : 3 * n + 3 ≤ x.size) : cost (bytesOf x) (l ++ [b]) = cost (bytesOf x) l + ham (outB (endS 0 l) b) (bytesOf (x.extract (3 * n) (3 * n + 3))) := by
  unfold cost
  rw [encL_append, ham_split _ _ _ (by rw [encL_length, bytesOf_length]; omega), encL_length, bytesOf_extract, hl]
  simp only [encL, List.append_nil]
  congr 1
  rw [List.drop_take, show 3 * n + 3 - 3 * n = 3 by omega, ham_take _ _ 3 (by rw [outB_length]; omega)]
theorem val_snoc (l : List Nat) (b : Nat) : val (l ++ [b]) = 2 * val l + b := by
  rw [val_append]; simp [val]; omega
theorem endS_snoc (l : List Nat) (b : Nat) : endS 0 (l ++ [b]) = nextS (endS 0 l) b := by rw [endS_append]; rfl
end Go.Proofs.YtaofmiigbhfnbaaDoor.K
