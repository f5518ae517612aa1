/- Strings of bits, how many places two strings differ in; plain Lean. -/
import Derived.Test.YtaofmiigbhfnbaaDoorKKit
set_option linter.unusedVariables false
set_option linter.unusedSimpArgs false
namespace Go.Proofs.YtaofmiigbhfnbaaDoor.K
open Go Go.RowKit Go.Proofs.YtaofmiigbhfnbaaDoorW.PrintWords

/-- In how many places two lists differ. -/
def ham : List Int → List Int → Nat
  | x :: a, y :: b => (if x = y then 0 else 1) + ham a b
  | _, _ => 0
theorem ham_le : ∀ (a b : List Int), ham a b ≤ a.length
  | [], _ => by simp [ham]
  | _ :: _, [] => by simp [ham]
  | x :: a, y :: b => by
    have := ham_le a b
    simp only [ham, List.length_cons]
    split <;> omega
theorem ham_append : ∀ (a b c d : List Int), a.length = b.length → ham (a ++ c) (b ++ d) = ham a b + ham c d
  | [], [], c, d, _ => by simp [ham]
  | x :: a, y :: b, c, d, h => by
    have := ham_append a b c d (by simpa using h)
    simp only [List.cons_append, ham, this]
    omega
  | [], y :: b, _, _, h => by simp at h
  | x :: a, [], _, _, h => by simp at h
/-- Whether a string is one of the digits 0 and 1. -/
def bitsB (s : ByteArray) : Bool := (bytesOf s).all (fun x => x == 48 || x == 49)
theorem bytesOf_get (s : ByteArray) (n : Nat) (h : n < s.size) : bt s (n : Int) = (bytesOf s)[n]'(by rw [bytesOf_length]; exact h) := by
  rw [bt_bytes, List.getD_eq_getElem?_getD, List.getElem?_eq_getElem (by rw [bytesOf_length]; exact h), Option.getD_some]
theorem drop_bytes (s : ByteArray) (n : Nat) (h : n < s.size) : (bytesOf s).drop n = bt s (n : Int) :: (bytesOf s).drop (n + 1) := by
  rw [bytesOf_get s n h]
  exact List.drop_eq_getElem_cons _
/-! ### The code -/
/-- The three digits for a state and a bit; the next state. -/
def outB (s b : Nat) : List Int := [48 + ((b + s / 2 + s % 2) % 2 : Nat), 48 + ((b + s % 2) % 2 : Nat), 48 + ((b + s / 2) % 2 : Nat)]
def nextS (s b : Nat) : Nat := 2 * b + s / 2
def encL : Nat → List Nat → List Int
  | _, [] => []
  | s, b :: l => outB s b ++ encL (nextS s b) l
def endS : Nat → List Nat → Nat
  | s, [] => s
  | s, b :: l => endS (nextS s b) l
/-- Bits as digits. -/
def digs (l : List Nat) : List Int := l.map (fun b => ((48 + b : Nat) : Int))
def Bits (l : List Nat) : Prop := ∀ b ∈ l, b < 2
theorem nextS_lt {s b : Nat} (hs : s < 4) (hb : b < 2) : nextS s b < 4 := by unfold nextS; omega
theorem outB_length (s b : Nat) : (outB s b).length = 3 := rfl
theorem encL_length : ∀ (l : List Nat) (s : Nat), (encL s l).length = 3 * l.length
  | [], _ => rfl
  | b :: l, s => by simp only [encL, List.length_append, outB_length, encL_length l, List.length_cons]; omega
theorem encL_append : ∀ (l m : List Nat) (s : Nat), encL s (l ++ m) = encL s l ++ encL (endS s l) m
  | [], _, _ => rfl
  | b :: l, m, s => by simp only [List.cons_append, encL, endS, encL_append l m, List.append_assoc]
theorem endS_append : ∀ (l m : List Nat) (s : Nat), endS s (l ++ m) = endS (endS s l) m
  | [], _, _ => rfl
  | b :: l, m, s => by simp only [List.cons_append, endS, endS_append l m]
theorem endS_lt : ∀ (l : List Nat) (s : Nat), s < 4 → Bits l → endS s l < 4
  | [], _, h, _ => h
  | b :: l, s, h, hb => endS_lt l _ (nextS_lt h (hb b (by simp))) (fun x hx => hb x (by simp [hx]))
theorem outB_rng (s b : Nat) : ∀ x ∈ outB s b, 48 ≤ x ∧ x ≤ 49 := by
  intro x hx
  simp only [outB, List.mem_cons, List.not_mem_nil, or_false] at hx
  omega
theorem encL_rng : ∀ (l : List Nat) (s : Nat), ∀ x ∈ encL s l, 48 ≤ x ∧ x ≤ 49
  | [], _, x, hx => by simp [encL] at hx
  | b :: l, s, x, hx => by
    rcases List.mem_append.1 hx with h | h
    · exact outB_rng s b x h
    · exact encL_rng l _ x h
theorem bits_of {s : ByteArray} (h : bitsB s = true) : ∃ l : List Nat, bytesOf s = digs l ∧ Bits l ∧ l.length = s.size := by
  have hx : ∀ x ∈ bytesOf s, x = 48 ∨ x = 49 := by
    intro x hx
    have := List.all_eq_true.1 h x hx
    simpa using this
  refine ⟨(bytesOf s).map (fun x => (x - 48).toNat), ?_, ?_, by rw [List.length_map, bytesOf_length]⟩
  · simp only [digs, List.map_map]
    rw [List.map_congr_left (g := fun x => x), List.map_id']
    intro x h
    have := hx x h
    simp only [Function.comp_apply]; omega
  · intro b hb
    obtain ⟨x, h, rfl⟩ := List.mem_map.1 hb
    have := hx x h
    omega
theorem two_zeros : bytesOf (⟨#[48, 48]⟩ : ByteArray) = digs [0, 0] := by decide +kernel
theorem digs_length (l : List Nat) : (digs l).length = l.length := by simp [digs]
theorem digs_append (l m : List Nat) : digs (l ++ m) = digs l ++ digs m := by simp [digs]
theorem strOf_append (a b : List Int) : strOfNums (a ++ b) = strOfNums a ++ strOfNums b := by
  apply ByteArray.ext
  simp [strOfNums, ByteArray.data_append]
theorem bytesOf_append (a b : ByteArray) : bytesOf (a ++ b) = bytesOf a ++ bytesOf b := by
  simp [bytesOf, ByteArray.data_append]
theorem digs_rng {l : List Nat} (h : Bits l) : ∀ x ∈ digs l, 0 ≤ x ∧ x ≤ 255 := by
  intro x hx
  obtain ⟨b, hb, rfl⟩ := List.mem_map.1 hx
  have := h b hb
  omega
theorem bytes_digs {l : List Nat} (h : Bits l) : bytesOf (strOfNums (digs l)) = digs l := bytesOf_strOf _ (digs_rng h)
theorem str_of_bytes {s : ByteArray} {l : List Int} (h : bytesOf s = l) : s = strOfNums l := by rw [← h, strOf_bytesOf]
theorem bits_digs {l : List Nat} (h : Bits l) : bitsB (strOfNums (digs l)) = true := by
  unfold bitsB
  rw [bytes_digs h, List.all_eq_true]
  intro x hx
  obtain ⟨b, hb, rfl⟩ := List.mem_map.1 hx
  have := h b hb
  have e : b = 0 ∨ b = 1 := by omega
  rcases e with rfl | rfl <;> simp
theorem bits_enc (l : List Nat) (s : Nat) : bitsB (strOfNums (encL s l)) = true := by
  unfold bitsB
  rw [bytesOf_strOf _ (fun x hx => by have := encL_rng l s x hx; omega), List.all_eq_true]
  intro x hx
  have := encL_rng l s x hx
  have e : x = 48 ∨ x = 49 := by omega
  rcases e with rfl | rfl <;> simp
theorem bytes_enc (l : List Nat) (s : Nat) : bytesOf (strOfNums (encL s l)) = encL s l := bytesOf_strOf _ (fun x hx => by have := encL_rng l s x hx; omega)
end Go.Proofs.YtaofmiigbhfnbaaDoor.K
