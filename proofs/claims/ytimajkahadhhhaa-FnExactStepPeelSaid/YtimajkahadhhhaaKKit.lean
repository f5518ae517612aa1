/- Lemmas on wrapped numbers, on lists that are read by an index, and on functions with rounds: plain Lean, with no program in sight. -/
import Derived.Test.YtimajkahadhhhaaWWords
import Derived.Laws.Strings
namespace Go.Proofs.Ytimajkahadhhhaa.K
open Go Go.RowKit Go.Proofs.YtimajkahadhhhaaW.PrintWords

/-! ### Numbers -/
theorem w64 {x : Int} (h0 : -9223372036854775808 ≤ x) (h1 : x < 9223372036854775808) : wrap64 x = x := by unfold wrap64; omega
theorem w64s (n : Nat) (h : n < 9223372036854775807) : wrap64 ((n : Int) + 1) = ((n + 1 : Nat) : Int) := by unfold wrap64; omega
theorem w64p (n : Nat) (h : n < 9223372036854775807) : wrap64 (((n + 1 : Nat) : Int) - 1) = (n : Int) := by unfold wrap64; omega

/-- An equation that omega doesn't look at. -/
structure Eqn (a b : Int) : Prop where mk :: (out : a = b)
theorem b_i64 {n : Int} (h : (Lit.int .i64 n).wf = true) : -9223372036854775808 ≤ n ∧ n ≤ 9223372036854775807 := by
  simp [Lit.wf, IntKind.min, IntKind.max, IntKind.signed, IntKind.bits] at h
  omega
theorem b_u8 {n : Int} (h : (Lit.int .u8 n).wf = true) : 0 ≤ n ∧ n ≤ 255 := by
  simp [Lit.wf, IntKind.min, IntKind.max, IntKind.signed, IntKind.bits] at h
  omega

/-! ### Rounds -/
theorem Ev.succ {α : Type} {g : Nat → Option α} {r : α} (h : Ev (fun k => g (k + 1)) r) : Ev g r := Ev.step (fun _ => rfl) h
theorem Ev.const {α : Type} {o : Option α} {r : α} (h : o = some r) : Ev (fun _ => o) r := ⟨0, fun _ _ => h⟩
theorem Ev.to {α : Type} {g : Nat → Option α} {r s : α} (h : Ev g r) (e : r = s) : Ev g s := e ▸ h

/-! ### Lists -/
theorem rd_nat {xs : List Int} {n : Nat} (h : n < xs.length) : rd xs (n : Int) = xs[n] := by simp [rd, List.getElem?_eq_getElem h]
theorem rd_out {xs : List Int} {n : Nat} (h : xs.length ≤ n) : rd xs (n : Int) = 0 := by simp [rd, List.getElem?_eq_none h]
theorem bt_nat {s : ByteArray} {n : Nat} (h : n < s.size) : bt s (n : Int) = (s[n].toNat : Int) := by simp [bt, h]
theorem bt_bytes (s : ByteArray) (n : Nat) : bt s (n : Int) = (bytesOf s).getD n 0 := by
  have := rd_bytesOf s (n : Int)
  simpa [rd] using this.symm
theorem take_set {α : Type} (x : List α) (n : Nat) (v : α) (h : n < x.length) : (x.set n v).take (n + 1) = x.take n ++ [v] := by
  rw [List.take_succ_eq_append_getElem (by simpa using h)]
  simp [List.take_set_of_le]
theorem take_succ' {α : Type} (l : List α) (n : Nat) (h : n < l.length) : l.take (n + 1) = l.take n ++ [l[n]] := List.take_succ_eq_append_getElem h
theorem strOf_bytesOf (s : ByteArray) : strOfNums (bytesOf s) = s := by
  obtain ⟨⟨l⟩⟩ := s
  simp [strOfNums, bytesOf, Function.comp_def]
theorem toList_data (s : ByteArray) : s.toList = s.data.toList := ByteArray.toList_eq s
theorem toList_nil (s : ByteArray) : s.toList = [] ↔ s.size = 0 := by
  rw [toList_data, ← List.length_eq_zero_iff, data_length]
theorem size1 (x : UInt8) : (⟨#[x]⟩ : ByteArray).size = 1 := rfl
theorem bytesOf_strOf (xs : List Int) (h : ∀ x ∈ xs, 0 ≤ x ∧ x ≤ 255) : bytesOf (strOfNums xs) = xs := by
  simp only [bytesOf, strOfNums_data, List.map_map]
  rw [List.map_congr_left (g := fun x => x), List.map_id']
  intro x hx
  have := h x hx
  simp only [Function.comp_apply]
  rw [UInt8.toNat_ofNat_of_lt' (by show x.toNat < 256; omega)]
  omega
/-! ### The reader of draws -/
theorem u64_and255 (y : Int) : 0 ≤ Go.bits .and .u64 y 255 ∧ Go.bits .and .u64 y 255 ≤ 255 := by
  have h : (BitVec.ofInt 64 y &&& BitVec.ofInt 64 255).toNat ≤ 255 := by
    rw [BitVec.toNat_and]
    exact Nat.le_trans Nat.and_le_right (by decide)
  have e : Go.bits .and .u64 y 255 = ((BitVec.ofInt 64 y &&& BitVec.ofInt 64 255).toNat : Int) := by
    show IntKind.u64.wrap ((BitVec.ofInt 64 y &&& BitVec.ofInt 64 255).toNat : Int) = _
    have : ∀ m : Nat, m ≤ 255 → IntKind.u64.wrap (m : Int) = (m : Int) := by
      intro m hm
      simp [IntKind.wrap, IntKind.bits, IntKind.signed]
      omega
    exact this _ h
  rw [e]
  omega
/-- What a list of draws is: bytes, not too many. -/
structure Code (l : List Int) : Prop where
  len : l.length ≤ 140737488351232
  rng : ∀ x ∈ l, 0 ≤ x ∧ x ≤ 255
theorem Code.rd_rng {l : List Int} (h : Code l) (i : Int) : 0 ≤ rd l i ∧ rd l i ≤ 255 := by
  unfold rd
  rw [List.getD_eq_getElem?_getD]
  cases hx : l[i.toNat]? with
  | none => simp
  | some x => exact h.rng x (List.mem_of_getElem? hx)
end Go.Proofs.Ytimajkahadhhhaa.K
