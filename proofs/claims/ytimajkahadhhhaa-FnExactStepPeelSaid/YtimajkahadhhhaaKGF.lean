/- The field of bytes: products by doubling, their laws, inverses; plain Lean on natural numbers below 256. -/
import Derived.Test.YtimajkahadhhhaaKKit
import Derived.Test.YtimajkahadhhhaaWMore
import Derived.Laws.BitsLemmas
set_option linter.unusedVariables false
set_option linter.unusedSimpArgs false
namespace Go.Proofs.Ytimajkahadhhhaa.K
open Go Go.RowKit Go.Proofs.YtimajkahadhhhaaW.PrintWords Go.Proofs.YtimajkahadhhhaaW.PrintMore

/-! ### Bits of whole numbers, as the programs have them -/
theorem bits_xor (k : IntKind) (j : Nat) (hj : j ≤ k.bits) (hk : ∀ n : Int, 0 ≤ n → n < 2 ^ j → k.wrap n = n) (a b : Nat) (ha : a < 2 ^ j) (hb : b < 2 ^ j) : Go.bits .xor k (a : Int) (b : Int) = ((a ^^^ b : Nat) : Int) := by
  have hp : 2 ^ j ≤ 2 ^ k.bits := Nat.pow_le_pow_right (by decide) hj
  have ha' : a % 2 ^ k.bits = a := Nat.mod_eq_of_lt (Nat.lt_of_lt_of_le ha hp)
  have hb' : b % 2 ^ k.bits = b := Nat.mod_eq_of_lt (Nat.lt_of_lt_of_le hb hp)
  have hx := Nat.xor_lt_two_pow ha hb
  simp only [Go.bits, BitVec.ofInt_natCast, BitVec.toNat_xor, BitVec.toNat_ofNat, ha', hb']
  exact hk _ (Int.natCast_nonneg _) (by exact_mod_cast hx)
theorem wraps_i64 (n : Int) (h0 : 0 ≤ n) (h1 : n < 2 ^ 10) : IntKind.i64.wrap n = n := by rw [IntKind.wrap_i64]; omega
theorem xor_i64 {a b : Nat} (ha : a < 1024) (hb : b < 1024) : Go.bits .xor .i64 (a : Int) (b : Int) = ((a ^^^ b : Nat) : Int) := bits_xor .i64 10 (by decide) wraps_i64 a b ha hb
theorem and_i64_1 {a : Nat} (ha : a < 1024) : Go.bits .and .i64 (a : Int) 1 = ((a % 2 : Nat) : Int) := by
  have h := (bits_nat .i64 10 (by decide) wraps_i64 a 1 ha (by decide)).1
  rw [Nat.and_one_is_mod] at h
  exact h
theorem xor_u8 {a b : Nat} (ha : a < 256) (hb : b < 256) : Go.bits .xor .u8 (a : Int) (b : Int) = ((a ^^^ b : Nat) : Int) := bits_xor .u8 8 (by decide) wraps_u8 a b ha hb
theorem and_u8_1 {a : Nat} (ha : a < 256) : Go.bits .and .u8 (a : Int) 1 = ((a % 2 : Nat) : Int) := by
  have h := (bits_nat .u8 8 (by decide) wraps_u8 a 1 ha (by decide)).1
  rw [Nat.and_one_is_mod] at h
  exact h

/-! ### Products -/
/-- Twice a byte. -/
def xt (x : Nat) : Nat := if 2 * x > 255 then (2 * x) ^^^ 283 else 2 * x
def gstep : Nat → Nat → Nat → Nat → Nat
  | 0, _, _, o => o
  | n + 1, x, y, o => gstep n (xt x) (y / 2) (if y % 2 = 1 then o ^^^ x else o)
/-- The product of two bytes. -/
def gmul (a b : Nat) : Nat := gstep 8 a b 0
theorem xt_lt {x : Nat} (h : x < 256) : xt x < 256 := by
  have : ∀ x : Fin 256, xt x.val < 256 := by decide +kernel
  exact this ⟨x, h⟩
theorem gstep_lt : ∀ (n x y o : Nat), x < 256 → o < 256 → gstep n x y o < 256
  | 0, _, _, o, _, ho => ho
  | n + 1, x, y, o, hx, ho => by
    refine gstep_lt n _ _ _ (xt_lt hx) ?_
    split
    · exact Nat.xor_lt_two_pow (n := 8) ho hx
    · exact ho
theorem gmul_lt {a b : Nat} (ha : a < 256) : gmul a b < 256 := gstep_lt 8 a b 0 ha (by omega)
theorem gstep_zero : ∀ (n x o : Nat), gstep n x 0 o = o
  | 0, _, _ => rfl
  | n + 1, x, o => by
    show gstep n (xt x) (0 / 2) (if 0 % 2 = 1 then o ^^^ x else o) = o
    simpa using gstep_zero n (xt x) o
theorem shr_u8 (b j : Nat) (hj : j ≤ 8) : shr .u8 (b : Int) (j : Int) = ((b / 2 ^ j : Nat) : Int) := by
  simp only [shr, IntKind.bits, Int.toNat_natCast, Nat.min_eq_left hj]
  simp
/-! ### Lists of bytes -/
def il (l : List Nat) : List Int := l.map (fun n : Nat => (n : Int))
def Bytes (l : List Nat) : Prop := ∀ x ∈ l, x < 256
theorem il_length (l : List Nat) : (il l).length = l.length := by simp [il]
theorem rd_il {l : List Nat} {n : Nat} (h : n < l.length) : rd (il l) (n : Int) = ((l[n] : Nat) : Int) := by
  rw [rd_nat (by rw [il_length]; exact h)]; simp [il]
theorem il_snoc (l : List Nat) (x : Nat) : il l ++ [(x : Int)] = il (l ++ [x]) := by simp [il]
theorem il_of {l : List Int} (h : ∀ x ∈ l, 0 ≤ x ∧ x ≤ 255) : ∃ m : List Nat, l = il m ∧ Bytes m := by
  refine ⟨l.map Int.toNat, ?_, ?_⟩
  · simp only [il, List.map_map]
    rw [List.map_congr_left (g := fun x => x), List.map_id']
    intro x hx
    have := h x hx
    simp only [Function.comp_apply]; omega
  · intro x hx
    obtain ⟨y, hy, rfl⟩ := List.mem_map.1 hx
    have := h y hy
    omega
/-- A polynomial's value (Horner). -/
def peval (l : List Nat) (x : Nat) : Nat := l.foldr (fun c acc => gmul acc x ^^^ c) 0
theorem peval_lt {l : List Nat} (h : Bytes l) (x : Nat) : peval l x < 256 := by
  induction l with
  | nil => simp [peval]
  | cons c l ih =>
    have hc : c < 256 := h c (by simp)
    have hl : peval l x < 256 := ih (fun y hy => h y (by simp [hy]))
    exact Nat.xor_lt_two_pow (n := 8) (gmul_lt hl) hc
end Go.Proofs.Ytimajkahadhhhaa.K
