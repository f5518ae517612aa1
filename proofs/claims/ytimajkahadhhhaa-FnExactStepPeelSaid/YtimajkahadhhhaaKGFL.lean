/- Laws of the field of bytes: sums over products, order of factors, powers and inverses; plain Lean. -/
import Derived.Test.YtimajkahadhhhaaKGF
set_option linter.unusedVariables false
set_option linter.unusedSimpArgs false
namespace Go.Proofs.Ytimajkahadhhhaa.K
open Go Go.RowKit Go.Proofs.YtimajkahadhhhaaW.PrintWords Go.Proofs.YtimajkahadhhhaaW.PrintMore

theorem xlt {a b : Nat} (ha : a < 256) (hb : b < 256) : a ^^^ b < 256 := Nat.xor_lt_two_pow (n := 8) ha hb
theorem xor_half (a b : Nat) : (a ^^^ b) / 2 = (a / 2) ^^^ (b / 2) := by
  have h := Nat.shiftRight_xor_distrib (a := a) (b := b) (i := 1)
  simpa [Nat.shiftRight_eq_div_pow] using h
theorem xor_twice (a b : Nat) : 2 * (a ^^^ b) = (2 * a) ^^^ (2 * b) := by
  have h := Nat.shiftLeft_xor_distrib (a := a) (b := b) (i := 1)
  simp only [Nat.shiftLeft_eq, Nat.pow_one] at h
  rw [Nat.mul_comm 2, Nat.mul_comm 2, Nat.mul_comm 2]
  exact h
theorem xor_mod2 (a b : Nat) : (a ^^^ b) % 2 = (a % 2 + b % 2) % 2 := by
  have h := Nat.xor_mod_two_pow (a := a) (b := b) (n := 1)
  rw [Nat.pow_one] at h
  rw [h]
  rcases Nat.mod_two_eq_zero_or_one a with h1 | h1 <;> rcases Nat.mod_two_eq_zero_or_one b with h2 | h2 <;> rw [h1, h2] <;> decide
theorem gstep_out : ∀ (n x y o : Nat), gstep n x y o = o ^^^ gstep n x y 0
  | 0, _, _, o => by simp [gstep]
  | n + 1, x, y, o => by
    simp only [gstep]
    rw [gstep_out n _ _ (if y % 2 = 1 then o ^^^ x else o), gstep_out n _ _ (if y % 2 = 1 then 0 ^^^ x else 0)]
    by_cases h : y % 2 = 1
    · simp only [if_pos h, Nat.zero_xor, Nat.xor_assoc]
    · simp only [if_neg h, Nat.zero_xor]
theorem xor4 (a b c d : Nat) : (a ^^^ b) ^^^ (c ^^^ d) = (a ^^^ c) ^^^ (b ^^^ d) := by
  rw [Nat.xor_assoc, Nat.xor_assoc, ← Nat.xor_assoc b c d, Nat.xor_comm b c, Nat.xor_assoc c b d]
theorem gstep_sum : ∀ (n x y z : Nat), gstep n x (y ^^^ z) 0 = gstep n x y 0 ^^^ gstep n x z 0
  | 0, _, _, _ => by simp [gstep]
  | n + 1, x, y, z => by
    simp only [gstep]
    rw [gstep_out n _ _ (if (y ^^^ z) % 2 = 1 then 0 ^^^ x else 0), gstep_out n _ _ (if y % 2 = 1 then 0 ^^^ x else 0), gstep_out n _ _ (if z % 2 = 1 then 0 ^^^ x else 0), xor_half, gstep_sum n, xor4]
    congr 1
    rw [xor_mod2]
    rcases Nat.mod_two_eq_zero_or_one y with h1 | h1 <;> rcases Nat.mod_two_eq_zero_or_one z with h2 | h2 <;> simp [h1, h2]
theorem gmul_sum (a b c : Nat) : gmul a (b ^^^ c) = gmul a b ^^^ gmul a c := gstep_sum 8 a b c
theorem xor_ge {a b : Nat} (ha : a < 256) (hb : b < 256) : (a ^^^ b) / 128 = (a / 128 + b / 128) % 2 := by
  have h := Nat.shiftRight_xor_distrib (a := a) (b := b) (i := 7)
  simp only [Nat.shiftRight_eq_div_pow] at h
  have e : (2 : Nat) ^ 7 = 128 := by decide
  rw [e] at h
  rw [h]
  have h1 : a / 128 = 0 ∨ a / 128 = 1 := by omega
  have h2 : b / 128 = 0 ∨ b / 128 = 1 := by omega
  rcases h1 with h1 | h1 <;> rcases h2 with h2 | h2 <;> rw [h1, h2] <;> decide
theorem xt_eq (x : Nat) (hx : x < 256) : xt x = (2 * x) ^^^ (if x / 128 = 1 then 283 else 0) := by
  unfold xt
  by_cases h : 2 * x > 255
  · rw [if_pos h, if_pos (by omega)]
  · rw [if_neg h, if_neg (by omega), Nat.xor_zero]
theorem xt_sum {a b : Nat} (ha : a < 256) (hb : b < 256) : xt (a ^^^ b) = xt a ^^^ xt b := by
  rw [xt_eq _ (xlt ha hb), xt_eq a ha, xt_eq b hb, xor_twice, xor4, xor_ge ha hb]
  congr 1
  have h1 : a / 128 = 0 ∨ a / 128 = 1 := by omega
  have h2 : b / 128 = 0 ∨ b / 128 = 1 := by omega
  rcases h1 with h1 | h1 <;> rcases h2 with h2 | h2 <;> rw [h1, h2] <;> decide
theorem gstep_sum' : ∀ (n x y z : Nat), x < 256 → y < 256 → gstep n (x ^^^ y) z 0 = gstep n x z 0 ^^^ gstep n y z 0
  | 0, _, _, _, _, _ => by simp [gstep]
  | n + 1, x, y, z, hx, hy => by
    simp only [gstep]
    rw [gstep_out n _ _ (if z % 2 = 1 then 0 ^^^ (x ^^^ y) else 0), gstep_out n _ _ (if z % 2 = 1 then 0 ^^^ x else 0), gstep_out n _ _ (if z % 2 = 1 then 0 ^^^ y else 0), xt_sum hx hy, gstep_sum' n _ _ _ (xt_lt hx) (xt_lt hy), xor4]
    congr 1
    by_cases h : z % 2 = 1
    · simp [h]
    · simp [h]
theorem sum_gmul {a b : Nat} (c : Nat) (ha : a < 256) (hb : b < 256) : gmul (a ^^^ b) c = gmul a c ^^^ gmul b c := gstep_sum' 8 a b c ha hb
theorem gmul_zero (a : Nat) : gmul a 0 = 0 := gstep_zero 8 a 0
theorem zero_gmul (b : Nat) : gmul 0 b = 0 := by
  have h : gmul (0 ^^^ 0) b = gmul 0 b ^^^ gmul 0 b := sum_gmul b (by omega) (by omega)
  rw [Nat.xor_self, Nat.xor_self] at h
  exact h
/-- What holds of the eight powers of two, and of sums, holds of all bytes. -/
theorem byte_ind {P : Nat → Prop} (h0 : P 0) (h1 : ∀ i : Fin 8, P (2 ^ i.val)) (h2 : ∀ a b, a < 256 → b < 256 → P a → P b → P (a ^^^ b)) {a : Nat} (ha : a < 256) : P a := by
  have hb : ∀ (i : Fin 8) (c : Bool), (if c then 2 ^ i.val else 0) < 256 ∧ P (if c then 2 ^ i.val else 0) := by
    intro i c
    cases c with
    | false => exact ⟨by simp, by simpa using h0⟩
    | true => exact ⟨by simp only [if_true]; revert i; decide, by simpa using h1 i⟩
  have e : ∀ a : Fin 256, a.val = (if a.val.testBit 0 then 2 ^ (0 : Fin 8).val else 0) ^^^ ((if a.val.testBit 1 then 2 ^ (1 : Fin 8).val else 0) ^^^ ((if a.val.testBit 2 then 2 ^ (2 : Fin 8).val else 0) ^^^ ((if a.val.testBit 3 then 2 ^ (3 : Fin 8).val else 0) ^^^ ((if a.val.testBit 4 then 2 ^ (4 : Fin 8).val else 0) ^^^ ((if a.val.testBit 5 then 2 ^ (5 : Fin 8).val else 0) ^^^ ((if a.val.testBit 6 then 2 ^ (6 : Fin 8).val else 0) ^^^ (if a.val.testBit 7 then 2 ^ (7 : Fin 8).val else 0))))))) := by decide +kernel
  have j : ∀ (i : Fin 8) (c : Bool) (r : Nat), r < 256 ∧ P r → ((if c then 2 ^ i.val else 0) ^^^ r) < 256 ∧ P ((if c then 2 ^ i.val else 0) ^^^ r) :=
    fun i c r hr => ⟨xlt (hb i c).1 hr.1, h2 _ _ (hb i c).1 hr.1 (hb i c).2 hr.2⟩
  have := e ⟨a, ha⟩
  simp only at this
  rw [this]
  exact (j 0 _ _ (j 1 _ _ (j 2 _ _ (j 3 _ _ (j 4 _ _ (j 5 _ _ (j 6 _ _ (hb 7 _)))))))).2
theorem gmul_comm {a b : Nat} (ha : a < 256) (hb : b < 256) : gmul a b = gmul b a := by
  refine byte_ind (P := fun a => gmul a b = gmul b a) ?_ ?_ ?_ ha
  · rw [zero_gmul, gmul_zero]
  · intro i
    refine byte_ind (P := fun b => gmul (2 ^ i.val) b = gmul b (2 ^ i.val)) ?_ ?_ ?_ hb
    · rw [zero_gmul, gmul_zero]
    · intro j
      revert i j
      decide +kernel
    · intro x y hx hy h1 h2
      rw [gmul_sum, sum_gmul _ hx hy, h1, h2]
  · intro x y hx hy h1 h2
    rw [gmul_sum, sum_gmul _ hx hy, h1, h2]
theorem gmul_assoc {a b c : Nat} (ha : a < 256) (hb : b < 256) (hc : c < 256) : gmul (gmul a b) c = gmul a (gmul b c) := by
  refine byte_ind (P := fun a => gmul (gmul a b) c = gmul a (gmul b c)) ?_ ?_ ?_ ha
  · rw [zero_gmul, zero_gmul, zero_gmul]
  · intro i
    have hi : 2 ^ i.val < 256 := by revert i; decide
    refine byte_ind (P := fun b => gmul (gmul (2 ^ i.val) b) c = gmul (2 ^ i.val) (gmul b c)) ?_ ?_ ?_ hb
    · rw [gmul_zero, zero_gmul, gmul_zero]
    · intro j
      have hj : 2 ^ j.val < 256 := by revert j; decide
      refine byte_ind (P := fun c => gmul (gmul (2 ^ i.val) (2 ^ j.val)) c = gmul (2 ^ i.val) (gmul (2 ^ j.val) c)) ?_ ?_ ?_ hc
      · rw [gmul_zero, gmul_zero, gmul_zero]
      · intro k
        revert i j k
        have : ∀ i j k : Fin 8, gmul (gmul (2 ^ i.val) (2 ^ j.val)) (2 ^ k.val) = gmul (2 ^ i.val) (gmul (2 ^ j.val) (2 ^ k.val)) := by decide +kernel
        intro i _ j _ k
        exact this i j k
      · intro x y hx hy h1 h2
        rw [gmul_sum, gmul_sum, gmul_sum, h1, h2]
    · intro x y hx hy h1 h2
      rw [gmul_sum, sum_gmul _ (gmul_lt hi) (gmul_lt hi), sum_gmul _ hx hy, gmul_sum, h1, h2]
  · intro x y hx hy h1 h2
    rw [sum_gmul _ hx hy, sum_gmul _ (gmul_lt hx) (gmul_lt hy), sum_gmul _ hx hy, h1, h2]
theorem gmul_one {a : Nat} (ha : a < 256) : gmul a 1 = a := by
  have : ∀ a : Fin 256, gmul a.val 1 = a.val := by decide +kernel
  exact this ⟨a, ha⟩
theorem one_gmul {a : Nat} (ha : a < 256) : gmul 1 a = a := by rw [gmul_comm (by omega) ha, gmul_one ha]
/-- Powers. -/
def gpow (a : Nat) : Nat → Nat
  | 0 => 1
  | n + 1 => gmul (gpow a n) a
theorem gpow_lt {a : Nat} : ∀ n : Nat, gpow a n < 256
  | 0 => by simp [gpow]
  | n + 1 => gmul_lt (gpow_lt n)
theorem gpow_add {a : Nat} (ha : a < 256) (m : Nat) : ∀ n : Nat, gpow a (m + n) = gmul (gpow a m) (gpow a n)
  | 0 => by simp only [Nat.add_zero, gpow]; rw [gmul_one (gpow_lt m)]
  | n + 1 => by
    show gmul (gpow a (m + n)) a = gmul (gpow a m) (gmul (gpow a n) a)
    rw [gpow_add ha m n, gmul_assoc (gpow_lt m) (gpow_lt n) ha]
theorem gpow_sq {a : Nat} (ha : a < 256) : ∀ n : Nat, gpow (gmul a a) n = gpow a (n + n)
  | 0 => rfl
  | n + 1 => by
    show gmul (gpow (gmul a a) n) (gmul a a) = _
    have e : gpow a 2 = gmul a a := by
      have h : gpow a 2 = gmul (gmul 1 a) a := rfl
      rw [h, one_gmul ha]
    rw [gpow_sq ha n, show n + 1 + (n + 1) = (n + n) + 2 by omega, gpow_add ha (n + n) 2, e]
theorem swap4 {a b c d : Nat} (ha : a < 256) (hb : b < 256) (hc : c < 256) (hd : d < 256) : gmul (gmul a b) (gmul c d) = gmul (gmul a c) (gmul b d) := by
  rw [gmul_assoc ha hb (gmul_lt hc), gmul_assoc ha hc (gmul_lt hb), ← gmul_assoc hb hc hd, gmul_comm hb hc, gmul_assoc hc hb hd]
theorem gpow_gmul {a b : Nat} (ha : a < 256) (hb : b < 256) : ∀ n : Nat, gpow (gmul a b) n = gmul (gpow a n) (gpow b n)
  | 0 => by simp only [gpow]; rw [gmul_one (by omega)]
  | n + 1 => by
    show gmul (gpow (gmul a b) n) (gmul a b) = gmul (gmul (gpow a n) a) (gmul (gpow b n) b)
    rw [gpow_gmul ha hb n, swap4 (gpow_lt n) (gpow_lt n) ha hb]
theorem gpow_one : ∀ n : Nat, gpow 1 n = 1
  | 0 => rfl
  | n + 1 => by show gmul (gpow 1 n) 1 = 1; rw [gpow_one n]; decide +kernel
theorem gpow_zero : ∀ n : Nat, 0 < n → gpow 0 n = 0
  | n + 1, _ => gmul_zero _
/-- The inverse (of nothing: nothing). -/
def ginv (a : Nat) : Nat := gpow a 254
theorem ginv_lt (a : Nat) : ginv a < 256 := gpow_lt 254
theorem ginv_gmul {a b : Nat} (ha : a < 256) (hb : b < 256) : ginv (gmul a b) = gmul (ginv a) (ginv b) := gpow_gmul ha hb 254
theorem ginv_fast {a : Nat} (ha : a < 256) : ginv a = (let p2 := gmul a a; let p4 := gmul p2 p2; let p8 := gmul p4 p4; let p16 := gmul p8 p8; let p32 := gmul p16 p16; let p64 := gmul p32 p32; let p128 := gmul p64 p64; gmul (gmul (gmul p128 p64) (gmul p32 p16)) (gmul (gmul p8 p4) p2)) := by
  have e : ∀ n, gmul (gpow a n) (gpow a n) = gpow a (n + n) := fun n => (gpow_add ha n n).symm
  have e1 : gmul a a = gpow a 2 := by
    have h : gpow a 2 = gmul (gmul 1 a) a := rfl
    rw [h, one_gmul ha]
  simp only [e1, e, ← gpow_add ha]
  unfold ginv
  congr 1
theorem gmul_ginv {a : Nat} (ha : a < 256) (h0 : a ≠ 0) : gmul a (ginv a) = 1 := by
  have : ∀ a : Fin 256, a.val ≠ 0 → gmul a.val (let p2 := gmul a.val a.val; let p4 := gmul p2 p2; let p8 := gmul p4 p4; let p16 := gmul p8 p8; let p32 := gmul p16 p16; let p64 := gmul p32 p32; let p128 := gmul p64 p64; gmul (gmul (gmul p128 p64) (gmul p32 p16)) (gmul (gmul p8 p4) p2)) = 1 := by decide +kernel
  rw [ginv_fast ha]
  exact this ⟨a, ha⟩ h0
end Go.Proofs.Ytimajkahadhhhaa.K
