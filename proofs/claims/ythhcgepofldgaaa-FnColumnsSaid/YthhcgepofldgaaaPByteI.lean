/- The walks of a sort of bytes: the patterns broken. -/
import Derived.Test.YthhcgepofldgaaaPByteH
import Derived.Test.YthhcgepofldgaaaShelf
namespace Go.Proofs.Ythhcgepofldgaaa.PByteI
open Go.RowKit Go.Proofs.YthhcgepofldgaaaW.PrintWords Go.Proofs.Ythhcgepofldgaaa.PByteA Go.Proofs.Ythhcgepofldgaaa.PByteU Go.Proofs.Ythhcgepofldgaaa.PByteB Go.Proofs.Ythhcgepofldgaaa.PByteH
set_option linter.unusedVariables false
set_option linter.unusedSimpArgs false
set_option maxHeartbeats 4000000
set_option maxRecDepth 100000
theorem pw : ∀ n : Fin 1000, n.val ≠ 0 → 2 ^ Lib.bitLen n.val ≤ 2 * n.val ∧ Lib.bitLen n.val < 12 := by decide +kernel
theorem u64n {n : Nat} (h : n < 1000000) : IntKind.u64.wrap (n : Int) = (n : Int) := by rw [IntKind.wrap_u64]; omega
theorem and_le (r : Int) (q : Nat) (hq : q < 1000000) : ∃ t : Nat, Go.bits .and .u64 r (q : Int) = (t : Int) ∧ t ≤ q := by
  refine ⟨((BitVec.ofInt 64 r) &&& (BitVec.ofInt 64 (q : Int))).toNat, ?_, ?_⟩
  · show IntKind.u64.wrap _ = _
    rw [IntKind.wrap_u64]
    have h : ((BitVec.ofInt 64 r) &&& (BitVec.ofInt 64 (q : Int))).toNat < 2 ^ 64 := BitVec.isLt _
    show ((((BitVec.ofInt 64 r) &&& (BitVec.ofInt 64 (q : Int))).toNat : Nat) : Int) % _ = _
    omega
  · rw [BitVec.toNat_and]
    refine Nat.le_trans Nat.and_le_right ?_
    rw [BitVec.ofInt_natCast, BitVec.toNat_ofNat]
    exact Nat.mod_le _ _
theorem nextPow (n : Nat) (h1 : 0 < n) (h2 : n < 1000) (w : World) : Calls Try.prog 108 #[.int .i64 n] w fun e w' => ∃ m : Nat, e = .returned (.int .u64 m) ∧ (0 < m ∧ m ≤ 2 * n) ∧ w' = w := by
  have hl := Try.bits_Len (n : Int) w (by omega) (by omega)
  have hp : 2 ^ Lib.bitLen n ≤ 2 * n ∧ Lib.bitLen n < 12 := pw ⟨n, h2⟩ (by simpa using Nat.ne_of_gt h1)
  have v1 := u64n (n := n) (by omega)
  rw [Int.toNat_natCast] at hl
  obtain ⟨k, hk⟩ : ∃ k, Lib.bitLen n = k := ⟨_, rfl⟩
  rw [hk] at hl hp
  have H1 := Aside0.mk h2
  have HP := Aside0.mk hp
  clear h1 h2 hp hk
  go_enter Try.func108, Try.ntmps108
  go_wp2_with (go_at_call 79; refine hl.mono ?_; rintro e w1 ⟨rfl, rfl⟩)
  go_ret
  have e : IntKind.u64.wrap ((2 : Int) ^ min k 64) = ((2 ^ k : Nat) : Int) := by
    clear v1 hl
    have hp := HP.out
    have hn := H1.out
    have h1 : min k 64 = k := by omega
    have h2 : (2 : Int) ^ k = ((2 ^ k : Nat) : Int) := by push_cast; rfl
    rw [h1, h2]
    exact u64n (by omega)
  exact ⟨2 ^ k, by show Ending.returned (.int .u64 (IntKind.u64.wrap ((2 : Int) ^ min k 64))) = _; rw [e], ⟨Nat.two_pow_pos k, HP.out.1⟩, rfl⟩
theorem next (w0 W : World) (g B : Nat) (s : Int) (d : Array Int) (h : AtB w0 W g d) (hB : w0.heap.size ≤ B) (hs : BoxI W B .u64 112 s) :
    Calls Try.prog 109 #[.pointer (some ⟨B, 0, none⟩)] W fun e w' => ∃ (r t : Int), e = .returned (.int .u64 r) ∧ AtB w0 w' g d ∧ BoxI w' B .u64 112 t := by
  obtain ⟨cb, fb⟩ := hs.cell
  have H := Aside0.mk h
  have HBB := Aside0.mk hB
  have HSB := Aside0.mk hs
  clear h hB hs
  go_enter Try.func109, Try.ntmps109
  go_wp2_with fail
  go_big_region
  all_goals go_upto_region 2 with (fail)
  obtain ⟨X, hX⟩ : ∃ X, Go.bits .xor .u64 s (IntKind.u64.wrap (s * 8192)) = X := ⟨_, rfl⟩
  rw [hX]
  clear hX
  have A1 := Aside0.mk (boxAt H.out HBB.out (.int .u64 X)).drew
  have B1 := Aside0.mk (HSB.out.put X).drew
  clear cb fb H HSB
  generalize (W.setCell ⟨B, 0, none⟩ (.int .u64 X)).drew = W1 at A1 B1 ⊢
  obtain ⟨cb, fb⟩ := B1.out.cell
  go_big_region
  all_goals go_upto_region 3 with (fail)
  obtain ⟨Y, hY⟩ : ∃ Y, Go.bits .xor .u64 X (X / 128) = Y := ⟨_, rfl⟩
  rw [hY]
  clear hY
  have A2 := Aside0.mk (boxAt A1.out HBB.out (.int .u64 Y)).drew
  have B2 := Aside0.mk (B1.out.put Y).drew
  clear cb fb A1 B1
  generalize (W1.setCell ⟨B, 0, none⟩ (.int .u64 Y)).drew = W2 at A2 B2 ⊢
  obtain ⟨cb, fb⟩ := B2.out.cell
  go_big_region
  all_goals go_upto_region 4 with (fail)
  obtain ⟨Z, hZ⟩ : ∃ Z, Go.bits .xor .u64 Y (IntKind.u64.wrap (Y * 131072)) = Z := ⟨_, rfl⟩
  rw [hZ]
  clear hZ
  have A3 := Aside0.mk (boxAt A2.out HBB.out (.int .u64 Z)).drew
  have B3 := Aside0.mk (B2.out.put Z).drew
  clear cb fb A2 B2
  generalize (W2.setCell ⟨B, 0, none⟩ (.int .u64 Z)).drew = W3 at A3 B3 ⊢
  obtain ⟨cb, fb⟩ := B3.out.cell
  go_wp2
  go_ret
  exact ⟨Z, Z, rfl, A3.out, B3.out⟩
end Go.Proofs.Ythhcgepofldgaaa.PByteI
