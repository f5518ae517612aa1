/- The lists of places that the program sorts. -/
import Derived.Test.YthhcgepofldgaaaPSortN
import Derived.Test.YthhcgepofldgaaaShelf

namespace Go.Proofs.Ythhcgepofldgaaa.PSortO
open Go.RowKit Go.Proofs.YthhcgepofldgaaaW.PrintWords Go.Proofs.YthhcgepofldgaaaW.PrintLast Go.Proofs.YthhcgepofldgaaaW.PrintMore Go.Proofs.Ythhcgepofldgaaa.K Go.Proofs.Ythhcgepofldgaaa.PSortM Go.Proofs.Ythhcgepofldgaaa.PSortI Go.Proofs.Ythhcgepofldgaaa.PSortS Go.Proofs.Ythhcgepofldgaaa.PSortN
set_option linter.unusedVariables false
set_option maxHeartbeats 4000000
set_option maxRecDepth 100000

/-- The model's at-most on texts is its less-than, turned round. -/
theorem bytesLess_turned : ∀ x y : List UInt8, (Op.bytesLess x y || x == y) = !(Op.bytesLess y x)
  | [], [] => by decide
  | [], _ :: _ => by simp [Op.bytesLess]
  | _ :: _, [] => by simp [Op.bytesLess]
  | a :: x, b :: y => by
    have ih := bytesLess_turned x y
    by_cases h : a = b
    · subst h
      simp only [Op.bytesLess, List.cons_beq_cons, beq_self_eq_true, Bool.true_and]
      have : ¬ a < a := by simp
      simp only [this, decide_false, Bool.false_or]
      exact ih
    · have hn : (a == b) = false := by simpa using h
      have hn' : (b == a) = false := by simpa using fun e => h e.symm
      simp only [Op.bytesLess, List.cons_beq_cons, hn, hn', Bool.false_and, Bool.or_false]
      have e1 : (a < b) ↔ a.toNat < b.toNat := UInt8.lt_iff_toNat_lt
      have e2 : (b < a) ↔ b.toNat < a.toNat := UInt8.lt_iff_toNat_lt
      have e3 : a.toNat ≠ b.toNat := fun e => h (UInt8.toNat_inj.mp e)
      by_cases c : a < b
      · have : ¬ b < a := by rw [e2]; rw [e1] at c; omega
        simp [c, this]
      · have : b < a := by rw [e2]; rw [e1] at c; omega
        simp [c, this]
@[go_sem] theorem gtr_turned (t : TypeId) (a b : ByteArray) : binOp .gtr t (.string a) (.string b) = pure (.bool (Op.bytesLess b.toList a.toList)) := by
  have h := bytesLess_turned a.toList b.toList
  have e : Op.bytesLess b.toList a.toList = !(Op.bytesLess a.toList b.toList || a.toList == b.toList) := by rw [h, Bool.not_not]
  rw [e]; simp [binOp, Op.stringOp]
@[go_sem] theorem leq_turned (t : TypeId) (a b : ByteArray) : binOp .leq t (.string a) (.string b) = pure (.bool (!(Op.bytesLess b.toList a.toList))) := by simp only [← bytesLess_turned]; simp [binOp, Op.stringOp]

/-- A row of bytes turned to a text, in a region whose order is open. -/
theorem quiet_conv {P : Program} {ops : Array Oper} {w0 : World} {Q : Act → Prop} {rest : List Oper} {o : Oper} {a : Act} {x : Operand} {S D : TypeId} {v s : Value} (hg : o.guard = none) (ho : o.op = .convert S D x) (hx : a.eval x = v) (hr : ∀ n, (convert S D v).run P (w0.drewN n) = .ok s (w0.drewN n)) (h : wpQuiet P ops (fun w => ∃ n, w = w0.drewN n) Q rest (a.put o.dst s)) : wpQuiet P ops (fun w => ∃ n, w = w0.drewN n) Q (o :: rest) a := by
  refine wpQuiet_step (fun K hK => ?_)
  rw [if_pos (by simp [Region.wanted, hg])]
  refine ⟨s, ?_, hK _ h⟩
  rintro w ⟨n, rfl⟩
  unfold Oper.quietAt
  have e : (execOp a.eval o).run P (w0.drewN n) = .ok (.value s) (w0.drewN n) := by
    simp only [execOp, ho, hx, Sem.run_bind, hr]
    rfl
  rw [e]
  exact ⟨rfl, rfl⟩

theorem info3s : (Try.prog.info? 3).map (fun i => (i.zero, i.size, i.bytes)) = some (some (.int .i64 0), 1, 8) := by kernel_rfl
/-- The block that holds one text. -/
def BoxS (W : World) (g : Nat) (s : ByteArray) : Prop := W.heap[g]? = some (.cells #[.string s] 9 (0, 0))
theorem BoxS.cell {W : World} {g : Nat} {s : ByteArray} (h : BoxS W g s) : W.cell? ⟨g, 0, none⟩ = some (.string s) := by
  unfold BoxS at h
  simp [World.cell?, h]
theorem BoxS.lt {W : World} {g : Nat} {s : ByteArray} (h : BoxS W g s) : g < W.heap.size := by
  unfold BoxS at h
  exact (Array.getElem?_eq_some_iff.mp h).1
theorem BoxS.grown {W W' : World} {g : Nat} {s : ByteArray} {row : Option Nat} (h : BoxS W g s) (hg : W.grownBy W' row) (hne : some g ≠ row) : BoxS W' g s := (hg.block g h.lt hne).trans h
theorem BoxS.below {W W' : World} {g : Nat} {s : ByteArray} (h : BoxS W g s) (hb : Below W.heap.size W W') : BoxS W' g s := (hb.block g h.lt).trans h
theorem BoxS.drewN {W : World} {g : Nat} {s : ByteArray} (h : BoxS W g s) (n : Nat) : BoxS (W.drewN n) g s := h
theorem boxS_made (w : World) (s : ByteArray) : BoxS (w.alloc (.cells #[.string s] 9)) w.heap.size s ∧ Below w.heap.size w (w.alloc (.cells #[.string s] 9)) := by
  refine ⟨?_, below_alloc (Below.refl _ _) _⟩
  unfold BoxS
  show (w.heap.push _)[w.heap.size]? = _
  exact Array.getElem?_push_size
/-- What is asked of a comparison of places of the text s, which is boxed in block B. -/
structure Ask (gc : Nat) (s : ByteArray) (cf : Int → Int → Int) : Prop where
  eg : ∀ args w, (callFunc gc args).run Try.prog w = .ok (.enter gc args) w
  ask : ∀ (W : World) (B i j : Nat), BoxS W B s → i < s.size → j < s.size → Calls Try.prog gc #[.int .i64 i, .int .i64 j, .pointer (some ⟨B, 0, none⟩)] W fun e w' => e = .returned (.int .i64 (cf i j)) ∧ ∃ q, w' = W.drewN q
  cmp : Cmp cf
theorem Ask.cx {gc : Nat} {s : ByteArray} {cf : Int → Int → Int} (h : Ask gc s cf) {w0 : World} {g B : Nat} (hB : BoxS w0 B s) (hne : B ≠ g) : Cx w0 g gc #[.pointer (some ⟨B, 0, none⟩)] cf (fun x => ∃ j : Nat, x = (j : Int) ∧ j < s.size) := by
  refine ⟨h.eg, fun W d x y hR hx hy => ?_, h.cmp⟩
  obtain ⟨i, rfl, hi⟩ := hx
  obtain ⟨j, rfl, hj⟩ := hy
  exact h.ask W B i j ((hR.block B hne).trans hB) hi hj

theorem btN {s : ByteArray} {i : Nat} (h : i < s.size) : bt s (i : Int) = (s[i].toNat : Int) := by simp [bt, h]
theorem wsub (x y : Int) (hx : 0 ≤ x ∧ x ≤ 255) (hy : 0 ≤ y ∧ y ≤ 255) : wrap64 (x - y) = x - y := by unfold wrap64; omega
theorem wbyte (x : Int) (hx : 0 ≤ x ∧ x ≤ 255) : wrap64 x = x := by unfold wrap64; omega
theorem ask73 (s : ByteArray) : Ask 73 s (fun x y => bt s x - bt s y) := by
  refine ⟨enters_of Try.func73 (by kernel_rfl) rfl, fun W B i j hB hi hj => ?_, ⟨fun x y => by omega, fun x y z h1 h2 => by omega⟩⟩
  have hc := hB.cell
  have hi1 : ((i : Int) < (s.size : Int)) = True := eq_true (by omega)
  have hj1 : ((j : Int) < (s.size : Int)) = True := eq_true (by omega)
  have hi2 : (i < s.size) = True := eq_true hi
  have hj2 : (j < s.size) = True := eq_true hj
  obtain ⟨u, hu⟩ : ∃ u, bt s (i : Int) = u := ⟨_, rfl⟩
  obtain ⟨v, hv⟩ : ∃ v, bt s (j : Int) = v := ⟨_, rfl⟩
  have hu2 : ∀ h : ((i : Int)).toNat < s.size, ((s[((i : Int)).toNat]'h).toNat : Int) = u := fun h => by rw [← hu]; exact bt_at s i h
  have hv2 : ∀ h : ((j : Int)).toNat < s.size, ((s[((j : Int)).toNat]'h).toNat : Int) = v := fun h => by rw [← hv]; exact bt_at s j h
  simp only [Int.toNat_natCast] at hu2 hv2
  have ru : 0 ≤ u ∧ u ≤ 255 := by rw [← hu]; exact bt_range s _
  have rv : 0 ≤ v ∧ v ≤ 255 := by rw [← hv]; exact bt_range s _
  have W1 := Aside0.mk (wbyte u ru)
  have W2 := Aside0.mk (wbyte v rv)
  have W3 := Aside0.mk (wsub u v ru rv)
  simp only [hu, hv]
  clear hB hi hj hu hv ru rv
  have w1 := W1.out
  have w2 := W2.out
  have w3 := W3.out
  go_enter Try.func73, Try.ntmps73
  go_wp2_with fail
  go_quiet (fail)
  go_wp2
  go_ret
  exact ⟨congrArg (fun z => Ending.returned (Value.int .i64 z)) w3, nq, rfl⟩

theorem argWalk47 {cf : Int → Int → Int} (s : ByteArray) (hA : Ask 73 s cf) (hs : s.size ≤ 120) (w : World) :
    Calls Try.prog 47 #[.string s] w fun e w' => ∃ v0_ : Value, e = .returned v0_ ∧ Kd.R (Kd.int .i64) 3 w' w.heap.size (fun _ => True) v0_ (argsort cf s.size) ∧ Below w.heap.size w w' := by
  have HA := Aside0.mk hA
  have HS := Aside0.mk hs
  have eg := hA.eg
  clear hA hs
  go_enter Try.func47, Try.ntmps47
  go_upto_region 1 with (fail)
  have BX := Aside0.mk (boxS_made w s).1
  have HB := Aside0.mk (boxS_made w s).2
  generalize w.alloc (.cells #[.string s] 9) = w1 at BX HB ⊢
  go_upto_region 2 with (((with_reducible refine gate_dst (N := 5) rfl ?_); (try (refine gate_guard (by rfl) ?_; dsimp only)); refine Kd.R_lit (Kd.int .i64) _ 3 ?hg (N := 5) ?hd (xs := ([] : List Int)) (inner := []) (ok := fun _ => True) (okp := fun _ => True) ?hr ?hp (fun _ hk => hk) trivial (Below.refl _ _) (Nat.le_refl _) (by simp) ?_; (case hd => rfl); (case hg => rfl); (case hr => first | (go_simp; done) | (go_simp; rfl)); (case hp => exact (Reps.none _ _)); intro v224 w4 ho5 hb hg_ hnew_; clear hg_ hnew_; have n0_ := Aside0.mk (show Kd.R (Kd.int .i64) 3 w4 w.heap.size (fun k_ => k_ ≠ w.heap.size) v224 (rng 0) from Kd.R_lower (Kd.R_mono (Kd.R_bound ho5) (fun k_ hk_ => (Nat.ne_of_gt (Nat.lt_of_lt_of_le BX.out.lt hk_.2.1) : k_ ≠ w.heap.size))) (below_size HB.out)); have n1_ := Aside0.mk (below_step HB.out hb); have n2_ := Aside0.mk (BX.out.below hb); clear BX HB; have BX := n2_; have HO := n0_; have HB := n1_; clear n0_ n1_ n2_ hb ho5))
  have hc := BX.out.cell
  go_wp2
  go_loopg [3, 8] s.size (fun kq v3 v8 w' => ∃ (k : Nat), v8 = .int .i64 k ∧ Aside0 (k ≤ s.size ∧ s.size - k ≤ kq) ∧ Aside0 (Kd.R (Kd.int .i64) 3 w' w.heap.size (fun k_ => k_ ≠ w.heap.size) v3 (rng k)) ∧ Aside0 (Below w.heap.size w w') ∧ Aside0 (BoxS w' w.heap.size s))
  case atStart => exact ⟨0, rfl, ⟨by omega⟩, HO, HB, BX⟩
  case round =>
    clear HO HB BX hc
    obtain ⟨k, rfl, HK, HO, HB, BX⟩ := hrel
    by_cases hk : k < s.size
    · have c1 : decide (k < s.size) = true := decide_eq_true hk
      obtain ⟨Ao, co, eo⟩ := Kd.R_slice HO.out
      subst eo
      have W1 := Aside0.mk (w64of (z := (k : Int) + 1) (n := k + 1) (by omega) (by have := HS.out; omega))
      have HKK := Aside0.mk hk
      clear hk
      go_wp2_with (((with_reducible refine gate_builtin (b := .append) (xs := #[.tmp 11, .tmp 13]) rfl ?_); (try (refine gate_guard (by rfl) ?_; dsimp only)); at_builtin; refine Kd.R_append (Kd.int .i64) (w0 := w) w.heap.size rfl (.tmp 11) (.tmp 13) 22 3 (.int .i64 0) 8 rfl Try.underlying22 info3s rfl (by decide) (by omega) (.slice Ao (rng k).length co) (rng k) (k : Int) [.int .i64 (k : Int)] (fun k_ => k_ ≠ w.heap.size) (fun _ => False) rfl rfl ?aP (fun _ hk => hk.elim) ?aF ?aO ?aB ?aS ?aL ?_; (case aP => exact rfl); (case aB => exact (by repeat (first | (with_reducible first | exact HB.out | apply below_alloc | apply pw_below_drewN | apply below_drew1) | exact HB.out))); (case aF => exact (fun k_ hk_ => Nat.ne_of_gt (Nat.lt_of_lt_of_le BX.out.lt hk_))); (case aO => exact (by (with_reducible repeat (first | apply Kd.R_alloc | apply Kd.R_drewN | apply Kd.R_drew)); exact HO.out)); (case aS => exact (below_size (by repeat (first | (with_reducible first | exact HB.out | apply below_alloc | apply pw_below_drewN | apply below_drew1) | exact HB.out)))); (case aL => have := HS.out; have := HKK.out; rw [rng_length]; omega); intro v228 w16 ho hb hg hat; rw [← rng_succ] at ho; have n0_ := Aside0.mk (hb); have n1_ := Aside0.mk (ho); have n2_ := Aside0.mk (BX.out.grown hg (Kd.R_away HO.out (fun k_ hk_ => hk_))); clear BX HB HO; have HB := n0_; have HO := n1_; have BX := n2_; clear n0_ n1_ n2_; clear ho hb hg hat))
      go_roundg (s.size - (k + 1))
      case measure => have := HKK.out; have := HK.out; omega
      case rel => exact ⟨k + 1, by first | rfl | rw [W1.out], ⟨by have := HKK.out; omega⟩, HO, HB, BX⟩
    · have c1 : decide (k < s.size) = false := decide_eq_false hk
      obtain rfl : k = s.size := by have := HK.out; omega
      clear hk
      by_cases hz : 0 < s.size
      · obtain ⟨g7, cap7, eo7, hb7, hl7, hc7⟩ := Kd.R_form HO.out (by rw [rng_length]; exact hz)
        subst eo7
        have hne : w.heap.size ≠ g7 := fun e => (HO.out.1 g7 rfl) e.symm
        have hC := Aside0.mk (stableFunc (HA.out.cx BX.out hne) wr cap7 s.size (rng s.size) (atRow_of HO.out (by rw [rng_length]; exact hz)) (rng_length _) HS.out (fun i j i1 i2 => by rw [rng_at _ _ (by omega), rng_at _ _ i2]; omega) (fun x hx => rng_mem hx))
        have hL := Aside0.mk (rng_length s.size)
        have hl2 := rng_length s.size
        rw [rng_length]
        clear hb7 hl7 hc7 hz hne hl2
        go_wp2_with (go_at_call 72; refine hC.out.mono ?_; rintro e w' ⟨rfl, d', hR, hP, hI⟩; have HR := Aside0.mk hR; have HP := Aside0.mk hP; have HI := Aside0.mk hI; clear hR hP hI)
        go_ret
        have hI := HI.out
        have hO := HO.out
        rw [hL.out] at hI
        have q := R_ofRow hO HR.out HP.out.length_eq
        have e := argsort_of HA.out.cmp HP.out hI
        rw [← e]
        rw [hL.out] at q
        exact ⟨_, rfl, Kd.R_mono q.1 (fun _ _ => trivial), HB.out.grown q.2 (below_size HB.out) (fun k_ hk_ => Kd.R_base hO k_ hk_)⟩
      · have hz0 : s.size = 0 := by omega
        obtain ⟨Ao, co, eo⟩ := Kd.R_slice HO.out
        subst eo
        have hl : (rng s.size).length = 0 := by rw [rng_length]; exact hz0
        have hE : rng s.size = [] := List.length_eq_zero_iff.mp hl
        have hA0 : argsort cf s.size = [] := by unfold argsort; rw [hE]; exact List.mergeSort_nil
        have hO := HO.out
        rw [hE] at hO
        have HO2 := Aside0.mk hO
        have HA0 := Aside0.mk hA0
        rw [hl]
        clear hz hz0 hl hE hA0 hO
        go_wp2_with (go_at_call 72; refine (stable0 _ _ _ _).mono ?_; rintro e w' ⟨rfl, rfl⟩)
        go_ret
        rw [HA0.out]
        exact ⟨_, rfl, Kd.R_mono HO2.out (fun _ _ => trivial), HB.out⟩
/-! ### Turnings of a text -/
theorem cmpB_anti : ∀ a b : List UInt8, (Lib.compareBytes a b < 0 ↔ 0 < Lib.compareBytes b a) ∧ (0 < Lib.compareBytes a b ↔ Lib.compareBytes b a < 0)
  | [], [] => by simp [Lib.compareBytes]
  | [], _ :: _ => by simp [Lib.compareBytes]
  | _ :: _, [] => by simp [Lib.compareBytes]
  | x :: a, y :: b => by
    have ih := cmpB_anti a b
    simp only [Lib.compareBytes, UInt8.lt_iff_toNat_lt]
    by_cases h1 : x.toNat < y.toNat
    · rw [if_pos h1, if_neg (by omega), if_pos h1]; omega
    · by_cases h2 : y.toNat < x.toNat
      · rw [if_neg h1, if_pos h2, if_pos h2]; omega
      · rw [if_neg h1, if_neg h2, if_neg h2, if_neg h1]; exact ih
theorem cmpB_trans : ∀ a b c : List UInt8, Lib.compareBytes a b ≤ 0 → Lib.compareBytes b c ≤ 0 → Lib.compareBytes a c ≤ 0
  | [], b, [], _, _ => by simp [Lib.compareBytes]
  | [], b, _ :: _, _, _ => by simp [Lib.compareBytes]
  | _ :: _, [], c, h, _ => by simp [Lib.compareBytes] at h
  | _ :: _, _ :: _, [], _, h => by simp [Lib.compareBytes] at h
  | x :: a, y :: b, z :: c, h1, h2 => by
    have ih := cmpB_trans a b c
    simp only [Lib.compareBytes, UInt8.lt_iff_toNat_lt] at *
    by_cases e1 : x.toNat < y.toNat
    · by_cases e2 : y.toNat < z.toNat
      · rw [if_pos (by omega)]; omega
      · rw [if_neg e2] at h2
        by_cases e3 : z.toNat < y.toNat
        · rw [if_pos e3] at h2; omega
        · rw [if_pos (by omega)]; omega
    · rw [if_neg e1] at h1
      by_cases e3 : y.toNat < x.toNat
      · rw [if_pos e3] at h1; omega
      · rw [if_neg e3] at h1
        by_cases e2 : y.toNat < z.toNat
        · rw [if_pos (by omega)]; omega
        · rw [if_neg e2] at h2
          by_cases e4 : z.toNat < y.toNat
          · rw [if_pos e4] at h2; omega
          · rw [if_neg e4] at h2
            rw [if_neg (by omega), if_neg (by omega)]
            exact ih h1 h2
/-- The text, turned by x. -/
def turnB (s : ByteArray) (x : Int) : ByteArray := s.extract x.toNat s.size ++ s.extract 0 x.toNat
/-- The comparison of turnings. -/
def cfT (s : ByteArray) (x y : Int) : Int := Lib.compareBytes (turnB s x).data.toList (turnB s y).data.toList
theorem cfT_cmp (s : ByteArray) : Cmp (cfT s) := ⟨fun x y => (cmpB_anti _ _).1, fun x y z h1 h2 => cmpB_trans _ _ _ h1 h2⟩
theorem ask74 (s : ByteArray) (hs : s.size ≤ 120) : Ask 74 s (cfT s) := by
  refine ⟨enters_of Try.func74 (by kernel_rfl) rfl, fun W B i j hB hi hj => ?_, cfT_cmp s⟩
  have hc := hB.cell
  obtain ⟨x, hx⟩ : ∃ x : Int, (i : Int) = x := ⟨_, rfl⟩
  obtain ⟨y, hy⟩ : ∃ y : Int, (j : Int) = y := ⟨_, rfl⟩
  have x0 : 0 ≤ x := by omega
  have y0 : 0 ≤ y := by omega
  have x1 : x ≤ (s.size : Int) := by omega
  have y1 : y ≤ (s.size : Int) := by omega
  have si : (s.extract x.toNat s.size).size + (s.extract 0 x.toNat).size ≤ 9223372036854775807 := by simp only [ByteArray.size_extract]; omega
  have sj : (s.extract y.toNat s.size).size + (s.extract 0 y.toNat).size ≤ 9223372036854775807 := by simp only [ByteArray.size_extract]; omega
  rw [hx, hy]
  have c1b0 := eq_true x0
  have c1b1 : decide (0 ≤ x) = true := decide_eq_true x0
  have c2b0 := eq_true y0
  have c2b1 : decide (0 ≤ y) = true := decide_eq_true y0
  have c3b0 := eq_true x1
  have c3b1 : decide (x ≤ (s.size : Int)) = true := decide_eq_true x1
  have c4b0 := eq_true y1
  have c4b1 : decide (y ≤ (s.size : Int)) = true := decide_eq_true y1
  have c5b0 := eq_true si
  have c5b2 : (9223372036854775807 < (s.extract x.toNat s.size).size + (s.extract 0 x.toNat).size) = False := eq_false (Nat.not_lt.2 si)
  have c5b4 := c5b2
  simp only [ByteArray.size_extract, Nat.min_self] at c5b4
  have c6b0 := eq_true sj
  have c6b2 : (9223372036854775807 < (s.extract y.toNat s.size).size + (s.extract 0 y.toNat).size) = False := eq_false (Nat.not_lt.2 sj)
  have c6b4 := c6b2
  simp only [ByteArray.size_extract, Nat.min_self] at c6b4
  have c7 : (9223372036854775807 < s.size) = False := eq_false (by omega)
  clear hB hi hj si sj hs hx hy x0 y0 x1 y1
  go_enter Try.func74, Try.ntmps74
  go_wp2_with fail
  go_quiet ((go_at_call 75; exact Calls.quiet_of_same (Try.strings_Compare _ _ _)))
  go_wp2
  go_ret
  exact ⟨rfl, nq, rfl⟩

theorem argWalk49 {cf : Int → Int → Int} (s : ByteArray) (hA : Ask 74 s cf) (hs : s.size ≤ 120) (w : World) :
    Calls Try.prog 49 #[.string s] w fun e w' => ∃ v0_ : Value, e = .returned v0_ ∧ Kd.R (Kd.int .i64) 3 w' w.heap.size (fun _ => True) v0_ (argsort cf s.size) ∧ Below w.heap.size w w' := by
  have HA := Aside0.mk hA
  have HS := Aside0.mk hs
  have eg := hA.eg
  clear hA hs
  go_enter Try.func49, Try.ntmps49
  go_upto_region 1 with (fail)
  have BX := Aside0.mk (boxS_made w s).1
  have HB := Aside0.mk (boxS_made w s).2
  generalize w.alloc (.cells #[.string s] 9) = w1 at BX HB ⊢
  go_upto_region 2 with (((with_reducible refine gate_dst (N := 5) rfl ?_); (try (refine gate_guard (by rfl) ?_; dsimp only)); refine Kd.R_lit (Kd.int .i64) _ 3 ?hg (N := 5) ?hd (xs := ([] : List Int)) (inner := []) (ok := fun _ => True) (okp := fun _ => True) ?hr ?hp (fun _ hk => hk) trivial (Below.refl _ _) (Nat.le_refl _) (by simp) ?_; (case hd => rfl); (case hg => rfl); (case hr => first | (go_simp; done) | (go_simp; rfl)); (case hp => exact (Reps.none _ _)); intro v224 w4 ho5 hb hg_ hnew_; clear hg_ hnew_; have n0_ := Aside0.mk (show Kd.R (Kd.int .i64) 3 w4 w.heap.size (fun k_ => k_ ≠ w.heap.size) v224 (rng 0) from Kd.R_lower (Kd.R_mono (Kd.R_bound ho5) (fun k_ hk_ => (Nat.ne_of_gt (Nat.lt_of_lt_of_le BX.out.lt hk_.2.1) : k_ ≠ w.heap.size))) (below_size HB.out)); have n1_ := Aside0.mk (below_step HB.out hb); have n2_ := Aside0.mk (BX.out.below hb); clear BX HB; have BX := n2_; have HO := n0_; have HB := n1_; clear n0_ n1_ n2_ hb ho5))
  have hc := BX.out.cell
  go_wp2
  go_loopg [3, 8] s.size (fun kq v3 v8 w' => ∃ (k : Nat), v8 = .int .i64 k ∧ Aside0 (k ≤ s.size ∧ s.size - k ≤ kq) ∧ Aside0 (Kd.R (Kd.int .i64) 3 w' w.heap.size (fun k_ => k_ ≠ w.heap.size) v3 (rng k)) ∧ Aside0 (Below w.heap.size w w') ∧ Aside0 (BoxS w' w.heap.size s))
  case atStart => exact ⟨0, rfl, ⟨by omega⟩, HO, HB, BX⟩
  case round =>
    clear HO HB BX hc
    obtain ⟨k, rfl, HK, HO, HB, BX⟩ := hrel
    by_cases hk : k < s.size
    · have c1 : decide (k < s.size) = true := decide_eq_true hk
      obtain ⟨Ao, co, eo⟩ := Kd.R_slice HO.out
      subst eo
      have W1 := Aside0.mk (w64of (z := (k : Int) + 1) (n := k + 1) (by omega) (by have := HS.out; omega))
      have HKK := Aside0.mk hk
      clear hk
      go_wp2_with (((with_reducible refine gate_builtin (b := .append) (xs := #[.tmp 11, .tmp 13]) rfl ?_); (try (refine gate_guard (by rfl) ?_; dsimp only)); at_builtin; refine Kd.R_append (Kd.int .i64) (w0 := w) w.heap.size rfl (.tmp 11) (.tmp 13) 22 3 (.int .i64 0) 8 rfl Try.underlying22 info3s rfl (by decide) (by omega) (.slice Ao (rng k).length co) (rng k) (k : Int) [.int .i64 (k : Int)] (fun k_ => k_ ≠ w.heap.size) (fun _ => False) rfl rfl ?aP (fun _ hk => hk.elim) ?aF ?aO ?aB ?aS ?aL ?_; (case aP => exact rfl); (case aB => exact (by repeat (first | (with_reducible first | exact HB.out | apply below_alloc | apply pw_below_drewN | apply below_drew1) | exact HB.out))); (case aF => exact (fun k_ hk_ => Nat.ne_of_gt (Nat.lt_of_lt_of_le BX.out.lt hk_))); (case aO => exact (by (with_reducible repeat (first | apply Kd.R_alloc | apply Kd.R_drewN | apply Kd.R_drew)); exact HO.out)); (case aS => exact (below_size (by repeat (first | (with_reducible first | exact HB.out | apply below_alloc | apply pw_below_drewN | apply below_drew1) | exact HB.out)))); (case aL => have := HS.out; have := HKK.out; rw [rng_length]; omega); intro v228 w16 ho hb hg hat; rw [← rng_succ] at ho; have n0_ := Aside0.mk (hb); have n1_ := Aside0.mk (ho); have n2_ := Aside0.mk (BX.out.grown hg (Kd.R_away HO.out (fun k_ hk_ => hk_))); clear BX HB HO; have HB := n0_; have HO := n1_; have BX := n2_; clear n0_ n1_ n2_; clear ho hb hg hat))
      go_roundg (s.size - (k + 1))
      case measure => have := HKK.out; have := HK.out; omega
      case rel => exact ⟨k + 1, by first | rfl | rw [W1.out], ⟨by have := HKK.out; omega⟩, HO, HB, BX⟩
    · have c1 : decide (k < s.size) = false := decide_eq_false hk
      obtain rfl : k = s.size := by have := HK.out; omega
      clear hk
      by_cases hz : 0 < s.size
      · obtain ⟨g7, cap7, eo7, hb7, hl7, hc7⟩ := Kd.R_form HO.out (by rw [rng_length]; exact hz)
        subst eo7
        have hne : w.heap.size ≠ g7 := fun e => (HO.out.1 g7 rfl) e.symm
        have hC := Aside0.mk (stableFunc (HA.out.cx BX.out hne) wr cap7 s.size (rng s.size) (atRow_of HO.out (by rw [rng_length]; exact hz)) (rng_length _) HS.out (fun i j i1 i2 => by rw [rng_at _ _ (by omega), rng_at _ _ i2]; omega) (fun x hx => rng_mem hx))
        have hL := Aside0.mk (rng_length s.size)
        have hl2 := rng_length s.size
        rw [rng_length]
        clear hb7 hl7 hc7 hz hne hl2
        go_wp2_with (go_at_call 72; refine hC.out.mono ?_; rintro e w' ⟨rfl, d', hR, hP, hI⟩; have HR := Aside0.mk hR; have HP := Aside0.mk hP; have HI := Aside0.mk hI; clear hR hP hI)
        go_ret
        have hI := HI.out
        have hO := HO.out
        rw [hL.out] at hI
        have q := R_ofRow hO HR.out HP.out.length_eq
        have e := argsort_of HA.out.cmp HP.out hI
        rw [← e]
        rw [hL.out] at q
        exact ⟨_, rfl, Kd.R_mono q.1 (fun _ _ => trivial), HB.out.grown q.2 (below_size HB.out) (fun k_ hk_ => Kd.R_base hO k_ hk_)⟩
      · have hz0 : s.size = 0 := by omega
        obtain ⟨Ao, co, eo⟩ := Kd.R_slice HO.out
        subst eo
        have hl : (rng s.size).length = 0 := by rw [rng_length]; exact hz0
        have hE : rng s.size = [] := List.length_eq_zero_iff.mp hl
        have hA0 : argsort cf s.size = [] := by unfold argsort; rw [hE]; exact List.mergeSort_nil
        have hO := HO.out
        rw [hE] at hO
        have HO2 := Aside0.mk hO
        have HA0 := Aside0.mk hA0
        rw [hl]
        clear hz hz0 hl hE hA0 hO
        go_wp2_with (go_at_call 72; refine (stable0 _ _ _ _).mono ?_; rintro e w' ⟨rfl, rfl⟩)
        go_ret
        rw [HA0.out]
        exact ⟨_, rfl, Kd.R_mono HO2.out (fun _ _ => trivial), HB.out⟩
end Go.Proofs.Ythhcgepofldgaaa.PSortO
