/- The stable sort of a list of numbers, in the words of the printed walks. -/
import Derived.Test.YthhcgepofldgaaaPSortS
import Derived.Test.YthhcgepofldgaaaWMore
namespace Go.Proofs.Ythhcgepofldgaaa.PSortN
open Go.RowKit Go.Proofs.YthhcgepofldgaaaW.PrintWords Go.Proofs.YthhcgepofldgaaaW.PrintLast Go.Proofs.YthhcgepofldgaaaW.PrintMore Go.Proofs.Ythhcgepofldgaaa.K Go.Proofs.Ythhcgepofldgaaa.PSortM Go.Proofs.Ythhcgepofldgaaa.PSortI Go.Proofs.Ythhcgepofldgaaa.PSortS
set_option linter.unusedVariables false
set_option maxHeartbeats 4000000
set_option maxRecDepth 100000

/-! ### The sort of no elements -/
theorem ins00 (S F : Value) (W : World) : Calls Try.prog 104 #[S, .int .i64 0, .int .i64 0, F] W fun e w' => e = .returned (.tuple #[]) ∧ w' = W := by
  go_enter Try.func104, Try.ntmps104
  go_wp2
  go_loopg [8] 1 (fun k v8 w' => v8 = .int .i64 1 ∧ w' = W)
  case atStart => exact ⟨by first | rfl | decide, rfl⟩
  case round =>
    obtain ⟨rfl, rfl⟩ := hrel
    go_wp2
    go_end0
    exact ⟨rfl, rfl⟩
theorem stable0 (A : Option Addr) (c : Nat) (F : Value) (W : World) : Calls Try.prog 72 #[.slice A 0 c, F] W fun e w' => e = .returned (.tuple #[]) ∧ w' = W := by
  have h87 : Calls Try.prog 87 #[.slice A 0 c, .int .i64 0, F] W fun e w' => e = .returned (.tuple #[]) ∧ w' = W := by
    go_enter Try.func87, Try.ntmps87
    go_wp2
    go_loopg [7, 8] 1 (fun k v7 v8 w' => v7 = .int .i64 0 ∧ v8 = .int .i64 20 ∧ Aside0 (w' = W))
    case atStart => exact ⟨rfl, rfl, ⟨rfl⟩⟩
    case round =>
      obtain ⟨rfl, rfl, HW⟩ := hrel
      go_wp2_with (go_at_call 104; refine (ins00 _ _ _).mono ?_; rintro e w' ⟨rfl, rfl⟩)
      go_loopg [6, 7, 8, 9] 1 (fun k v6 v7 v8 v9 w' => v6 = .int .i64 20 ∧ Aside0 (w' = W))
      case atStart => exact ⟨rfl, HW⟩
      case round =>
        obtain ⟨rfl, HW2⟩ := hrel
        go_wp2
        go_end0
        exact ⟨rfl, HW2.out⟩
  have H := Aside0.mk h87
  clear h87
  go_enter Try.func72, Try.ntmps72
  go_wp2_with (go_at_call 87; refine H.out.mono ?_; rintro e w' ⟨rfl, rfl⟩)
  go_end0
  exact ⟨rfl, rfl⟩
/-! ### The sort in the words of rows -/
theorem stableFunc {w0 : World} {g gc : Nat} {cb : Array Value} {cf : Int → Int → Int} {V : Int → Prop} (hX : Cx w0 g gc cb cf V) (W : World) (cap n : Nat) (d : List Int) (h : AtRow w0 W g d) (hn : d.length = n) (hlen : n ≤ 120)
    (h1 : ∀ i j, i < j → j < n → K.at_ d i < K.at_ d j) (hV : ∀ x ∈ d, V x) :
    Calls Try.prog 72 #[.slice (some ⟨g, 0, none⟩) n cap, .func (.func gc) #[] cb] W (StablePost w0 g cf d) := by
  have H := Aside0.mk (stableCmp hX W cap n d h hn hlen h1 hV)
  clear hX h hn hlen h1 hV
  go_enter Try.func72, Try.ntmps72
  go_wp2_with (go_at_call 87; refine H.out.mono ?_; rintro e w' ⟨rfl, hp⟩; have HP := Aside0.mk hp; clear hp)
  go_end0
  exact ⟨rfl, HP.out⟩
/-- The numbers below n. -/
def rng (n : Nat) : List Int := (List.range n).map Int.ofNat
theorem rng_length (n : Nat) : (rng n).length = n := by simp [rng]
theorem rng_at (n i : Nat) (h : i < n) : K.at_ (rng n) i = (i : Int) := by simp [rng, K.at_, List.getD_eq_getElem?_getD, h]
theorem rng_succ (n : Nat) : rng (n + 1) = rng n ++ [(n : Int)] := by simp [rng, List.range_succ]
theorem rng_mem {n : Nat} {x : Int} (h : x ∈ rng n) : ∃ j : Nat, x = (j : Int) ∧ j < n := by
  simp only [rng, List.mem_map, List.mem_range] at h
  obtain ⟨j, h1, h2⟩ := h
  exact ⟨j, h2.symm, h1⟩
/-- The numbers below n, in the order of a comparison; where it tells no difference, by themselves. -/
def leB (cf : Int → Int → Int) (x y : Int) : Bool := decide (cf x y < 0 ∨ (cf x y = 0 ∧ x ≤ y))
def argsort (cf : Int → Int → Int) (n : Nat) : List Int := (rng n).mergeSort (leB cf)
theorem leB_trans {cf : Int → Int → Int} (hc : Cmp cf) (a b c : Int) (h1 : leB cf a b = true) (h2 : leB cf b c = true) : leB cf a c = true := by
  unfold leB at *
  rw [decide_eq_true_iff] at *
  by_cases e1 : a = b
  · subst e1; exact h2
  by_cases e2 : b = c
  · subst e2; exact h1
  have l1 : Lt cf a b := by rcases h1 with h | ⟨h, l⟩; exact .inl h; exact .inr ⟨h, by omega⟩
  have l2 : Lt cf b c := by rcases h2 with h | ⟨h, l⟩; exact .inl h; exact .inr ⟨h, by omega⟩
  rcases l1.trans hc l2 with h | ⟨h, l⟩
  · exact .inl h
  · exact .inr ⟨h, by omega⟩
theorem leB_total {cf : Int → Int → Int} (hc : Cmp cf) (a b : Int) : (leB cf a b || leB cf b a) = true := by
  unfold leB
  rw [Bool.or_eq_true, decide_eq_true_iff, decide_eq_true_iff]
  have := hc.anti a b
  have := hc.anti b a
  omega
theorem argsort_of {cf : Int → Int → Int} (hc : Cmp cf) {d : List Int} {n : Nat} (hp : List.Perm d (rng n)) (hi : Inc cf d 0 n) : d = argsort cf n := by
  have hl : d.length = n := hp.length_eq.trans (rng_length n)
  have p1 : d.Pairwise (fun a b => leB cf a b = true) := by
    rw [List.pairwise_iff_getElem]
    intro i j h1 h2 hij
    have := hi i j (Nat.zero_le _) hij (by omega)
    unfold K.at_ at this
    rw [List.getD_eq_getElem?_getD, List.getD_eq_getElem?_getD, List.getElem?_eq_getElem h1, List.getElem?_eq_getElem h2] at this
    unfold leB
    rw [decide_eq_true_iff]
    rcases this with h | ⟨h, l⟩
    · exact .inl h
    · exact .inr ⟨h, Int.le_of_lt l⟩
  have p2 : (argsort cf n).Pairwise (fun a b => leB cf a b = true) := List.pairwise_mergeSort (leB_trans hc) (leB_total hc) _
  refine List.Perm.eq_of_pairwise (fun a b _ _ h1 h2 => ?_) p1 p2 (hp.trans (List.mergeSort_perm _ _).symm)
  unfold leB at h1 h2
  rw [decide_eq_true_iff] at h1 h2
  have := hc.anti a b
  have := hc.anti b a
  omega
theorem atRow_of {w : World} {base g cap : Nat} {ok : Nat → Prop} {l : List Int} (hR : Kd.R (Kd.int .i64) 3 w base ok (.slice (some ⟨g, 0, none⟩) l.length cap) l) (hl : 0 < l.length) : AtRow w w g l := by
  have ho := Kd.own_of_R hR
  rcases ho.2 with ⟨h, _⟩ | ⟨g', cap', cur, he, hb', hh, hn, hc, hs, ht⟩
  · cases h
  obtain rfl : g = g' := by
    injection he with e1 e2 e3
    injection e1 with e1
    injection e1 with e1
  refine ⟨rfl, rfl, rfl, rfl, fun _ _ => rfl, fun c0 c1 q0 q1 => by rw [q0] at q1; have q2 := Option.some.inj q1; injection q2 with q2; rw [q2], cur, hh, by rw [hs]; omega, fun j hj => ?_⟩
  have := Kd.R_cell 0 hR (j : Int) (by omega) (by omega)
  rw [Int.toNat_natCast] at this
  have h2 := this.1
  simp only [World.cell?, hh] at h2
  exact (show cur[j]? = _ from h2).trans (by simp [rdOf])
theorem R_ofRow {w w' : World} {base g cap : Nat} {ok : Nat → Prop} {l l' : List Int} (hR : Kd.R (Kd.int .i64) 3 w base ok (.slice (some ⟨g, 0, none⟩) l.length cap) l) (h : AtRow w w' g l') (hl : l'.length = l.length) : Kd.R (Kd.int .i64) 3 w' base ok (.slice (some ⟨g, 0, none⟩) l.length cap) l' ∧ w.grownBy w' (Value.slice (some ⟨g, 0, none⟩) l.length cap).ownBlock := by
  have ho := Kd.own_of_R hR
  refine ⟨?_, ⟨h.os, h.tape, h.output, by rw [h.size]; exact Nat.le_refl _, fun k hk hne => h.block k (fun e => hne (by rw [e]; rfl))⟩⟩
  rcases ho.2 with ⟨h', _⟩ | ⟨g', cap', cur, he, hb', hh, hn, hc, hs, ht⟩
  · cases h'
  obtain ⟨rfl, rfl⟩ : g = g' ∧ cap = cap' := by
    injection he with e1 e2 e3
    injection e1 with e1
    injection e1 with e1
    exact ⟨e1, e3⟩
  obtain ⟨cur2, r1, r2, r3⟩ := h.row
  have hsz : cur2.size = cur.size := h.cells cur cur2 hh r1
  have hown : w'.ownsRow base 3 1 (.slice (some ⟨g, 0, none⟩) l.length cap) l'.length (encs (Value.int .i64) l') := by
    refine ⟨by simp [encs], .inr ⟨g, cap, cur2, by rw [hl], hb', r1, by rw [hl]; exact hn, hc, by rw [hsz]; exact hs, ?_⟩⟩
    apply List.ext_getElem?
    intro j
    by_cases hj : j < l'.length
    · have h3 := r3 j hj
      rw [List.getElem?_take_of_lt (by omega)]
      simp only [Array.getElem?_toList, h3]
      simp [encs, hj]
    · rw [List.getElem?_eq_none (by rw [List.length_take]; omega), List.getElem?_eq_none (by simp [encs]; omega)]
  exact Kd.R_of_own (h1 := fun _ => rfl) (ok := ok) hown (fun k hk => hR.1 k hk)
end Go.Proofs.Ythhcgepofldgaaa.PSortN
