/- The law FnRuns answers true for all drawn texts: a text is recovered from its runs, and runs from their code, which is at most half as long again as the text. -/
import Derived.Test.YthhcgepofldgaaaPFnRunsx7
import Derived.Test.YthhcgepofldgaaaKKit
import Derived.Test.YthhcgepofldgaaaKGF
import Derived.Test.YthhcgepofldgaaaKGFL
import Derived.Test.YthhcgepofldgaaaKElim
import Derived.Test.YthhcgepofldgaaaKEch
set_option linter.unusedVariables false
set_option linter.unusedSimpArgs false
namespace Go.Proofs.Ythhcgepofldgaaa.Pure
open Go Go.RowKit Go.Proofs.Ythhcgepofldgaaa Go.Proofs.Ythhcgepofldgaaa.PFnRuns Go.Proofs.YthhcgepofldgaaaW.PrintWords Go.Proofs.YthhcgepofldgaaaW.PrintLast Go.Proofs.YthhcgepofldgaaaW.PrintMore

theorem next_ok (c : List Int) (hc : K.Code c) (a : Int) (h0 : 0 ≤ a) (h1 : a ≤ 1152921504606846976) (sd : Int) : ∃ v sd', spec_l1Cur_next.f c a sd = some (v, a + 1, sd') ∧ 0 ≤ v ∧ v ≤ 255 := by
  have hl := hc.len
  have w : K.Eqn (wrap64 (a + 1)) (a + 1) := ⟨K.w64 (by omega) (by omega)⟩
  by_cases h : a < (c.length : Int)
  · have hr := hc.rd_rng a
    have wr : K.Eqn (wrap64 (rd c a)) (rd c a) := ⟨K.w64 (by omega) (by omega)⟩
    have h2 : a + 1 ≤ (c.length : Int) := by omega
    simp only [spec_l1Cur_next.f, if_pos h, if_pos h0, w.out, if_pos h2, wr.out]
    exact ⟨_, _, rfl, hr.1, hr.2⟩
  · have h2 : ¬ (a + 1 ≤ (c.length : Int)) := by omega
    have hb : ∀ y : Int, wrap64 (Go.bits .and .u64 y 255) = Go.bits .and .u64 y 255 ∧ 0 ≤ Go.bits .and .u64 y 255 ∧ Go.bits .and .u64 y 255 ≤ 255 := fun y => by
      have := K.u64_and255 y
      exact ⟨K.w64 (by omega) (by omega), this⟩
    simp only [spec_l1Cur_next.f, if_neg h, w.out, if_neg h2, (hb _).1]
    exact ⟨_, _, rfl, (hb _).2.1, (hb _).2.2⟩

theorem pick_ok (c : List Int) (hc : K.Code c) (a : Int) (h0 : 0 ≤ a) (h1 : a ≤ 1000000000000000000) (sd : Int) (n : Int) (hn : n ≤ 1000000) : ∃ v a' sd', spec_l1Cur_pick.f c a sd n = some (v, a', sd') ∧ 0 ≤ v ∧ (v < n ∨ v = 0) ∧ a ≤ a' ∧ a' ≤ a + 2 := by
  by_cases h : n ≤ 1
  · exact ⟨0, a, sd, by simp only [spec_l1Cur_pick.f, if_pos h], by omega, .inr rfl, by omega, by omega⟩
  obtain ⟨v, sd1, e1, v0, v1⟩ := next_ok c hc a h0 (by omega) sd
  have hnz : ¬ n = 0 := by omega
  have tm : ∀ x : Int, 0 ≤ x → 0 ≤ Int.tmod x n ∧ Int.tmod x n < n := fun x hx => by
    rw [Int.tmod_eq_emod_of_nonneg hx]
    exact ⟨Int.emod_nonneg _ (by omega), Int.emod_lt_of_pos _ (by omega)⟩
  by_cases h2 : n > 200
  · obtain ⟨u, sd2, e2, u0, u1⟩ := next_ok c hc (a + 1) (by omega) (by omega) sd1
    have w1 : K.Eqn (wrap64 (v * 256)) (v * 256) := ⟨K.w64 (by omega) (by omega)⟩
    have w2 : K.Eqn (wrap64 (v * 256 + u)) (v * 256 + u) := ⟨K.w64 (by omega) (by omega)⟩
    have t := tm (v * 256 + u) (by omega)
    refine ⟨_, a + 1 + 1, sd2, by simp only [spec_l1Cur_pick.f, if_neg h, e1, Option.bind_some, if_pos h2, e2, if_neg hnz, w1.out, w2.out], t.1, .inl t.2, by omega, by omega⟩
  · have t := tm v v0
    exact ⟨_, a + 1, sd1, by simp only [spec_l1Cur_pick.f, if_neg h, e1, Option.bind_some, if_neg h2, if_neg hnz], t.1, .inl t.2, by omega, by omega⟩

theorem one_ok (c : List Int) (hc : K.Code c) (a : Int) (h0 : 0 ≤ a) (h1 : a ≤ 1000000000000000000) (sd : Int) (n : Int) (hn : n ≤ 1000000) : ∃ (b : Bool) (a' sd' : Int), spec_l1Cur_one.f c a sd n = some (b, a', sd') ∧ a ≤ a' ∧ a' ≤ a + 2 := by
  obtain ⟨v, a', sd', e, _, _, g1, g2⟩ := pick_ok c hc a h0 h1 sd n hn
  exact ⟨v == 0, a', sd', by simp only [spec_l1Cur_one.f, e, Option.bind_some], g1, g2⟩

theorem of_ok (c : List Int) (hc : K.Code c) (a : Int) (h0 : 0 ≤ a) (h1 : a ≤ 1000000000000000000) (sd : Int) (l : List ByteArray) (hl : 0 < l.length) (hl2 : l.length ≤ 1000000) : ∃ (s : ByteArray) (a' sd' : Int), spec_l1Cur_of.f c a sd l = some (s, a', sd') ∧ s ∈ l ∧ a ≤ a' ∧ a' ≤ a + 2 := by
  obtain ⟨v, a', sd', e, v0, v1, g1, g2⟩ := pick_ok c hc a h0 h1 sd (l.length : Int) (by omega)
  have hv : v.toNat < l.length := by omega
  refine ⟨rdOf ByteArray.empty l v, a', sd', by simp only [spec_l1Cur_of.f, e, Option.bind_some, if_pos v0, if_pos (show v < (l.length : Int) by omega)], ?_, g1, g2⟩
  simp only [rdOf, List.getD_eq_getElem?_getD, List.getElem?_eq_getElem hv, Option.getD_some]
  exact List.getElem_mem hv

theorem prose_ok (c : List Int) (hc : K.Code c) (a : Int) (h0 : 0 ≤ a) (h1 : a ≤ 700000000000000000) (sd : Int) : ∃ (s : ByteArray) (a' sd' : Int), Ev (fun k => spec_l1Cur_prose.f k c a sd) (s, a', sd') ∧ s.size ≤ 240 ∧ a ≤ a' ∧ a' ≤ a + 200 := by
  have key : ∀ (d : Nat) (s : ByteArray) (a sd : Int), d ≤ 60 → s.size + 4 * d ≤ 240 → 0 ≤ a → a + 2 * d ≤ 750000000000000000 → ∃ (r : ByteArray) (a' sd' : Int), Ev (fun k => spec_l1Cur_prose.l0 k s (d : Int) c a sd) (r, a', sd') ∧ r.size ≤ 240 ∧ a ≤ a' ∧ a' ≤ a + 2 * d + 2 := by
    intro d
    induction d with
    | zero =>
      intro s a sd _ g1 g2 g3
      by_cases h : (s.size : Int) > 120
      · obtain ⟨b, a1, sd1, e1, b1, b2⟩ := one_ok c hc a g2 (by omega) sd 4 (by omega)
        cases b with
        | true =>
          refine ⟨s, a1, sd1, ?_, by omega, by omega, by omega⟩
          apply K.Ev.succ
          simp only [spec_l1Cur_prose.l0, if_neg (show ¬ (((0 : Nat) : Int) > 0) by omega), if_pos h, e1, Option.bind_some, if_true]
          exact Ev.now _
        | false =>
          refine ⟨s.extract 0 120, a1, sd1, ?_, by rw [ByteArray.size_extract]; omega, by omega, by omega⟩
          apply K.Ev.succ
          simp only [spec_l1Cur_prose.l0, if_neg (show ¬ (((0 : Nat) : Int) > 0) by omega), if_pos h, e1, Option.bind_some, Bool.false_eq_true, if_false, if_pos (show (0 : Int) ≤ 120 by omega), if_pos (show (120 : Int) ≤ (s.size : Int) by omega)]
          exact Ev.now _
      · refine ⟨s, a, sd, ?_, by omega, by omega, by omega⟩
        apply K.Ev.succ
        simp only [spec_l1Cur_prose.l0, if_neg (show ¬ (((0 : Nat) : Int) > 0) by omega), if_neg h]
        exact Ev.now _
    | succ d ih =>
      intro s a sd g0 g1 g2 g3
      obtain ⟨t, a1, sd1, e1, ht, b1, b2⟩ := of_ok c hc a g2 (by omega) sd ([(⟨#[97]⟩ : ByteArray), (⟨#[98]⟩ : ByteArray), (⟨#[110, 97]⟩ : ByteArray), (⟨#[97, 98]⟩ : ByteArray), (⟨#[116, 104, 101, 32]⟩ : ByteArray), (⟨#[97, 97, 97]⟩ : ByteArray), (⟨#[0]⟩ : ByteArray)] : List ByteArray) (by simp) (by simp)
      have hts : t.size ≤ 4 := by
        simp only [List.mem_cons, List.not_mem_nil, or_false] at ht
        rcases ht with rfl | rfl | rfl | rfl | rfl | rfl | rfl <;> decide
      have w : K.Eqn (wrap64 (((d + 1 : Nat) : Int) - 1)) (d : Int) := ⟨K.w64p d (by omega)⟩
      obtain ⟨r, a', sd', e2, r1, b3, b4⟩ := ih (s ++ t) a1 sd1 (by omega) (by rw [ByteArray.size_append]; omega) (by omega) (by omega)
      refine ⟨r, a', sd', ?_, r1, by omega, by omega⟩
      apply K.Ev.succ
      simp only [spec_l1Cur_prose.l0, if_pos (show ((d + 1 : Nat) : Int) > 0 by omega), e1, Option.bind_some, if_pos (show s.size + t.size ≤ 9223372036854775807 by omega), w.out]
      exact e2
  obtain ⟨v, a1, sd1, e1, v0, v1, b1, b2⟩ := pick_ok c hc a h0 (by omega) sd 12 (by omega)
  obtain ⟨b, a2, sd2, e2, b3, b4⟩ := one_ok c hc a1 (by omega) (by omega) sd1 20 (by omega)
  cases b with
  | true =>
    obtain ⟨r, a', sd', e3, r1, b5, b6⟩ := key 60 (⟨#[]⟩ : ByteArray) a2 sd2 (by omega) (by decide) (by omega) (by omega)
    refine ⟨r, a', sd', ?_, r1, by omega, by omega⟩
    simp only [spec_l1Cur_prose.f, e1, Option.bind_some, e2, if_true]
    apply K.Ev.succ
    simp only [spec_l1Cur_prose.j0]
    exact e3
  | false =>
    obtain ⟨m, rfl⟩ := Int.eq_ofNat_of_zero_le v0
    obtain ⟨r, a', sd', e3, r1, b5, b6⟩ := key m (⟨#[]⟩ : ByteArray) a2 sd2 (by omega) (by show 0 + 4 * m ≤ 240; omega) (by omega) (by omega)
    refine ⟨r, a', sd', ?_, r1, by omega, by omega⟩
    simp only [spec_l1Cur_prose.f, e1, Option.bind_some, e2, Bool.false_eq_true, if_false]
    apply K.Ev.succ
    simp only [spec_l1Cur_prose.j0]
    exact e3

theorem moved_ok (c : List Int) (hc : K.Code c) (a : Int) (h0 : 0 ≤ a) (h1 : a ≤ 600000000000000000) (sd : Int) : ∃ (s : ByteArray) (a' sd' : Int), Ev (fun k => spec_l1Cur_moved.f k c a sd) (s, a', sd') ∧ s.size ≤ 400 ∧ a ≤ a' ∧ a' ≤ a + 210 := by
  obtain ⟨s, a1, sd1, e1, s1, b1, b2⟩ := prose_ok c hc a h0 (by omega) sd
  obtain ⟨v, a2, sd2, e2, v0, v1, b3, b4⟩ := pick_ok c hc a1 (by omega) (by omega) sd1 20 (by omega)
  by_cases hv : v = 0
  · have sz : (strOfNums (List.replicate 150 0)).size = 150 := by rw [strOfNums_size]; simp
    refine ⟨s ++ strOfNums (List.replicate 150 0), a2, sd2, ?_, by rw [ByteArray.size_append, sz]; omega, by omega, by omega⟩
    simp only [spec_l1Cur_moved.f]
    refine Ev.bind e1 ?_
    simp only [e2, Option.bind_some, if_pos hv, if_pos (show (150 : Nat) ≤ 281474976710656 by omega), sz, if_pos (show s.size + 150 ≤ 9223372036854775807 by omega)]
    exact Ev.now _
  by_cases hv1 : v = 1
  · obtain ⟨u, a3, sd3, e3, u0, u1, b5, b6⟩ := pick_ok c hc a2 (by omega) (by omega) sd2 2 (by omega)
    have w : K.Eqn (wrap64 (200 + u)) (200 + u) := ⟨K.w64 (by omega) (by omega)⟩
    refine ⟨strOfNums (List.replicate (200 + u).toNat 0), a3, sd3, ?_, by rw [strOfNums_size]; simp only [List.length_replicate]; omega, by omega, by omega⟩
    simp only [spec_l1Cur_moved.f]
    refine Ev.bind e1 ?_
    simp only [e2, Option.bind_some, if_neg hv, if_pos hv1, e3, w.out, if_pos (show 0 ≤ 200 + u by omega), if_pos (show (200 + u).toNat ≤ 281474976710656 by omega)]
    exact Ev.now _
  · refine ⟨s, a2, sd2, ?_, by omega, by omega, by omega⟩
    simp only [spec_l1Cur_moved.f]
    refine Ev.bind e1 ?_
    simp only [e2, Option.bind_some, if_neg hv, if_neg hv1]
    exact Ev.now _

theorem drawMoveFront_ok (c : List Int) (hc : K.Code c) : ∃ s : ByteArray, Ev (fun k => spec_DrawMoveFront.f k c) s ∧ s.size ≤ 400 := by
  obtain ⟨s, a, sd, e, s1, _, _⟩ := moved_ok c hc 0 (by omega) (by omega) 0
  refine ⟨s, ?_, s1⟩
  simp only [spec_DrawMoveFront.f]
  exact Ev.bind e (Ev.now _)

theorem runs_of_same (s : ByteArray) (hs : s.size ≤ 200) : ∃ r : List S69, r.length ≤ 200 ∧ Ev (fun k => spec_RunsOf.l0 k s [] 0) (r, true) ∧ Ev (fun k => impl_RunsOf.l0 k s [] (s.size : Int) 0) (r, true) := by
  have key : ∀ (d n : Nat) (x : List S69), n + d = s.size → x.length ≤ n → ∃ r : List S69, r.length ≤ 200 ∧ Ev (fun k => spec_RunsOf.l0 k s x (n : Int)) (r, true) ∧ Ev (fun k => impl_RunsOf.l0 k s x (s.size : Int) (n : Int)) (r, true) := by
    intro d
    induction d with
    | zero =>
      intro n x h1 h2
      refine ⟨x, by omega, ?_, ?_⟩ <;> apply K.Ev.succ
      · simp only [spec_RunsOf.l0, if_neg (show ¬ ((n : Int) < (s.size : Int)) by omega)]; exact Ev.now _
      · simp only [impl_RunsOf.l0, if_neg (show ¬ ((n : Int) < (s.size : Int)) by omega)]; exact Ev.now _
    | succ d ih =>
      intro n x h1 h2
      have a1 : (n : Int) < (s.size : Int) := by omega
      have a0 : (0 : Int) ≤ (n : Int) := by omega
      have lim : x.length < 8796093022208 := by omega
      have wl : wrap64 ((x.length : Int) - 1) = (x.length : Int) - 1 := K.w64 (by omega) (by omega)
      by_cases hz : (x.length : Int) - 1 ≥ 0
      · have b1 : (x.length : Int) - 1 < (x.length : Int) := by omega
        have b0 : 0 ≤ (x.length : Int) - 1 := hz
        by_cases hc : (rd_T69 x ((x.length : Int) - 1)).f0 = bt s (n : Int)
        · obtain ⟨r, e0, e1, e2⟩ := ih (n + 1) (x.set ((x.length : Int) - 1).toNat ⟨(rd_T69 x ((x.length : Int) - 1)).f0, wrap64 ((rd_T69 x ((x.length : Int) - 1)).f1 + 1)⟩) (by omega) (by simp; omega)
          refine ⟨r, e0, ?_, ?_⟩ <;> apply K.Ev.succ
          · simp only [spec_RunsOf.l0, if_pos a1, wl, if_pos hz, if_pos b0, if_pos b1, if_pos a0, if_pos hc, K.w64s n (show n < 9223372036854775807 by omega)]; exact e1
          · simp only [impl_RunsOf.l0, if_pos a1, wl, if_pos hz, if_pos b0, if_pos b1, if_pos a0, if_pos hc, K.w64s n (show n < 9223372036854775807 by omega)]; exact e2
        · obtain ⟨r, e0, e1, e2⟩ := ih (n + 1) (x ++ [⟨bt s (n : Int), 1⟩]) (by omega) (by simp; omega)
          refine ⟨r, e0, ?_, ?_⟩ <;> apply K.Ev.succ
          · simp only [spec_RunsOf.l0, if_pos a1, wl, if_pos hz, if_pos b0, if_pos b1, if_pos a0, if_neg hc, if_pos lim, K.w64s n (show n < 9223372036854775807 by omega)]; exact e1
          · simp only [impl_RunsOf.l0, if_pos a1, wl, if_pos hz, if_pos b0, if_pos b1, if_pos a0, if_neg hc, if_pos lim, K.w64s n (show n < 9223372036854775807 by omega)]; exact e2
      · obtain ⟨r, e0, e1, e2⟩ := ih (n + 1) (x ++ [⟨bt s (n : Int), 1⟩]) (by omega) (by simp; omega)
        refine ⟨r, e0, ?_, ?_⟩ <;> apply K.Ev.succ
        · simp only [spec_RunsOf.l0, if_pos a1, wl, if_neg hz, if_pos a0, if_pos lim, K.w64s n (show n < 9223372036854775807 by omega)]; exact e1
        · simp only [impl_RunsOf.l0, if_pos a1, wl, if_neg hz, if_pos a0, if_pos lim, K.w64s n (show n < 9223372036854775807 by omega)]; exact e2
  exact key s.size 0 [] (by omega) (by simp)
theorem runs_of_eq (s : ByteArray) : ∃ r : List S69 × Bool, r.1.length ≤ 200 ∧ Ev (fun k => spec_RunsOf.f k s) r ∧ Ev (fun k => impl_RunsOf.f k s) r := by
  by_cases h : (s.size : Int) > 200
  · refine ⟨([], false), by simp, ?_, ?_⟩
    · simp only [spec_RunsOf.f, if_pos h]; exact Ev.now _
    · simp only [impl_RunsOf.f, if_pos h]; exact Ev.now _
  · obtain ⟨r, e0, e1, e2⟩ := runs_of_same s (by omega)
    refine ⟨(r, true), e0, ?_, ?_⟩
    · simp only [spec_RunsOf.f, if_neg h]; exact e1
    · simp only [impl_RunsOf.f, if_neg h]; exact e2

theorem sameRuns_self (l : List S69) (hl : l.length ≤ 140737488355328) : Ev (fun k => laws_sameRuns.f k l l) true := by
  have key : ∀ (d n : Nat), n + d = l.length → Ev (fun k => laws_sameRuns.l0 k l l (l.length : Int) (n : Int)) true := by
    intro d
    induction d with
    | zero =>
      intro n h1
      apply K.Ev.succ
      simp only [laws_sameRuns.l0, if_neg (show ¬ ((n : Int) < (l.length : Int)) by omega)]
      exact Ev.now _
    | succ d ih =>
      intro n h1
      apply K.Ev.succ
      simp only [laws_sameRuns.l0, if_pos (show (n : Int) < (l.length : Int) by omega), if_pos (show (0 : Int) ≤ (n : Int) by omega), beq_self_eq_true, Bool.not_true, Bool.or_self, Bool.false_eq_true, if_false]
      rw [K.w64s n (by omega)]
      exact ih (n + 1) (by omega)
  unfold laws_sameRuns.f
  simp only [if_true]
  exact key l.length 0 (by omega)

/-- Each run is of 1 to 200 bytes, and its byte is another than the one ahead. -/
def GoodAt (l : List S69) (i : Nat) : Prop := 1 ≤ (rd_T69 l (i : Int)).f1 ∧ (rd_T69 l (i : Int)).f1 ≤ 200 ∧ (0 < i → (rd_T69 l ((i - 1 : Nat) : Int)).f0 ≠ (rd_T69 l (i : Int)).f0)
def nb (s : ByteArray) : List Nat := s.data.toList.map (fun b => b.toNat)
theorem good_same (l : List S69) (hl : l.length ≤ 140737488355328) : ∃ b : Bool, Ev (fun k => spec_GoodRuns.f k l) b ∧ Ev (fun k => impl_GoodRuns.f k l) b ∧ (b = true → l.length ≤ 200 ∧ ∀ i, i < l.length → GoodAt l i) := by
  have key : ∀ (d n : Nat) (c : Int), n + d = l.length → (n : Int) ≤ c → c ≤ 200 → ∃ b : Bool, Ev (fun k => spec_GoodRuns.l0 k l c l (l.length : Int) (n : Int)) b ∧ Ev (fun k => impl_GoodRuns.l0 k l c l (l.length : Int) (n : Int)) b ∧ (b = true → l.length ≤ 200 ∧ ∀ i, n ≤ i → i < l.length → GoodAt l i) := by
    intro d
    induction d with
    | zero =>
      intro n c h1 h2 h3
      refine ⟨true, ?_, ?_, fun _ => ⟨by omega, fun i hi hi2 => by omega⟩⟩ <;> apply K.Ev.succ
      · simp only [spec_GoodRuns.l0, if_neg (show ¬ ((n : Int) < (l.length : Int)) by omega)]; exact Ev.now _
      · simp only [impl_GoodRuns.l0, if_neg (show ¬ ((n : Int) < (l.length : Int)) by omega)]; exact Ev.now _
    | succ d ih =>
      intro n c h1 h2 h3
      have a1 : (n : Int) < (l.length : Int) := by omega
      have a0 : (0 : Int) ≤ (n : Int) := by omega
      have wm : K.Eqn (wrap64 (200 - c)) (200 - c) := ⟨K.w64 (by omega) (by omega)⟩
      generalize hF : (rd_T69 l (n : Int)).f1 = F
      by_cases hr : 1 ≤ F ∧ F ≤ 200 - c
      · have qs : spec_l1In.f F 1 200 = some true := by unfold spec_l1In.f; rw [if_pos hr.1]; simp; omega
        have qi : impl_within.f F 1 (200 - c) = some true := by unfold impl_within.f; rw [if_pos hr.1]; simp; omega
        have wc : K.Eqn (wrap64 (c + F)) (c + F) := ⟨K.w64 (by omega) (by omega)⟩
        have nb : ¬ (c + F > 200) := by omega
        cases n with
        | zero =>
          obtain ⟨b, e1, e2, e3⟩ := ih 1 (c + F) (by omega) (by omega) (by omega)
          refine ⟨b, ?_, ?_, ?_⟩
          · apply K.Ev.succ
            simp only [spec_GoodRuns.l0, if_pos a1, if_pos a0, hF, qs, Option.bind_some, if_true, show ¬ (((0 : Nat) : Int) > 0) by omega, if_false]
            apply K.Ev.succ
            simp only [spec_GoodRuns.j1, Bool.false_eq_true, if_false, wc.out, if_neg nb, K.w64s 0 (by omega)]; exact e1
          · apply K.Ev.succ
            simp only [impl_GoodRuns.l0, if_pos a1, if_pos a0, hF, wm.out, qi, Option.bind_some, if_true, show ¬ (((0 : Nat) : Int) > 0) by omega, if_false, wc.out, K.w64s 0 (by omega)]; exact e2
          · intro hb
            obtain ⟨g1, g2⟩ := e3 hb
            refine ⟨g1, fun i hi hi2 => ?_⟩
            rcases Nat.eq_zero_or_pos i with rfl | hp
            · exact ⟨by rw [hF]; omega, by rw [hF]; omega, fun h => by omega⟩
            · exact g2 i hp hi2
        | succ n =>
          have np : ((n + 1 : Nat) : Int) > 0 := by omega
          have wp := K.Eqn.mk (K.w64p n (by omega))
          have b0 : (0 : Int) ≤ (n : Int) := by omega
          have b1 : (n : Int) < (l.length : Int) := by omega
          by_cases hc : (rd_T69 l (n : Int)).f0 = (rd_T69 l ((n + 1 : Nat) : Int)).f0
          · refine ⟨false, ?_, ?_, fun h => by cases h⟩
            · apply K.Ev.succ
              simp only [spec_GoodRuns.l0, if_pos a1, if_pos a0, hF, qs, Option.bind_some, if_true, if_pos np, wp.out, if_pos b0, if_pos b1]
              apply K.Ev.succ
              simp only [spec_GoodRuns.j1, hc, beq_self_eq_true, if_true]; exact Ev.now _
            · apply K.Ev.succ
              simp only [impl_GoodRuns.l0, if_pos a1, if_pos a0, hF, wm.out, qi, Option.bind_some, if_true, if_pos np, wp.out, if_pos b0, if_pos b1, if_pos hc.symm]; exact Ev.now _
          · obtain ⟨b, e1, e2, e3⟩ := ih (n + 2) (c + F) (by omega) (by omega) (by omega)
            refine ⟨b, ?_, ?_, ?_⟩
            · apply K.Ev.succ
              simp only [spec_GoodRuns.l0, if_pos a1, if_pos a0, hF, qs, Option.bind_some, if_true, if_pos np, wp.out, if_pos b0, if_pos b1]
              apply K.Ev.succ
              simp only [spec_GoodRuns.j1, beq_eq_false_iff_ne.mpr hc, Bool.false_eq_true, if_false, wc.out, if_neg nb, K.w64s (n + 1) (by omega)]; exact e1
            · apply K.Ev.succ
              simp only [impl_GoodRuns.l0, if_pos a1, if_pos a0, hF, wm.out, qi, Option.bind_some, if_true, if_pos np, wp.out, if_pos b0, if_pos b1, if_neg (fun e => hc (Eq.symm e)), wc.out, K.w64s (n + 1) (by omega)]; exact e2
            · intro hb
              obtain ⟨g1, g2⟩ := e3 hb
              refine ⟨g1, fun i hi hi2 => ?_⟩
              rcases Nat.lt_or_ge (n + 1) i with hp | hp
              · exact g2 i hp hi2
              · obtain rfl : i = n + 1 := by omega
                exact ⟨by rw [hF]; omega, by rw [hF]; omega, fun _ => hc⟩
      · refine ⟨false, ?_, ?_, fun h => by cases h⟩
        · by_cases h200 : 1 ≤ F ∧ F ≤ 200
          · have qs : spec_l1In.f F 1 200 = some true := by unfold spec_l1In.f; rw [if_pos h200.1]; simp; omega
            have wc : K.Eqn (wrap64 (c + F)) (c + F) := ⟨K.w64 (by omega) (by omega)⟩
            have nb : c + F > 200 := by omega
            have fin : ∀ x31 X, Ev (fun k => spec_GoodRuns.j1 k l c l (l.length : Int) (n : Int) x31 X F) false := by
              intro x31 X
              apply K.Ev.succ
              simp only [spec_GoodRuns.j1, wc.out, if_pos nb]
              exact K.Ev.const (by cases x31 <;> rfl)
            apply K.Ev.succ
            simp only [spec_GoodRuns.l0, if_pos a1, if_pos a0, hF, qs, Option.bind_some, if_true]
            cases n with
            | zero => simp only [show ¬ (((0 : Nat) : Int) > 0) by omega, if_false]; exact fin _ _
            | succ n =>
              simp only [if_pos (show ((n + 1 : Nat) : Int) > 0 by omega), K.w64p n (show n < 9223372036854775807 by omega), if_pos (show (0 : Int) ≤ (n : Int) by omega), if_pos (show (n : Int) < (l.length : Int) by omega)]
              exact fin _ _
          · have qs : spec_l1In.f F 1 200 = some false := by
              unfold spec_l1In.f; split
              · simp; omega
              · rfl
            apply K.Ev.succ
            simp only [spec_GoodRuns.l0, if_pos a1, if_pos a0, hF, qs, Option.bind_some, Bool.false_eq_true, if_false]
            apply K.Ev.succ
            simp only [spec_GoodRuns.j1, if_true]; exact Ev.now _
        · have qi : impl_within.f F 1 (200 - c) = some false := by
            unfold impl_within.f; split
            · simp; omega
            · rfl
          apply K.Ev.succ
          simp only [impl_GoodRuns.l0, if_pos a1, if_pos a0, hF, wm.out, qi, Option.bind_some, Bool.false_eq_true, if_false]; exact Ev.now _
  obtain ⟨b, e1, e2, e3⟩ := key l.length 0 0 (by omega) (by omega) (by omega)
  refine ⟨b, by simp only [spec_GoodRuns.f]; exact e1, by simp only [impl_GoodRuns.f]; exact e2, fun hb => ?_⟩
  obtain ⟨g1, g2⟩ := e3 hb
  exact ⟨g1, fun i hi => g2 i (Nat.zero_le _) hi⟩

theorem repeatL_one (c : UInt8) : ∀ n, Lib.repeatL [c] n = List.replicate n c
  | 0 => rfl
  | n + 1 => by rw [Lib.repeatL, repeatL_one c n, List.replicate_succ]; rfl
theorem repeat_eq (b : Nat) (hb : b < 256) (n : Nat) (hn : n ≤ 100000000) : strings_Repeat.f (⟨#[UInt8.ofNat b]⟩ : ByteArray) (n : Int) = some (strOfNums (List.replicate n (b : Int))) := by
  unfold strings_Repeat.f
  have e : (⟨#[UInt8.ofNat b]⟩ : ByteArray).size * ((n : Int)).toNat ≤ 140737488355328 := by
    show 1 * ((n : Int)).toNat ≤ 140737488355328
    omega
  rw [if_pos (by omega), if_pos (by omega), if_pos e]
  congr 1
  show (⟨(Lib.repeatL [UInt8.ofNat b] ((n : Int)).toNat).toArray⟩ : ByteArray) = _
  rw [repeatL_one, Int.toNat_natCast]
  apply ByteArray.ext
  simp [strOfNums]

/-- The bytes that runs tell. -/
def textNums (l : List S69) : List Int := l.flatMap (fun r => List.replicate r.f1.toNat r.f0)
theorem textNums_snoc (l : List S69) (i : Nat) (h : i < l.length) : textNums (l.take (i + 1)) = textNums (l.take i) ++ List.replicate l[i].f1.toNat l[i].f0 := by
  unfold textNums
  rw [K.take_succ' l i h, List.flatMap_append]
  simp
theorem strOf_append (a b : List Int) : strOfNums a ++ strOfNums b = strOfNums (a ++ b) := by
  apply ByteArray.ext
  simp [strOfNums, ByteArray.data_append]
/-- Runs whose lengths and bytes are in range. -/
structure RunsOk (l : List S69) : Prop where
  len : l.length ≤ 200
  lo : ∀ i (h : i < l.length), 1 ≤ l[i].f1 ∧ l[i].f1 ≤ 200
  byt : ∀ i (h : i < l.length), 0 ≤ l[i].f0 ∧ l[i].f0 ≤ 255
theorem textNums_len (l : List S69) (hl : RunsOk l) : ∀ i, i ≤ l.length → (textNums (l.take i)).length ≤ 200 * i
  | 0, _ => by simp [textNums]
  | i + 1, h => by
    have := textNums_len l hl i (by omega)
    have := hl.lo i (by omega)
    rw [textNums_snoc l i (by omega), List.length_append, List.length_replicate]
    omega
theorem textOf_impl (l : List S69) (hl : RunsOk l) : Ev (fun k => impl_TextOf.l0 k (⟨#[]⟩ : ByteArray) l (l.length : Int) 0) (strOfNums (textNums l), true) := by
  have h200 := hl.len
  have key : ∀ (d i : Nat), i + d = l.length → Ev (fun k => impl_TextOf.l0 k (strOfNums (textNums (l.take i))) l (l.length : Int) (i : Int)) (strOfNums (textNums l), true) := by
    intro d
    induction d with
    | zero =>
      intro i hi
      obtain rfl : i = l.length := by omega
      apply K.Ev.succ
      rw [List.take_length]
      simp only [impl_TextOf.l0, if_neg (show ¬ ((l.length : Int) < (l.length : Int)) by omega)]
      exact Ev.now _
    | succ d ih =>
      intro i hi
      have hil : i < l.length := by omega
      have hr : rd_T69 l (i : Int) = l[i] := by simp [rd_T69, hil]
      have hx := ih (i + 1) (by omega)
      have h1 := hl.lo i hil
      have h2 := hl.byt i hil
      have hlen := textNums_len l hl i (by omega)
      rw [textNums_snoc l i hil] at hx
      obtain ⟨n, hn⟩ := Int.eq_ofNat_of_zero_le (show 0 ≤ l[i].f1 by omega)
      obtain ⟨b, hb⟩ := Int.eq_ofNat_of_zero_le h2.1
      rw [hn, hb, Int.toNat_natCast, ← strOf_append] at hx
      have e : strOfNums [(b : Int)] = (⟨#[UInt8.ofNat b]⟩ : ByteArray) := rfl
      apply K.Ev.succ
      simp only [impl_TextOf.l0, if_pos (show (i : Int) < (l.length : Int) by omega), if_pos (show (0 : Int) ≤ (i : Int) by omega), hr, hn, hb, e, repeat_eq b (by omega) n (by omega), Option.bind_some, strOfNums_size, List.length_replicate, if_pos (show (textNums (l.take i)).length + n ≤ 140737488355328 by omega), K.w64s i (show i < 9223372036854775807 by omega)]
      exact hx
  have := key l.length 0 (by omega)
  exact this
/-- The bytes of a run's code. -/
def packOne (r : S69) : List Int := if r.f1 > 1 then [r.f0, r.f0, (wrap64 (r.f1 - 2)) % 256] else [r.f0]
theorem implPack_ev (l : List S69) (hl : l.length ≤ 1048576) : Ev (fun k => impl_PackRuns.l0 k [] l (l.length : Int) 0) (strOfNums (l.flatMap packOne), true) := by
  have key : ∀ (d n : Nat) (acc : List Int), n + d = l.length → acc = (l.take n).flatMap packOne → acc.length ≤ 3 * n → Ev (fun k => impl_PackRuns.l0 k acc l (l.length : Int) (n : Int)) (strOfNums (l.flatMap packOne), true) := by
    intro d
    induction d with
    | zero =>
      intro n acc h1 h2 h3
      apply K.Ev.succ
      simp only [impl_PackRuns.l0, if_neg (show ¬ ((n : Int) < (l.length : Int)) by omega)]
      rw [h2, List.take_of_length_le (by omega)]
      exact Ev.now _
    | succ d ih =>
      intro n acc h1 h2 h3
      have hn : n < l.length := by omega
      have hr : rd_T69 l (n : Int) = l[n] := by simp [rd_T69, List.getElem?_eq_getElem hn]
      apply K.Ev.succ
      simp only [impl_PackRuns.l0, if_pos (show (n : Int) < (l.length : Int) by omega), if_pos (show (0 : Int) ≤ (n : Int) by omega), if_pos (show acc.length < 140737488355328 by omega), Option.bind_some, hr, K.w64s n (show n < 9223372036854775807 by omega)]
      by_cases hF : l[n].f1 ≥ 2
      · simp only [if_pos hF, if_pos (show (acc ++ [l[n].f0]).length + [l[n].f0, wrap64 (l[n].f1 - 2) % 256].length < 140737488355328 by simp; omega)]
        refine ih (n + 1) _ (by omega) ?_ (by simp; omega)
        rw [K.take_succ' l n hn, List.flatMap_append, ← h2]
        simp [packOne, show l[n].f1 > 1 by omega]
      · simp only [if_neg hF]
        refine ih (n + 1) _ (by omega) ?_ (by simp; omega)
        rw [K.take_succ' l n hn, List.flatMap_append, ← h2]
        simp [packOne, show ¬ l[n].f1 > 1 by omega]
  exact key l.length 0 [] (by omega) (by simp) (by simp)
theorem l12Pack_ev (l : List S69) (hl : l.length ≤ 1048576) : Ev (fun k => spec_l12Pack.f k l) (strOfNums (l.flatMap packOne)) := by
  have key : ∀ (d n : Nat) (acc : List Int), n + d = l.length → acc = (l.take n).flatMap packOne → acc.length ≤ 3 * n → Ev (fun k => spec_l12Pack.l0 k acc l (l.length : Int) (n : Int)) (strOfNums (l.flatMap packOne)) := by
    intro d
    induction d with
    | zero =>
      intro n acc h1 h2 h3
      apply K.Ev.succ
      simp only [spec_l12Pack.l0, if_neg (show ¬ ((n : Int) < (l.length : Int)) by omega)]
      rw [h2, List.take_of_length_le (by omega)]
      exact Ev.now _
    | succ d ih =>
      intro n acc h1 h2 h3
      have hn : n < l.length := by omega
      have hr : rd_T69 l (n : Int) = l[n] := by simp [rd_T69, List.getElem?_eq_getElem hn]
      apply K.Ev.succ
      simp only [spec_l12Pack.l0, if_pos (show (n : Int) < (l.length : Int) by omega), if_pos (show (0 : Int) ≤ (n : Int) by omega), if_pos (show acc.length < 140737488355328 by omega), Option.bind_some, hr, K.w64s n (show n < 9223372036854775807 by omega)]
      by_cases hF : l[n].f1 > 1
      · simp only [if_pos hF, if_pos (show (acc ++ [l[n].f0]).length + [l[n].f0, wrap64 (l[n].f1 - 2) % 256].length < 140737488355328 by simp; omega)]
        refine ih (n + 1) _ (by omega) ?_ (by simp; omega)
        rw [K.take_succ' l n hn, List.flatMap_append, ← h2]
        simp [packOne, hF]
      · simp only [if_neg hF]
        refine ih (n + 1) _ (by omega) ?_ (by simp; omega)
        rw [K.take_succ' l n hn, List.flatMap_append, ← h2]
        simp [packOne, hF]
  simp only [spec_l12Pack.f]; exact key l.length 0 [] (by omega) (by simp) (by simp)

theorem pack_eq (l : List S69) (hl : l.length ≤ 1048576) : ∃ r : ByteArray × Bool, Ev (fun k => spec_PackRuns.f k l) r ∧ Ev (fun k => impl_PackRuns.f k l) r := by
  obtain ⟨b, e1, e2, _⟩ := good_same l (by omega)
  cases b with
  | true =>
    refine ⟨(strOfNums (l.flatMap packOne), true), ?_, ?_⟩
    · simp only [spec_PackRuns.f]
      refine Ev.bind e1 ?_
      simp only [if_true]
      exact Ev.bind (l12Pack_ev l hl) (Ev.now _)
    · simp only [impl_PackRuns.f]
      refine Ev.bind e2 ?_
      simp only [if_true]
      exact implPack_ev l hl
  | false =>
    refine ⟨((⟨#[]⟩ : ByteArray), false), ?_, ?_⟩
    · simp only [spec_PackRuns.f]
      refine Ev.bind e1 ?_
      simp only [Bool.false_eq_true, if_false]
      exact Ev.now _
    · simp only [impl_PackRuns.f]
      refine Ev.bind e2 ?_
      simp only [Bool.false_eq_true, if_false]
      exact Ev.now _

theorem impl_long (s : ByteArray) (hs : s.size ≤ 1048576) : ∀ (d n : Nat) (x : List S69), n + d = s.size → x.length ≤ n → 200 < x.length → Ev (fun k => impl_UnpackRuns.l0 k s x (n : Int)) ([], false) := by
  intro d
  induction d using Nat.strongRecOn with
  | _ d ih =>
  intro n x h1 h2 h3
  have endI : Ev (fun k => (impl_GoodRuns.f k x).bind fun t141 => (if t141 = true then (some (x, true)) else (some (([] : List S69), false)))) ([], false) := by
    obtain ⟨b, _, e2, e3⟩ := good_same x (by omega)
    refine Ev.bind e2 ?_
    cases b with
    | true => have := (e3 rfl).1; omega
    | false => simp only [Bool.false_eq_true, if_false]; exact Ev.now _
  rcases Nat.eq_zero_or_pos d with rfl | hd
  · apply K.Ev.succ
    simp only [impl_UnpackRuns.l0, if_neg (show ¬ ((n : Int) < (s.size : Int)) by omega)]
    exact endI
  have a1 : (n : Int) < (s.size : Int) := by omega
  have a0 : (0 : Int) ≤ (n : Int) := by omega
  have lim : x.length < 8796093022208 := by omega
  have ws : K.Eqn (wrap64 ((n : Int) + 1)) (((n + 1 : Nat) : Int)) := ⟨K.w64s n (by omega)⟩
  have single : ∀ y, Ev (fun k => impl_UnpackRuns.j1 k s x ((n + 1 : Nat) : Int) false y 1) ([], false) := by
    intro y
    apply K.Ev.succ
    simp only [impl_UnpackRuns.j1, Bool.false_eq_true, if_false, if_pos lim]
    exact ih (d - 1) (by omega) (n + 1) _ (by omega) (by simp; omega) (by simp; omega)
  apply K.Ev.succ
  simp only [impl_UnpackRuns.l0, if_pos a1, if_pos a0, ws.out]
  by_cases h2' : ((n + 1 : Nat) : Int) < (s.size : Int)
  · simp only [if_pos h2', if_pos (show (0 : Int) ≤ ((n + 1 : Nat) : Int) by omega)]
    by_cases hb : bt s ((n + 1 : Nat) : Int) = bt s (n : Int)
    · have ws2 : wrap64 (((n + 1 : Nat) : Int) + 1) = ((n + 2 : Nat) : Int) := K.w64s (n + 1) (by omega)
      have ws3 : K.Eqn (wrap64 (((n + 1 : Nat) : Int) + 2)) (((n + 3 : Nat) : Int)) := ⟨by rw [K.w64 (by omega) (by omega)]; omega⟩
      apply K.Ev.succ
      simp only [impl_UnpackRuns.j1, beq_iff_eq.mpr hb, if_true, ws2, ws3.out]
      by_cases h3' : ((n + 2 : Nat) : Int) = (s.size : Int)
      · simp only [if_pos h3']; exact Ev.now _
      · simp only [if_neg h3', if_pos (show (0 : Int) ≤ ((n + 2 : Nat) : Int) by omega), if_pos (show ((n + 2 : Nat) : Int) < (s.size : Int) by omega), if_pos lim]
        exact ih (d - 3) (by omega) (n + 3) _ (by omega) (by simp; omega) (by simp; omega)
    · simp only [beq_eq_false_iff_ne.mpr hb]; exact single _
  · simp only [if_neg h2']; exact single _
theorem unpack_same (s : ByteArray) (hs : s.size ≤ 1048576) : ∀ (d n : Nat) (x : List S69), n + d = s.size → x.length ≤ n → x.length ≤ 201 → x.flatMap packOne = (bytesOf s).take n → ∃ r : List S69 × Bool, r.1.length ≤ 200 ∧ Ev (fun k => spec_UnpackRuns.l0 k s x (n : Int)) r ∧ Ev (fun k => impl_UnpackRuns.l0 k s x (n : Int)) r ∧ (r.2 = true → Ev (fun k => impl_GoodRuns.f k r.1) true ∧ strOfNums (r.1.flatMap packOne) = s) := by
  intro d
  induction d using Nat.strongRecOn with
  | _ d ih =>
  intro n x h1 h2 h201 hp
  have bl := bytesOf_length s
  obtain ⟨b, g1, g2, g3⟩ := good_same x (by omega)
  rcases Nat.eq_zero_or_pos d with rfl | hd
  · -- the end of the text
    have pk : (strOfNums (x.flatMap packOne)).toList = s.toList := by
      rw [hp, List.take_of_length_le (by omega), K.strOf_bytesOf]
    refine ⟨if b then (x, true) else ([], false), ?_, ?_, ?_, ?_⟩
    · cases b with
      | true => exact (g3 rfl).1
      | false => simp
    · apply K.Ev.succ
      simp only [spec_UnpackRuns.l0, if_neg (show ¬ ((n : Int) < (s.size : Int)) by omega)]
      apply K.Ev.succ
      simp only [spec_UnpackRuns.j1, Bool.false_eq_true, if_false]
      refine Ev.bind g1 ?_
      cases b with
      | true =>
        simp only [if_true]
        refine Ev.bind (l12Pack_ev x (by omega)) ?_
        simp only [pk, if_true]
        exact Ev.now _
      | false => simp only [Bool.false_eq_true, if_false]; exact Ev.now _
    · apply K.Ev.succ
      simp only [impl_UnpackRuns.l0, if_neg (show ¬ ((n : Int) < (s.size : Int)) by omega)]
      refine Ev.bind g2 ?_
      cases b with
      | true => simp only [if_true]; exact Ev.now _
      | false => simp only [Bool.false_eq_true, if_false]; exact Ev.now _
    · cases b with
      | true =>
        intro _
        refine ⟨g2, ?_⟩
        simp only [if_true]
        rw [hp, List.take_of_length_le (by omega), K.strOf_bytesOf]
      | false => intro h; cases h
  have a1 : (n : Int) < (s.size : Int) := by omega
  have a0 : (0 : Int) ≤ (n : Int) := by omega
  by_cases h200 : x.length ≤ 200
  · have lim : x.length < 8796093022208 := by omega
    have ws : K.Eqn (wrap64 ((n : Int) + 1)) (((n + 1 : Nat) : Int)) := ⟨K.w64s n (by omega)⟩
    have dl : decide ((x.length : Int) ≤ 200) = true := by simp; omega
    have bn : ∀ m : Nat, m < s.size → (bytesOf s)[m]? = some (bt s (m : Int)) := by
      intro m hm
      rw [K.bt_bytes, List.getElem?_eq_getElem (by omega)]
      simp [List.getElem?_eq_getElem (show m < (bytesOf s).length by omega)]
    have single : ∀ c : Bool, c = false → ∃ r : List S69 × Bool, r.1.length ≤ 200 ∧ Ev (fun k => spec_UnpackRuns.j2 k s x (n : Int) c (bt s (n : Int)) 1) r ∧ Ev (fun k => impl_UnpackRuns.j1 k s x ((n + 1 : Nat) : Int) c (bt s (n : Int)) 1) r ∧ (r.2 = true → Ev (fun k => impl_GoodRuns.f k r.1) true ∧ strOfNums (r.1.flatMap packOne) = s) := by
      rintro c rfl
      obtain ⟨r, e0, e1, e2, e3⟩ := ih (d - 1) (by omega) (n + 1) (x ++ [⟨bt s (n : Int), 1⟩]) (by omega) (by simp; omega) (by simp; omega) (by
        rw [List.flatMap_append, hp, List.take_add_one, bn n (by omega)]
        simp [packOne])
      refine ⟨r, e0, ?_, ?_, e3⟩ <;> apply K.Ev.succ
      · simp only [spec_UnpackRuns.j2, Bool.false_eq_true, if_false, if_pos lim, ws.out]; exact e1
      · simp only [impl_UnpackRuns.j1, Bool.false_eq_true, if_false, if_pos lim]; exact e2
    have fin : ∃ r : List S69 × Bool, r.1.length ≤ 200 ∧ Ev (fun k => spec_UnpackRuns.j1 k s x (n : Int) true) r ∧ Ev (fun k => impl_UnpackRuns.l0 k s x (n : Int)) r ∧ (r.2 = true → Ev (fun k => impl_GoodRuns.f k r.1) true ∧ strOfNums (r.1.flatMap packOne) = s) := by
      by_cases h2' : ((n + 1 : Nat) : Int) < (s.size : Int)
      · by_cases hb : bt s ((n + 1 : Nat) : Int) = bt s (n : Int)
        · have ws2 : wrap64 (((n + 1 : Nat) : Int) + 1) = ((n + 2 : Nat) : Int) := K.w64s (n + 1) (by omega)
          have ws2' : K.Eqn (wrap64 ((n : Int) + 2)) (((n + 2 : Nat) : Int)) := ⟨by rw [K.w64 (by omega) (by omega)]; omega⟩
          have ws3 : K.Eqn (wrap64 (((n + 1 : Nat) : Int) + 2)) (((n + 3 : Nat) : Int)) := ⟨by rw [K.w64 (by omega) (by omega)]; omega⟩
          have ws3' : K.Eqn (wrap64 (((n + 2 : Nat) : Int) + 1)) (((n + 3 : Nat) : Int)) := ⟨K.w64s (n + 2) (by omega)⟩
          have br := bt_range s ((n + 2 : Nat) : Int)
          have wb : K.Eqn (wrap64 (bt s ((n + 2 : Nat) : Int))) (bt s ((n + 2 : Nat) : Int)) := ⟨K.w64 (by omega) (by omega)⟩
          have wb1 : K.Eqn (wrap64 (bt s ((n + 2 : Nat) : Int) + 2)) (bt s ((n + 2 : Nat) : Int) + 2) := ⟨K.w64 (by omega) (by omega)⟩
          have wb2 : K.Eqn (wrap64 (2 + bt s ((n + 2 : Nat) : Int))) (bt s ((n + 2 : Nat) : Int) + 2) := ⟨by rw [K.w64 (by omega) (by omega)]; omega⟩
          by_cases h3' : ((n + 2 : Nat) : Int) < (s.size : Int)
          · obtain ⟨r, e0, e1, e2, e3⟩ := ih (d - 3) (by omega) (n + 3) (x ++ [⟨bt s (n : Int), bt s ((n + 2 : Nat) : Int) + 2⟩]) (by omega) (by simp; omega) (by simp; omega) (by
              have f1 : bt s ((n + 2 : Nat) : Int) + 2 > 1 := by omega
              have f2 : K.Eqn (wrap64 (bt s ((n + 2 : Nat) : Int) + 2 - 2) % 256) (bt s ((n + 2 : Nat) : Int)) := ⟨by rw [K.w64 (by omega) (by omega)]; omega⟩
              rw [List.flatMap_append, hp, List.take_add_one, List.take_add_one, List.take_add_one, bn n (by omega), bn (n + 1) (by omega), bn (n + 2) (by omega)]
              have pk : packOne ⟨bt s (n : Int), bt s ((n + 2 : Nat) : Int) + 2⟩ = [bt s (n : Int), bt s ((n + 1 : Nat) : Int), bt s ((n + 2 : Nat) : Int)] := by
                simp only [packOne, if_pos f1, f2.out, hb]
              simp only [List.flatMap_cons, List.flatMap_nil, List.append_nil, pk, Option.toList_some, List.append_assoc, List.cons_append, List.nil_append])
            refine ⟨r, e0, ?_, ?_, e3⟩ <;> apply K.Ev.succ
            · simp only [spec_UnpackRuns.j1, if_true, if_pos a0, if_pos a1, ws.out, if_pos h2', if_pos (show (0 : Int) ≤ ((n + 1 : Nat) : Int) by omega)]
              apply K.Ev.succ
              simp only [spec_UnpackRuns.j2, beq_iff_eq.mpr hb, if_true, ws2'.out, ws3'.out, if_neg (show ¬ (((n + 2 : Nat) : Int) ≥ (s.size : Int)) by omega), if_pos (show (0 : Int) ≤ ((n + 2 : Nat) : Int) by omega), if_pos h3', if_pos lim, wb.out, wb1.out]
              exact e1
            · simp only [impl_UnpackRuns.l0, if_pos a0, if_pos a1, ws.out, if_pos h2', if_pos (show (0 : Int) ≤ ((n + 1 : Nat) : Int) by omega)]
              apply K.Ev.succ
              simp only [impl_UnpackRuns.j1, beq_iff_eq.mpr hb, if_true, ws2, ws3.out, if_neg (show ¬ (((n + 2 : Nat) : Int) = (s.size : Int)) by omega), if_pos (show (0 : Int) ≤ ((n + 2 : Nat) : Int) by omega), if_pos h3', if_pos lim, wb.out, wb2.out]
              exact e2
          · refine ⟨([], false), by simp, ?_, ?_, fun h => by cases h⟩ <;> apply K.Ev.succ
            · simp only [spec_UnpackRuns.j1, if_true, if_pos a0, if_pos a1, ws.out, if_pos h2', if_pos (show (0 : Int) ≤ ((n + 1 : Nat) : Int) by omega)]
              apply K.Ev.succ
              simp only [spec_UnpackRuns.j2, beq_iff_eq.mpr hb, if_true, ws2'.out, if_pos (show ((n + 2 : Nat) : Int) ≥ (s.size : Int) by omega)]
              exact Ev.now _
            · simp only [impl_UnpackRuns.l0, if_pos a0, if_pos a1, ws.out, if_pos h2', if_pos (show (0 : Int) ≤ ((n + 1 : Nat) : Int) by omega)]
              apply K.Ev.succ
              simp only [impl_UnpackRuns.j1, beq_iff_eq.mpr hb, if_true, ws2, if_pos (show ((n + 2 : Nat) : Int) = (s.size : Int) by omega)]
              exact Ev.now _
        · obtain ⟨r, e0, e1, e2, e3⟩ := single _ (beq_eq_false_iff_ne.mpr hb)
          refine ⟨r, e0, ?_, ?_, e3⟩ <;> apply K.Ev.succ
          · simp only [spec_UnpackRuns.j1, if_true, if_pos a0, if_pos a1, ws.out, if_pos h2', if_pos (show (0 : Int) ≤ ((n + 1 : Nat) : Int) by omega)]; exact e1
          · simp only [impl_UnpackRuns.l0, if_pos a0, if_pos a1, ws.out, if_pos h2', if_pos (show (0 : Int) ≤ ((n + 1 : Nat) : Int) by omega)]; exact e2
      · obtain ⟨r, e0, e1, e2, e3⟩ := single false rfl
        refine ⟨r, e0, ?_, ?_, e3⟩ <;> apply K.Ev.succ
        · simp only [spec_UnpackRuns.j1, if_true, if_pos a0, if_pos a1, ws.out, if_neg h2']; exact e1
        · simp only [impl_UnpackRuns.l0, if_pos a0, if_pos a1, ws.out, if_neg h2']; exact e2
    obtain ⟨r, e0, e1, e2, e3⟩ := fin
    refine ⟨r, e0, ?_, e2, e3⟩
    apply K.Ev.succ
    simp only [spec_UnpackRuns.l0, if_pos a1, dl]
    exact e1
  · refine ⟨([], false), by simp, ?_, impl_long s hs d n x h1 h2 (by omega), fun h => by cases h⟩
    apply K.Ev.succ
    have dl : decide ((x.length : Int) ≤ 200) = false := by simp; omega
    simp only [spec_UnpackRuns.l0, if_pos a1, dl]
    apply K.Ev.succ
    simp only [spec_UnpackRuns.j1, Bool.false_eq_true, if_false]
    refine Ev.bind g1 ?_
    cases b with
    | true => have := (g3 rfl).1; omega
    | false => simp only [Bool.false_eq_true, if_false]; exact Ev.now _
theorem unpack_eq (s : ByteArray) (hs : s.size ≤ 1048576) : ∃ r : List S69 × Bool, r.1.length ≤ 200 ∧ Ev (fun k => spec_UnpackRuns.f k s) r ∧ Ev (fun k => impl_UnpackRuns.f k s) r ∧ (r.2 = true → Ev (fun k => impl_GoodRuns.f k r.1) true ∧ strOfNums (r.1.flatMap packOne) = s) := by
  obtain ⟨r, e0, e1, e2, e3⟩ := unpack_same s hs s.size 0 [] (by omega) (by simp) (by simp) (by simp)
  exact ⟨r, e0, by simp only [spec_UnpackRuns.f]; exact e1, by simp only [impl_UnpackRuns.f]; exact e2, e3⟩
theorem unpack_false (s : ByteArray) (l : List S69) (hs : s.size ≤ 1048576) (h : Ev (fun k => impl_UnpackRuns.l0 k s [] 0) (l, false)) : l = [] := by
  have key : ∀ (k : Nat) (x : List S69) (n : Int) (b : Bool) (y z : Int), (impl_UnpackRuns.l0 k s x n = some (l, false) → l = []) ∧ (impl_UnpackRuns.j1 k s x n b y z = some (l, false) → l = []) := by
    intro k
    induction k with
    | zero => intro x n b y z; constructor <;> intro h <;> simp [impl_UnpackRuns.l0, impl_UnpackRuns.j1] at h
    | succ k ih =>
      intro x n b y z
      constructor
      · intro h
        simp only [impl_UnpackRuns.l0] at h
        repeat' split at h
        all_goals first | exact (ih _ _ true _ _).1 h | exact (ih _ _ _ _ _).2 h | (cases h; rfl) | (cases h; done) | skip
        cases e : impl_GoodRuns.f k x with
        | none => rw [e] at h; simp at h
        | some q => rw [e] at h; cases q <;> simp at h <;> exact h
      · intro h
        simp only [impl_UnpackRuns.j1] at h
        repeat' split at h
        all_goals first | exact (ih _ _ true 0 0).1 h | (cases h; rfl) | (cases h; done) | (simp at h; exact h) | skip
  obtain ⟨n, hn⟩ := h
  exact (key n [] 0 true 0 0).1 (hn n (Nat.le_refl _))

theorem packOne_len (r : S69) : (packOne r).length ≤ 3 := by unfold packOne; split <;> simp
theorem among_ok (c : List Int) (hc : K.Code c) (a : Int) (h0 : 0 ≤ a) (h1 : a ≤ 1000000000000000000) (sd : Int) (l : List Int) (hl : 0 < l.length) (hl2 : l.length ≤ 1000000) : ∃ (x a' sd' : Int), spec_l1Cur_among.f c a sd l = some (x, a', sd') ∧ x ∈ l ∧ a ≤ a' ∧ a' ≤ a + 2 := by
  obtain ⟨v, a', sd', e, v0, v1, g1, g2⟩ := pick_ok c hc a h0 h1 sd (l.length : Int) (by omega)
  have hv : v.toNat < l.length := by omega
  refine ⟨rd l v, a', sd', by simp only [spec_l1Cur_among.f, e, Option.bind_some, if_pos v0, if_pos (show v < (l.length : Int) by omega)], ?_, g1, g2⟩
  simp only [rd, List.getD_eq_getElem?_getD, List.getElem?_eq_getElem hv, Option.getD_some]
  exact List.getElem_mem hv

theorem spoilt_ok (c : List Int) (hc : K.Code c) : ∀ (n : Nat) (x : ByteArray) (a sd : Int), n ≤ 1000 → x.size + n ≤ 1000000 → 0 ≤ a → a + 6 * n ≤ 900000000000000000 → ∃ (s : ByteArray) (a' sd' : Int), Ev (fun k => spec_l1Cur_spoilt.l0 k x (⟨#[0, 97, 97]⟩ : ByteArray) (n : Int) c a sd) (s, a', sd') ∧ s.size ≤ x.size + n := by
  have sx : ∀ (x : ByteArray) (i j : Nat), (x.extract i j).size = min j x.size - i := fun x i j => by simp [ByteArray.size_extract]
  intro n
  induction n with
  | zero =>
    intro x a sd _ _ _ _
    refine ⟨x, a, sd, ?_, by omega⟩
    apply K.Ev.succ
    simp only [spec_l1Cur_spoilt.l0, if_neg (show ¬ (((0 : Nat) : Int) > 0) by omega)]
    apply K.Ev.succ
    simp only [spec_l1Cur_spoilt.j1, Bool.false_eq_true, if_false]
    exact Ev.now _
  | succ n ih =>
    intro x a sd hn hx h0 h1
    by_cases hz : (x.size : Int) > 0
    case neg =>
      refine ⟨x, a, sd, ?_, by omega⟩
      apply K.Ev.succ
      simp only [spec_l1Cur_spoilt.l0, if_pos (show ((n + 1 : Nat) : Int) > 0 by omega), decide_eq_false hz]
      apply K.Ev.succ
      simp only [spec_l1Cur_spoilt.j1, Bool.false_eq_true, if_false]
      exact Ev.now _
    have sz3 : ((⟨#[0, 97, 97]⟩ : ByteArray).size : Int) = 3 := rfl
    obtain ⟨v1, a1, s1, e1, p1, q1, r1, t1⟩ := pick_ok c hc a h0 (by omega) sd (x.size : Int) (by omega)
    obtain ⟨v2, a2, s2, e2, p2, q2, r2, t2⟩ := pick_ok c hc a1 (by omega) (by omega) s1 3 (by omega)
    obtain ⟨v3, a3, s3, e3, p3, q3, r3, t3⟩ := pick_ok c hc a2 (by omega) (by omega) s2 3 (by omega)
    obtain ⟨v1, rfl⟩ := Int.eq_ofNat_of_zero_le p1
    have hv1 : v1 < x.size := by omega
    have one : ∀ b : Int, (strOfNums [b]).size = 1 := fun b => strOfNums_size _
    have wn : K.Eqn (wrap64 (((n + 1 : Nat) : Int) - 1)) ((n : Nat) : Int) := ⟨K.w64p n (by omega)⟩
    have wv : K.Eqn (wrap64 ((v1 : Int) + 1)) (((v1 + 1 : Nat)) : Int) := ⟨K.w64s v1 (by omega)⟩
    have fin : ∀ y : ByteArray, y.size ≤ x.size + 1 → (∀ X, Ev (fun k => spec_l1Cur_spoilt.l0 k y (⟨#[0, 97, 97]⟩ : ByteArray) (n : Int) c a3 s3) X → Ev (fun k => spec_l1Cur_spoilt.j1 k x (⟨#[0, 97, 97]⟩ : ByteArray) ((n + 1 : Nat) : Int) true c a sd) X) → ∃ (s : ByteArray) (a' sd' : Int), Ev (fun k => spec_l1Cur_spoilt.l0 k x (⟨#[0, 97, 97]⟩ : ByteArray) ((n + 1 : Nat) : Int) c a sd) (s, a', sd') ∧ s.size ≤ x.size + (n + 1) := by
      intro y hy hstep
      obtain ⟨s, a', sd', e, hs⟩ := ih y a3 s3 (by omega) (by omega) (by omega) (by omega)
      refine ⟨s, a', sd', ?_, by omega⟩
      apply K.Ev.succ
      simp only [spec_l1Cur_spoilt.l0, if_pos (show ((n + 1 : Nat) : Int) > 0 by omega), decide_eq_true hz]
      exact hstep _ e
    by_cases c0 : v3 = 0
    · refine fin ((x.extract 0 v1 ++ strOfNums [bt (⟨#[0, 97, 97]⟩ : ByteArray) v2]) ++ x.extract v1 x.size) (by rw [ByteArray.size_append, ByteArray.size_append, one, sx, sx]; omega) (fun X hX => ?_)
      apply K.Ev.succ
      simp only [spec_l1Cur_spoilt.j1, if_true, e1, sz3, e2, e3, Option.bind_some, if_pos p2, if_pos (show v2 < 3 by omega), if_pos c0, if_pos p1, if_pos (show (v1 : Int) ≤ (x.size : Int) by omega), Int.toNat_natCast, ByteArray.size_append, one, sx, if_pos (show min v1 x.size - 0 + 1 ≤ 9223372036854775807 by omega), if_pos (show min v1 x.size - 0 + 1 + (min x.size x.size - v1) ≤ 9223372036854775807 by omega), wn.out]
      exact hX
    by_cases c1 : v3 = 1
    · refine fin ((x.extract 0 v1 ++ strOfNums [bt (⟨#[0, 97, 97]⟩ : ByteArray) v2]) ++ x.extract (v1 + 1) x.size) (by rw [ByteArray.size_append, ByteArray.size_append, one, sx, sx]; omega) (fun X hX => ?_)
      apply K.Ev.succ
      simp only [spec_l1Cur_spoilt.j1, if_true, e1, sz3, e2, e3, Option.bind_some, if_pos p2, if_pos (show v2 < 3 by omega), if_neg c0, if_pos c1, if_pos p1, if_pos (show (v1 : Int) ≤ (x.size : Int) by omega), wv.out, Int.toNat_natCast, ByteArray.size_append, one, sx, if_pos (show min v1 x.size - 0 + 1 ≤ 9223372036854775807 by omega), if_pos (show (0 : Int) ≤ ((v1 + 1 : Nat) : Int) by omega), if_pos (show ((v1 + 1 : Nat) : Int) ≤ (x.size : Int) by omega), if_pos (show min v1 x.size - 0 + 1 + (min x.size x.size - (v1 + 1)) ≤ 9223372036854775807 by omega), wn.out]
      exact hX
    · refine fin (x.extract 0 v1 ++ x.extract (v1 + 1) x.size) (by rw [ByteArray.size_append, sx, sx]; omega) (fun X hX => ?_)
      apply K.Ev.succ
      simp only [spec_l1Cur_spoilt.j1, if_true, e1, sz3, e2, e3, Option.bind_some, if_pos p2, if_pos (show v2 < 3 by omega), if_neg c0, if_neg c1, if_pos p1, if_pos (show (v1 : Int) ≤ (x.size : Int) by omega), wv.out, Int.toNat_natCast, ByteArray.size_append, sx, if_pos (show (0 : Int) ≤ ((v1 + 1 : Nat) : Int) by omega), if_pos (show ((v1 + 1 : Nat) : Int) ≤ (x.size : Int) by omega), if_pos (show min v1 x.size - 0 + (min x.size x.size - (v1 + 1)) ≤ 9223372036854775807 by omega), wn.out]
      exact hX

theorem pack_eq2 (l : List S69) (hl : l.length ≤ 1048576) : ∃ r : ByteArray × Bool, r.1.size ≤ 3 * l.length ∧ Ev (fun k => spec_PackRuns.f k l) r := by
  have hp : ∀ m : List S69, (m.flatMap packOne).length ≤ 3 * m.length := by
    intro m
    induction m with
    | nil => simp
    | cons r m ih => rw [List.flatMap_cons, List.length_append, List.length_cons]; have := packOne_len r; omega
  obtain ⟨b, e1, e2, _⟩ := good_same l (by omega)
  cases b with
  | true =>
    refine ⟨(strOfNums (l.flatMap packOne), true), by rw [strOfNums_size]; exact hp l, ?_⟩
    simp only [spec_PackRuns.f]
    refine Ev.bind e1 ?_
    simp only [if_true]
    exact Ev.bind (l12Pack_ev l hl) (Ev.now _)
  | false =>
    refine ⟨((⟨#[]⟩ : ByteArray), false), by simp [ByteArray.size], ?_⟩
    simp only [spec_PackRuns.f]
    refine Ev.bind e1 ?_
    simp only [Bool.false_eq_true, if_false]
    exact Ev.now _
theorem runs_ok (c : List Int) (hc : K.Code c) : ∃ (l : List S69) (a' sd' : Int), Ev (fun k => spec_l1Cur_runs.f k c 0 0) (l, a', sd') ∧ l.length ≤ 200 ∧ 0 ≤ a' ∧ a' ≤ 1000 := by
  obtain ⟨s, a, sd, e, s1, g1, g2⟩ := moved_ok c hc 0 (by omega) (by omega) 0
  obtain ⟨r, r0, r1, _⟩ := runs_of_eq s
  have stay : ∀ (x y : Int), Ev (fun k => spec_l1Cur_runs.j0 k r.1 false c x y) (r.1, x, y) := by
    intro x y
    apply K.Ev.succ
    simp only [spec_l1Cur_runs.j0, Bool.false_eq_true, if_false]
    exact Ev.now _
  by_cases hz : (r.1.length : Int) > 0
  case neg =>
    refine ⟨r.1, a, sd, ?_, r0, by omega, by omega⟩
    simp only [spec_l1Cur_runs.f]
    refine Ev.bind e ?_
    refine Ev.bind r1 ?_
    simp only [if_neg hz]
    exact stay _ _
  obtain ⟨b, a1, sd1, e1, g3, g4⟩ := one_ok c hc a (by omega) (by omega) sd 8 (by omega)
  cases b with
  | false =>
    refine ⟨r.1, a1, sd1, ?_, r0, by omega, by omega⟩
    simp only [spec_l1Cur_runs.f]
    refine Ev.bind e ?_
    refine Ev.bind r1 ?_
    simp only [if_pos hz, e1, Option.bind_some]
    exact stay _ _
  | true =>
    obtain ⟨v, a2, sd2, e2, p2, q2, g5, g6⟩ := pick_ok c hc a1 (by omega) (by omega) sd1 (r.1.length : Int) (by omega)
    obtain ⟨b2, a3, sd3, e3, g7, g8⟩ := one_ok c hc a2 (by omega) (by omega) sd2 2 (by omega)
    have hv : v < (r.1.length : Int) := by omega
    cases b2 with
    | true =>
      obtain ⟨x, a4, sd4, e4, _, g9, g10⟩ := among_ok c hc a3 (by omega) (by omega) sd3 [0, 1, 200, 201] (by simp) (by simp)
      refine ⟨r.1.set v.toNat ⟨(rd_T69 r.1 v).f0, x⟩, a4, sd4, ?_, by rw [List.length_set]; exact r0, by omega, by omega⟩
      simp only [spec_l1Cur_runs.f]
      refine Ev.bind e ?_
      refine Ev.bind r1 ?_
      simp only [if_pos hz, e1, Option.bind_some]
      apply K.Ev.succ
      simp only [spec_l1Cur_runs.j0, if_true, e2, e3, e4, Option.bind_some, if_pos p2, if_pos hv]
      exact Ev.now _
    | false =>
      refine ⟨r.1.set v.toNat ⟨97, (rd_T69 r.1 v).f1⟩, a3, sd3, ?_, by rw [List.length_set]; exact r0, by omega, by omega⟩
      simp only [spec_l1Cur_runs.f]
      refine Ev.bind e ?_
      refine Ev.bind r1 ?_
      simp only [if_pos hz, e1, Option.bind_some]
      apply K.Ev.succ
      simp only [spec_l1Cur_runs.j0, if_true, e2, e3, Option.bind_some, Bool.false_eq_true, if_false, if_pos p2, if_pos hv]
      exact Ev.now _
theorem drawUnpackRuns_ok (c : List Int) (hc : K.Code c) : ∃ s : ByteArray, Ev (fun k => spec_DrawUnpackRuns.f k c) s ∧ s.size ≤ 1048576 := by
  obtain ⟨l, a, sd, e, l1, g1, g2⟩ := runs_ok c hc
  obtain ⟨r, r0, r1⟩ := pack_eq2 l (by omega)
  obtain ⟨b, a1, sd1, e1, g3, g4⟩ := one_ok c hc a (by omega) (by omega) sd 3 (by omega)
  cases b with
  | false =>
    refine ⟨r.1, ?_, by omega⟩
    simp only [spec_DrawUnpackRuns.f]
    refine Ev.bind e ?_
    refine Ev.bind r1 ?_
    simp only [e1, Option.bind_some, Bool.false_eq_true, if_false]
    exact Ev.now _
  | true =>
    obtain ⟨v, a2, sd2, e2, p2, q2, g5, g6⟩ := pick_ok c hc a1 (by omega) (by omega) sd1 3 (by omega)
    obtain ⟨v, rfl⟩ := Int.eq_ofNat_of_zero_le p2
    obtain ⟨s, a3, sd3, e3, hs⟩ := spoilt_ok c hc v r.1 a2 sd2 (by omega) (by omega) (by omega) (by omega)
    refine ⟨s, ?_, by omega⟩
    simp only [spec_DrawUnpackRuns.f]
    refine Ev.bind e ?_
    refine Ev.bind r1 ?_
    simp only [e1, Option.bind_some, if_true, spec_l1Cur_spoilt.f, e2]
    exact Ev.bind e3 (Ev.now _)

/-- Runs as RunsOf makes them. -/
structure RG (l : List S69) : Prop where
  lo : ∀ i (h : i < l.length), 1 ≤ l[i].f1
  byt : ∀ i (h : i < l.length), 0 ≤ l[i].f0 ∧ l[i].f0 ≤ 255
  adj : ∀ i (h : i + 1 < l.length), l[i].f0 ≠ l[i + 1].f0
theorem rg_nil : RG [] := ⟨fun i h => by simp at h, fun i h => by simp at h, fun i h => by simp at h⟩
theorem rg_snoc {l : List S69} (h : RG l) (e : S69) (h1 : 1 ≤ e.f1) (h2 : 0 ≤ e.f0 ∧ e.f0 ≤ 255) (h3 : ∀ i (q : i < l.length), i + 1 = l.length → l[i].f0 ≠ e.f0) : RG (l ++ [e]) := by
  refine ⟨fun i hi => ?_, fun i hi => ?_, fun i hi => ?_⟩
  · rw [List.getElem_append]
    split
    · exact h.lo i _
    · simp; exact h1
  · rw [List.getElem_append]
    split
    · exact h.byt i _
    · simp; exact h2
  · rw [List.getElem_append, List.getElem_append]
    have hi' : i + 1 < l.length + 1 := by simpa using hi
    rw [dif_pos (show i < l.length by omega)]
    split
    · rename_i q
      exact h.adj i q
    · rename_i q
      simp
      exact h3 i (by omega) (by omega)
theorem rg_head {l : List S69} {e : S69} (h : RG (l ++ [e])) : RG l := by
  refine ⟨fun i hi => ?_, fun i hi => ?_, fun i hi => ?_⟩
  · have := h.lo i (by simp; omega)
    rwa [List.getElem_append_left hi] at this
  · have := h.byt i (by simp; omega)
    rwa [List.getElem_append_left hi] at this
  · have := h.adj i (by simp; omega)
    rwa [List.getElem_append_left hi, List.getElem_append_left (by omega)] at this
theorem rg_bump {l : List S69} {e : S69} (h : RG (l ++ [e])) : RG (l ++ [⟨e.f0, e.f1 + 1⟩]) := by
  have last : (l ++ [e])[l.length]'(by simp) = e := by simp
  have a := h.lo l.length (by simp)
  have b := h.byt l.length (by simp)
  rw [last] at a b
  refine rg_snoc (rg_head h) _ (by show 1 ≤ e.f1 + 1; omega) b (fun i q hq => ?_)
  have := h.adj i (by simp; omega)
  rw [List.getElem_append_left q] at this
  have e2 : (l ++ [e])[i + 1]'(by simp; omega) = e := by
    rw [List.getElem_append_right (by omega)]
    simp [hq]
  rw [e2] at this
  exact this
theorem textNums_append (a b : List S69) : textNums (a ++ b) = textNums a ++ textNums b := by simp [textNums]
theorem textNums_one (e : S69) : textNums [e] = List.replicate e.f1.toNat e.f0 := by simp [textNums]
theorem runsOf_good (s : ByteArray) (hs : s.size ≤ 200) : ∃ r : List S69, Ev (fun k => impl_RunsOf.l0 k s [] (s.size : Int) 0) (r, true) ∧ RG r ∧ textNums r = bytesOf s := by
  have bl := bytesOf_length s
  have key : ∀ (d n : Nat) (x : List S69), n + d = s.size → RG x → textNums x = (bytesOf s).take n → ∃ r : List S69, Ev (fun k => impl_RunsOf.l0 k s x (s.size : Int) (n : Int)) (r, true) ∧ RG r ∧ textNums r = bytesOf s := by
    intro d
    induction d with
    | zero =>
      intro n x h1 hg ht
      refine ⟨x, ?_, hg, by rw [ht, List.take_of_length_le (by omega)]⟩
      apply K.Ev.succ
      simp only [impl_RunsOf.l0, if_neg (show ¬ ((n : Int) < (s.size : Int)) by omega)]
      exact Ev.now _
    | succ d ih =>
      intro n x h1 hg ht
      have a1 : (n : Int) < (s.size : Int) := by omega
      have a0 : (0 : Int) ≤ (n : Int) := by omega
      have hbt : (bytesOf s)[n]'(by omega) = bt s (n : Int) := by
        rw [K.bt_bytes, List.getD_eq_getElem?_getD, List.getElem?_eq_getElem (show n < (bytesOf s).length by omega)]; rfl
      have br := bt_range s (n : Int)
      have hbr : 0 ≤ bt s (n : Int) ∧ bt s (n : Int) ≤ 255 := by omega
      have tk : (bytesOf s).take (n + 1) = (bytesOf s).take n ++ [bt s (n : Int)] := by rw [K.take_succ' _ n (by omega), hbt]
      have xl : x.length ≤ n := by
        have e1 : (textNums x).length = n := by rw [ht, List.length_take]; omega
        have : ∀ y : List S69, RG y → y.length ≤ (textNums y).length := by
          intro y hy
          have : ∀ i, i ≤ y.length → i ≤ (textNums (y.take i)).length := by
            intro i
            induction i with
            | zero => intro _; omega
            | succ i ihi =>
              intro hi
              have := ihi (by omega)
              have := hy.lo i (by omega)
              rw [textNums_snoc y i (by omega), List.length_append, List.length_replicate]
              omega
          have := this y.length (Nat.le_refl _)
          rwa [List.take_length] at this
        have := this x hg
        omega
      have lim : x.length < 8796093022208 := by omega
      have wl : wrap64 ((x.length : Int) - 1) = (x.length : Int) - 1 := K.w64 (by omega) (by omega)
      rcases List.eq_nil_or_concat x with rfl | ⟨y, e, rfl⟩
      · obtain ⟨r, e1, e2, e3⟩ := ih (n + 1) [⟨bt s (n : Int), 1⟩] (by omega) (rg_snoc rg_nil _ (by show (1 : Int) ≤ 1; omega) hbr (fun i q => by simp at q)) (by rw [tk, ← ht, textNums_one]; rfl)
        refine ⟨r, ?_, e2, e3⟩
        apply K.Ev.succ
        simp only [impl_RunsOf.l0, if_pos a1, wl, if_neg (show ¬ ((([] : List S69).length : Int) - 1 ≥ 0) by simp only [List.length_nil]; omega), if_pos a0, if_pos lim, List.nil_append, K.w64s n (show n < 9223372036854775807 by omega)]
        exact e1
      · rw [List.concat_eq_append] at *
        have hz : ((y ++ [e]).length : Int) - 1 = (y.length : Int) := by simp
        have b1 : (y.length : Int) < ((y ++ [e]).length : Int) := by simp; omega
        have wl2 : wrap64 (y.length : Int) = (y.length : Int) := K.w64 (by omega) (by have := lim; simp at this; omega)
        have hr : rd_T69 (y ++ [e]) (y.length : Int) = e := by simp [rd_T69]
        have he1 : 1 ≤ e.f1 := by
          have := hg.lo y.length (by simp)
          simpa using this
        by_cases hc : e.f0 = bt s (n : Int)
        · have wf : K.Eqn (wrap64 (e.f1 + 1)) (e.f1 + 1) := ⟨by
            have : e.f1.toNat ≤ n := by
              have e1 : (textNums (y ++ [e])).length = n := by rw [ht, List.length_take]; omega
              rw [textNums_append, textNums_one, List.length_append, List.length_replicate] at e1
              omega
            exact K.w64 (by omega) (by omega)⟩
          obtain ⟨r, e1, e2, e3⟩ := ih (n + 1) (y ++ [⟨e.f0, e.f1 + 1⟩]) (by omega) (rg_bump hg) (by
            rw [tk, ← ht, textNums_append, textNums_append, textNums_one, textNums_one, List.append_assoc, ← hc]
            congr 1
            show List.replicate (e.f1 + 1).toNat e.f0 = _
            rw [show (e.f1 + 1).toNat = e.f1.toNat + 1 by omega, List.replicate_succ'])
          refine ⟨r, ?_, e2, e3⟩
          apply K.Ev.succ
          have st : (y ++ [e]).set y.length ⟨e.f0, e.f1 + 1⟩ = y ++ [⟨e.f0, e.f1 + 1⟩] := by simp
          simp only [impl_RunsOf.l0, if_pos a1, hz, wl2, if_pos (show (y.length : Int) ≥ 0 by omega), if_pos (show (0 : Int) ≤ (y.length : Int) by omega), if_pos b1, if_pos a0, hr, if_pos hc, Int.toNat_natCast, wf.out, st, K.w64s n (show n < 9223372036854775807 by omega)]
          exact e1
        · obtain ⟨r, e1, e2, e3⟩ := ih (n + 1) ((y ++ [e]) ++ [⟨bt s (n : Int), 1⟩]) (by omega) (rg_snoc hg _ (by show (1 : Int) ≤ 1; omega) hbr (fun i q hq => by
              have hi : i = y.length := by simp at hq; omega
              subst hi
              simpa using hc)) (by
            rw [tk, ← ht, textNums_append (y ++ [e]), textNums_one]; rfl)
          refine ⟨r, ?_, e2, e3⟩
          apply K.Ev.succ
          simp only [impl_RunsOf.l0, if_pos a1, hz, wl2, if_pos (show (y.length : Int) ≥ 0 by omega), if_pos (show (0 : Int) ≤ (y.length : Int) by omega), if_pos b1, if_pos a0, hr, if_neg hc, if_pos lim, K.w64s n (show n < 9223372036854775807 by omega)]
          exact e1
  have := key s.size 0 [] (by omega) rg_nil (by simp [textNums])
  exact this
theorem textNums_mono (l : List S69) (n : Nat) : (textNums (l.take n)).length ≤ (textNums l).length := by
  have := textNums_append (l.take n) (l.drop n)
  rw [List.take_append_drop] at this
  rw [this, List.length_append]
  omega
theorem good_yes (l : List S69) (h : RG l) (ht : (textNums l).length ≤ 200) (hl : l.length ≤ 200) : Ev (fun k => impl_GoodRuns.f k l) true := by
  have key : ∀ (d n : Nat), n + d = l.length → Ev (fun k => impl_GoodRuns.l0 k l (((textNums (l.take n)).length : Nat) : Int) l (l.length : Int) (n : Int)) true := by
    intro d
    induction d with
    | zero =>
      intro n h1
      apply K.Ev.succ
      simp only [impl_GoodRuns.l0, if_neg (show ¬ ((n : Int) < (l.length : Int)) by omega)]
      exact Ev.now _
    | succ d ih =>
      intro n h1
      have hn : n < l.length := by omega
      have hr : rd_T69 l (n : Int) = l[n] := by simp [rd_T69, hn]
      have h2 := h.lo n hn
      have hm := textNums_mono l (n + 1)
      have hx := ih (n + 1) (by omega)
      rw [textNums_snoc l n hn, List.length_append, List.length_replicate] at hm hx
      obtain ⟨F, hF⟩ := Int.eq_ofNat_of_zero_le (show 0 ≤ l[n].f1 by omega)
      rw [hF, Int.toNat_natCast] at hm hx
      generalize (textNums (l.take n)).length = c at hm hx
      have wm : K.Eqn (wrap64 (200 - (c : Int))) (200 - (c : Int)) := ⟨K.w64 (by omega) (by omega)⟩
      have wc : K.Eqn (wrap64 ((c : Int) + (F : Int))) (((c + F : Nat) : Int)) := ⟨by rw [K.w64 (by omega) (by omega)]; omega⟩
      have qi : impl_within.f (F : Int) 1 (200 - (c : Int)) = some true := by unfold impl_within.f; rw [if_pos (by omega)]; simp; omega
      cases n with
      | zero =>
        apply K.Ev.succ
        simp only [impl_GoodRuns.l0, if_pos (show ((0 : Nat) : Int) < (l.length : Int) by omega), if_pos (show (0 : Int) ≤ ((0 : Nat) : Int) by omega), hr, hF, wm.out, qi, Option.bind_some, if_true, if_neg (show ¬ (((0 : Nat) : Int) > 0) by omega), wc.out, K.w64s 0 (by omega)]
        exact hx
      | succ n =>
        have wp := K.Eqn.mk (K.w64p n (by omega))
        have hr2 : rd_T69 l (n : Int) = l[n] := by simp [rd_T69, show n < l.length by omega]
        have ha := h.adj n hn
        apply K.Ev.succ
        simp only [impl_GoodRuns.l0, if_pos (show ((n + 1 : Nat) : Int) < (l.length : Int) by omega), if_pos (show (0 : Int) ≤ ((n + 1 : Nat) : Int) by omega), hr, hF, wm.out, qi, Option.bind_some, if_true, if_pos (show ((n + 1 : Nat) : Int) > 0 by omega), wp.out, if_pos (show (0 : Int) ≤ (n : Int) by omega), if_pos (show (n : Int) < (l.length : Int) by omega), hr2, if_neg (fun e => ha (Eq.symm e)), wc.out, K.w64s (n + 1) (by omega)]
        exact hx
  have := key l.length 0 (by omega)
  simp only [impl_GoodRuns.f]
  exact this
theorem pack_len (l : List S69) : (∀ r ∈ l, 1 ≤ r.f1) → 2 * (l.flatMap packOne).length ≤ 3 * (textNums l).length := by
  induction l with
  | nil => intro _; simp [textNums]
  | cons r l ih =>
    intro h
    have h1 := h r (by simp)
    have := ih (fun x hx => h x (by simp [hx]))
    have e : textNums (r :: l) = textNums [r] ++ textNums l := textNums_append [r] l
    rw [e, textNums_one, List.flatMap_cons, List.length_append, List.length_append, List.length_replicate]
    by_cases q : r.f1 > 1
    · have : (packOne r).length = 3 := by simp [packOne, q]
      omega
    · have : (packOne r).length = 1 := by simp [packOne, q]
      omega
theorem pack_rng (l : List S69) (h : RG l) : ∀ x ∈ l.flatMap packOne, 0 ≤ x ∧ x ≤ 255 := by
  intro x hx
  obtain ⟨r, hr, hx⟩ := List.mem_flatMap.1 hx
  obtain ⟨i, hi, rfl⟩ := List.mem_iff_getElem.1 hr
  have hb := h.byt i hi
  unfold packOne at hx
  split at hx
  · rcases List.mem_cons.1 hx with rfl | hx
    · exact hb
    · rcases List.mem_cons.1 hx with rfl | hx
      · exact hb
      · rw [List.mem_singleton.1 hx]; omega
  · rw [List.mem_singleton.1 hx]; exact hb
/-- What stands in a code at the place of a run. -/
theorem pack_at (l : List S69) (i : Nat) (h : i < l.length) (j : Nat) (hj : j < (packOne l[i]).length) : (l.flatMap packOne)[((l.take i).flatMap packOne).length + j]? = some (packOne l[i])[j] := by
  have e : l.flatMap packOne = (l.take i).flatMap packOne ++ (packOne l[i] ++ (l.drop (i + 1)).flatMap packOne) := by
    rw [← List.flatMap_cons, ← List.drop_eq_getElem_cons h, ← List.flatMap_append, List.take_append_drop]
  rw [e, List.getElem?_append_right (by omega), List.getElem?_append_left (by omega)]
  rw [show ((l.take i).flatMap packOne).length + j - ((l.take i).flatMap packOne).length = j by omega, List.getElem?_eq_getElem hj]
theorem unpack_good (l : List S69) (h : RG l) (ht : (textNums l).length ≤ 200) (hl : l.length ≤ 200) (hp : (l.flatMap packOne).length ≤ 1000) : Ev (fun k => impl_UnpackRuns.f k (strOfNums (l.flatMap packOne))) (l, true) := by
  have sz : (strOfNums (l.flatMap packOne)).size = (l.flatMap packOne).length := strOfNums_size _
  have rng := pack_rng l h
  have hbt : ∀ (p : Nat) (v : Int), (l.flatMap packOne)[p]? = some v → bt (strOfNums (l.flatMap packOne)) (p : Int) = v ∧ p < (l.flatMap packOne).length := by
    intro p v hv
    obtain ⟨hlt, hv2⟩ := List.getElem?_eq_some_iff.1 hv
    refine ⟨?_, hlt⟩
    rw [K.bt_bytes, K.bytesOf_strOf _ rng, List.getD_eq_getElem?_getD, hv]; rfl
  have gy := good_yes l h ht hl
  have upper : ∀ i (hi : i < l.length), l[i].f1 ≤ 200 := by
    intro i hi
    have := textNums_mono l (i + 1)
    rw [textNums_snoc l i hi, List.length_append, List.length_replicate] at this
    omega
  generalize hP : strOfNums (l.flatMap packOne) = s at sz hbt
  have key : ∀ (d i : Nat), i + d = l.length → Ev (fun k => impl_UnpackRuns.l0 k s (l.take i) (((l.take i).flatMap packOne).length : Int)) (l, true) := by
    intro d
    induction d with
    | zero =>
      intro i hi
      obtain rfl : i = l.length := by omega
      apply K.Ev.succ
      rw [List.take_length]
      simp only [impl_UnpackRuns.l0, if_neg (show ¬ (((l.flatMap packOne).length : Int) < (s.size : Int)) by omega)]
      refine Ev.bind gy ?_
      simp only [if_true]
      exact Ev.now _
    | succ d ih =>
      intro i hi
      have hil : i < l.length := by omega
      have hx := ih (i + 1) (by omega)
      have hlo := h.lo i hil
      have hup := upper i hil
      have tl : (l.take i).length < 8796093022208 := by rw [List.length_take]; omega
      have e1 : l.take (i + 1) = l.take i ++ [l[i]] := K.take_succ' l i hil
      have p0 := hbt _ _ (pack_at l i hil 0 (by unfold packOne; split <;> simp))
      have h0 : (packOne l[i])[0]'(by unfold packOne; split <;> simp) = l[i].f0 := by unfold packOne; split <;> rfl
      rw [h0, Nat.add_zero] at p0
      have e2 : ((l.take (i + 1)).flatMap packOne).length = ((l.take i).flatMap packOne).length + (packOne l[i]).length := by rw [e1, List.flatMap_append, List.length_append]; simp
      generalize hn : ((l.take i).flatMap packOne).length = n at *
      rw [e2, e1] at hx
      have ws : K.Eqn (wrap64 ((n : Int) + 1)) (((n + 1 : Nat) : Int)) := ⟨K.w64s n (by omega)⟩
      by_cases q : l[i].f1 > 1
      · have pk : packOne l[i] = [l[i].f0, l[i].f0, (wrap64 (l[i].f1 - 2)) % 256] := by simp [packOne, q]
        have pl : (packOne l[i]).length = 3 := by rw [pk]; rfl
        have p1 := hbt _ _ (pack_at l i hil 1 (by omega))
        have p2 := hbt _ _ (pack_at l i hil 2 (by omega))
        have g1 : (packOne l[i])[1]'(by omega) = l[i].f0 := by simp [pk]
        have g2 : (packOne l[i])[2]'(by omega) = (wrap64 (l[i].f1 - 2)) % 256 := by simp [pk]
        have g3 : K.Eqn ((wrap64 (l[i].f1 - 2)) % 256) (l[i].f1 - 2) := ⟨by rw [K.w64 (by omega) (by omega)]; omega⟩
        rw [g1, hn] at p1
        rw [g2, g3.out, hn] at p2
        clear g1 g2
        rw [pl] at hx
        have ws2 : K.Eqn (wrap64 (((n + 1 : Nat) : Int) + 1)) ((n + 2 : Nat) : Int) := ⟨K.w64s (n + 1) (by omega)⟩
        have ws3 : K.Eqn (wrap64 (((n + 1 : Nat) : Int) + 2)) (((n + 3 : Nat) : Int)) := ⟨by rw [K.w64 (by omega) (by omega)]; omega⟩
        have wb : K.Eqn (wrap64 (l[i].f1 - 2)) (l[i].f1 - 2) := ⟨K.w64 (by omega) (by omega)⟩
        have wb2 : K.Eqn (wrap64 (2 + (l[i].f1 - 2))) (l[i].f1) := ⟨by rw [K.w64 (by omega) (by omega)]; omega⟩
        have se : (⟨l[i].f0, l[i].f1⟩ : S69) = l[i] := rfl
        apply K.Ev.succ
        simp only [impl_UnpackRuns.l0, if_pos (show (n : Int) < (s.size : Int) by omega), if_pos (show (0 : Int) ≤ (n : Int) by omega), ws.out, if_pos (show ((n + 1 : Nat) : Int) < (s.size : Int) by omega), if_pos (show (0 : Int) ≤ ((n + 1 : Nat) : Int) by omega), p0.1, p1.1, beq_self_eq_true]
        apply K.Ev.succ
        simp only [impl_UnpackRuns.j1, if_true, ws2.out, ws3.out, if_neg (show ¬ ((n + 2 : Nat) : Int) = (s.size : Int) by omega), if_pos (show (0 : Int) ≤ ((n + 2 : Nat) : Int) by omega), if_pos (show ((n + 2 : Nat) : Int) < (s.size : Int) by omega), if_pos tl, p2.1, wb.out, wb2.out, se]
        exact hx
      · have f1 : l[i].f1 = 1 := by omega
        have pk : packOne l[i] = [l[i].f0] := by simp [packOne, q]
        have pl : (packOne l[i]).length = 1 := by rw [pk]; rfl
        rw [pl] at hx
        have se : (⟨l[i].f0, 1⟩ : S69) = l[i] := by rw [← f1]
        have single : ∀ c : Bool, c = false → Ev (fun k => impl_UnpackRuns.j1 k s (l.take i) ((n + 1 : Nat) : Int) c l[i].f0 1) (l, true) := by
          rintro c rfl
          apply K.Ev.succ
          simp only [impl_UnpackRuns.j1, Bool.false_eq_true, if_false, if_pos tl, se]
          exact hx
        apply K.Ev.succ
        simp only [impl_UnpackRuns.l0, if_pos (show (n : Int) < (s.size : Int) by omega), if_pos (show (0 : Int) ≤ (n : Int) by omega), ws.out, p0.1]
        by_cases q2 : ((n + 1 : Nat) : Int) < (s.size : Int)
        · have hi1 : i + 1 < l.length := by
            rcases Nat.lt_or_ge (i + 1) l.length with u | u
            · exact u
            · exfalso
              rw [List.take_of_length_le (by omega)] at e2
              omega
          have p1 := hbt _ _ (pack_at l (i + 1) hi1 0 (by unfold packOne; split <;> simp))
          have h1 : (packOne l[i + 1])[0]'(by unfold packOne; split <;> simp) = l[i + 1].f0 := by unfold packOne; split <;> rfl
          rw [h1, e2, pl, Nat.add_zero] at p1
          have ne := h.adj i hi1
          simp only [if_pos q2, if_pos (show (0 : Int) ≤ ((n + 1 : Nat) : Int) by omega), p1.1, beq_eq_false_iff_ne.mpr (fun e => ne (Eq.symm e))]
          exact single false rfl
        · simp only [if_neg q2]
          exact single false rfl
  have := key l.length 0 (by omega)
  simp only [impl_UnpackRuns.f]
  exact this

theorem ev_one {α : Type} {g : Nat → Option α} {r s : α} (h1 : Ev g r) (h2 : Ev g s) : r = s := by
  obtain ⟨n, h1⟩ := h1
  obtain ⟨m, h2⟩ := h2
  have a := h1 (max n m) (by omega)
  have b := h2 (max n m) (by omega)
  rw [a] at b
  exact Option.some.inj b
theorem runs_j1 (c : List Int) (hc : K.Code c) : Ev (fun k => laws_FnRuns.j1 k c) true := by
  obtain ⟨u, e, hu⟩ := drawUnpackRuns_ok c hc
  obtain ⟨r, r0, r1, r2, r3⟩ := unpack_eq u hu
  apply K.Ev.succ
  simp only [laws_FnRuns.j1]
  refine Ev.bind e ?_
  refine Ev.bind r2 ?_
  refine Ev.bind r1 ?_
  simp only [bne_self_eq_false, Bool.false_eq_true, if_false]
  refine Ev.bind (sameRuns_self _ (by omega)) ?_
  simp only [Bool.not_true]
  obtain ⟨l, b⟩ := r
  cases b with
  | false =>
    have hl : l = [] := by
      simp only [impl_UnpackRuns.f] at r2
      exact unpack_false u l hu r2
    subst hl
    apply K.Ev.succ
    simp only [laws_FnRuns.j2, Bool.false_eq_true, if_false]
    exact Ev.now _
  | true =>
    obtain ⟨g1, g2⟩ := r3 rfl
    apply K.Ev.succ
    simp only [laws_FnRuns.j2, Bool.false_eq_true, if_false, if_true]
    have hp : Ev (fun k => impl_PackRuns.f k l) (strOfNums (l.flatMap packOne), true) := by
      simp only [impl_PackRuns.f]
      refine Ev.bind g1 ?_
      simp only [if_true]
      exact implPack_ev l (by simp only at r0; omega)
    refine Ev.bind hp ?_
    simp only [if_true, g2, beq_self_eq_true]
    exact Ev.now _
theorem FnRuns : laws_FnRuns.Pure := by
  intro c1 c2 _ hl1 hw1 _ hl2 hw2
  have hc1 : K.Code c1 := ⟨by omega, fun x h => K.b_u8 (hw1 x h)⟩
  have hc2 : K.Code c2 := ⟨by omega, fun x h => K.b_u8 (hw2 x h)⟩
  refine Ev.rounds (?_ : Ev (fun k => laws_FnRuns.f k c1 c2) true)
  unfold laws_FnRuns.f
  by_cases h : (wrap64 ((c1.length : Int) + (c2.length : Int))) > 1048576
  · simp only [if_pos h]; exact Ev.now _
  simp only [if_neg h]
  clear h
  obtain ⟨s, e0, s1⟩ := drawMoveFront_ok c1 hc1
  have e1 : Ev (fun k => spec_DrawRunsOf.f k c1) s := by
    simp only [spec_DrawRunsOf.f]
    exact Ev.bind e0 (Ev.now _)
  obtain ⟨r, r0, r1, r2⟩ := runs_of_eq s
  refine Ev.bind e1 ?_
  refine Ev.bind r2 ?_
  refine Ev.bind r1 ?_
  simp only [bne_self_eq_false, Bool.false_eq_true, if_false]
  refine Ev.bind (sameRuns_self _ (by omega)) ?_
  simp only [Bool.not_true]
  by_cases hs : (s.size : Int) > 200
  · have : r = ([], false) := by
      refine ev_one r2 ?_
      simp only [impl_RunsOf.f, if_pos hs]; exact Ev.now _
    subst this
    apply K.Ev.succ
    simp only [laws_FnRuns.j0, Bool.false_eq_true, if_false]
    exact runs_j1 c2 hc2
  obtain ⟨l, g1, g2, g3⟩ := runsOf_good s (by omega)
  have : r = (l, true) := by
    refine ev_one r2 ?_
    simp only [impl_RunsOf.f, if_neg hs]; exact g1
  subst this
  simp only at r0
  have bl := bytesOf_length s
  have tl : (textNums l).length ≤ 200 := by rw [g3]; omega
  have gy := good_yes l g2 tl r0
  have up : ∀ i (hi : i < l.length), 1 ≤ l[i].f1 ∧ l[i].f1 ≤ 200 := by
    intro i hi
    have := textNums_mono l (i + 1)
    rw [textNums_snoc l i hi, List.length_append, List.length_replicate] at this
    have := g2.lo i hi
    omega
  have ok : RunsOk l := ⟨r0, up, g2.byt⟩
  have pl := pack_len l (fun x hx => by
    obtain ⟨i, hi, rfl⟩ := List.mem_iff_getElem.1 hx
    exact g2.lo i hi)
  have tx : Ev (fun k => impl_TextOf.f k l) (s, true) := by
    simp only [impl_TextOf.f]
    refine Ev.bind gy ?_
    simp only [if_true]
    have := textOf_impl l ok
    rw [g3, K.strOf_bytesOf] at this
    exact this
  have pk : Ev (fun k => impl_PackRuns.f k l) (strOfNums (l.flatMap packOne), true) := by
    simp only [impl_PackRuns.f]
    refine Ev.bind gy ?_
    simp only [if_true]
    exact implPack_ev l (by omega)
  have un := unpack_good l g2 tl r0 (by omega)
  have wh : K.Eqn (wrap64 ((s.size : Int) + wrap64 ((s.size : Int) / 2))) ((s.size : Int) + (s.size : Int) / 2) := ⟨by rw [K.w64 (x := (s.size : Int) / 2) (by omega) (by omega), K.w64 (by omega) (by omega)]⟩
  have ln : ¬ ((strOfNums (l.flatMap packOne)).size : Int) > (s.size : Int) + (s.size : Int) / 2 := by
    rw [strOfNums_size]
    rw [g3, bl] at pl
    omega
  apply K.Ev.succ
  simp only [laws_FnRuns.j0, Bool.false_eq_true, if_false, if_true]
  refine Ev.bind tx ?_
  refine Ev.bind pk ?_
  refine Ev.bind un ?_
  simp only [if_true]
  refine Ev.bind (sameRuns_self _ (by omega)) ?_
  simp only [if_true]
  refine Ev.bind gy ?_
  simp only [if_true, wh.out, if_neg ln]
  exact runs_j1 c2 hc2

end Go.Proofs.Ythhcgepofldgaaa.Pure
