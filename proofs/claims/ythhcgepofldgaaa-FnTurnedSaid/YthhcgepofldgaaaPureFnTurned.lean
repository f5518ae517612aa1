/- The law FnTurned answers true for all drawn texts: a text is recovered from its transform, its turnings stand in order, and a turning has the same last bytes. -/
import Derived.Test.YthhcgepofldgaaaPFnTurnedx5
import Derived.Test.YthhcgepofldgaaaKKit
import Derived.Test.YthhcgepofldgaaaKStable
import Derived.Test.YthhcgepofldgaaaKTurned
set_option linter.unusedVariables false
set_option linter.unusedSimpArgs false
namespace Go.Proofs.Ythhcgepofldgaaa.Pure
open Go Go.RowKit Go.Proofs.Ythhcgepofldgaaa Go.Proofs.Ythhcgepofldgaaa.PFnTurned Go.Proofs.YthhcgepofldgaaaW.PrintWords Go.Proofs.YthhcgepofldgaaaW.PrintLast Go.Proofs.YthhcgepofldgaaaW.PrintMore

theorem lt_irreflT {cf : Int → Int → Int} (h : K.Cmp cf) (x : Int) : ¬ K.Lt cf x x := by
  have := h.self x
  unfold K.Lt
  omega
/-- A list of the numbers below n, by a comparison: it is the sorted one. -/
theorem argsort_pairT {cf : Int → Int → Int} (hc : K.Cmp cf) {d : List Int} {n : Nat} (hp : d.Pairwise (K.Lt cf)) (h1 : ∀ x ∈ d, ∃ j : Nat, x = (j : Int) ∧ j < n) (h2 : ∀ j : Nat, j < n → (j : Int) ∈ d) : d = Go.Proofs.Ythhcgepofldgaaa.PSortN.argsort cf n := by
  have hn : d.Nodup := hp.imp (fun {a b} hab e => by subst e; exact lt_irreflT hc _ hab)
  have hr : (Go.Proofs.Ythhcgepofldgaaa.PSortN.rng n).Nodup := by
    unfold Go.Proofs.Ythhcgepofldgaaa.PSortN.rng List.Nodup
    rw [List.pairwise_map]
    exact List.nodup_range.imp (fun h e => h (Int.ofNat.inj e))
  have hperm : List.Perm d (Go.Proofs.Ythhcgepofldgaaa.PSortN.rng n) := by
    refine (List.perm_ext_iff_of_nodup hn hr).mpr fun x => ⟨fun hx => ?_, fun hx => ?_⟩
    · obtain ⟨j, rfl, hj⟩ := h1 x hx
      exact List.mem_map.mpr ⟨j, List.mem_range.mpr hj, rfl⟩
    · obtain ⟨j, rfl, hj⟩ := Go.Proofs.Ythhcgepofldgaaa.PSortN.rng_mem hx
      exact h2 j hj
  refine Go.Proofs.Ythhcgepofldgaaa.PSortN.argsort_of hc hperm ?_
  intro i j _ hij hj
  have hl : d.length = n := hperm.length_eq.trans (Go.Proofs.Ythhcgepofldgaaa.PSortN.rng_length n)
  have := (List.pairwise_iff_getElem.mp hp) i j (by omega) (by omega) hij
  unfold K.at_
  rw [List.getD_eq_getElem?_getD, List.getD_eq_getElem?_getD, List.getElem?_eq_getElem (show i < d.length by omega), List.getElem?_eq_getElem (show j < d.length by omega)]
  exact this
/-- The model's less-than of bytes is the comparison's. -/
theorem bytesLess_cmp : ∀ x y : List UInt8, Op.bytesLess x y = decide (Lib.compareBytes x y < 0)
  | [], [] => by simp [Op.bytesLess, Lib.compareBytes]
  | [], _ :: _ => by simp [Op.bytesLess, Lib.compareBytes]
  | _ :: _, [] => by simp [Op.bytesLess, Lib.compareBytes]
  | a :: x, b :: y => by
    have ih := bytesLess_cmp x y
    have e1 : (a < b) ↔ a.toNat < b.toNat := UInt8.lt_iff_toNat_lt
    have e2 : (b < a) ↔ b.toNat < a.toNat := UInt8.lt_iff_toNat_lt
    simp only [Op.bytesLess, Lib.compareBytes]
    by_cases c : a < b
    · simp [c]
    · by_cases d : b < a
      · have hn : (a == b) = false := by
          have : a ≠ b := fun e => by subst e; exact c d
          simpa using this
        simp [c, d, hn]
      · have : a = b := UInt8.toNat_inj.mp (by rw [e1] at c; rw [e2] at d; omega)
        subst this
        simp [c, ih]
theorem less_turn (s : ByteArray) (x y : Int) : (Op.bytesLess (Go.Proofs.Ythhcgepofldgaaa.PSortO.turnB s x).toList (Go.Proofs.Ythhcgepofldgaaa.PSortO.turnB s y).toList = true) ↔ Go.Proofs.Ythhcgepofldgaaa.PSortO.cfT s x y < 0 := by
  rw [bytesLess_cmp, Lib.toList_data, Lib.toList_data, decide_eq_true_iff]; rfl
theorem l11Turn_f (s : ByteArray) (h : s.size ≤ 120) (j : Nat) (hj : j < s.size) : spec_l11Turn.f s (j : Int) = some (Go.Proofs.Ythhcgepofldgaaa.PSortO.turnB s (j : Int)) := by
  have e : (s.extract ((j : Int)).toNat s.size).size + (s.extract 0 ((j : Int)).toNat).size ≤ 9223372036854775807 := by
    simp only [ByteArray.size_extract]; omega
  simp only [spec_l11Turn.f, if_pos (show (0 : Int) ≤ (j : Int) by omega), if_pos (show (j : Int) ≤ (s.size : Int) by omega), if_pos e]
  rfl
/-- A place put into its place. -/
def insT (s : ByteArray) (n : Int) : List Int → List Int
  | [] => [n]
  | x :: xs => if Go.Proofs.Ythhcgepofldgaaa.PSortO.cfT s n x < 0 then n :: x :: xs else x :: insT s n xs
theorem insT_mem (s : ByteArray) (n y : Int) : ∀ l, y ∈ insT s n l ↔ y = n ∨ y ∈ l
  | [] => by simp [insT]
  | x :: xs => by
    have := insT_mem s n y xs
    unfold insT
    split
    · simp
    · simp only [List.mem_cons, this]
      constructor
      · rintro (h | h | h)
        · exact .inr (.inl h)
        · exact .inl h
        · exact .inr (.inr h)
      · rintro (h | h | h)
        · exact .inr (.inl h)
        · exact .inl h
        · exact .inr (.inr h)
theorem insT_len (s : ByteArray) (n : Int) : ∀ l, (insT s n l).length = l.length + 1
  | [] => rfl
  | x :: xs => by
    have := insT_len s n xs
    unfold insT
    split
    · simp
    · simp [this]
theorem insT_lt (s : ByteArray) (n : Int) : ∀ l : List Int, l.Pairwise (K.Lt (Go.Proofs.Ythhcgepofldgaaa.PSortO.cfT s)) → (∀ x ∈ l, x < n) → (insT s n l).Pairwise (K.Lt (Go.Proofs.Ythhcgepofldgaaa.PSortO.cfT s))
  | [], _, _ => by simp [insT]
  | x :: xs, hp, hn => by
    have hc := Go.Proofs.Ythhcgepofldgaaa.PSortO.cfT_cmp s
    obtain ⟨h1, h2⟩ := List.pairwise_cons.mp hp
    unfold insT
    split
    · rename_i c
      refine List.pairwise_cons.mpr ⟨fun y hy => ?_, hp⟩
      rcases List.mem_cons.mp hy with rfl | hy
      · exact .inl c
      · exact K.Lt.trans hc (.inl c) (h1 y hy)
    · rename_i c
      refine List.pairwise_cons.mpr ⟨fun y hy => ?_, insT_lt s n xs h2 fun y hy => hn y (List.mem_cons_of_mem _ hy)⟩
      rcases (insT_mem s n y xs).mp hy with rfl | hy
      · exact K.Lt.of_not hc c (hn x List.mem_cons_self)
      · exact h1 y hy
/-- The places below m, by their turnings. -/
def insA (s : ByteArray) : Nat → List Int
  | 0 => []
  | m + 1 => insT s (m : Int) (insA s m)
theorem insA_len (s : ByteArray) : ∀ m, (insA s m).length = m
  | 0 => rfl
  | m + 1 => by rw [insA, insT_len, insA_len s m]
theorem insA_mem (s : ByteArray) (x : Int) : ∀ m, x ∈ insA s m ↔ ∃ j : Nat, x = (j : Int) ∧ j < m
  | 0 => by simp [insA]
  | m + 1 => by
    rw [insA, insT_mem, insA_mem s x m]
    constructor
    · rintro (rfl | ⟨j, rfl, h⟩)
      · exact ⟨m, rfl, by omega⟩
      · exact ⟨j, rfl, by omega⟩
    · rintro ⟨j, rfl, h⟩
      by_cases c : j = m
      · subst c; exact .inl rfl
      · exact .inr ⟨j, rfl, by omega⟩
theorem insA_lt (s : ByteArray) : ∀ m, (insA s m).Pairwise (K.Lt (Go.Proofs.Ythhcgepofldgaaa.PSortO.cfT s))
  | 0 => List.Pairwise.nil
  | m + 1 => insT_lt s _ _ (insA_lt s m) fun x hx => by
    obtain ⟨j, rfl, h⟩ := (insA_mem s x m).mp hx
    omega
theorem insA_argsort (s : ByteArray) : insA s s.size = Go.Proofs.Ythhcgepofldgaaa.PSortN.argsort (Go.Proofs.Ythhcgepofldgaaa.PSortO.cfT s) s.size :=
  argsort_pairT (Go.Proofs.Ythhcgepofldgaaa.PSortO.cfT_cmp s) (insA_lt s _) (fun x hx => (insA_mem s x _).mp hx) fun j hj => (insA_mem s _ _).mpr ⟨j, rfl, hj⟩
theorem l11Turns_ins (s : ByteArray) (h : s.size ≤ 120) (n : Nat) (hn : n < s.size) (v : List Int) : ∀ (suf pre : List Int), (∀ x ∈ pre ++ suf, ∃ j : Nat, x = (j : Int) ∧ j < s.size) → (pre ++ suf).length ≤ 120 →
    Ev (fun k => spec_l11Turns.l0 k s (pre ++ insT s (n : Int) suf) (s.size : Int) ((n + 1 : Nat) : Int)) v → Ev (fun k => spec_l11Turns.l1 k s (pre ++ suf) (n : Int) (pre.length : Int) (s.size : Int) (n : Int)) v
  | [], pre, hm, hl, H => by
    have hl' : pre.length ≤ 120 := by simpa using hl
    rw [List.append_nil]
    have ht : (pre.take ((pre.length : Int)).toNat) = pre := by simp
    have hd : (pre.drop ((pre.length : Int)).toNat) = [] := by simp
    apply K.Ev.succ
    simp only [spec_l11Turns.l1, if_neg (show ¬ ((pre.length : Int) < (pre.length : Int)) by omega), if_pos (show (0 : Int) ≤ (pre.length : Int) by omega), if_pos (show (pre.length : Int) ≤ (pre.length : Int) by omega), ht, hd, Option.bind_some, List.nil_append, List.append_nil, List.length_append, List.length_nil, List.length_cons]
    rw [insT] at H
    simp only [if_pos (show 0 + pre.length < 17592186044416 by omega), if_pos (show pre.length < 17592186044416 by omega), if_pos (show pre.length + (0 + 1) + 0 < 17592186044416 by omega), K.w64s n (show n < 9223372036854775807 by omega)]
    exact H
  | x :: suf, pre, hm, hl, H => by
    obtain ⟨j, hj, hjs⟩ := hm x (by simp)
    have hr : rd (pre ++ x :: suf) (pre.length : Int) = x := by
      rw [K.rd_nat (show pre.length < (pre ++ x :: suf).length by simp)]; simp
    have hl2 : pre.length + (suf.length + 1) ≤ 120 := by simpa using hl
    have ht : ((pre ++ x :: suf).take ((pre.length : Int)).toNat) = pre := by simp
    have hd : ((pre ++ x :: suf).drop ((pre.length : Int)).toNat) = x :: suf := by simp
    apply K.Ev.succ
    simp only [spec_l11Turns.l1, if_pos (show (pre.length : Int) < ((pre ++ x :: suf).length : Int) by simp; omega), if_pos (show (0 : Int) ≤ (pre.length : Int) by omega), hr]
    rw [insT] at H
    have e1 : spec_l11Turn.f s x = some (Go.Proofs.Ythhcgepofldgaaa.PSortO.turnB s x) := by rw [hj]; exact l11Turn_f s h j hjs
    simp only [e1, l11Turn_f s h n hn, Option.bind_some]
    by_cases c : Go.Proofs.Ythhcgepofldgaaa.PSortO.cfT s (n : Int) x < 0
    · rw [if_pos c] at H
      simp only [if_pos ((less_turn s (n : Int) x).mpr c), if_pos (show (pre.length : Int) ≤ ((pre.length + (suf.length + 1) : Nat) : Int) by omega), ht, hd, Option.bind_some, List.nil_append, List.length_append, List.length_nil, List.length_cons]
      simp only [if_pos (show 0 + pre.length < 17592186044416 by omega), if_pos (show pre.length < 17592186044416 by omega), if_pos (show pre.length + (0 + 1) + (suf.length + 1) < 17592186044416 by omega), K.w64s n (show n < 9223372036854775807 by omega)]
      have e : pre ++ [(n : Int)] ++ x :: suf = pre ++ (n : Int) :: x :: suf := by simp
      rw [e]
      exact H
    · rw [if_neg c] at H
      simp only [if_neg (fun e => c ((less_turn s (n : Int) x).mp e)), K.w64s pre.length (show pre.length < 9223372036854775807 by omega)]
      have := l11Turns_ins s h n hn v suf (pre ++ [x]) (by simpa using hm) (by simpa using hl) (by simpa using H)
      simpa using this
theorem l11Turns_ev (s : ByteArray) (h : s.size ≤ 120) : Ev (fun k => spec_l11Turns.f k s) (insA s s.size) := by
  have outer : ∀ (d n : Nat), n + d = s.size → Ev (fun k => spec_l11Turns.l0 k s (insA s n) (s.size : Int) (n : Int)) (insA s s.size) := by
    intro d
    induction d with
    | zero =>
      intro n hn
      obtain rfl : n = s.size := by omega
      apply K.Ev.succ
      simp only [spec_l11Turns.l0, if_neg (show ¬ ((s.size : Int) < (s.size : Int)) by omega)]
      exact Ev.now _
    | succ d ih =>
      intro n hn
      apply K.Ev.succ
      simp only [spec_l11Turns.l0, if_pos (show (n : Int) < (s.size : Int) by omega)]
      have := l11Turns_ins s h n (by omega) (insA s s.size) (insA s n) [] (fun x hx => ?_) (by simp [insA_len]; omega) (by simpa [insA] using ih (n + 1) (by omega))
      · simpa using this
      · obtain ⟨j, rfl, hj⟩ := (insA_mem s x n).mp (by simpa using hx)
        exact ⟨j, rfl, by omega⟩
  simp only [spec_l11Turns.f, conv_bytes.f, if_pos (show s.size ≤ 9223372036854775807 by omega), Option.bind_some, bytesOf_length]
  exact outer s.size 0 (by omega)

/-- The byte ahead of place x, round the text's end. -/
def prevB (s : ByteArray) (x : Int) : Int := bt s (Int.tmod (wrap64 ((wrap64 (x + (s.size : Int))) - 1)) (s.size : Int))
theorem prev_ok (s : ByteArray) (h : s.size ≤ 120) (j : Nat) (hj : j < s.size) : 0 ≤ Int.tmod (wrap64 ((wrap64 ((j : Int) + (s.size : Int))) - 1)) (s.size : Int) ∧ Int.tmod (wrap64 ((wrap64 ((j : Int) + (s.size : Int))) - 1)) (s.size : Int) < (s.size : Int) := by
  have e1 : wrap64 ((j : Int) + (s.size : Int)) = (j : Int) + (s.size : Int) := K.w64 (by omega) (by omega)
  have e2 : wrap64 ((j : Int) + (s.size : Int) - 1) = (j : Int) + (s.size : Int) - 1 := K.w64 (by omega) (by omega)
  rw [e1, e2]
  exact ⟨Int.tmod_nonneg _ (by omega), Int.tmod_lt_of_pos _ (by omega)⟩
/-- The last place at which the list holds 0. -/
def atOf : List Int → Nat → Int → Int
  | [], _, a => a
  | x :: xs, i, a => if x = 0 then atOf xs (i + 1) (i : Int) else atOf xs (i + 1) a
theorem atOf_no : ∀ (l : List Int) (i : Nat) (a : Int), (0 : Int) ∉ l → atOf l i a = a
  | [], _, _, _ => rfl
  | x :: xs, i, a, h => by
    have h1 : ¬ x = 0 := fun e => h (by simp [e])
    rw [atOf, if_neg h1]
    exact atOf_no xs (i + 1) a fun e => h (List.mem_cons_of_mem _ e)
theorem l11Transform_loop (s : ByteArray) (h : s.size ≤ 120) : ∀ (suf pre acc : List Int) (a : Int), (∀ x ∈ suf, ∃ j : Nat, x = (j : Int) ∧ j < s.size) → acc.length = pre.length → (pre ++ suf).length ≤ 120 →
    Ev (fun k => spec_l11Transform.l0 k s acc a (pre ++ suf) ((pre ++ suf).length : Int) (pre.length : Int)) (strOfNums (acc ++ suf.map (prevB s)), atOf suf pre.length a)
  | [], pre, acc, a, hm, ha, hl => by
    rw [List.append_nil, List.map_nil, List.append_nil]
    apply K.Ev.succ
    simp only [spec_l11Transform.l0, if_neg (show ¬ ((pre.length : Int) < (pre.length : Int)) by omega), atOf]
    exact Ev.now _
  | x :: suf, pre, acc, a, hm, ha, hl => by
    obtain ⟨j, hj, hjs⟩ := hm x (by simp)
    have hr : rd (pre ++ x :: suf) (pre.length : Int) = x := by
      rw [K.rd_nat (show pre.length < (pre ++ x :: suf).length by simp)]; simp
    have hl2 : pre.length + (suf.length + 1) ≤ 120 := by simpa using hl
    have hq := prev_ok s h j hjs
    rw [← hj] at hq
    have ih : ∀ b, Ev (fun k => spec_l11Transform.l0 k s (acc ++ [prevB s x]) b (pre ++ x :: suf) ((pre ++ x :: suf).length : Int) ((pre.length + 1 : Nat) : Int)) (strOfNums (acc ++ (x :: suf).map (prevB s)), atOf suf (pre.length + 1) b) := by
      intro b
      have := l11Transform_loop s h suf (pre ++ [x]) (acc ++ [prevB s x]) b (fun y hy => hm y (List.mem_cons_of_mem _ hy)) (by simp [ha]) (by simpa using hl)
      simpa using this
    apply K.Ev.succ
    simp only [spec_l11Transform.l0, if_pos (show (pre.length : Int) < ((pre ++ x :: suf).length : Int) by simp; omega), if_pos (show (0 : Int) ≤ (pre.length : Int) by omega), hr, if_neg (show ¬ (s.size : Int) = 0 by omega), if_pos hq.1, if_pos hq.2, if_pos (show acc.length < 140737488355328 by omega), Option.bind_some, K.w64s pre.length (show pre.length < 9223372036854775807 by omega), atOf]
    by_cases c : x = 0
    · simp only [if_pos c]
      exact ih _
    · simp only [if_neg c]
      exact ih _

theorem index_int_at : ∀ (suf pre : List Int), suf.Nodup → (pre ++ suf).length ≤ 120 → ∃ v : Int, Ev (fun k => slices_Index_int_int.l0 k (pre ++ suf) 0 ((pre ++ suf).length : Int) (pre.length : Int)) v ∧ mx 0 v = atOf suf pre.length 0
  | [], pre, hn, hl => by
    refine ⟨-1, ?_, by simp [mx, atOf]⟩
    rw [List.append_nil]
    apply K.Ev.succ
    simp only [slices_Index_int_int.l0, if_neg (show ¬ ((pre.length : Int) < (pre.length : Int)) by omega)]
    exact Ev.now _
  | x :: suf, pre, hn, hl => by
    obtain ⟨h1, h2⟩ := List.nodup_cons.mp hn
    have hr : rd (pre ++ x :: suf) (pre.length : Int) = x := by
      rw [K.rd_nat (show pre.length < (pre ++ x :: suf).length by simp)]; simp
    have hl2 : pre.length + (suf.length + 1) ≤ 120 := by simpa using hl
    by_cases c : x = 0
    · subst c
      refine ⟨(pre.length : Int), ?_, ?_⟩
      · apply K.Ev.succ
        simp only [slices_Index_int_int.l0, if_pos (show (pre.length : Int) < ((pre ++ (0 : Int) :: suf).length : Int) by simp; omega), if_pos (show (0 : Int) ≤ (pre.length : Int) by omega), hr, if_true]
        exact Ev.now _
      · rw [atOf, if_pos rfl, atOf_no _ _ _ h1]
        unfold mx
        split <;> omega
    · obtain ⟨v, v1, v2⟩ := index_int_at suf (pre ++ [x]) h2 (by simpa using hl)
      refine ⟨v, ?_, ?_⟩
      · apply K.Ev.succ
        simp only [slices_Index_int_int.l0, if_pos (show (pre.length : Int) < ((pre ++ x :: suf).length : Int) by simp; omega), if_pos (show (0 : Int) ≤ (pre.length : Int) by omega), hr, if_neg (show ¬ (0 : Int) = x from fun e => c e.symm), K.w64s pre.length (show pre.length < 9223372036854775807 by omega)]
        simpa using v1
      · rw [atOf, if_neg c, v2]
        simp
theorem impl_transform_loop (s : ByteArray) (h : s.size ≤ 120) (L : List Int) (v : Int) (hv : Ev (fun k => slices_Index_int_int.f k L 0) v) : ∀ (suf pre acc : List Int), (∀ x ∈ suf, ∃ j : Nat, x = (j : Int) ∧ j < s.size) → acc.length = pre.length → (pre ++ suf).length ≤ 120 →
    Ev (fun k => impl_transform.l0 k s L acc (pre ++ suf) ((pre ++ suf).length : Int) (pre.length : Int)) (strOfNums (acc ++ suf.map (prevB s)), mx 0 v)
  | [], pre, acc, hm, ha, hl => by
    rw [List.append_nil, List.map_nil, List.append_nil]
    apply K.Ev.succ
    simp only [impl_transform.l0, if_neg (show ¬ ((pre.length : Int) < (pre.length : Int)) by omega)]
    exact Ev.bind hv (Ev.now _)
  | x :: suf, pre, acc, hm, ha, hl => by
    obtain ⟨j, hj, hjs⟩ := hm x (by simp)
    have hr : rd (pre ++ x :: suf) (pre.length : Int) = x := by
      rw [K.rd_nat (show pre.length < (pre ++ x :: suf).length by simp)]; simp
    have hl2 : pre.length + (suf.length + 1) ≤ 120 := by simpa using hl
    have hq := prev_ok s h j hjs
    rw [← hj] at hq
    have ih : Ev (fun k => impl_transform.l0 k s L (acc ++ [prevB s x]) (pre ++ x :: suf) ((pre ++ x :: suf).length : Int) ((pre.length + 1 : Nat) : Int)) (strOfNums (acc ++ (x :: suf).map (prevB s)), mx 0 v) := by
      have := impl_transform_loop s h L v hv suf (pre ++ [x]) (acc ++ [prevB s x]) (fun y hy => hm y (List.mem_cons_of_mem _ hy)) (by simp [ha]) (by simpa using hl)
      simpa using this
    apply K.Ev.succ
    simp only [impl_transform.l0, if_pos (show (pre.length : Int) < ((pre ++ x :: suf).length : Int) by simp; omega), if_pos (show (0 : Int) ≤ (pre.length : Int) by omega), hr, if_neg (show ¬ (s.size : Int) = 0 by omega), if_pos hq.1, if_pos hq.2, if_pos (show acc.length < 140737488355328 by omega), Option.bind_some, K.w64s pre.length (show pre.length < 9223372036854775807 by omega)]
    exact ih
theorem insA_nodup (s : ByteArray) (m : Nat) : (insA s m).Nodup := (insA_lt s m).imp fun {a b} hab e => by
  subst e; exact lt_irreflT (Go.Proofs.Ythhcgepofldgaaa.PSortO.cfT_cmp s) _ hab
/-- Both ways of the transform. -/
theorem transform_both (s : ByteArray) (h : s.size ≤ 120) : Ev (fun k => spec_l11Transform.f k s) (strOfNums ((insA s s.size).map (prevB s)), atOf (insA s s.size) 0 0) ∧ Ev (fun k => impl_transform.f k s) (strOfNums ((insA s s.size).map (prevB s)), atOf (insA s s.size) 0 0) := by
  have hm : ∀ x ∈ insA s s.size, ∃ j : Nat, x = (j : Int) ∧ j < s.size := fun x hx => (insA_mem s x _).mp hx
  have hl : (insA s s.size).length ≤ 120 := by rw [insA_len]; exact h
  constructor
  · simp only [spec_l11Transform.f]
    refine Ev.bind (l11Turns_ev s h) ?_
    have := l11Transform_loop s h (insA s s.size) [] [] 0 hm rfl (by simpa using hl)
    simpa using this
  · obtain ⟨v, v1, v2⟩ := index_int_at (insA s s.size) [] (insA_nodup s _) (by simpa using hl)
    have hv : Ev (fun k => slices_Index_int_int.f k (insA s s.size) 0) v := by
      simp only [slices_Index_int_int.f]; simpa using v1
    have := impl_transform_loop s h (insA s s.size) v hv (insA s s.size) [] [] hm rfl (by simpa using hl)
    rw [v2] at this
    simp only [impl_transform.f, impl_turnsOf.f, if_pos h, Option.bind_some]
    rw [← insA_argsort]
    simpa using this

theorem Transform_same (s : ByteArray) : ∃ r : ByteArray × Int × Bool, Ev (fun k => spec_Transform.f k s) r ∧ Ev (fun k => impl_Transform.f k s) r := by
  by_cases h : s.size ≤ 120
  · obtain ⟨e1, e2⟩ := transform_both s h
    refine ⟨(strOfNums ((insA s s.size).map (prevB s)), atOf (insA s s.size) 0 0, true), ?_, ?_⟩
    · simp only [spec_Transform.f, if_neg (show ¬ (s.size : Int) > 120 by omega)]
      exact Ev.bind e1 (Ev.now _)
    · simp only [impl_Transform.f, impl_isTurnable.f, decide_eq_true (show (s.size : Int) ≤ 120 by omega), Option.bind_some, if_true]
      exact Ev.bind e2 (Ev.now _)
  · refine ⟨(⟨#[]⟩, 0, false), ?_, ?_⟩
    · simp only [spec_Transform.f, if_pos (show (s.size : Int) > 120 by omega)]
      exact Ev.now _
    · simp only [impl_Transform.f, impl_isTurnable.f, decide_eq_false (show ¬ (s.size : Int) ≤ 120 by omega), Option.bind_some, Bool.false_eq_true, if_false]
      exact Ev.now _

/-- The places below m of the text's bytes that are b. -/
def idxU (s : ByteArray) (b m : Nat) : List Int := ((List.range m).filter fun (i : Nat) => decide (bt s (i : Int) = (b : Int))).map Int.ofNat
/-- The places of the bytes below B, by byte and by place. -/
def nxB (s : ByteArray) : Nat → List Int
  | 0 => []
  | B + 1 => nxB s B ++ idxU s B s.size
theorem idxU_len (s : ByteArray) (b m : Nat) : (idxU s b m).length ≤ m := by
  unfold idxU
  rw [List.length_map]
  exact Nat.le_trans (List.length_filter_le _ _) (by simp)
theorem nxB_len (s : ByteArray) (h : s.size ≤ 120) : ∀ B, (nxB s B).length ≤ B * 120
  | 0 => Nat.le_refl _
  | B + 1 => by
    rw [nxB, List.length_append]
    have := nxB_len s h B
    have := idxU_len s B s.size
    omega
theorem idxU_mem {s : ByteArray} {b m : Nat} {x : Int} (h : x ∈ idxU s b m) : ∃ j : Nat, x = (j : Int) ∧ j < m ∧ bt s (j : Int) = (b : Int) := by
  simp only [idxU, List.mem_map, List.mem_filter, List.mem_range, decide_eq_true_iff] at h
  obtain ⟨j, ⟨h1, h2⟩, h3⟩ := h
  exact ⟨j, h3.symm, h1, h2⟩
theorem idxU_of {s : ByteArray} {b m j : Nat} (hj : j < m) (hb : bt s (j : Int) = (b : Int)) : (j : Int) ∈ idxU s b m := by
  simp only [idxU, List.mem_map, List.mem_filter, List.mem_range, decide_eq_true_iff]
  exact ⟨j, ⟨hj, hb⟩, rfl⟩
theorem nxB_mem {s : ByteArray} : ∀ {B : Nat} {x : Int}, x ∈ nxB s B → ∃ j : Nat, x = (j : Int) ∧ j < s.size ∧ bt s (j : Int) < (B : Int)
  | 0, x, h => by simp [nxB] at h
  | B + 1, x, h => by
    rw [nxB, List.mem_append] at h
    rcases h with h | h
    · obtain ⟨j, h1, h2, h3⟩ := nxB_mem h
      exact ⟨j, h1, h2, by omega⟩
    · obtain ⟨j, h1, h2, h3⟩ := idxU_mem h
      exact ⟨j, h1, h2, by omega⟩
theorem nxB_of {s : ByteArray} {j : Nat} (hj : j < s.size) : ∀ B : Nat, bt s (j : Int) < (B : Int) → (j : Int) ∈ nxB s B
  | 0, h => by have := bt_range s (j : Int); omega
  | B + 1, h => by
    rw [nxB, List.mem_append]
    by_cases c : bt s (j : Int) = (B : Int)
    · exact .inr (idxU_of hj c)
    · exact .inl (nxB_of hj B (by omega))
/-- The comparison by bytes. -/
def cfB (s : ByteArray) (x y : Int) : Int := bt s x - bt s y
theorem cfB_cmp (s : ByteArray) : K.Cmp (cfB s) := ⟨fun x y => by unfold cfB; omega, fun x y z h1 h2 => by unfold cfB at *; omega⟩
theorem nxB_lt (s : ByteArray) : ∀ B, (nxB s B).Pairwise (K.Lt (cfB s))
  | 0 => List.Pairwise.nil
  | B + 1 => by
    rw [nxB, List.pairwise_append]
    refine ⟨nxB_lt s B, ?_, fun x hx y hy => ?_⟩
    · unfold idxU
      rw [List.pairwise_map]
      refine (List.Pairwise.filter _ List.pairwise_lt_range).imp_of_mem ?_
      intro a b ha hb hab
      simp only [List.mem_filter, decide_eq_true_iff] at ha hb
      right
      unfold cfB
      exact ⟨by show bt s (a : Int) - bt s (b : Int) = 0; rw [ha.2, hb.2]; omega, by show (a : Int) < (b : Int); omega⟩
    · obtain ⟨i, rfl, _, h1⟩ := nxB_mem hx
      obtain ⟨j, rfl, _, h2⟩ := idxU_mem hy
      left
      unfold cfB
      omega
theorem lt_irrefl {cf : Int → Int → Int} (h : K.Cmp cf) (x : Int) : ¬ K.Lt cf x x := by
  have := h.self x
  unfold K.Lt
  omega
/-- A list of the numbers below n, by a comparison: it is the sorted one. -/
theorem argsort_pair {cf : Int → Int → Int} (hc : K.Cmp cf) {d : List Int} {n : Nat} (hp : d.Pairwise (K.Lt cf)) (h1 : ∀ x ∈ d, ∃ j : Nat, x = (j : Int) ∧ j < n) (h2 : ∀ j : Nat, j < n → (j : Int) ∈ d) : d = Go.Proofs.Ythhcgepofldgaaa.PSortN.argsort cf n := by
  have hn : d.Nodup := hp.imp (fun {a b} hab e => by subst e; exact lt_irrefl hc _ hab)
  have hr : (Go.Proofs.Ythhcgepofldgaaa.PSortN.rng n).Nodup := by
    unfold Go.Proofs.Ythhcgepofldgaaa.PSortN.rng List.Nodup
    rw [List.pairwise_map]
    exact List.nodup_range.imp (fun h e => h (Int.ofNat.inj e))
  have hperm : List.Perm d (Go.Proofs.Ythhcgepofldgaaa.PSortN.rng n) := by
    refine (List.perm_ext_iff_of_nodup hn hr).mpr fun x => ⟨fun hx => ?_, fun hx => ?_⟩
    · obtain ⟨j, rfl, hj⟩ := h1 x hx
      exact List.mem_map.mpr ⟨j, List.mem_range.mpr hj, rfl⟩
    · obtain ⟨j, rfl, hj⟩ := Go.Proofs.Ythhcgepofldgaaa.PSortN.rng_mem hx
      exact h2 j hj
  refine Go.Proofs.Ythhcgepofldgaaa.PSortN.argsort_of hc hperm ?_
  intro i j _ hij hj
  have hl : d.length = n := hperm.length_eq.trans (Go.Proofs.Ythhcgepofldgaaa.PSortN.rng_length n)
  have := (List.pairwise_iff_getElem.mp hp) i j (by omega) (by omega) hij
  unfold K.at_
  rw [List.getD_eq_getElem?_getD, List.getD_eq_getElem?_getD, List.getElem?_eq_getElem (show i < d.length by omega), List.getElem?_eq_getElem (show j < d.length by omega)]
  exact this
theorem nxB_argsort (s : ByteArray) : nxB s 256 = Go.Proofs.Ythhcgepofldgaaa.PSortN.argsort (cfB s) s.size := by
  refine argsort_pair (cfB_cmp s) (nxB_lt s 256) (fun x hx => ?_) (fun j hj => nxB_of hj 256 (by have := bt_range s (j : Int); omega))
  obtain ⟨j, h1, h2, _⟩ := nxB_mem hx
  exact ⟨j, h1, h2⟩
theorem l11Next_ev (s : ByteArray) (h : s.size ≤ 120) : Ev (fun k => spec_l11Next.f k s) (nxB s 256) := by
  have outer : ∀ (d B : Nat), B + d = 256 → Ev (fun k => spec_l11Next.l0 k s (nxB s B) (B : Int)) (nxB s 256) := by
    intro d
    induction d with
    | zero =>
      intro B hB
      obtain rfl : B = 256 := by omega
      apply K.Ev.succ
      simp only [spec_l11Next.l0, if_neg (show ¬ (((256 : Nat) : Int) < 256) by omega)]
      exact Ev.now _
    | succ d ih =>
      intro B hB
      have inner : ∀ (e i : Nat), i + e = s.size → Ev (fun k => spec_l11Next.l1 k s (nxB s B ++ idxU s B i) (B : Int) (i : Int)) (nxB s 256) := by
        intro e
        induction e with
        | zero =>
          intro i hi
          apply K.Ev.succ
          simp only [spec_l11Next.l1, if_neg (show ¬ ((i : Int) < (s.size : Int)) by omega), K.w64s B (show B < 9223372036854775807 by omega)]
          have := ih (B + 1) (by omega)
          rw [nxB, show s.size = i by omega] at this
          exact this
        | succ e ihe =>
          intro i hi
          have hr := bt_range s (i : Int)
          have hw : wrap64 (bt s (i : Int)) = bt s (i : Int) := K.w64 (by omega) (by omega)
          have hlen : (nxB s B ++ idxU s B i).length < 17592186044416 := by
            have := nxB_len s h B
            have := idxU_len s B i
            rw [List.length_append]; omega
          have hs : idxU s B (i + 1) = idxU s B i ++ (if bt s (i : Int) = (B : Int) then [(i : Int)] else []) := by
            unfold idxU
            rw [List.range_succ, List.filter_append, List.map_append]
            by_cases c : bt s (i : Int) = (B : Int) <;> simp [c]
          have hn := ihe (i + 1) (by omega)
          apply K.Ev.succ
          simp only [spec_l11Next.l1, if_pos (show (i : Int) < (s.size : Int) by omega), if_pos (show (0 : Int) ≤ (i : Int) by omega), hw, K.w64s i (show i < 9223372036854775807 by omega)]
          by_cases c : bt s (i : Int) = (B : Int)
          · simp only [if_pos c, if_pos hlen]
            rw [hs, if_pos c, ← List.append_assoc] at hn
            exact hn
          · simp only [if_neg c]
            rw [hs, if_neg c, List.append_nil] at hn
            exact hn
      apply K.Ev.succ
      simp only [spec_l11Next.l0, if_pos (show (B : Int) < 256 by omega)]
      have := inner s.size 0 (by omega)
      have e : idxU s B 0 = [] := rfl
      rw [e, List.append_nil] at this
      exact this
  simp only [spec_l11Next.f]
  exact outer 256 0 (by omega)

theorem strOf_size (l : List Int) : (strOfNums l).size = l.length := by simp [strOfNums, ByteArray.size]
theorem nxB_length (s : ByteArray) : (nxB s 256).length = s.size := by
  rw [nxB_argsort, Go.Proofs.Ythhcgepofldgaaa.PSortN.argsort, List.length_mergeSort, Go.Proofs.Ythhcgepofldgaaa.PSortN.rng_length]
theorem restore_loop (s : ByteArray) (h : s.size ≤ 120) (i : Int) : ∀ (d m : Nat) (out : List Int) (cur : Int), m + d = s.size → (0 < s.size → ∃ c : Nat, cur = (c : Int) ∧ c < s.size) → out.length = m →
    ∃ r, Ev (fun k => spec_Restore.l0 k s i (nxB s 256) out cur (s.size : Int) (m : Int)) r ∧ Ev (fun k => impl_Restore.l0 k s i (nxB s 256) out cur (s.size : Int) (m : Int)) r
  | 0, m, out, cur, hm, hc, ho => by
    obtain ⟨e1, e2⟩ := transform_both (strOfNums out) (by rw [strOf_size]; omega)
    have n1 : ¬ ((m : Int) < (s.size : Int)) := by omega
    generalize hg : (strOfNums (List.map (prevB (strOfNums out)) (insA (strOfNums out) (strOfNums out).size)), atOf (insA (strOfNums out) (strOfNums out).size) 0 0) = g at e1 e2
    refine ⟨if g.1.toList = s.toList then (if g.2 = i then (strOfNums out, true) else ((⟨#[]⟩ : ByteArray), false)) else ((⟨#[]⟩ : ByteArray), false), ?_, ?_⟩
    · apply K.Ev.succ
      simp only [spec_Restore.l0, if_neg n1]
      refine Ev.bind e1 ?_
      by_cases c1 : g.1.toList = s.toList
      · by_cases c2 : g.2 = i
        · simp only [if_pos c1, if_pos c2]; exact Ev.now _
        · simp only [if_pos c1, if_neg c2]; exact Ev.now _
      · simp only [if_neg c1]; exact Ev.now _
    · apply K.Ev.succ
      simp only [impl_Restore.l0, if_neg n1]
      refine Ev.bind e2 ?_
      by_cases c1 : g.1.toList = s.toList
      · by_cases c2 : g.2 = i
        · simp only [if_pos c1, if_pos c2]; exact Ev.now _
        · simp only [if_pos c1, if_neg c2]; exact Ev.now _
      · simp only [if_neg c1]; exact Ev.now _
  | d + 1, m, out, cur, hm, hc, ho => by
    obtain ⟨c, rfl, hcs⟩ := hc (by omega)
    have hl := nxB_length s
    have hrd : rd (nxB s 256) (c : Int) = (nxB s 256)[c]'(by omega) := K.rd_nat (by omega)
    obtain ⟨j, hj, hjs, _⟩ := nxB_mem (List.getElem_mem (show c < (nxB s 256).length by omega))
    rw [hj] at hrd
    obtain ⟨r, r1, r2⟩ := restore_loop s h i d (m + 1) (out ++ [bt s (j : Int)]) (j : Int) (by omega) (fun _ => ⟨j, rfl, hjs⟩) (by simp [ho])
    refine ⟨r, ?_, ?_⟩
    · apply K.Ev.succ
      simp only [spec_Restore.l0, if_pos (show (m : Int) < (s.size : Int) by omega), if_pos (show (0 : Int) ≤ (c : Int) by omega), if_pos (show (c : Int) < ((nxB s 256).length : Int) by omega), hrd, if_pos (show (0 : Int) ≤ (j : Int) by omega), if_pos (show (j : Int) < (s.size : Int) by omega), if_pos (show out.length < 140737488355328 by omega), K.w64s m (show m < 9223372036854775807 by omega)]
      exact r1
    · apply K.Ev.succ
      simp only [impl_Restore.l0, if_pos (show (m : Int) < (s.size : Int) by omega), if_pos (show (0 : Int) ≤ (c : Int) by omega), if_pos (show (c : Int) < ((nxB s 256).length : Int) by omega), hrd, if_pos (show (0 : Int) ≤ (j : Int) by omega), if_pos (show (j : Int) < (s.size : Int) by omega), if_pos (show out.length < 140737488355328 by omega), K.w64s m (show m < 9223372036854775807 by omega)]
      exact r2
theorem restore_go (s : ByteArray) (h : s.size ≤ 120) (i : Int) (h0 : 0 ≤ i) (h1 : i < (s.size : Int) ∨ s.size = 0) : ∃ r, Ev (fun k => spec_Restore.j0 k s i false) r ∧ Ev (fun k => impl_Restore.j0 k s i false) r := by
  obtain ⟨r, r1, r2⟩ := restore_loop s h i s.size 0 [] i (by omega) (fun hp => ⟨i.toNat, by omega, by omega⟩) rfl
  refine ⟨r, ?_, ?_⟩
  · apply K.Ev.succ
    simp only [spec_Restore.j0, Bool.false_eq_true, if_false]
    refine Ev.bind (l11Next_ev s h) ?_
    rw [nxB_length]
    exact r1
  · apply K.Ev.succ
    simp only [impl_Restore.j0, Bool.false_eq_true, if_false, impl_nextOf.f, if_pos h, Option.bind_some]
    have e : Go.Proofs.Ythhcgepofldgaaa.PSortN.argsort (cfB s) s.size = nxB s 256 := (nxB_argsort s).symm
    first
      | (rw [← nxB_argsort]; exact r2)
      | (erw [← nxB_argsort]; exact r2)
      | (have e2 := nxB_argsort s; rw [e2] at r2; exact r2)
theorem restore_no (s : ByteArray) (i : Int) : Ev (fun k => spec_Restore.j0 k s i true) ((⟨#[]⟩ : ByteArray), false) ∧ Ev (fun k => impl_Restore.j0 k s i true) ((⟨#[]⟩ : ByteArray), false) := by
  constructor
  · apply K.Ev.succ
    simp only [spec_Restore.j0, if_true]; exact Ev.now _
  · apply K.Ev.succ
    simp only [impl_Restore.j0, if_true]; exact Ev.now _
theorem Restore_same (s : ByteArray) (i : Int) : ∃ r : ByteArray × Bool, Ev (fun k => spec_Restore.f k s i) r ∧ Ev (fun k => impl_Restore.f k s i) r := by
  by_cases h : s.size ≤ 120
  · have hw : wrap64 ((s.size : Int) - 1) = (s.size : Int) - 1 := K.w64 (by omega) (by omega)
    have hmx : mx 0 ((s.size : Int) - 1) = if s.size = 0 then 0 else (s.size : Int) - 1 := by unfold mx; split <;> split <;> omega
    simp only [spec_Restore.f, impl_Restore.f, if_neg (show ¬ (s.size : Int) > 120 by omega), impl_isTurnable.f, decide_eq_true (show (s.size : Int) ≤ 120 by omega), Option.bind_some, if_true, hw, hmx, spec_l1In.f, impl_within.f]
    by_cases c0 : i ≥ 0
    · simp only [if_pos c0, Option.bind_some]
      by_cases c1 : i < (s.size : Int)
      · obtain ⟨r, r1, r2⟩ := restore_go s h i c0 (.inl c1)
        refine ⟨r, ?_, ?_⟩
        · simp only [decide_eq_true (show i ≤ (s.size : Int) - 1 by omega), if_true]
          exact r1
        · simp only [if_neg (show ¬ s.size = 0 by omega), decide_eq_true (show i ≤ (s.size : Int) - 1 by omega), Bool.not_true]
          exact r2
      · by_cases c2 : s.size = 0
        · by_cases c3 : i = 0
          · obtain ⟨r, r1, r2⟩ := restore_go s h i c0 (.inr c2)
            refine ⟨r, ?_, ?_⟩
            · have e : (s.toList != ([] : List UInt8)) = false := by
                have : s.toList = [] := by
                  rw [Lib.toList_data]
                  exact List.eq_nil_of_length_eq_zero (by rw [Array.length_toList]; exact c2)
                rw [this]; rfl
              simp only [decide_eq_false (show ¬ i ≤ (s.size : Int) - 1 by omega), Bool.false_eq_true, if_false, if_pos c3, e]
              exact r1
            · simp only [if_pos c2, decide_eq_true (show i ≤ 0 by omega), Bool.not_true]
              exact r2
          · obtain ⟨r1, r2⟩ := restore_no s i
            refine ⟨((⟨#[]⟩ : ByteArray), false), ?_, ?_⟩
            · simp only [decide_eq_false (show ¬ i ≤ (s.size : Int) - 1 by omega), Bool.false_eq_true, if_false, if_neg c3]
              exact r1
            · simp only [if_pos c2, decide_eq_false (show ¬ i ≤ 0 by omega), Bool.not_false]
              exact r2
        · obtain ⟨r1, r2⟩ := restore_no s i
          refine ⟨((⟨#[]⟩ : ByteArray), false), ?_, ?_⟩
          · simp only [decide_eq_false (show ¬ i ≤ (s.size : Int) - 1 by omega), Bool.false_eq_true, if_false, if_neg (show ¬ i = 0 by omega)]
            exact r1
          · simp only [if_neg c2, decide_eq_false (show ¬ i ≤ (s.size : Int) - 1 by omega), Bool.not_false]
            exact r2
    · obtain ⟨r1, r2⟩ := restore_no s i
      refine ⟨((⟨#[]⟩ : ByteArray), false), ?_, ?_⟩
      · simp only [if_neg c0, Option.bind_some, Bool.false_eq_true, if_false, if_neg (show ¬ i = 0 by omega)]
        exact r1
      · simp only [if_neg c0, Option.bind_some, Bool.not_false]
        exact r2
  · obtain ⟨r1, r2⟩ := restore_no s i
    refine ⟨((⟨#[]⟩ : ByteArray), false), ?_, ?_⟩
    · simp only [spec_Restore.f, if_pos (show (s.size : Int) > 120 by omega)]
      exact r1
    · simp only [impl_Restore.f, impl_isTurnable.f, decide_eq_false (show ¬ (s.size : Int) ≤ 120 by omega), Option.bind_some, Bool.false_eq_true, if_false]
      exact r2

theorem next_ok (c : List Int) (hc : K.Code c) (a : Int) (h0 : 0 ≤ a) (h1 : a ≤ 1152921504606846976) (sd : Int) : ∃ v sd', spec_l1Cur_next.f c a sd = some (v, a + 1, sd') ∧ 0 ≤ v ∧ v ≤ 255 := by
  have hl := hc.len
  have w : K.Eqn (wrap64 (a + 1)) (a + 1) := ⟨K.w64 (by omega) (by omega)⟩
  by_cases h : a < (c.length : Int)
  · have hr := hc.rd_rng a
    have wr : K.Eqn (wrap64 (rd c a)) (rd c a) := ⟨K.w64 (by omega) (by omega)⟩
    have h2 : a + 1 ≤ (c.length : Int) := by omega
    simp only [spec_l1Cur_next.f, if_pos h, if_pos h0, w.out, if_pos h2, wr.out]
    exact ⟨_, _, rfl, hr.1, hr.2⟩
  · have h2 : ¬ (a + 1 ≤ (c.length : Int)) := by omega
    have hb : ∀ y : Int, wrap64 (Go.bits .and .u64 y 255) = Go.bits .and .u64 y 255 ∧ 0 ≤ Go.bits .and .u64 y 255 ∧ Go.bits .and .u64 y 255 ≤ 255 := fun y => by
      have := K.u64_and255 y
      exact ⟨K.w64 (by omega) (by omega), this⟩
    simp only [spec_l1Cur_next.f, if_neg h, w.out, if_neg h2, (hb _).1]
    exact ⟨_, _, rfl, (hb _).2.1, (hb _).2.2⟩

theorem pick_ok (c : List Int) (hc : K.Code c) (a : Int) (h0 : 0 ≤ a) (h1 : a ≤ 1000000000000000000) (sd : Int) (n : Int) (hn : n ≤ 1000000) : ∃ v a' sd', spec_l1Cur_pick.f c a sd n = some (v, a', sd') ∧ 0 ≤ v ∧ (v < n ∨ v = 0) ∧ a ≤ a' ∧ a' ≤ a + 2 := by
  by_cases h : n ≤ 1
  · exact ⟨0, a, sd, by simp only [spec_l1Cur_pick.f, if_pos h], by omega, .inr rfl, by omega, by omega⟩
  obtain ⟨v, sd1, e1, v0, v1⟩ := next_ok c hc a h0 (by omega) sd
  have hnz : ¬ n = 0 := by omega
  have tm : ∀ x : Int, 0 ≤ x → 0 ≤ Int.tmod x n ∧ Int.tmod x n < n := fun x hx => by
    rw [Int.tmod_eq_emod_of_nonneg hx]
    exact ⟨Int.emod_nonneg _ (by omega), Int.emod_lt_of_pos _ (by omega)⟩
  by_cases h2 : n > 200
  · obtain ⟨u, sd2, e2, u0, u1⟩ := next_ok c hc (a + 1) (by omega) (by omega) sd1
    have w1 : K.Eqn (wrap64 (v * 256)) (v * 256) := ⟨K.w64 (by omega) (by omega)⟩
    have w2 : K.Eqn (wrap64 (v * 256 + u)) (v * 256 + u) := ⟨K.w64 (by omega) (by omega)⟩
    have t := tm (v * 256 + u) (by omega)
    refine ⟨_, a + 1 + 1, sd2, by simp only [spec_l1Cur_pick.f, if_neg h, e1, Option.bind_some, if_pos h2, e2, if_neg hnz, w1.out, w2.out], t.1, .inl t.2, by omega, by omega⟩
  · have t := tm v v0
    exact ⟨_, a + 1, sd1, by simp only [spec_l1Cur_pick.f, if_neg h, e1, Option.bind_some, if_neg h2, if_neg hnz], t.1, .inl t.2, by omega, by omega⟩

theorem one_ok (c : List Int) (hc : K.Code c) (a : Int) (h0 : 0 ≤ a) (h1 : a ≤ 1000000000000000000) (sd : Int) (n : Int) (hn : n ≤ 1000000) : ∃ (b : Bool) (a' sd' : Int), spec_l1Cur_one.f c a sd n = some (b, a', sd') ∧ a ≤ a' ∧ a' ≤ a + 2 := by
  obtain ⟨v, a', sd', e, _, _, g1, g2⟩ := pick_ok c hc a h0 h1 sd n hn
  exact ⟨v == 0, a', sd', by simp only [spec_l1Cur_one.f, e, Option.bind_some], g1, g2⟩

theorem of_ok (c : List Int) (hc : K.Code c) (a : Int) (h0 : 0 ≤ a) (h1 : a ≤ 1000000000000000000) (sd : Int) (l : List ByteArray) (hl : 0 < l.length) (hl2 : l.length ≤ 1000000) : ∃ (s : ByteArray) (a' sd' : Int), spec_l1Cur_of.f c a sd l = some (s, a', sd') ∧ s ∈ l ∧ a ≤ a' ∧ a' ≤ a + 2 := by
  obtain ⟨v, a', sd', e, v0, v1, g1, g2⟩ := pick_ok c hc a h0 h1 sd (l.length : Int) (by omega)
  have hv : v.toNat < l.length := by omega
  refine ⟨rdOf ByteArray.empty l v, a', sd', by simp only [spec_l1Cur_of.f, e, Option.bind_some, if_pos v0, if_pos (show v < (l.length : Int) by omega)], ?_, g1, g2⟩
  simp only [rdOf, List.getD_eq_getElem?_getD, List.getElem?_eq_getElem hv, Option.getD_some]
  exact List.getElem_mem hv

theorem prose_ok (c : List Int) (hc : K.Code c) (a : Int) (h0 : 0 ≤ a) (h1 : a ≤ 700000000000000000) (sd : Int) : ∃ (s : ByteArray) (a' sd' : Int), Ev (fun k => spec_l1Cur_prose.f k c a sd) (s, a', sd') ∧ s.size ≤ 240 ∧ a ≤ a' ∧ a' ≤ a + 200 := by
  have key : ∀ (d : Nat) (s : ByteArray) (a sd : Int), d ≤ 60 → s.size + 4 * d ≤ 240 → 0 ≤ a → a + 2 * d ≤ 750000000000000000 → ∃ (r : ByteArray) (a' sd' : Int), Ev (fun k => spec_l1Cur_prose.l0 k s (d : Int) c a sd) (r, a', sd') ∧ r.size ≤ 240 ∧ a ≤ a' ∧ a' ≤ a + 2 * d + 2 := by
    intro d
    induction d with
    | zero =>
      intro s a sd _ g1 g2 g3
      by_cases h : (s.size : Int) > 120
      · obtain ⟨b, a1, sd1, e1, b1, b2⟩ := one_ok c hc a g2 (by omega) sd 4 (by omega)
        cases b with
        | true =>
          refine ⟨s, a1, sd1, ?_, by omega, by omega, by omega⟩
          apply K.Ev.succ
          simp only [spec_l1Cur_prose.l0, if_neg (show ¬ (((0 : Nat) : Int) > 0) by omega), if_pos h, e1, Option.bind_some, if_true]
          exact Ev.now _
        | false =>
          refine ⟨s.extract 0 120, a1, sd1, ?_, by rw [ByteArray.size_extract]; omega, by omega, by omega⟩
          apply K.Ev.succ
          simp only [spec_l1Cur_prose.l0, if_neg (show ¬ (((0 : Nat) : Int) > 0) by omega), if_pos h, e1, Option.bind_some, Bool.false_eq_true, if_false, if_pos (show (0 : Int) ≤ 120 by omega), if_pos (show (120 : Int) ≤ (s.size : Int) by omega)]
          exact Ev.now _
      · refine ⟨s, a, sd, ?_, by omega, by omega, by omega⟩
        apply K.Ev.succ
        simp only [spec_l1Cur_prose.l0, if_neg (show ¬ (((0 : Nat) : Int) > 0) by omega), if_neg h]
        exact Ev.now _
    | succ d ih =>
      intro s a sd g0 g1 g2 g3
      obtain ⟨t, a1, sd1, e1, ht, b1, b2⟩ := of_ok c hc a g2 (by omega) sd ([(⟨#[97]⟩ : ByteArray), (⟨#[98]⟩ : ByteArray), (⟨#[110, 97]⟩ : ByteArray), (⟨#[97, 98]⟩ : ByteArray), (⟨#[116, 104, 101, 32]⟩ : ByteArray), (⟨#[97, 97, 97]⟩ : ByteArray), (⟨#[0]⟩ : ByteArray)] : List ByteArray) (by simp) (by simp)
      have hts : t.size ≤ 4 := by
        simp only [List.mem_cons, List.not_mem_nil, or_false] at ht
        rcases ht with rfl | rfl | rfl | rfl | rfl | rfl | rfl <;> decide
      have w : K.Eqn (wrap64 (((d + 1 : Nat) : Int) - 1)) (d : Int) := ⟨K.w64p d (by omega)⟩
      obtain ⟨r, a', sd', e2, r1, b3, b4⟩ := ih (s ++ t) a1 sd1 (by omega) (by rw [ByteArray.size_append]; omega) (by omega) (by omega)
      refine ⟨r, a', sd', ?_, r1, by omega, by omega⟩
      apply K.Ev.succ
      simp only [spec_l1Cur_prose.l0, if_pos (show ((d + 1 : Nat) : Int) > 0 by omega), e1, Option.bind_some, if_pos (show s.size + t.size ≤ 9223372036854775807 by omega), w.out]
      exact e2
  obtain ⟨v, a1, sd1, e1, v0, v1, b1, b2⟩ := pick_ok c hc a h0 (by omega) sd 12 (by omega)
  obtain ⟨b, a2, sd2, e2, b3, b4⟩ := one_ok c hc a1 (by omega) (by omega) sd1 20 (by omega)
  cases b with
  | true =>
    obtain ⟨r, a', sd', e3, r1, b5, b6⟩ := key 60 (⟨#[]⟩ : ByteArray) a2 sd2 (by omega) (by decide) (by omega) (by omega)
    refine ⟨r, a', sd', ?_, r1, by omega, by omega⟩
    simp only [spec_l1Cur_prose.f, e1, Option.bind_some, e2, if_true]
    apply K.Ev.succ
    simp only [spec_l1Cur_prose.j0]
    exact e3
  | false =>
    obtain ⟨m, rfl⟩ := Int.eq_ofNat_of_zero_le v0
    obtain ⟨r, a', sd', e3, r1, b5, b6⟩ := key m (⟨#[]⟩ : ByteArray) a2 sd2 (by omega) (by show 0 + 4 * m ≤ 240; omega) (by omega) (by omega)
    refine ⟨r, a', sd', ?_, r1, by omega, by omega⟩
    simp only [spec_l1Cur_prose.f, e1, Option.bind_some, e2, Bool.false_eq_true, if_false]
    apply K.Ev.succ
    simp only [spec_l1Cur_prose.j0]
    exact e3

/-- The turnings of a text, in order. -/
def rowsT (s : ByteArray) : List (List UInt8) := (insA s s.size).map fun x => (Go.Proofs.Ythhcgepofldgaaa.PSortO.turnB s x).data.toList
/-- A row's last byte, as a number. -/
def lastI (x : List UInt8) : Int := match x.getLast? with
  | none => 0
  | some b => (b.toNat : Int)
theorem dsize (s : ByteArray) : s.data.toList.length = s.size := by rw [Array.length_toList]; rfl
theorem rowsT_len (s : ByteArray) : (rowsT s).length = s.size := by rw [rowsT, List.length_map, insA_len]
theorem rowsT_sorted (s : ByteArray) : (rowsT s).Pairwise K.Le := by
  rw [rowsT, List.pairwise_map]
  refine (insA_lt s _).imp ?_
  intro a b h
  unfold K.Le
  rcases h with h | ⟨h, _⟩
  · unfold Go.Proofs.Ythhcgepofldgaaa.PSortO.cfT at h; omega
  · unfold Go.Proofs.Ythhcgepofldgaaa.PSortO.cfT at h; omega
theorem insA_perm (s : ByteArray) : List.Perm (insA s s.size) ((List.range s.size).map Int.ofNat) := by
  rw [insA_argsort]
  exact List.mergeSort_perm _ _
theorem rowsT_perm (s : ByteArray) : List.Perm (rowsT s) ((List.range s.data.toList.length).map fun j => K.rotN s.data.toList j) := by
  have h := (insA_perm s).map fun x => (Go.Proofs.Ythhcgepofldgaaa.PSortO.turnB s x).data.toList
  rw [List.map_map] at h
  rw [dsize]
  have e : ((List.range s.size).map ((fun x => (Go.Proofs.Ythhcgepofldgaaa.PSortO.turnB s x).data.toList) ∘ Int.ofNat)) = (List.range s.size).map fun j => K.rotN s.data.toList j :=
    List.map_congr_left fun j hj => K.turnB_list s j (Nat.le_of_lt (List.mem_range.mp hj))
  rw [e] at h
  exact h
theorem rowsT_mem (s : ByteArray) : ∀ x ∈ rowsT s, x.length = s.size := by
  intro x hx
  have := (rowsT_perm s).mem_iff.mp hx
  obtain ⟨j, _, rfl⟩ := List.mem_map.mp this
  rw [K.rotN_length, dsize]
theorem turn_size (s : ByteArray) (j : Nat) (hj : j ≤ s.size) : (Go.Proofs.Ythhcgepofldgaaa.PSortO.turnB s (j : Int)).size = s.size := by
  rw [← dsize, K.turnB_list s j hj, K.rotN_length, dsize]
theorem bt_getElem? (s : ByteArray) (i : Nat) (hi : i < s.size) : bt s (i : Int) = ((s.data.toList[i]'(by rw [dsize]; exact hi)).toNat : Int) := by
  rw [K.bt_nat hi]; rfl
theorem prevB_last (s : ByteArray) (h : s.size ≤ 120) (j : Nat) (hj : j < s.size) : prevB s (j : Int) = lastI (Go.Proofs.Ythhcgepofldgaaa.PSortO.turnB s (j : Int)).data.toList := by
  have e1 : wrap64 ((j : Int) + (s.size : Int)) = (j : Int) + (s.size : Int) := K.w64 (by omega) (by omega)
  have e2 : wrap64 ((j : Int) + (s.size : Int) - 1) = (j : Int) + (s.size : Int) - 1 := K.w64 (by omega) (by omega)
  rw [prevB, e1, e2, K.turnB_list s j (by omega), lastI, K.rotN_last _ _ (by rw [dsize]; exact hj), dsize]
  have e3 : Int.tmod ((j : Int) + (s.size : Int) - 1) (s.size : Int) = ((if j = 0 then s.size - 1 else j - 1 : Nat) : Int) := by
    rw [Int.tmod_eq_emod_of_nonneg (by omega)]
    split
    · rename_i c
      subst c
      rw [Int.emod_eq_of_lt (by omega) (by omega)]; omega
    · have e4 : (j : Int) + (s.size : Int) - 1 = (((j - 1 : Nat) : Int)) + (s.size : Int) := by omega
      rw [e4, Int.add_emod_right, Int.emod_eq_of_lt (by omega) (by omega)]
  rw [e3]
  have hi : (if j = 0 then s.size - 1 else j - 1) < s.size := by split <;> omega
  generalize (if j = 0 then s.size - 1 else j - 1) = i at hi
  rw [bt_getElem? s i hi, List.getElem?_eq_getElem (by rw [dsize]; exact hi)]
theorem prev_rows (s : ByteArray) (h : s.size ≤ 120) : (insA s s.size).map (prevB s) = (rowsT s).map lastI := by
  rw [rowsT, List.map_map]
  refine List.map_congr_left fun x hx => ?_
  obtain ⟨j, rfl, hj⟩ := (insA_mem s x _).mp hx
  exact prevB_last s h j hj
theorem lastI_rng (x : List UInt8) : 0 ≤ lastI x ∧ lastI x ≤ 255 := by
  unfold lastI
  split
  · omega
  · rename_i b _
    have := b.toNat_lt
    omega
/-- The transform of a text. -/
def trT (s : ByteArray) : ByteArray := strOfNums ((insA s s.size).map (prevB s))
theorem trT_size (s : ByteArray) : (trT s).size = s.size := by rw [trT, strOf_size, List.length_map, insA_len]
theorem trT_bt (s : ByteArray) (h : s.size ≤ 120) (k : Nat) (hk : k < s.size) : bt (trT s) (k : Int) = lastI ((rowsT s)[k]'(by rw [rowsT_len]; exact hk)) := by
  have e : bytesOf (trT s) = (rowsT s).map lastI := by
    rw [trT, prev_rows s h, K.bytesOf_strOf]
    intro x hx
    obtain ⟨y, _, rfl⟩ := List.mem_map.mp hx
    exact lastI_rng y
  rw [K.bt_bytes, e, List.getD_eq_getElem?_getD, List.getElem?_map, List.getElem?_eq_getElem (by rw [rowsT_len]; exact hk)]
  rfl
/-- The bytes of the transform. -/
def tbT (s : ByteArray) (k : Nat) : UInt8 := UInt8.ofNat (bt (trT s) (k : Int)).toNat
theorem tbT_bt (s : ByteArray) (k : Nat) : ((tbT s k).toNat : Int) = bt (trT s) (k : Int) := by
  have := bt_range (trT s) (k : Int)
  rw [tbT, UInt8.toNat_ofNat_of_lt' (by show (bt (trT s) (k : Int)).toNat < 256; omega)]
  omega
theorem tbT_last (s : ByteArray) (h : s.size ≤ 120) (k : Nat) (hk : k < (rowsT s).length) : ((rowsT s)[k]'hk).getLast? = some (tbT s k) := by
  have hk2 : k < s.size := by rw [rowsT_len] at hk; exact hk
  have e := trT_bt s h k hk2
  rw [← tbT_bt, lastI] at e
  have hne : ((rowsT s)[k]'hk).getLast? ≠ none := by
    intro e2
    rw [List.getLast?_eq_none_iff] at e2
    have := rowsT_mem s _ (List.getElem_mem hk)
    rw [e2] at this
    simp at this; omega
  cases e3 : ((rowsT s)[k]'hk).getLast? with
  | none => exact absurd e3 hne
  | some b =>
    rw [e3] at e
    simp only at e
    congr 1
    exact (UInt8.toNat_inj.mp (by omega)).symm
/-- The places of the transform's bytes, in order. -/
structure Pl (s : ByteArray) (N : List Int) (P : List Nat) : Prop where
  len : N.length = s.size
  plen : P.length = s.size
  sorted : P.Pairwise fun a b => tbT s a < tbT s b ∨ (tbT s a = tbT s b ∧ a < b)
  perm : List.Perm P (List.range s.size)
  rd : ∀ (k : Nat) (hk : k < P.length), rd N (k : Int) = ((P[k]'hk : Nat) : Int)
theorem rd_toNat (N : List Int) (h : ∀ x ∈ N, ∃ j : Nat, x = (j : Int)) (k : Nat) (hk : k < (N.map Int.toNat).length) : rd N (k : Int) = (((N.map Int.toNat)[k]'hk : Nat) : Int) := by
  have hk2 : k < N.length := by rw [List.length_map] at hk; exact hk
  rw [K.rd_nat hk2, List.getElem_map]
  obtain ⟨j, hj⟩ := h _ (List.getElem_mem hk2)
  rw [hj]; rfl
theorem pl_of (s : ByteArray) (N : List Int) (h1 : N.Pairwise (K.Lt (cfB (trT s)))) (h2 : ∀ x ∈ N, ∃ j : Nat, x = (j : Int)) (h3 : List.Perm N ((List.range s.size).map Int.ofNat)) : Pl s N (N.map Int.toNat) := by
  have hl : N.length = s.size := by rw [h3.length_eq]; simp
  refine ⟨hl, by rw [List.length_map]; exact hl, ?_, ?_, rd_toNat N h2⟩
  · rw [List.pairwise_map]
    refine h1.imp_of_mem ?_
    intro a b ha hb h
    obtain ⟨i, rfl⟩ := h2 a ha
    obtain ⟨j, rfl⟩ := h2 b hb
    have e1 := tbT_bt s i
    have e2 := tbT_bt s j
    simp only [Int.toNat_natCast]
    rcases h with h | ⟨h, h2⟩
    · refine .inl (UInt8.lt_iff_toNat_lt.mpr ?_)
      unfold cfB at h; omega
    · refine .inr ⟨UInt8.toNat_inj.mp ?_, by omega⟩
      unfold cfB at h; omega
  · have h4 := h3.map Int.toNat
    rw [List.map_map] at h4
    have e : (List.range s.size).map (Int.toNat ∘ Int.ofNat) = List.range s.size := by
      refine (List.map_congr_left (g := id) (fun x _ => rfl)).trans (List.map_id _)
    rw [e] at h4
    exact h4
theorem pl_nx (s : ByteArray) : ∃ P, Pl s (nxB (trT s) 256) P := by
  refine ⟨_, pl_of s _ (nxB_lt (trT s) 256) (fun x hx => ?_) ?_⟩
  · obtain ⟨j, hj, _, _⟩ := nxB_mem hx
    exact ⟨j, hj⟩
  · rw [nxB_argsort, trT_size]
    exact List.mergeSort_perm _ _
/-- The way back hands out the text. -/
theorem back_loop (s : ByteArray) (h : s.size ≤ 120) (N : List Int) (P : List Nat) (hP : Pl s N P) (i : Int) (hi : i = atOf (insA s s.size) 0 0) : ∀ (d m cur : Nat), m + d = s.size → (0 < s.size → ∃ hc : cur < (rowsT s).length, (rowsT s)[cur]'hc = K.rotN s.data.toList (if m = s.size then 0 else m)) →
    Ev (fun k => impl_Restore.l0 k (trT s) i N ((bytesOf s).take m) (cur : Int) (s.size : Int) (m : Int)) (s, true)
  | 0, m, cur, hm, hc => by
    have e0 : strOfNums ((bytesOf s).take m) = s := by
      rw [List.take_of_length_le (by rw [bytesOf_length]; omega), K.strOf_bytesOf]
    obtain ⟨_, e2⟩ := transform_both s h
    apply K.Ev.succ
    simp only [impl_Restore.l0, if_neg (show ¬ ((m : Int) < (s.size : Int)) by omega), e0]
    refine Ev.bind e2 ?_
    have e3 : strOfNums ((insA s s.size).map (prevB s)) = trT s := rfl
    simp only [e3, if_true, hi]
    exact Ev.now _
  | d + 1, m, cur, hm, hc => by
    obtain ⟨hcr, hrow⟩ := hc (by omega)
    rw [if_neg (by omega)] at hrow
    have hcp : cur < P.length := by rw [hP.plen, ← rowsT_len]; exact hcr
    have hb : ∀ a ∈ P, a < (rowsT s).length := fun a ha => by
      rw [rowsT_len]; exact List.mem_range.mp (hP.perm.mem_iff.mp ha)
    have hperm := K.back_perm s.data.toList (rowsT s) (rowsT_perm s) P (by rw [rowsT_len]; exact hP.perm)
    obtain ⟨h1, h2⟩ := K.hands s.data.toList (rowsT s) s.size (rowsT_mem s) (rowsT_sorted s) (tbT s) (tbT_last s h) P hP.sorted hb hperm m (by rw [dsize]; omega) cur hcp hcr hrow
    have hpb := hb _ (List.getElem_mem hcp)
    have hrd := hP.rd cur hcp
    generalize P[cur]'hcp = q at h1 h2 hpb hrd
    have hps : q < s.size := by rw [rowsT_len] at hpb; exact hpb
    have hbt : bt (trT s) (q : Int) = (bytesOf s)[m]'(by rw [bytesOf_length]; omega) := by
      rw [← tbT_bt, h1]
      simp [bytesOf]
    have hnl := hP.len
    have hpl := hP.plen
    have hts := trT_size s
    have ih := back_loop s h N P hP i hi d (m + 1) q (by omega) (fun _ => ⟨hpb, by
      rw [List.getD_eq_getElem?_getD, List.getElem?_eq_getElem hpb, Option.getD_some, dsize] at h2
      exact h2⟩)
    have hl : ((bytesOf s).take m).length < 140737488355328 := by rw [List.length_take, bytesOf_length]; omega
    apply K.Ev.succ
    simp only [impl_Restore.l0, if_pos (show (m : Int) < (s.size : Int) by omega), if_pos (show (0 : Int) ≤ (cur : Int) by omega), if_pos (show (cur : Int) < (N.length : Int) by omega), hrd, if_pos (show (0 : Int) ≤ (q : Int) by omega), if_pos (show (q : Int) < ((trT s).size : Int) by omega), if_pos hl, K.w64s m (show m < 9223372036854775807 by omega), hbt]
    rw [← K.take_succ' (bytesOf s) m (by rw [bytesOf_length]; omega)]
    exact ih
theorem atOf_row (s : ByteArray) (hp : 0 < s.size) : ∃ c : Nat, atOf (insA s s.size) 0 0 = (c : Int) ∧ ∃ hc : c < (insA s s.size).length, (insA s s.size)[c]'hc = 0 := by
  have key : ∀ (l : List Int) (i : Nat) (a : Int), l.Nodup → (0 : Int) ∈ l → ∃ c : Nat, atOf l i a = ((i + c : Nat) : Int) ∧ ∃ hc : c < l.length, l[c]'hc = 0 := by
    intro l
    induction l with
    | nil => intro i a _ h; simp at h
    | cons x xs ih =>
      intro i a hn hm
      obtain ⟨h1, h2⟩ := List.nodup_cons.mp hn
      by_cases c : x = 0
      · subst c
        refine ⟨0, ?_, by simp, rfl⟩
        rw [atOf, if_pos rfl, atOf_no _ _ _ h1]; rfl
      · obtain ⟨c2, g1, g2, g3⟩ := ih (i + 1) a h2 (by
          rcases List.mem_cons.mp hm with e | e
          · exact absurd e.symm c
          · exact e)
        refine ⟨c2 + 1, ?_, by simpa using g2, by simpa using g3⟩
        rw [atOf, if_neg c, g1]
        omega
  obtain ⟨c, h1, h2⟩ := key (insA s s.size) 0 0 (insA_nodup s _) ((insA_mem s 0 _).mpr ⟨0, rfl, hp⟩)
  exact ⟨c, by rw [h1]; simp, h2⟩
theorem back_at (s : ByteArray) (hp : 0 < s.size) (c : Nat) (hc : c < (insA s s.size).length) (h0 : (insA s s.size)[c]'hc = 0) : ∃ hc2 : c < (rowsT s).length, (rowsT s)[c]'hc2 = K.rotN s.data.toList 0 := by
  have hc2 : c < (rowsT s).length := by rw [rowsT, List.length_map]; exact hc
  refine ⟨hc2, ?_⟩
  simp only [rowsT, List.getElem_map, h0]
  exact K.turnB_list s 0 (by omega)
/-- What is restored from a text's transform is the text. -/
theorem Restore_back (s : ByteArray) (h : s.size ≤ 120) : Ev (fun k => impl_Restore.f k (trT s) (atOf (insA s s.size) 0 0)) (s, true) := by
  have hts := trT_size s
  have hw : wrap64 (((trT s).size : Int) - 1) = (s.size : Int) - 1 := by rw [hts]; exact K.w64 (by omega) (by omega)
  have hmx : mx 0 ((s.size : Int) - 1) = if s.size = 0 then 0 else (s.size : Int) - 1 := by unfold mx; split <;> split <;> omega
  have go : ∀ cur : Nat, atOf (insA s s.size) 0 0 = (cur : Int) → (0 < s.size → ∃ hc : cur < (rowsT s).length, (rowsT s)[cur]'hc = K.rotN s.data.toList (if 0 = s.size then 0 else 0)) → Ev (fun k => impl_Restore.j0 k (trT s) (atOf (insA s s.size) 0 0) false) (s, true) := by
    intro cur e hc
    apply K.Ev.succ
    have e2 : Go.Proofs.Ythhcgepofldgaaa.PSortN.argsort (cfB (trT s)) (trT s).size = nxB (trT s) 256 := (nxB_argsort (trT s)).symm
    have hn : impl_nextOf.f (trT s) = some (nxB (trT s) 256) := by
      simp only [impl_nextOf.f, if_pos (show (trT s).size ≤ 120 by omega)]
      exact congrArg some e2
    simp only [impl_Restore.j0, Bool.false_eq_true, if_false, hn, Option.bind_some]
    obtain ⟨P, hP⟩ := pl_nx s
    have := back_loop s h _ P hP (atOf (insA s s.size) 0 0) rfl s.size 0 cur (by omega) (fun hp => by
      obtain ⟨hc1, hc2⟩ := hc hp
      exact ⟨hc1, by rw [hc2]⟩)
    rw [← e] at this
    rw [hts]
    exact this
  simp only [impl_Restore.f, impl_isTurnable.f, decide_eq_true (show ((trT s).size : Int) ≤ 120 by omega), Option.bind_some, if_true, hw, hmx, impl_within.f]
  by_cases hp : s.size = 0
  · have e : insA s s.size = [] := List.eq_nil_of_length_eq_zero (by rw [insA_len]; exact hp)
    have e2 : atOf (insA s s.size) 0 0 = ((0 : Nat) : Int) := by rw [e]; rfl
    have g := go 0 e2 (fun c => by omega)
    rw [e2] at g ⊢
    simp only [if_pos (show (((0 : Nat) : Int) ≥ 0) by omega), if_pos hp, decide_eq_true (show (((0 : Nat) : Int) ≤ 0) by omega), Option.bind_some, Bool.not_true]
    exact g
  · obtain ⟨c, e, hc, h0⟩ := atOf_row s (by omega)
    have g := go c e (fun hp => by
      obtain ⟨q1, q2⟩ := back_at s hp c hc h0
      exact ⟨q1, by rw [q2]; split <;> rfl⟩)
    rw [insA_len] at hc
    rw [e] at g ⊢
    simp only [if_pos (show ((c : Int) ≥ 0) by omega), if_neg hp, decide_eq_true (show ((c : Int) ≤ (s.size : Int) - 1) by omega), Option.bind_some, Bool.not_true]
    exact g
theorem Rotate_is (s : ByteArray) (h : s.size ≤ 120) (j : Nat) (hj : j < s.size) : impl_RotateText.f s (j : Int) = some (Go.Proofs.Ythhcgepofldgaaa.PSortO.turnB s (j : Int), true) := by
  have hw : wrap64 ((s.size : Int) - 1) = (s.size : Int) - 1 := K.w64 (by omega) (by omega)
  have hmx : mx 0 ((s.size : Int) - 1) = (s.size : Int) - 1 := by unfold mx; split <;> omega
  have e : (s.extract ((j : Int)).toNat s.size).size + (s.extract 0 ((j : Int)).toNat).size ≤ 9223372036854775807 := by
    simp only [ByteArray.size_extract]; omega
  simp only [impl_RotateText.f, impl_isTurnable.f, decide_eq_true (show (s.size : Int) ≤ 120 by omega), Option.bind_some, if_true, hw, hmx, impl_within.f, if_pos (show ((j : Int) ≥ 0) by omega), decide_eq_true (show ((j : Int) ≤ (s.size : Int) - 1) by omega), if_pos (show ((0 : Int) ≤ (j : Int)) by omega), if_pos (show ((j : Int) ≤ (s.size : Int)) by omega), if_pos e]
  rfl
theorem Transform_is (s : ByteArray) (h : s.size ≤ 120) : Ev (fun k => impl_Transform.f k s) (trT s, atOf (insA s s.size) 0 0, true) := by
  obtain ⟨_, e2⟩ := transform_both s h
  simp only [impl_Transform.f, impl_isTurnable.f, decide_eq_true (show (s.size : Int) ≤ 120 by omega), Option.bind_some, if_true]
  exact Ev.bind e2 (Ev.now _)
theorem sTransform_is (s : ByteArray) (h : s.size ≤ 120) : Ev (fun k => spec_Transform.f k s) (trT s, atOf (insA s s.size) 0 0, true) := by
  obtain ⟨e1, _⟩ := transform_both s h
  simp only [spec_Transform.f, if_neg (show ¬ (s.size : Int) > 120 by omega)]
  exact Ev.bind e1 (Ev.now _)
/-- A turning has the same rows. -/
theorem rows_turn (s : ByteArray) (h : s.size ≤ 120) (j : Nat) (hj : j < s.size) : trT (Go.Proofs.Ythhcgepofldgaaa.PSortO.turnB s (j : Int)) = trT s := by
  have hs := turn_size s j (by omega)
  have e : rowsT (Go.Proofs.Ythhcgepofldgaaa.PSortO.turnB s (j : Int)) = rowsT s := by
    refine K.unique_sorted (rowsT_sorted _) (rowsT_sorted _) ((rowsT_perm _).trans (List.Perm.trans ?_ (rowsT_perm s).symm))
    rw [K.turnB_list s j (by omega)]
    exact K.turns_rotN _ j (by rw [dsize]; omega)
  rw [trT, trT, prev_rows _ (by omega), prev_rows _ h, e]
theorem numberOf_ok (c : List Int) (hc : K.Code c) : ∃ v : Int, Ev (fun k => laws_numberOf.f k c) v ∧ 0 ≤ v := by
  have hlen := hc.len
  have key : ∀ (d n : Nat) (v : Int), n + d = c.length → 0 ≤ v → v ≤ 1000003 → ∃ r : Int, Ev (fun k => laws_numberOf.l0 k v c (c.length : Int) (n : Int)) r ∧ 0 ≤ r := by
    intro d
    induction d with
    | zero =>
      intro n v h1 h2 h3
      refine ⟨v, ?_, h2⟩
      apply K.Ev.succ
      simp only [laws_numberOf.l0, if_neg (show ¬ ((n : Int) < (c.length : Int)) by omega)]
      exact Ev.now _
    | succ d ih =>
      intro n v h1 h2 h3
      have hr := hc.rd_rng (n : Int)
      have w1 : K.Eqn (wrap64 (31 * v)) (31 * v) := ⟨K.w64 (by omega) (by omega)⟩
      have w2 : K.Eqn (wrap64 (rd c (n : Int))) (rd c (n : Int)) := ⟨K.w64 (by omega) (by omega)⟩
      have w3 : K.Eqn (wrap64 (31 * v + rd c (n : Int))) (31 * v + rd c (n : Int)) := ⟨K.w64 (by omega) (by omega)⟩
      have t1 : 0 ≤ Int.tmod (31 * v + rd c (n : Int)) 1000003 := Int.tmod_nonneg _ (by omega)
      have t2 : Int.tmod (31 * v + rd c (n : Int)) 1000003 < 1000003 := Int.tmod_lt_of_pos _ (by omega)
      obtain ⟨r, e, h⟩ := ih (n + 1) _ (by omega) t1 (by omega)
      refine ⟨r, ?_, h⟩
      apply K.Ev.succ
      simp only [laws_numberOf.l0, if_pos (show (n : Int) < (c.length : Int) by omega), if_pos (show (0 : Int) ≤ (n : Int) by omega), w1.out, w2.out, w3.out, K.w64s n (show n < 9223372036854775807 by omega)]
      exact e
  obtain ⟨v, e, h⟩ := key c.length 0 0 (by omega) (by omega) (by omega)
  exact ⟨v, by simp only [laws_numberOf.f]; exact e, h⟩
theorem drawRestore_ok (c : List Int) (hc : K.Code c) : ∃ r : ByteArray × Int, Ev (fun k => spec_DrawRestore.f k c) r := by
  obtain ⟨s, a1, sd1, e1, s1, b1, b2⟩ := prose_ok c hc 0 (by omega) (by omega) 0
  obtain ⟨r, e2, _⟩ := Transform_same s
  have hw : K.Eqn (wrap64 ((s.size : Int) + 2)) ((s.size : Int) + 2) := ⟨K.w64 (by omega) (by omega)⟩
  simp only [spec_DrawRestore.f]
  cases hr : r.2.2 with
  | true =>
    obtain ⟨b, a2, sd2, e3, b3, b4⟩ := one_ok c hc a1 (by omega) (by omega) sd1 4 (by omega)
    cases b with
    | true =>
      obtain ⟨v, a3, sd3, e4, v0, _, _, _⟩ := pick_ok c hc a2 (by omega) (by omega) sd2 ((s.size : Int) + 2) (by omega)
      refine ⟨(s, wrap64 (v - 1)), ?_⟩
      refine Ev.bind e1 ?_
      refine Ev.bind e2 ?_
      simp only [hr, if_true, e3, Option.bind_some, hw.out, e4]
      exact Ev.now _
    | false =>
      refine ⟨(r.1, r.2.1), ?_⟩
      refine Ev.bind e1 ?_
      refine Ev.bind e2 ?_
      simp only [hr, if_true, e3, Option.bind_some, Bool.false_eq_true, if_false]
      exact Ev.now _
  | false =>
    obtain ⟨v, a3, sd3, e4, v0, _, _, _⟩ := pick_ok c hc a1 (by omega) (by omega) sd1 ((s.size : Int) + 2) (by omega)
    refine ⟨(s, wrap64 (v - 1)), ?_⟩
    refine Ev.bind e1 ?_
    refine Ev.bind e2 ?_
    simp only [hr, Bool.false_eq_true, if_false, hw.out, e4, Option.bind_some]
    exact Ev.now _
/-- The last part of the law: the drawn text and place. -/
theorem turned_end (c : List Int) (hc : K.Code c) : Ev (fun k => (spec_DrawRestore.f k c).bind fun bt281 => ((impl_Restore.f k bt281.1 bt281.2).bind fun bt283 => ((spec_Restore.f k bt281.1 bt281.2).bind fun bt285 => (if (bt283.2 == bt285.2) = true then (some (bt283.1.toList == bt285.1.toList)) else (some false))))) true := by
  obtain ⟨r, e1⟩ := drawRestore_ok c hc
  obtain ⟨q, e2, e3⟩ := Restore_same r.1 r.2
  refine Ev.bind e1 ?_
  refine Ev.bind e3 ?_
  refine Ev.bind e2 ?_
  simp only [beq_self_eq_true, if_true]
  exact Ev.now _
theorem turned_loop (c : List Int) (hc : K.Code c) (s : ByteArray) (h : s.size ≤ 120) : ∀ (d m : Nat), m + d = s.size →
    Ev (fun k => laws_FnTurned.l0 k c s (trT s) (insA s s.size) (insA s s.size) ((insA s s.size).length : Int) (m : Int)) true
  | 0, m, hm => by
    have hl := insA_len s s.size
    apply K.Ev.succ
    simp only [laws_FnTurned.l0, if_neg (show ¬ ((m : Int) < ((insA s s.size).length : Int)) by omega)]
    by_cases hp : (s.size : Int) > 0
    · obtain ⟨v, e1, v0⟩ := numberOf_ok c hc
      simp only [if_pos hp, if_neg (show ¬ ((s.size : Int) = 0) by omega)]
      refine Ev.bind e1 ?_
      have t1 : 0 ≤ Int.tmod v (s.size : Int) := Int.tmod_nonneg _ v0
      have t2 : Int.tmod v (s.size : Int) < (s.size : Int) := Int.tmod_lt_of_pos _ hp
      generalize Int.tmod v (s.size : Int) = z at t1 t2
      obtain ⟨j, rfl⟩ := Int.eq_ofNat_of_zero_le t1
      have hj : j < s.size := by omega
      simp only [Rotate_is s h j hj, Option.bind_some, if_true]
      refine Ev.bind (Transform_is _ (by rw [turn_size s j (by omega)]; exact h)) ?_
      simp only [if_true, rows_turn s h j hj, bne_self_eq_false]
      apply K.Ev.succ
      simp only [laws_FnTurned.j4, Bool.false_eq_true, if_false]
      exact turned_end c hc
    · simp only [if_neg hp]
      exact turned_end c hc
  | d + 1, m, hm => by
    have hl := insA_len s s.size
    have hml : m < (insA s s.size).length := by omega
    obtain ⟨j, ej, hj⟩ := (insA_mem s _ _).mp (List.getElem_mem hml)
    have hrd : rd (insA s s.size) (m : Int) = (j : Int) := by rw [K.rd_nat hml, ej]
    have hts := trT_size s
    have hsz := turn_size s j (by omega)
    have w1 : K.Eqn (wrap64 ((s.size : Int) - 1)) (((s.size - 1 : Nat) : Int)) := ⟨by rw [K.w64 (by omega) (by omega)]; omega⟩
    have hlast : bt (Go.Proofs.Ythhcgepofldgaaa.PSortO.turnB s (j : Int)) ((s.size - 1 : Nat) : Int) = bt (trT s) (m : Int) := by
      rw [trT_bt s h m (by omega)]
      have e1 : (rowsT s)[m]'(by rw [rowsT_len]; omega) = (Go.Proofs.Ythhcgepofldgaaa.PSortO.turnB s (j : Int)).data.toList := by
        simp only [rowsT, List.getElem_map, ej]
      rw [e1, lastI, List.getLast?_eq_getElem?, dsize, hsz, bt_getElem? _ _ (by rw [hsz]; omega), List.getElem?_eq_getElem (by rw [dsize, hsz]; omega)]
    have ih := turned_loop c hc s h d (m + 1) (by omega)
    have j3 : Ev (fun k => laws_FnTurned.j3 k c s (trT s) (insA s s.size) (m : Int) (j : Int) (Go.Proofs.Ythhcgepofldgaaa.PSortO.turnB s (j : Int)) (insA s s.size) ((insA s s.size).length : Int) (m : Int) false) true := by
      apply K.Ev.succ
      by_cases hz : m = 0
      · simp only [laws_FnTurned.j3, Bool.false_eq_true, if_false, if_neg (show ¬ ((m : Int) > 0) by omega), K.w64s m (show m < 9223372036854775807 by omega)]
        exact ih
      · have w2 : K.Eqn (wrap64 ((m : Int) - 1)) ((m - 1 : Nat) : Int) := ⟨by rw [K.w64 (by omega) (by omega)]; omega⟩
        have hml2 : m - 1 < (insA s s.size).length := by omega
        obtain ⟨j2, ej2, hj2⟩ := (insA_mem s _ _).mp (List.getElem_mem hml2)
        have hrd2 : rd (insA s s.size) ((m - 1 : Nat) : Int) = (j2 : Int) := by rw [K.rd_nat hml2, ej2]
        have hlt := (List.pairwise_iff_getElem.mp (insA_lt s s.size)) (m - 1) m hml2 hml (by omega)
        rw [ej, ej2] at hlt
        have nb : ¬ (Op.bytesLess (Go.Proofs.Ythhcgepofldgaaa.PSortO.turnB s (j : Int)).toList (Go.Proofs.Ythhcgepofldgaaa.PSortO.turnB s (j2 : Int)).toList = true) := by
          rw [less_turn]
          have := (Go.Proofs.Ythhcgepofldgaaa.PSortO.cfT_cmp s).anti (j : Int) (j2 : Int)
          rcases hlt with q | ⟨q, _⟩ <;> omega
        simp only [laws_FnTurned.j3, Bool.false_eq_true, if_false, if_pos (show ((m : Int) > 0) by omega), w2.out, if_pos (show ((0 : Int) ≤ ((m - 1 : Nat) : Int)) by omega), if_pos (show (((m - 1 : Nat) : Int) < ((insA s s.size).length : Int)) by omega), hrd2, Rotate_is s h j2 hj2, Option.bind_some, if_true, if_neg nb, K.w64s m (show m < 9223372036854775807 by omega)]
        by_cases he : (Go.Proofs.Ythhcgepofldgaaa.PSortO.turnB s (j2 : Int)).toList = (Go.Proofs.Ythhcgepofldgaaa.PSortO.turnB s (j : Int)).toList
        · have hge : ¬ ((j2 : Int) ≥ (j : Int)) := by
            rcases hlt with q | ⟨_, q⟩
            · exfalso
              have e3 : Go.Proofs.Ythhcgepofldgaaa.PSortO.cfT s (j2 : Int) (j : Int) = 0 := by
                have := (Go.Proofs.Ythhcgepofldgaaa.PSortO.cfT_cmp s).self (j : Int)
                unfold Go.Proofs.Ythhcgepofldgaaa.PSortO.cfT at this ⊢
                rw [← Lib.toList_data, ← Lib.toList_data, he, Lib.toList_data]
                exact this
              omega
            · omega
          simp only [if_pos he, if_neg hge]
          exact ih
        · simp only [if_neg he]
          exact ih
    apply K.Ev.succ
    simp only [laws_FnTurned.l0, if_pos (show ((m : Int) < ((insA s s.size).length : Int)) by omega), if_pos (show ((0 : Int) ≤ (m : Int)) by omega), hrd, Rotate_is s h j hj, Option.bind_some, if_true, hsz, w1.out, if_pos (show ((0 : Int) ≤ ((s.size - 1 : Nat) : Int)) by omega), if_pos (show (((s.size - 1 : Nat) : Int) < (s.size : Int)) by omega), if_pos (show ((m : Int) < ((trT s).size : Int)) by omega), hlast, bne_self_eq_false]
    exact j3
theorem ev_uniq {α : Type} {g : Nat → Option α} {r q : α} (h1 : Ev g r) (h2 : Ev g q) : r = q := by
  obtain ⟨a, ha⟩ := h1
  obtain ⟨b, hb⟩ := h2
  have e1 := ha (a + b) (by omega)
  have e2 := hb (a + b) (by omega)
  rw [e1] at e2
  exact Option.some.inj e2
theorem FnTurned : laws_FnTurned.Pure := by
  intro c1 c2 _ hl1 hw1 _ hl2 hw2
  have hc1 : K.Code c1 := ⟨by omega, fun x h => K.b_u8 (hw1 x h)⟩
  have hc2 : K.Code c2 := ⟨by omega, fun x h => K.b_u8 (hw2 x h)⟩
  refine Ev.rounds (?_ : Ev (fun k => laws_FnTurned.f k c1 c2) true)
  unfold laws_FnTurned.f
  by_cases h : (wrap64 ((c1.length : Int) + (c2.length : Int))) > 1048576
  · simp only [if_pos h]; exact Ev.now _
  simp only [if_neg h]
  obtain ⟨s, a1, sd1, e1, s1, _, _⟩ := prose_ok c1 hc1 0 (by omega) (by omega) 0
  have d1 : Ev (fun k => spec_DrawTransform.f k c1) s := by
    simp only [spec_DrawTransform.f, spec_DrawTurnsOf.f]
    exact Ev.bind (Ev.bind e1 (Ev.now _)) (Ev.now _)
  refine Ev.bind d1 ?_
  by_cases hs : s.size ≤ 120
  · refine Ev.bind (Transform_is s hs) ?_
    refine Ev.bind (sTransform_is s hs) ?_
    simp only [bne_self_eq_false, Bool.false_eq_true, if_false, if_true]
    apply K.Ev.succ
    simp only [laws_FnTurned.j0, Bool.false_eq_true, if_false, if_true]
    refine Ev.bind (Restore_back s hs) ?_
    have ht : impl_TurnsOf.f s = some (insA s s.size, true) := by
      simp only [impl_TurnsOf.f, impl_isTurnable.f, decide_eq_true (show (s.size : Int) ≤ 120 by omega), Option.bind_some, if_true, impl_turnsOf.f, if_pos hs]
      rw [insA_argsort]
    have hb : (((insA s s.size).length : Int) != (s.size : Int)) = false := by rw [insA_len]; simp
    simp only [ht, Option.bind_some, if_true, hb]
    apply K.Ev.succ
    simp only [laws_FnTurned.j1, Bool.false_eq_true, if_false]
    exact turned_loop c2 hc2 s hs s.size 0 (by omega)
  · obtain ⟨r, e2, e3⟩ := Transform_same s
    have hr : r.2.2 = false := by
      have e4 : Ev (fun k => spec_Transform.f k s) ((⟨#[]⟩ : ByteArray), 0, false) := by
        simp only [spec_Transform.f, if_pos (show (s.size : Int) > 120 by omega)]
        exact Ev.now _
      rw [ev_uniq e2 e4]
    refine Ev.bind e3 ?_
    refine Ev.bind e2 ?_
    simp only [bne_self_eq_false, Bool.false_eq_true, if_false, if_true, hr]
    apply K.Ev.succ
    simp only [laws_FnTurned.j0, Bool.false_eq_true, if_false]
    exact turned_end c2 hc2

end Go.Proofs.Ythhcgepofldgaaa.Pure
