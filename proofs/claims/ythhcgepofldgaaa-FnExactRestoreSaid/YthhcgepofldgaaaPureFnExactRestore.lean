/- The law FnExactRestore answers true for all texts and places: what is restored is the reference's, and the same are refused. -/
import Derived.Test.YthhcgepofldgaaaPFnExactRestorex3
import Derived.Test.YthhcgepofldgaaaKKit
import Derived.Test.YthhcgepofldgaaaKStable
set_option linter.unusedVariables false
set_option linter.unusedSimpArgs false
namespace Go.Proofs.Ythhcgepofldgaaa.Pure
open Go Go.RowKit Go.Proofs.Ythhcgepofldgaaa Go.Proofs.Ythhcgepofldgaaa.PFnExactRestore Go.Proofs.YthhcgepofldgaaaW.PrintWords Go.Proofs.YthhcgepofldgaaaW.PrintLast Go.Proofs.YthhcgepofldgaaaW.PrintMore

/-- The places below m of the text's bytes that are b. -/
def idxU (s : ByteArray) (b m : Nat) : List Int := ((List.range m).filter fun (i : Nat) => decide (bt s (i : Int) = (b : Int))).map Int.ofNat
/-- The places of the bytes below B, by byte and by place. -/
def nxB (s : ByteArray) : Nat → List Int
  | 0 => []
  | B + 1 => nxB s B ++ idxU s B s.size
theorem idxU_len (s : ByteArray) (b m : Nat) : (idxU s b m).length ≤ m := by
  unfold idxU
  rw [List.length_map]
  exact Nat.le_trans (List.length_filter_le _ _) (by simp)
theorem nxB_len (s : ByteArray) (h : s.size ≤ 120) : ∀ B, (nxB s B).length ≤ B * 120
  | 0 => Nat.le_refl _
  | B + 1 => by
    rw [nxB, List.length_append]
    have := nxB_len s h B
    have := idxU_len s B s.size
    omega
theorem idxU_mem {s : ByteArray} {b m : Nat} {x : Int} (h : x ∈ idxU s b m) : ∃ j : Nat, x = (j : Int) ∧ j < m ∧ bt s (j : Int) = (b : Int) := by
  simp only [idxU, List.mem_map, List.mem_filter, List.mem_range, decide_eq_true_iff] at h
  obtain ⟨j, ⟨h1, h2⟩, h3⟩ := h
  exact ⟨j, h3.symm, h1, h2⟩
theorem idxU_of {s : ByteArray} {b m j : Nat} (hj : j < m) (hb : bt s (j : Int) = (b : Int)) : (j : Int) ∈ idxU s b m := by
  simp only [idxU, List.mem_map, List.mem_filter, List.mem_range, decide_eq_true_iff]
  exact ⟨j, ⟨hj, hb⟩, rfl⟩
theorem nxB_mem {s : ByteArray} : ∀ {B : Nat} {x : Int}, x ∈ nxB s B → ∃ j : Nat, x = (j : Int) ∧ j < s.size ∧ bt s (j : Int) < (B : Int)
  | 0, x, h => by simp [nxB] at h
  | B + 1, x, h => by
    rw [nxB, List.mem_append] at h
    rcases h with h | h
    · obtain ⟨j, h1, h2, h3⟩ := nxB_mem h
      exact ⟨j, h1, h2, by omega⟩
    · obtain ⟨j, h1, h2, h3⟩ := idxU_mem h
      exact ⟨j, h1, h2, by omega⟩
theorem nxB_of {s : ByteArray} {j : Nat} (hj : j < s.size) : ∀ B : Nat, bt s (j : Int) < (B : Int) → (j : Int) ∈ nxB s B
  | 0, h => by have := bt_range s (j : Int); omega
  | B + 1, h => by
    rw [nxB, List.mem_append]
    by_cases c : bt s (j : Int) = (B : Int)
    · exact .inr (idxU_of hj c)
    · exact .inl (nxB_of hj B (by omega))
/-- The comparison by bytes. -/
def cfB (s : ByteArray) (x y : Int) : Int := bt s x - bt s y
theorem cfB_cmp (s : ByteArray) : K.Cmp (cfB s) := ⟨fun x y => by unfold cfB; omega, fun x y z h1 h2 => by unfold cfB at *; omega⟩
theorem nxB_lt (s : ByteArray) : ∀ B, (nxB s B).Pairwise (K.Lt (cfB s))
  | 0 => List.Pairwise.nil
  | B + 1 => by
    rw [nxB, List.pairwise_append]
    refine ⟨nxB_lt s B, ?_, fun x hx y hy => ?_⟩
    · unfold idxU
      rw [List.pairwise_map]
      refine (List.Pairwise.filter _ List.pairwise_lt_range).imp_of_mem ?_
      intro a b ha hb hab
      simp only [List.mem_filter, decide_eq_true_iff] at ha hb
      right
      unfold cfB
      exact ⟨by show bt s (a : Int) - bt s (b : Int) = 0; rw [ha.2, hb.2]; omega, by show (a : Int) < (b : Int); omega⟩
    · obtain ⟨i, rfl, _, h1⟩ := nxB_mem hx
      obtain ⟨j, rfl, _, h2⟩ := idxU_mem hy
      left
      unfold cfB
      omega
theorem lt_irrefl {cf : Int → Int → Int} (h : K.Cmp cf) (x : Int) : ¬ K.Lt cf x x := by
  have := h.self x
  unfold K.Lt
  omega
/-- A list of the numbers below n, by a comparison: it is the sorted one. -/
theorem argsort_pair {cf : Int → Int → Int} (hc : K.Cmp cf) {d : List Int} {n : Nat} (hp : d.Pairwise (K.Lt cf)) (h1 : ∀ x ∈ d, ∃ j : Nat, x = (j : Int) ∧ j < n) (h2 : ∀ j : Nat, j < n → (j : Int) ∈ d) : d = Go.Proofs.Ythhcgepofldgaaa.PSortN.argsort cf n := by
  have hn : d.Nodup := hp.imp (fun {a b} hab e => by subst e; exact lt_irrefl hc _ hab)
  have hr : (Go.Proofs.Ythhcgepofldgaaa.PSortN.rng n).Nodup := by
    unfold Go.Proofs.Ythhcgepofldgaaa.PSortN.rng List.Nodup
    rw [List.pairwise_map]
    exact List.nodup_range.imp (fun h e => h (Int.ofNat.inj e))
  have hperm : List.Perm d (Go.Proofs.Ythhcgepofldgaaa.PSortN.rng n) := by
    refine (List.perm_ext_iff_of_nodup hn hr).mpr fun x => ⟨fun hx => ?_, fun hx => ?_⟩
    · obtain ⟨j, rfl, hj⟩ := h1 x hx
      exact List.mem_map.mpr ⟨j, List.mem_range.mpr hj, rfl⟩
    · obtain ⟨j, rfl, hj⟩ := Go.Proofs.Ythhcgepofldgaaa.PSortN.rng_mem hx
      exact h2 j hj
  refine Go.Proofs.Ythhcgepofldgaaa.PSortN.argsort_of hc hperm ?_
  intro i j _ hij hj
  have hl : d.length = n := hperm.length_eq.trans (Go.Proofs.Ythhcgepofldgaaa.PSortN.rng_length n)
  have := (List.pairwise_iff_getElem.mp hp) i j (by omega) (by omega) hij
  unfold K.at_
  rw [List.getD_eq_getElem?_getD, List.getD_eq_getElem?_getD, List.getElem?_eq_getElem (show i < d.length by omega), List.getElem?_eq_getElem (show j < d.length by omega)]
  exact this
theorem nxB_argsort (s : ByteArray) : nxB s 256 = Go.Proofs.Ythhcgepofldgaaa.PSortN.argsort (cfB s) s.size := by
  refine argsort_pair (cfB_cmp s) (nxB_lt s 256) (fun x hx => ?_) (fun j hj => nxB_of hj 256 (by have := bt_range s (j : Int); omega))
  obtain ⟨j, h1, h2, _⟩ := nxB_mem hx
  exact ⟨j, h1, h2⟩
theorem l11Next_ev (s : ByteArray) (h : s.size ≤ 120) : Ev (fun k => spec_l11Next.f k s) (nxB s 256) := by
  have outer : ∀ (d B : Nat), B + d = 256 → Ev (fun k => spec_l11Next.l0 k s (nxB s B) (B : Int)) (nxB s 256) := by
    intro d
    induction d with
    | zero =>
      intro B hB
      obtain rfl : B = 256 := by omega
      apply K.Ev.succ
      simp only [spec_l11Next.l0, if_neg (show ¬ (((256 : Nat) : Int) < 256) by omega)]
      exact Ev.now _
    | succ d ih =>
      intro B hB
      have inner : ∀ (e i : Nat), i + e = s.size → Ev (fun k => spec_l11Next.l1 k s (nxB s B ++ idxU s B i) (B : Int) (i : Int)) (nxB s 256) := by
        intro e
        induction e with
        | zero =>
          intro i hi
          apply K.Ev.succ
          simp only [spec_l11Next.l1, if_neg (show ¬ ((i : Int) < (s.size : Int)) by omega), K.w64s B (show B < 9223372036854775807 by omega)]
          have := ih (B + 1) (by omega)
          rw [nxB, show s.size = i by omega] at this
          exact this
        | succ e ihe =>
          intro i hi
          have hr := bt_range s (i : Int)
          have hw : wrap64 (bt s (i : Int)) = bt s (i : Int) := K.w64 (by omega) (by omega)
          have hlen : (nxB s B ++ idxU s B i).length < 17592186044416 := by
            have := nxB_len s h B
            have := idxU_len s B i
            rw [List.length_append]; omega
          have hs : idxU s B (i + 1) = idxU s B i ++ (if bt s (i : Int) = (B : Int) then [(i : Int)] else []) := by
            unfold idxU
            rw [List.range_succ, List.filter_append, List.map_append]
            by_cases c : bt s (i : Int) = (B : Int) <;> simp [c]
          have hn := ihe (i + 1) (by omega)
          apply K.Ev.succ
          simp only [spec_l11Next.l1, if_pos (show (i : Int) < (s.size : Int) by omega), if_pos (show (0 : Int) ≤ (i : Int) by omega), hw, K.w64s i (show i < 9223372036854775807 by omega)]
          by_cases c : bt s (i : Int) = (B : Int)
          · simp only [if_pos c, if_pos hlen]
            rw [hs, if_pos c, ← List.append_assoc] at hn
            exact hn
          · simp only [if_neg c]
            rw [hs, if_neg c, List.append_nil] at hn
            exact hn
      apply K.Ev.succ
      simp only [spec_l11Next.l0, if_pos (show (B : Int) < 256 by omega)]
      have := inner s.size 0 (by omega)
      have e : idxU s B 0 = [] := rfl
      rw [e, List.append_nil] at this
      exact this
  simp only [spec_l11Next.f]
  exact outer 256 0 (by omega)

theorem lt_irreflT {cf : Int → Int → Int} (h : K.Cmp cf) (x : Int) : ¬ K.Lt cf x x := by
  have := h.self x
  unfold K.Lt
  omega
/-- A list of the numbers below n, by a comparison: it is the sorted one. -/
theorem argsort_pairT {cf : Int → Int → Int} (hc : K.Cmp cf) {d : List Int} {n : Nat} (hp : d.Pairwise (K.Lt cf)) (h1 : ∀ x ∈ d, ∃ j : Nat, x = (j : Int) ∧ j < n) (h2 : ∀ j : Nat, j < n → (j : Int) ∈ d) : d = Go.Proofs.Ythhcgepofldgaaa.PSortN.argsort cf n := by
  have hn : d.Nodup := hp.imp (fun {a b} hab e => by subst e; exact lt_irreflT hc _ hab)
  have hr : (Go.Proofs.Ythhcgepofldgaaa.PSortN.rng n).Nodup := by
    unfold Go.Proofs.Ythhcgepofldgaaa.PSortN.rng List.Nodup
    rw [List.pairwise_map]
    exact List.nodup_range.imp (fun h e => h (Int.ofNat.inj e))
  have hperm : List.Perm d (Go.Proofs.Ythhcgepofldgaaa.PSortN.rng n) := by
    refine (List.perm_ext_iff_of_nodup hn hr).mpr fun x => ⟨fun hx => ?_, fun hx => ?_⟩
    · obtain ⟨j, rfl, hj⟩ := h1 x hx
      exact List.mem_map.mpr ⟨j, List.mem_range.mpr hj, rfl⟩
    · obtain ⟨j, rfl, hj⟩ := Go.Proofs.Ythhcgepofldgaaa.PSortN.rng_mem hx
      exact h2 j hj
  refine Go.Proofs.Ythhcgepofldgaaa.PSortN.argsort_of hc hperm ?_
  intro i j _ hij hj
  have hl : d.length = n := hperm.length_eq.trans (Go.Proofs.Ythhcgepofldgaaa.PSortN.rng_length n)
  have := (List.pairwise_iff_getElem.mp hp) i j (by omega) (by omega) hij
  unfold K.at_
  rw [List.getD_eq_getElem?_getD, List.getD_eq_getElem?_getD, List.getElem?_eq_getElem (show i < d.length by omega), List.getElem?_eq_getElem (show j < d.length by omega)]
  exact this
/-- The model's less-than of bytes is the comparison's. -/
theorem bytesLess_cmp : ∀ x y : List UInt8, Op.bytesLess x y = decide (Lib.compareBytes x y < 0)
  | [], [] => by simp [Op.bytesLess, Lib.compareBytes]
  | [], _ :: _ => by simp [Op.bytesLess, Lib.compareBytes]
  | _ :: _, [] => by simp [Op.bytesLess, Lib.compareBytes]
  | a :: x, b :: y => by
    have ih := bytesLess_cmp x y
    have e1 : (a < b) ↔ a.toNat < b.toNat := UInt8.lt_iff_toNat_lt
    have e2 : (b < a) ↔ b.toNat < a.toNat := UInt8.lt_iff_toNat_lt
    simp only [Op.bytesLess, Lib.compareBytes]
    by_cases c : a < b
    · simp [c]
    · by_cases d : b < a
      · have hn : (a == b) = false := by
          have : a ≠ b := fun e => by subst e; exact c d
          simpa using this
        simp [c, d, hn]
      · have : a = b := UInt8.toNat_inj.mp (by rw [e1] at c; rw [e2] at d; omega)
        subst this
        simp [c, ih]
theorem less_turn (s : ByteArray) (x y : Int) : (Op.bytesLess (Go.Proofs.Ythhcgepofldgaaa.PSortO.turnB s x).toList (Go.Proofs.Ythhcgepofldgaaa.PSortO.turnB s y).toList = true) ↔ Go.Proofs.Ythhcgepofldgaaa.PSortO.cfT s x y < 0 := by
  rw [bytesLess_cmp, Lib.toList_data, Lib.toList_data, decide_eq_true_iff]; rfl
theorem l11Turn_f (s : ByteArray) (h : s.size ≤ 120) (j : Nat) (hj : j < s.size) : spec_l11Turn.f s (j : Int) = some (Go.Proofs.Ythhcgepofldgaaa.PSortO.turnB s (j : Int)) := by
  have e : (s.extract ((j : Int)).toNat s.size).size + (s.extract 0 ((j : Int)).toNat).size ≤ 9223372036854775807 := by
    simp only [ByteArray.size_extract]; omega
  simp only [spec_l11Turn.f, if_pos (show (0 : Int) ≤ (j : Int) by omega), if_pos (show (j : Int) ≤ (s.size : Int) by omega), if_pos e]
  rfl
/-- A place put into its place. -/
def insT (s : ByteArray) (n : Int) : List Int → List Int
  | [] => [n]
  | x :: xs => if Go.Proofs.Ythhcgepofldgaaa.PSortO.cfT s n x < 0 then n :: x :: xs else x :: insT s n xs
theorem insT_mem (s : ByteArray) (n y : Int) : ∀ l, y ∈ insT s n l ↔ y = n ∨ y ∈ l
  | [] => by simp [insT]
  | x :: xs => by
    have := insT_mem s n y xs
    unfold insT
    split
    · simp
    · simp only [List.mem_cons, this]
      constructor
      · rintro (h | h | h)
        · exact .inr (.inl h)
        · exact .inl h
        · exact .inr (.inr h)
      · rintro (h | h | h)
        · exact .inr (.inl h)
        · exact .inl h
        · exact .inr (.inr h)
theorem insT_len (s : ByteArray) (n : Int) : ∀ l, (insT s n l).length = l.length + 1
  | [] => rfl
  | x :: xs => by
    have := insT_len s n xs
    unfold insT
    split
    · simp
    · simp [this]
theorem insT_lt (s : ByteArray) (n : Int) : ∀ l : List Int, l.Pairwise (K.Lt (Go.Proofs.Ythhcgepofldgaaa.PSortO.cfT s)) → (∀ x ∈ l, x < n) → (insT s n l).Pairwise (K.Lt (Go.Proofs.Ythhcgepofldgaaa.PSortO.cfT s))
  | [], _, _ => by simp [insT]
  | x :: xs, hp, hn => by
    have hc := Go.Proofs.Ythhcgepofldgaaa.PSortO.cfT_cmp s
    obtain ⟨h1, h2⟩ := List.pairwise_cons.mp hp
    unfold insT
    split
    · rename_i c
      refine List.pairwise_cons.mpr ⟨fun y hy => ?_, hp⟩
      rcases List.mem_cons.mp hy with rfl | hy
      · exact .inl c
      · exact K.Lt.trans hc (.inl c) (h1 y hy)
    · rename_i c
      refine List.pairwise_cons.mpr ⟨fun y hy => ?_, insT_lt s n xs h2 fun y hy => hn y (List.mem_cons_of_mem _ hy)⟩
      rcases (insT_mem s n y xs).mp hy with rfl | hy
      · exact K.Lt.of_not hc c (hn x List.mem_cons_self)
      · exact h1 y hy
/-- The places below m, by their turnings. -/
def insA (s : ByteArray) : Nat → List Int
  | 0 => []
  | m + 1 => insT s (m : Int) (insA s m)
theorem insA_len (s : ByteArray) : ∀ m, (insA s m).length = m
  | 0 => rfl
  | m + 1 => by rw [insA, insT_len, insA_len s m]
theorem insA_mem (s : ByteArray) (x : Int) : ∀ m, x ∈ insA s m ↔ ∃ j : Nat, x = (j : Int) ∧ j < m
  | 0 => by simp [insA]
  | m + 1 => by
    rw [insA, insT_mem, insA_mem s x m]
    constructor
    · rintro (rfl | ⟨j, rfl, h⟩)
      · exact ⟨m, rfl, by omega⟩
      · exact ⟨j, rfl, by omega⟩
    · rintro ⟨j, rfl, h⟩
      by_cases c : j = m
      · subst c; exact .inl rfl
      · exact .inr ⟨j, rfl, by omega⟩
theorem insA_lt (s : ByteArray) : ∀ m, (insA s m).Pairwise (K.Lt (Go.Proofs.Ythhcgepofldgaaa.PSortO.cfT s))
  | 0 => List.Pairwise.nil
  | m + 1 => insT_lt s _ _ (insA_lt s m) fun x hx => by
    obtain ⟨j, rfl, h⟩ := (insA_mem s x m).mp hx
    omega
theorem insA_argsort (s : ByteArray) : insA s s.size = Go.Proofs.Ythhcgepofldgaaa.PSortN.argsort (Go.Proofs.Ythhcgepofldgaaa.PSortO.cfT s) s.size :=
  argsort_pairT (Go.Proofs.Ythhcgepofldgaaa.PSortO.cfT_cmp s) (insA_lt s _) (fun x hx => (insA_mem s x _).mp hx) fun j hj => (insA_mem s _ _).mpr ⟨j, rfl, hj⟩
theorem l11Turns_ins (s : ByteArray) (h : s.size ≤ 120) (n : Nat) (hn : n < s.size) (v : List Int) : ∀ (suf pre : List Int), (∀ x ∈ pre ++ suf, ∃ j : Nat, x = (j : Int) ∧ j < s.size) → (pre ++ suf).length ≤ 120 →
    Ev (fun k => spec_l11Turns.l0 k s (pre ++ insT s (n : Int) suf) (s.size : Int) ((n + 1 : Nat) : Int)) v → Ev (fun k => spec_l11Turns.l1 k s (pre ++ suf) (n : Int) (pre.length : Int) (s.size : Int) (n : Int)) v
  | [], pre, hm, hl, H => by
    have hl' : pre.length ≤ 120 := by simpa using hl
    rw [List.append_nil]
    have ht : (pre.take ((pre.length : Int)).toNat) = pre := by simp
    have hd : (pre.drop ((pre.length : Int)).toNat) = [] := by simp
    apply K.Ev.succ
    simp only [spec_l11Turns.l1, if_neg (show ¬ ((pre.length : Int) < (pre.length : Int)) by omega), if_pos (show (0 : Int) ≤ (pre.length : Int) by omega), if_pos (show (pre.length : Int) ≤ (pre.length : Int) by omega), ht, hd, Option.bind_some, List.nil_append, List.append_nil, List.length_append, List.length_nil, List.length_cons]
    rw [insT] at H
    simp only [if_pos (show 0 + pre.length < 17592186044416 by omega), if_pos (show pre.length < 17592186044416 by omega), if_pos (show pre.length + (0 + 1) + 0 < 17592186044416 by omega), K.w64s n (show n < 9223372036854775807 by omega)]
    exact H
  | x :: suf, pre, hm, hl, H => by
    obtain ⟨j, hj, hjs⟩ := hm x (by simp)
    have hr : rd (pre ++ x :: suf) (pre.length : Int) = x := by
      rw [K.rd_nat (show pre.length < (pre ++ x :: suf).length by simp)]; simp
    have hl2 : pre.length + (suf.length + 1) ≤ 120 := by simpa using hl
    have ht : ((pre ++ x :: suf).take ((pre.length : Int)).toNat) = pre := by simp
    have hd : ((pre ++ x :: suf).drop ((pre.length : Int)).toNat) = x :: suf := by simp
    apply K.Ev.succ
    simp only [spec_l11Turns.l1, if_pos (show (pre.length : Int) < ((pre ++ x :: suf).length : Int) by simp; omega), if_pos (show (0 : Int) ≤ (pre.length : Int) by omega), hr]
    rw [insT] at H
    have e1 : spec_l11Turn.f s x = some (Go.Proofs.Ythhcgepofldgaaa.PSortO.turnB s x) := by rw [hj]; exact l11Turn_f s h j hjs
    simp only [e1, l11Turn_f s h n hn, Option.bind_some]
    by_cases c : Go.Proofs.Ythhcgepofldgaaa.PSortO.cfT s (n : Int) x < 0
    · rw [if_pos c] at H
      simp only [if_pos ((less_turn s (n : Int) x).mpr c), if_pos (show (pre.length : Int) ≤ ((pre.length + (suf.length + 1) : Nat) : Int) by omega), ht, hd, Option.bind_some, List.nil_append, List.length_append, List.length_nil, List.length_cons]
      simp only [if_pos (show 0 + pre.length < 17592186044416 by omega), if_pos (show pre.length < 17592186044416 by omega), if_pos (show pre.length + (0 + 1) + (suf.length + 1) < 17592186044416 by omega), K.w64s n (show n < 9223372036854775807 by omega)]
      have e : pre ++ [(n : Int)] ++ x :: suf = pre ++ (n : Int) :: x :: suf := by simp
      rw [e]
      exact H
    · rw [if_neg c] at H
      simp only [if_neg (fun e => c ((less_turn s (n : Int) x).mp e)), K.w64s pre.length (show pre.length < 9223372036854775807 by omega)]
      have := l11Turns_ins s h n hn v suf (pre ++ [x]) (by simpa using hm) (by simpa using hl) (by simpa using H)
      simpa using this
theorem l11Turns_ev (s : ByteArray) (h : s.size ≤ 120) : Ev (fun k => spec_l11Turns.f k s) (insA s s.size) := by
  have outer : ∀ (d n : Nat), n + d = s.size → Ev (fun k => spec_l11Turns.l0 k s (insA s n) (s.size : Int) (n : Int)) (insA s s.size) := by
    intro d
    induction d with
    | zero =>
      intro n hn
      obtain rfl : n = s.size := by omega
      apply K.Ev.succ
      simp only [spec_l11Turns.l0, if_neg (show ¬ ((s.size : Int) < (s.size : Int)) by omega)]
      exact Ev.now _
    | succ d ih =>
      intro n hn
      apply K.Ev.succ
      simp only [spec_l11Turns.l0, if_pos (show (n : Int) < (s.size : Int) by omega)]
      have := l11Turns_ins s h n (by omega) (insA s s.size) (insA s n) [] (fun x hx => ?_) (by simp [insA_len]; omega) (by simpa [insA] using ih (n + 1) (by omega))
      · simpa using this
      · obtain ⟨j, rfl, hj⟩ := (insA_mem s x n).mp (by simpa using hx)
        exact ⟨j, rfl, by omega⟩
  simp only [spec_l11Turns.f, conv_bytes.f, if_pos (show s.size ≤ 9223372036854775807 by omega), Option.bind_some, bytesOf_length]
  exact outer s.size 0 (by omega)

/-- The byte ahead of place x, round the text's end. -/
def prevB (s : ByteArray) (x : Int) : Int := bt s (Int.tmod (wrap64 ((wrap64 (x + (s.size : Int))) - 1)) (s.size : Int))
theorem prev_ok (s : ByteArray) (h : s.size ≤ 120) (j : Nat) (hj : j < s.size) : 0 ≤ Int.tmod (wrap64 ((wrap64 ((j : Int) + (s.size : Int))) - 1)) (s.size : Int) ∧ Int.tmod (wrap64 ((wrap64 ((j : Int) + (s.size : Int))) - 1)) (s.size : Int) < (s.size : Int) := by
  have e1 : wrap64 ((j : Int) + (s.size : Int)) = (j : Int) + (s.size : Int) := K.w64 (by omega) (by omega)
  have e2 : wrap64 ((j : Int) + (s.size : Int) - 1) = (j : Int) + (s.size : Int) - 1 := K.w64 (by omega) (by omega)
  rw [e1, e2]
  exact ⟨Int.tmod_nonneg _ (by omega), Int.tmod_lt_of_pos _ (by omega)⟩
/-- The last place at which the list holds 0. -/
def atOf : List Int → Nat → Int → Int
  | [], _, a => a
  | x :: xs, i, a => if x = 0 then atOf xs (i + 1) (i : Int) else atOf xs (i + 1) a
theorem atOf_no : ∀ (l : List Int) (i : Nat) (a : Int), (0 : Int) ∉ l → atOf l i a = a
  | [], _, _, _ => rfl
  | x :: xs, i, a, h => by
    have h1 : ¬ x = 0 := fun e => h (by simp [e])
    rw [atOf, if_neg h1]
    exact atOf_no xs (i + 1) a fun e => h (List.mem_cons_of_mem _ e)
theorem l11Transform_loop (s : ByteArray) (h : s.size ≤ 120) : ∀ (suf pre acc : List Int) (a : Int), (∀ x ∈ suf, ∃ j : Nat, x = (j : Int) ∧ j < s.size) → acc.length = pre.length → (pre ++ suf).length ≤ 120 →
    Ev (fun k => spec_l11Transform.l0 k s acc a (pre ++ suf) ((pre ++ suf).length : Int) (pre.length : Int)) (strOfNums (acc ++ suf.map (prevB s)), atOf suf pre.length a)
  | [], pre, acc, a, hm, ha, hl => by
    rw [List.append_nil, List.map_nil, List.append_nil]
    apply K.Ev.succ
    simp only [spec_l11Transform.l0, if_neg (show ¬ ((pre.length : Int) < (pre.length : Int)) by omega), atOf]
    exact Ev.now _
  | x :: suf, pre, acc, a, hm, ha, hl => by
    obtain ⟨j, hj, hjs⟩ := hm x (by simp)
    have hr : rd (pre ++ x :: suf) (pre.length : Int) = x := by
      rw [K.rd_nat (show pre.length < (pre ++ x :: suf).length by simp)]; simp
    have hl2 : pre.length + (suf.length + 1) ≤ 120 := by simpa using hl
    have hq := prev_ok s h j hjs
    rw [← hj] at hq
    have ih : ∀ b, Ev (fun k => spec_l11Transform.l0 k s (acc ++ [prevB s x]) b (pre ++ x :: suf) ((pre ++ x :: suf).length : Int) ((pre.length + 1 : Nat) : Int)) (strOfNums (acc ++ (x :: suf).map (prevB s)), atOf suf (pre.length + 1) b) := by
      intro b
      have := l11Transform_loop s h suf (pre ++ [x]) (acc ++ [prevB s x]) b (fun y hy => hm y (List.mem_cons_of_mem _ hy)) (by simp [ha]) (by simpa using hl)
      simpa using this
    apply K.Ev.succ
    simp only [spec_l11Transform.l0, if_pos (show (pre.length : Int) < ((pre ++ x :: suf).length : Int) by simp; omega), if_pos (show (0 : Int) ≤ (pre.length : Int) by omega), hr, if_neg (show ¬ (s.size : Int) = 0 by omega), if_pos hq.1, if_pos hq.2, if_pos (show acc.length < 140737488355328 by omega), Option.bind_some, K.w64s pre.length (show pre.length < 9223372036854775807 by omega), atOf]
    by_cases c : x = 0
    · simp only [if_pos c]
      exact ih _
    · simp only [if_neg c]
      exact ih _

theorem index_int_at : ∀ (suf pre : List Int), suf.Nodup → (pre ++ suf).length ≤ 120 → ∃ v : Int, Ev (fun k => slices_Index_int_int.l0 k (pre ++ suf) 0 ((pre ++ suf).length : Int) (pre.length : Int)) v ∧ mx 0 v = atOf suf pre.length 0
  | [], pre, hn, hl => by
    refine ⟨-1, ?_, by simp [mx, atOf]⟩
    rw [List.append_nil]
    apply K.Ev.succ
    simp only [slices_Index_int_int.l0, if_neg (show ¬ ((pre.length : Int) < (pre.length : Int)) by omega)]
    exact Ev.now _
  | x :: suf, pre, hn, hl => by
    obtain ⟨h1, h2⟩ := List.nodup_cons.mp hn
    have hr : rd (pre ++ x :: suf) (pre.length : Int) = x := by
      rw [K.rd_nat (show pre.length < (pre ++ x :: suf).length by simp)]; simp
    have hl2 : pre.length + (suf.length + 1) ≤ 120 := by simpa using hl
    by_cases c : x = 0
    · subst c
      refine ⟨(pre.length : Int), ?_, ?_⟩
      · apply K.Ev.succ
        simp only [slices_Index_int_int.l0, if_pos (show (pre.length : Int) < ((pre ++ (0 : Int) :: suf).length : Int) by simp; omega), if_pos (show (0 : Int) ≤ (pre.length : Int) by omega), hr, if_true]
        exact Ev.now _
      · rw [atOf, if_pos rfl, atOf_no _ _ _ h1]
        unfold mx
        split <;> omega
    · obtain ⟨v, v1, v2⟩ := index_int_at suf (pre ++ [x]) h2 (by simpa using hl)
      refine ⟨v, ?_, ?_⟩
      · apply K.Ev.succ
        simp only [slices_Index_int_int.l0, if_pos (show (pre.length : Int) < ((pre ++ x :: suf).length : Int) by simp; omega), if_pos (show (0 : Int) ≤ (pre.length : Int) by omega), hr, if_neg (show ¬ (0 : Int) = x from fun e => c e.symm), K.w64s pre.length (show pre.length < 9223372036854775807 by omega)]
        simpa using v1
      · rw [atOf, if_neg c, v2]
        simp
theorem impl_transform_loop (s : ByteArray) (h : s.size ≤ 120) (L : List Int) (v : Int) (hv : Ev (fun k => slices_Index_int_int.f k L 0) v) : ∀ (suf pre acc : List Int), (∀ x ∈ suf, ∃ j : Nat, x = (j : Int) ∧ j < s.size) → acc.length = pre.length → (pre ++ suf).length ≤ 120 →
    Ev (fun k => impl_transform.l0 k s L acc (pre ++ suf) ((pre ++ suf).length : Int) (pre.length : Int)) (strOfNums (acc ++ suf.map (prevB s)), mx 0 v)
  | [], pre, acc, hm, ha, hl => by
    rw [List.append_nil, List.map_nil, List.append_nil]
    apply K.Ev.succ
    simp only [impl_transform.l0, if_neg (show ¬ ((pre.length : Int) < (pre.length : Int)) by omega)]
    exact Ev.bind hv (Ev.now _)
  | x :: suf, pre, acc, hm, ha, hl => by
    obtain ⟨j, hj, hjs⟩ := hm x (by simp)
    have hr : rd (pre ++ x :: suf) (pre.length : Int) = x := by
      rw [K.rd_nat (show pre.length < (pre ++ x :: suf).length by simp)]; simp
    have hl2 : pre.length + (suf.length + 1) ≤ 120 := by simpa using hl
    have hq := prev_ok s h j hjs
    rw [← hj] at hq
    have ih : Ev (fun k => impl_transform.l0 k s L (acc ++ [prevB s x]) (pre ++ x :: suf) ((pre ++ x :: suf).length : Int) ((pre.length + 1 : Nat) : Int)) (strOfNums (acc ++ (x :: suf).map (prevB s)), mx 0 v) := by
      have := impl_transform_loop s h L v hv suf (pre ++ [x]) (acc ++ [prevB s x]) (fun y hy => hm y (List.mem_cons_of_mem _ hy)) (by simp [ha]) (by simpa using hl)
      simpa using this
    apply K.Ev.succ
    simp only [impl_transform.l0, if_pos (show (pre.length : Int) < ((pre ++ x :: suf).length : Int) by simp; omega), if_pos (show (0 : Int) ≤ (pre.length : Int) by omega), hr, if_neg (show ¬ (s.size : Int) = 0 by omega), if_pos hq.1, if_pos hq.2, if_pos (show acc.length < 140737488355328 by omega), Option.bind_some, K.w64s pre.length (show pre.length < 9223372036854775807 by omega)]
    exact ih
theorem insA_nodup (s : ByteArray) (m : Nat) : (insA s m).Nodup := (insA_lt s m).imp fun {a b} hab e => by
  subst e; exact lt_irreflT (Go.Proofs.Ythhcgepofldgaaa.PSortO.cfT_cmp s) _ hab
/-- Both ways of the transform. -/
theorem transform_both (s : ByteArray) (h : s.size ≤ 120) : Ev (fun k => spec_l11Transform.f k s) (strOfNums ((insA s s.size).map (prevB s)), atOf (insA s s.size) 0 0) ∧ Ev (fun k => impl_transform.f k s) (strOfNums ((insA s s.size).map (prevB s)), atOf (insA s s.size) 0 0) := by
  have hm : ∀ x ∈ insA s s.size, ∃ j : Nat, x = (j : Int) ∧ j < s.size := fun x hx => (insA_mem s x _).mp hx
  have hl : (insA s s.size).length ≤ 120 := by rw [insA_len]; exact h
  constructor
  · simp only [spec_l11Transform.f]
    refine Ev.bind (l11Turns_ev s h) ?_
    have := l11Transform_loop s h (insA s s.size) [] [] 0 hm rfl (by simpa using hl)
    simpa using this
  · obtain ⟨v, v1, v2⟩ := index_int_at (insA s s.size) [] (insA_nodup s _) (by simpa using hl)
    have hv : Ev (fun k => slices_Index_int_int.f k (insA s s.size) 0) v := by
      simp only [slices_Index_int_int.f]; simpa using v1
    have := impl_transform_loop s h (insA s s.size) v hv (insA s s.size) [] [] hm rfl (by simpa using hl)
    rw [v2] at this
    simp only [impl_transform.f, impl_turnsOf.f, if_pos h, Option.bind_some]
    rw [← insA_argsort]
    simpa using this

theorem strOf_size (l : List Int) : (strOfNums l).size = l.length := by simp [strOfNums, ByteArray.size]
theorem nxB_length (s : ByteArray) : (nxB s 256).length = s.size := by
  rw [nxB_argsort, Go.Proofs.Ythhcgepofldgaaa.PSortN.argsort, List.length_mergeSort, Go.Proofs.Ythhcgepofldgaaa.PSortN.rng_length]
theorem restore_loop (s : ByteArray) (h : s.size ≤ 120) (i : Int) : ∀ (d m : Nat) (out : List Int) (cur : Int), m + d = s.size → (0 < s.size → ∃ c : Nat, cur = (c : Int) ∧ c < s.size) → out.length = m →
    ∃ r, Ev (fun k => spec_Restore.l0 k s i (nxB s 256) out cur (s.size : Int) (m : Int)) r ∧ Ev (fun k => impl_Restore.l0 k s i (nxB s 256) out cur (s.size : Int) (m : Int)) r
  | 0, m, out, cur, hm, hc, ho => by
    obtain ⟨e1, e2⟩ := transform_both (strOfNums out) (by rw [strOf_size]; omega)
    have n1 : ¬ ((m : Int) < (s.size : Int)) := by omega
    generalize hg : (strOfNums (List.map (prevB (strOfNums out)) (insA (strOfNums out) (strOfNums out).size)), atOf (insA (strOfNums out) (strOfNums out).size) 0 0) = g at e1 e2
    refine ⟨if g.1.toList = s.toList then (if g.2 = i then (strOfNums out, true) else ((⟨#[]⟩ : ByteArray), false)) else ((⟨#[]⟩ : ByteArray), false), ?_, ?_⟩
    · apply K.Ev.succ
      simp only [spec_Restore.l0, if_neg n1]
      refine Ev.bind e1 ?_
      by_cases c1 : g.1.toList = s.toList
      · by_cases c2 : g.2 = i
        · simp only [if_pos c1, if_pos c2]; exact Ev.now _
        · simp only [if_pos c1, if_neg c2]; exact Ev.now _
      · simp only [if_neg c1]; exact Ev.now _
    · apply K.Ev.succ
      simp only [impl_Restore.l0, if_neg n1]
      refine Ev.bind e2 ?_
      by_cases c1 : g.1.toList = s.toList
      · by_cases c2 : g.2 = i
        · simp only [if_pos c1, if_pos c2]; exact Ev.now _
        · simp only [if_pos c1, if_neg c2]; exact Ev.now _
      · simp only [if_neg c1]; exact Ev.now _
  | d + 1, m, out, cur, hm, hc, ho => by
    obtain ⟨c, rfl, hcs⟩ := hc (by omega)
    have hl := nxB_length s
    have hrd : rd (nxB s 256) (c : Int) = (nxB s 256)[c]'(by omega) := K.rd_nat (by omega)
    obtain ⟨j, hj, hjs, _⟩ := nxB_mem (List.getElem_mem (show c < (nxB s 256).length by omega))
    rw [hj] at hrd
    obtain ⟨r, r1, r2⟩ := restore_loop s h i d (m + 1) (out ++ [bt s (j : Int)]) (j : Int) (by omega) (fun _ => ⟨j, rfl, hjs⟩) (by simp [ho])
    refine ⟨r, ?_, ?_⟩
    · apply K.Ev.succ
      simp only [spec_Restore.l0, if_pos (show (m : Int) < (s.size : Int) by omega), if_pos (show (0 : Int) ≤ (c : Int) by omega), if_pos (show (c : Int) < ((nxB s 256).length : Int) by omega), hrd, if_pos (show (0 : Int) ≤ (j : Int) by omega), if_pos (show (j : Int) < (s.size : Int) by omega), if_pos (show out.length < 140737488355328 by omega), K.w64s m (show m < 9223372036854775807 by omega)]
      exact r1
    · apply K.Ev.succ
      simp only [impl_Restore.l0, if_pos (show (m : Int) < (s.size : Int) by omega), if_pos (show (0 : Int) ≤ (c : Int) by omega), if_pos (show (c : Int) < ((nxB s 256).length : Int) by omega), hrd, if_pos (show (0 : Int) ≤ (j : Int) by omega), if_pos (show (j : Int) < (s.size : Int) by omega), if_pos (show out.length < 140737488355328 by omega), K.w64s m (show m < 9223372036854775807 by omega)]
      exact r2
theorem restore_go (s : ByteArray) (h : s.size ≤ 120) (i : Int) (h0 : 0 ≤ i) (h1 : i < (s.size : Int) ∨ s.size = 0) : ∃ r, Ev (fun k => spec_Restore.j0 k s i false) r ∧ Ev (fun k => impl_Restore.j0 k s i false) r := by
  obtain ⟨r, r1, r2⟩ := restore_loop s h i s.size 0 [] i (by omega) (fun hp => ⟨i.toNat, by omega, by omega⟩) rfl
  refine ⟨r, ?_, ?_⟩
  · apply K.Ev.succ
    simp only [spec_Restore.j0, Bool.false_eq_true, if_false]
    refine Ev.bind (l11Next_ev s h) ?_
    rw [nxB_length]
    exact r1
  · apply K.Ev.succ
    simp only [impl_Restore.j0, Bool.false_eq_true, if_false, impl_nextOf.f, if_pos h, Option.bind_some]
    have e : Go.Proofs.Ythhcgepofldgaaa.PSortN.argsort (cfB s) s.size = nxB s 256 := (nxB_argsort s).symm
    first
      | (rw [← nxB_argsort]; exact r2)
      | (erw [← nxB_argsort]; exact r2)
      | (have e2 := nxB_argsort s; rw [e2] at r2; exact r2)
theorem restore_no (s : ByteArray) (i : Int) : Ev (fun k => spec_Restore.j0 k s i true) ((⟨#[]⟩ : ByteArray), false) ∧ Ev (fun k => impl_Restore.j0 k s i true) ((⟨#[]⟩ : ByteArray), false) := by
  constructor
  · apply K.Ev.succ
    simp only [spec_Restore.j0, if_true]; exact Ev.now _
  · apply K.Ev.succ
    simp only [impl_Restore.j0, if_true]; exact Ev.now _
theorem Restore_same (s : ByteArray) (i : Int) : ∃ r : ByteArray × Bool, Ev (fun k => spec_Restore.f k s i) r ∧ Ev (fun k => impl_Restore.f k s i) r := by
  by_cases h : s.size ≤ 120
  · have hw : wrap64 ((s.size : Int) - 1) = (s.size : Int) - 1 := K.w64 (by omega) (by omega)
    have hmx : mx 0 ((s.size : Int) - 1) = if s.size = 0 then 0 else (s.size : Int) - 1 := by unfold mx; split <;> split <;> omega
    simp only [spec_Restore.f, impl_Restore.f, if_neg (show ¬ (s.size : Int) > 120 by omega), impl_isTurnable.f, decide_eq_true (show (s.size : Int) ≤ 120 by omega), Option.bind_some, if_true, hw, hmx, spec_l1In.f, impl_within.f]
    by_cases c0 : i ≥ 0
    · simp only [if_pos c0, Option.bind_some]
      by_cases c1 : i < (s.size : Int)
      · obtain ⟨r, r1, r2⟩ := restore_go s h i c0 (.inl c1)
        refine ⟨r, ?_, ?_⟩
        · simp only [decide_eq_true (show i ≤ (s.size : Int) - 1 by omega), if_true]
          exact r1
        · simp only [if_neg (show ¬ s.size = 0 by omega), decide_eq_true (show i ≤ (s.size : Int) - 1 by omega), Bool.not_true]
          exact r2
      · by_cases c2 : s.size = 0
        · by_cases c3 : i = 0
          · obtain ⟨r, r1, r2⟩ := restore_go s h i c0 (.inr c2)
            refine ⟨r, ?_, ?_⟩
            · have e : (s.toList != ([] : List UInt8)) = false := by
                have : s.toList = [] := by
                  rw [Lib.toList_data]
                  exact List.eq_nil_of_length_eq_zero (by rw [Array.length_toList]; exact c2)
                rw [this]; rfl
              simp only [decide_eq_false (show ¬ i ≤ (s.size : Int) - 1 by omega), Bool.false_eq_true, if_false, if_pos c3, e]
              exact r1
            · simp only [if_pos c2, decide_eq_true (show i ≤ 0 by omega), Bool.not_true]
              exact r2
          · obtain ⟨r1, r2⟩ := restore_no s i
            refine ⟨((⟨#[]⟩ : ByteArray), false), ?_, ?_⟩
            · simp only [decide_eq_false (show ¬ i ≤ (s.size : Int) - 1 by omega), Bool.false_eq_true, if_false, if_neg c3]
              exact r1
            · simp only [if_pos c2, decide_eq_false (show ¬ i ≤ 0 by omega), Bool.not_false]
              exact r2
        · obtain ⟨r1, r2⟩ := restore_no s i
          refine ⟨((⟨#[]⟩ : ByteArray), false), ?_, ?_⟩
          · simp only [decide_eq_false (show ¬ i ≤ (s.size : Int) - 1 by omega), Bool.false_eq_true, if_false, if_neg (show ¬ i = 0 by omega)]
            exact r1
          · simp only [if_neg c2, decide_eq_false (show ¬ i ≤ (s.size : Int) - 1 by omega), Bool.not_false]
            exact r2
    · obtain ⟨r1, r2⟩ := restore_no s i
      refine ⟨((⟨#[]⟩ : ByteArray), false), ?_, ?_⟩
      · simp only [if_neg c0, Option.bind_some, Bool.false_eq_true, if_false, if_neg (show ¬ i = 0 by omega)]
        exact r1
      · simp only [if_neg c0, Option.bind_some, Bool.not_false]
        exact r2
  · obtain ⟨r1, r2⟩ := restore_no s i
    refine ⟨((⟨#[]⟩ : ByteArray), false), ?_, ?_⟩
    · simp only [spec_Restore.f, if_pos (show (s.size : Int) > 120 by omega)]
      exact r1
    · simp only [impl_Restore.f, impl_isTurnable.f, decide_eq_false (show ¬ (s.size : Int) ≤ 120 by omega), Option.bind_some, Bool.false_eq_true, if_false]
      exact r2
theorem FnExactRestore : laws_FnExactRestore.Pure := by
  intro s i _ _
  refine Ev.rounds (?_ : Ev (fun k => laws_FnExactRestore.f k s i) true)
  simp only [laws_FnExactRestore.f]
  by_cases hs : (s.size : Int) > 1048576
  · simp only [if_pos hs]; exact Ev.now _
  obtain ⟨r, e1, e2⟩ := Restore_same s i
  simp only [if_neg hs]
  refine Ev.bind e1 ?_
  refine Ev.bind e2 ?_
  simp only [if_true, bne_self_eq_false, Bool.false_eq_true, if_false]
  exact Ev.now _

end Go.Proofs.Ythhcgepofldgaaa.Pure
