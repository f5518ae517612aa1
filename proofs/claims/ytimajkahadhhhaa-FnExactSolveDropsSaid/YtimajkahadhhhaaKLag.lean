/- Polynomials over the field of bytes as functions: closed under sums and products by linear factors; as many different roots as coefficients: nothing. Plain Lean. -/
import Derived.Test.YtimajkahadhhhaaKGFL
set_option linter.unusedVariables false
set_option linter.unusedSimpArgs false
namespace Go.Proofs.Ytimajkahadhhhaa.K
open Go Go.RowKit Go.Proofs.YtimajkahadhhhaaW.PrintWords Go.Proofs.YtimajkahadhhhaaW.PrintMore

/-- f is given on bytes by n coefficients. -/
def Poly (n : Nat) (f : Nat → Nat) : Prop := ∃ l : List Nat, l.length = n ∧ Bytes l ∧ ∀ v, v < 256 → f v = peval l v
theorem peval_cons (c : Nat) (l : List Nat) (x : Nat) : peval (c :: l) x = gmul (peval l x) x ^^^ c := rfl
theorem Poly.lt {n : Nat} {f : Nat → Nat} (h : Poly n f) {v : Nat} (hv : v < 256) : f v < 256 := by
  obtain ⟨l, _, hb, he⟩ := h
  rw [he v hv]; exact peval_lt hb v
/-- The sum of two lists of coefficients of one length. -/
def ladd : List Nat → List Nat → List Nat
  | a :: l, b :: m => (a ^^^ b) :: ladd l m
  | _, _ => []
theorem ladd_spec : ∀ (l m : List Nat), l.length = m.length → Bytes l → Bytes m → (ladd l m).length = l.length ∧ Bytes (ladd l m) ∧ ∀ v, v < 256 → peval (ladd l m) v = peval l v ^^^ peval m v
  | [], [], _, _, _ => ⟨rfl, (by intro y hy; cases hy), fun v _ => by simp only [ladd, peval, List.foldr_nil, Nat.xor_self]⟩
  | a :: l, b :: m, h, hl, hm => by
    obtain ⟨i1, i2, i3⟩ := ladd_spec l m (by simpa using h) (fun y hy => hl y (by simp [hy])) (fun y hy => hm y (by simp [hy]))
    have ha := hl a (by simp)
    have hb := hm b (by simp)
    have bl : Bytes l := fun y hy => hl y (by simp [hy])
    have bm : Bytes m := fun y hy => hm y (by simp [hy])
    refine ⟨by simp [ladd, i1], ?_, ?_⟩
    · intro y hy
      rcases List.mem_cons.1 hy with rfl | hy
      · exact xlt ha hb
      · exact i2 y hy
    · intro v hv
      show gmul (peval (ladd l m) v) v ^^^ (a ^^^ b) = _
      rw [i3 v hv, peval_cons, peval_cons, sum_gmul v (peval_lt bl v) (peval_lt bm v), xor4]
  | [], b :: m, h, _, _ => by simp at h
  | a :: l, [], h, _, _ => by simp at h
theorem Poly.add {n : Nat} {f g : Nat → Nat} (hf : Poly n f) (hg : Poly n g) : Poly n (fun v => f v ^^^ g v) := by
  obtain ⟨l, l1, l2, l3⟩ := hf
  obtain ⟨m, m1, m2, m3⟩ := hg
  obtain ⟨i1, i2, i3⟩ := ladd_spec l m (by omega) l2 m2
  exact ⟨ladd l m, by omega, i2, fun v hv => by show f v ^^^ g v = _; rw [i3 v hv, l3 v hv, m3 v hv]⟩
theorem smul_spec (c : Nat) (hc : c < 256) : ∀ (l : List Nat), Bytes l → Bytes (l.map (gmul c)) ∧ ∀ v, v < 256 → peval (l.map (gmul c)) v = gmul c (peval l v)
  | [], _ => ⟨(by intro y hy; cases hy), fun v _ => by simp only [peval, List.map_nil, List.foldr_nil, gmul_zero, Nat.xor_zero]⟩
  | a :: l, hl => by
    have bl : Bytes l := fun y hy => hl y (by simp [hy])
    obtain ⟨i1, i2⟩ := smul_spec c hc l bl
    refine ⟨?_, ?_⟩
    · intro y hy
      rcases List.mem_cons.1 hy with rfl | hy
      · exact gmul_lt hc
      · exact i1 y hy
    · intro v hv
      show gmul (peval (l.map (gmul c)) v) v ^^^ gmul c a = _
      rw [i2 v hv, peval_cons, gmul_sum, gmul_assoc hc (peval_lt bl v) hv]
theorem Poly.smul {n : Nat} {f : Nat → Nat} (c : Nat) (hc : c < 256) (hf : Poly n f) : Poly n (fun v => gmul c (f v)) := by
  obtain ⟨l, l1, l2, l3⟩ := hf
  obtain ⟨i1, i2⟩ := smul_spec c hc l l2
  exact ⟨l.map (gmul c), by simpa using l1, i1, fun v hv => by show gmul c (f v) = _; rw [i2 v hv, l3 v hv]⟩
theorem peval_snoc_zero : ∀ (l : List Nat) (v : Nat), peval (l ++ [0]) v = peval l v
  | [], v => by simp only [peval, List.nil_append, List.foldr_cons, List.foldr_nil, zero_gmul, Nat.xor_zero]
  | a :: l, v => by
    rw [List.cons_append, peval_cons, peval_cons, peval_snoc_zero l v]
theorem Poly.more {n : Nat} {f : Nat → Nat} (hf : Poly n f) : Poly (n + 1) f := by
  obtain ⟨l, l1, l2, l3⟩ := hf
  refine ⟨l ++ [0], by simp [l1], ?_, fun v hv => by rw [peval_snoc_zero, l3 v hv]⟩
  intro y hy
  rcases List.mem_append.1 hy with hy | hy
  · exact l2 y hy
  · rw [List.mem_singleton.1 hy]; omega
theorem Poly.shift {n : Nat} {f : Nat → Nat} (hf : Poly n f) : Poly (n + 1) (fun v => gmul v (f v)) := by
  obtain ⟨l, l1, l2, l3⟩ := hf
  refine ⟨0 :: l, by simp [l1], ?_, fun v hv => by show gmul v (f v) = _; rw [peval_cons, l3 v hv, Nat.xor_zero, gmul_comm hv (peval_lt l2 v)]⟩
  intro y hy
  rcases List.mem_cons.1 hy with rfl | hy
  · omega
  · exact l2 y hy
theorem Poly.linear {n : Nat} {f : Nat → Nat} (a : Nat) (ha : a < 256) (hf : Poly n f) : Poly (n + 1) (fun v => gmul (v ^^^ a) (f v)) := by
  have h1 := Poly.add hf.shift (Poly.smul a ha hf.more)
  obtain ⟨l, l1, l2, l3⟩ := h1
  exact ⟨l, l1, l2, fun v hv => by rw [← l3 v hv]; show gmul (v ^^^ a) (f v) = gmul v (f v) ^^^ gmul a (f v); rw [sum_gmul _ hv ha]⟩
theorem gmul_eq_zero {a b : Nat} (ha : a < 256) (hb : b < 256) (h : gmul a b = 0) : a = 0 ∨ b = 0 := by
  by_cases h0 : a = 0
  · exact .inl h0
  · right
    have : gmul (ginv a) (gmul a b) = b := by
      rw [← gmul_assoc (ginv_lt a) ha hb, gmul_comm (ginv_lt a) ha, gmul_ginv ha h0, one_gmul hb]
    rw [← this, h, gmul_zero]
theorem xor_eq_zero {a b : Nat} (h : a ^^^ b = 0) : a = b := by
  have h2 : a ^^^ (a ^^^ b) = a ^^^ 0 := by rw [h]
  rw [← Nat.xor_assoc, Nat.xor_self, Nat.zero_xor, Nat.xor_zero] at h2
  exact h2.symm
/-- Synthetic division: f(v) = (v - a) g(v) + f(a). -/
theorem divide : ∀ (l : List Nat), Bytes l → ∀ a, a < 256 → ∃ m : List Nat, m.length = l.length - 1 ∧ Bytes m ∧ ∀ v, v < 256 → peval l v = gmul (v ^^^ a) (peval m v) ^^^ peval l a
  | [], _, a, _ => ⟨[], rfl, (by intro y hy; cases hy), fun v _ => by simp only [peval, List.map_nil, List.foldr_nil, gmul_zero, Nat.xor_zero]⟩
  | c :: l, hl, a, ha => by
    have hc := hl c (by simp)
    have bl : Bytes l := fun y hy => hl y (by simp [hy])
    obtain ⟨m, m1, m2, m3⟩ := divide l bl a ha
    by_cases h0 : l.length = 0
    · obtain rfl : l = [] := List.eq_nil_of_length_eq_zero h0
      exact ⟨[], rfl, (by intro y hy; cases hy), fun v _ => by simp [peval, gmul_zero, zero_gmul]⟩
    have hla := peval_lt bl a
    refine ⟨peval l a :: m, by simp [m1]; omega, ?_, ?_⟩
    · intro y hy
      rcases List.mem_cons.1 hy with rfl | hy
      · exact hla
      · exact m2 y hy
    · intro v hv
      have hva : v ^^^ a < 256 := xlt hv ha
      have hmv := peval_lt m2 v
      rw [peval_cons c l v, m3 v hv, peval_cons c l a, peval_cons, sum_gmul v (gmul_lt hva) hla, gmul_assoc hva hmv hv, gmul_sum, gmul_comm hva hla, gmul_sum (peval l a), gmul_comm hla ha]
      simp only [Nat.xor_assoc]
      congr 1
      rw [gmul_comm ha hla]
      congr 1
      rw [← Nat.xor_assoc, Nat.xor_self, Nat.zero_xor]
theorem roots_zero : ∀ (n : Nat) (l : List Nat), l.length = n → Bytes l → ∀ rs : List Nat, Bytes rs → rs.Nodup → n ≤ rs.length → (∀ r ∈ rs, peval l r = 0) → ∀ v, v < 256 → peval l v = 0
  | 0, l, h, _, _, _, _, _, _, v, _ => by
    obtain rfl : l = [] := List.eq_nil_of_length_eq_zero h
    rfl
  | n + 1, l, h, hl, rs, hr, hd, hn, hz, v, hv => by
    cases rs with
    | nil => simp at hn
    | cons a rs =>
      have ha := hr a (by simp)
      obtain ⟨m, m1, m2, m3⟩ := divide l hl a ha
      have za := hz a (by simp)
      have hm : ∀ r ∈ rs, peval m r = 0 := by
        intro r hrr
        have hrb := hr r (by simp [hrr])
        have e := m3 r hrb
        rw [hz r (by simp [hrr]), za, Nat.xor_zero] at e
        rcases gmul_eq_zero (xlt hrb ha) (peval_lt m2 r) e.symm with h1 | h1
        · have := xor_eq_zero h1
          subst this
          exact absurd hrr (List.nodup_cons.1 hd).1
        · exact h1
      have := roots_zero n m (by omega) m2 rs (fun y hy => hr y (by simp [hy])) (List.nodup_cons.1 hd).2 (by simpa using hn) hm v hv
      rw [m3 v hv, this, gmul_zero, za]; rfl
theorem Poly.zero {n : Nat} {f : Nat → Nat} (hf : Poly n f) {rs : List Nat} (hr : Bytes rs) (hd : rs.Nodup) (hn : n ≤ rs.length) (hz : ∀ r ∈ rs, f r = 0) {v : Nat} (hv : v < 256) : f v = 0 := by
  obtain ⟨l, l1, l2, l3⟩ := hf
  rw [l3 v hv]
  exact roots_zero n l l1 l2 rs hr hd hn (fun r h => by rw [← l3 r (hr r h)]; exact hz r h) v hv
theorem Poly.congr {n : Nat} {f g : Nat → Nat} (hf : Poly n f) (h : ∀ v, v < 256 → g v = f v) : Poly n g := by
  obtain ⟨l, l1, l2, l3⟩ := hf
  exact ⟨l, l1, l2, fun v hv => by rw [h v hv, l3 v hv]⟩
theorem Poly.nothing (n : Nat) : Poly n (fun _ => 0) := by
  induction n with
  | zero => exact ⟨[], rfl, (by intro y hy; cases hy), fun v _ => rfl⟩
  | succ n ih => exact ih.more
theorem Poly.upto {n k : Nat} {f : Nat → Nat} (hf : Poly n f) (h : n ≤ k) : Poly k f := by
  induction k with
  | zero => obtain rfl : n = 0 := by omega
            exact hf
  | succ k ih =>
    by_cases e : n = k + 1
    · subst e; exact hf
    · exact (ih (by omega)).more
/-- The product of (w xor x) over the points but the i-th. -/
def skipProd (w : Nat) (i : Nat) : List (Nat × Nat) → Nat → Nat → Nat
  | [], _, acc => acc
  | p :: m, j, acc => skipProd w i m (j + 1) (if j = i then acc else gmul acc (w ^^^ p.1))
def interpFrom (m : List (Nat × Nat)) (v : Nat) : List (Nat × Nat) → Nat → Nat → Nat
  | [], _, o => o
  | p :: r, i, o => interpFrom m v r (i + 1) (o ^^^ gmul p.2 (gmul (skipProd v i m 0 1) (ginv (skipProd p.1 i m 0 1))))
/-- The value at v of the polynomial through the points. -/
def interp (m : List (Nat × Nat)) (v : Nat) : Nat := interpFrom m v m 0 0
def Pts (m : List (Nat × Nat)) : Prop := ∀ p ∈ m, p.1 < 256 ∧ p.2 < 256
theorem skip_lt (w i : Nat) (hw : w < 256) : ∀ (m : List (Nat × Nat)) (j acc : Nat), acc < 256 → skipProd w i m j acc < 256
  | [], _, acc, h => h
  | p :: m, j, acc, h => by
    refine skip_lt w i hw m (j + 1) _ ?_
    split
    · exact h
    · exact gmul_lt h
theorem skip_zero (w i : Nat) : ∀ (m : List (Nat × Nat)) (j : Nat), skipProd w i m j 0 = 0
  | [], _ => rfl
  | p :: m, j => by
    have : skipProd w i (p :: m) j 0 = skipProd w i m (j + 1) 0 := by
      show skipProd w i m (j + 1) (if j = i then 0 else gmul 0 (w ^^^ p.1)) = _
      rw [zero_gmul, ite_self]
    rw [this]; exact skip_zero w i m (j + 1)
theorem skip_hit (i : Nat) : ∀ (m : List (Nat × Nat)) (j acc k : Nat) (hk : k < m.length), j + k ≠ i → skipProd m[k].1 i m j acc = 0
  | [], _, _, k, hk, _ => by simp at hk
  | p :: m, j, acc, 0, hk, h => by
    show skipProd p.1 i m (j + 1) (if j = i then acc else gmul acc (p.1 ^^^ p.1)) = 0
    rw [if_neg (by omega), Nat.xor_self, gmul_zero, skip_zero]
  | p :: m, j, acc, k + 1, hk, h => skip_hit i m (j + 1) _ k (by simpa using hk) (by omega)
theorem skip_ne (w i : Nat) (hw : w < 256) : ∀ (m : List (Nat × Nat)), Pts m → ∀ (j acc : Nat), acc < 256 → acc ≠ 0 → (∀ k (hk : k < m.length), j + k ≠ i → m[k].1 ≠ w) → skipProd w i m j acc ≠ 0
  | [], _, _, acc, _, h, _ => h
  | p :: m, hm, j, acc, ha, h0, hd => by
    have hp := hm p (by simp)
    show skipProd w i m (j + 1) (if j = i then acc else gmul acc (w ^^^ p.1)) ≠ 0
    refine skip_ne w i hw m (fun q hq => hm q (by simp [hq])) (j + 1) _ ?_ ?_ (fun k hk he => by
      have := hd (k + 1) (by simpa using hk) (by omega)
      simpa using this)
    · split
      · exact ha
      · exact gmul_lt ha
    · by_cases e : j = i
      · rw [if_pos e]; exact h0
      · rw [if_neg e]
        intro hz
        rcases gmul_eq_zero ha (xlt hw hp.1) hz with h1 | h1
        · exact h0 h1
        · have := hd 0 (by simp) (by omega)
          exact this (xor_eq_zero h1).symm
theorem skip_poly_out (i : Nat) : ∀ (m : List (Nat × Nat)), Pts m → ∀ (j n : Nat) (f : Nat → Nat), i < j → Poly n f → Poly (n + m.length) (fun v => skipProd v i m j (f v))
  | [], _, _, n, f, _, hf => hf
  | p :: m, hm, j, n, f, h, hf => by
    have hp := hm p (by simp)
    have h1 := skip_poly_out i m (fun q hq => hm q (by simp [hq])) (j + 1) (n + 1) (fun v => gmul (v ^^^ p.1) (f v)) (by omega) (hf.linear p.1 hp.1)
    have e : n + (p :: m).length = n + 1 + m.length := by simp only [List.length_cons]; omega
    rw [e]
    refine h1.congr fun v hv => ?_
    show skipProd v i m (j + 1) (if j = i then f v else gmul (f v) (v ^^^ p.1)) = _
    rw [if_neg (by omega), gmul_comm (hf.lt hv) (xlt hv hp.1)]
theorem skip_poly (i : Nat) : ∀ (m : List (Nat × Nat)), Pts m → ∀ (j n : Nat) (f : Nat → Nat), j ≤ i → i < j + m.length → Poly n f → Poly (n + m.length - 1) (fun v => skipProd v i m j (f v))
  | [], _, j, _, _, h, h2, _ => by simp at h2; omega
  | p :: m, hm, j, n, f, h, h2, hf => by
    have hp := hm p (by simp)
    have hm' : Pts m := fun q hq => hm q (by simp [hq])
    simp only [List.length_cons] at h2 ⊢
    by_cases e : j = i
    · have h1 := skip_poly_out i m hm' (j + 1) n f (by omega) hf
      rw [show n + (m.length + 1) - 1 = n + m.length by omega]
      refine h1.congr fun v hv => ?_
      show skipProd v i m (j + 1) (if j = i then f v else gmul (f v) (v ^^^ p.1)) = _
      rw [if_pos e]
    · have h1 := skip_poly i m hm' (j + 1) (n + 1) (fun v => gmul (v ^^^ p.1) (f v)) (by omega) (by omega) (hf.linear p.1 hp.1)
      rw [show n + (m.length + 1) - 1 = n + 1 + m.length - 1 by omega]
      refine h1.congr fun v hv => ?_
      show skipProd v i m (j + 1) (if j = i then f v else gmul (f v) (v ^^^ p.1)) = _
      rw [if_neg e, gmul_comm (hf.lt hv) (xlt hv hp.1)]
theorem Poly.one : Poly 1 (fun _ => 1) := ⟨[1], rfl, (by intro y hy; rw [List.mem_singleton.1 hy]; omega), fun v hv => by simp only [peval, List.foldr_cons, List.foldr_nil, zero_gmul, Nat.zero_xor]⟩
theorem interp_poly_from (m : List (Nat × Nat)) (hm : Pts m) : ∀ (r : List (Nat × Nat)), Pts r → ∀ (i : Nat) (o : Nat → Nat), i + r.length ≤ m.length → Poly m.length o → Poly m.length (fun v => interpFrom m v r i (o v))
  | [], _, _, o, _, ho => ho
  | p :: r, hr, i, o, h, ho => by
    have hp := hr p (by simp)
    simp only [List.length_cons] at h
    refine interp_poly_from m hm r (fun q hq => hr q (by simp [hq])) (i + 1) (fun v => o v ^^^ gmul p.2 (gmul (skipProd v i m 0 1) (ginv (skipProd p.1 i m 0 1)))) (by omega) (ho.add ?_)
    refine Poly.smul p.2 hp.2 ?_
    have h1 := skip_poly i m hm 0 1 (fun _ => 1) (by omega) (by omega) Poly.one
    rw [show 1 + m.length - 1 = m.length by omega] at h1
    refine (h1.smul (ginv (skipProd p.1 i m 0 1)) (ginv_lt _)).congr fun v hv => ?_
    exact gmul_comm (h1.lt hv) (ginv_lt _)
theorem interp_poly (m : List (Nat × Nat)) (hm : Pts m) : Poly m.length (interp m) := interp_poly_from m hm m hm 0 (fun _ => 0) (by omega) (Poly.nothing _)
theorem interp_at (m : List (Nat × Nat)) (hm : Pts m) (hd : (m.map Prod.fst).Nodup) (k : Nat) (hk : k < m.length) : ∀ (d i o : Nat), i + d = m.length → interpFrom m m[k].1 (m.drop i) i o = if i ≤ k then o ^^^ m[k].2 else o
  | 0, i, o, h => by
    rw [List.drop_of_length_le (by omega), if_neg (by omega)]; rfl
  | d + 1, i, o, h => by
    have hi : i < m.length := by omega
    have hpi := hm m[i] (List.getElem_mem hi)
    have hpk := hm m[k] (List.getElem_mem hk)
    have ne : ∀ a b (ha : a < m.length) (hb : b < m.length), a ≠ b → m[a].1 ≠ m[b].1 := by
      intro a b ha hb hab he
      have h1 : (m.map Prod.fst)[a]'(by simpa using ha) = (m.map Prod.fst)[b]'(by simpa using hb) := by simpa using he
      exact hab ((List.getElem_inj hd).1 h1)
    rw [List.drop_eq_getElem_cons hi]
    show interpFrom m m[k].1 (m.drop (i + 1)) (i + 1) (o ^^^ gmul m[i].2 (gmul (skipProd m[k].1 i m 0 1) (ginv (skipProd m[i].1 i m 0 1)))) = _
    rw [interp_at m hm hd k hk d (i + 1) _ (by omega)]
    by_cases e : i = k
    · subst e
      have hn := skip_ne m[i].1 i hpi.1 m hm 0 1 (by omega) (by omega) (fun k' hk' hne => ne k' i hk' hi (by omega))
      have hl := skip_lt m[i].1 i hpi.1 m 0 1 (by omega)
      rw [gmul_ginv hl hn, gmul_one hpi.2, if_neg (by omega), if_pos (by omega)]
    · rw [skip_hit i m 0 1 k hk (by omega), zero_gmul, gmul_zero, Nat.xor_zero]
      by_cases h1 : i ≤ k
      · rw [if_pos (by omega), if_pos h1]
      · rw [if_neg (by omega), if_neg h1]
/-- Through enough points of a polynomial of few coefficients goes that polynomial. -/
theorem interp_eq (m : List (Nat × Nat)) (hm : Pts m) (hd : (m.map Prod.fst).Nodup) {f : Nat → Nat} (hf : Poly m.length f) (hy : ∀ p ∈ m, f p.1 = p.2) {v : Nat} (hv : v < 256) : interp m v = f v := by
  have hp : Poly m.length (fun v => interp m v ^^^ f v) := (interp_poly m hm).add hf
  have hz : ∀ r ∈ m.map Prod.fst, interp m r ^^^ f r = 0 := by
    intro r hr
    obtain ⟨p, hpm, rfl⟩ := List.mem_map.1 hr
    obtain ⟨k, hk, rfl⟩ := List.getElem_of_mem hpm
    have h1 := interp_at m hm hd k hk m.length 0 0 (by omega)
    rw [List.drop_zero, if_pos (by omega), Nat.zero_xor] at h1
    have h2 : interp m m[k].1 = m[k].2 := h1
    rw [h2, hy _ (List.getElem_mem hk), Nat.xor_self]
  have hb : Bytes (m.map Prod.fst) := by
    intro y hy'
    obtain ⟨p, hpm, rfl⟩ := List.mem_map.1 hy'
    exact (hm p hpm).1
  exact xor_eq_zero (hp.zero hb hd (by simp) hz hv)
/-- The polynomial through the points goes through the points. -/
theorem interp_hits (m : List (Nat × Nat)) (hm : Pts m) (hd : (m.map Prod.fst).Nodup) : ∀ p ∈ m, interp m p.1 = p.2 := by
  intro p hp
  obtain ⟨k, hk, rfl⟩ := List.getElem_of_mem hp
  have h1 := interp_at m hm hd k hk m.length 0 0 (by omega)
  rw [List.drop_zero, if_pos (by omega), Nat.zero_xor] at h1
  exact h1
end Go.Proofs.Ytimajkahadhhhaa.K
