import Derived.Test.YtbloniemhkfnlaaKCor
set_option linter.unusedVariables false
set_option linter.unusedSimpArgs false
namespace Go.Proofs.Ytbloniemhkfnlaa.K
open Go Go.RowKit Go.Proofs.YtbloniemhkfnlaaW.PrintWords Go.Proofs.YtbloniemhkfnlaaW.PrintMore

def synd (w : List Nat) (t : Nat) : List Nat := (List.range (2 * t)).map (fun i => peval w (gpow 3 (i + 1)))
def putAll : List Nat → List (Nat × Nat) → List Nat
  | w, [] => w
  | w, p :: r => putAll (w.set p.1 (w.getD p.1 0 ^^^ p.2)) r
theorem synd_length (w : List Nat) (t : Nat) : (synd w t).length = 2 * t := by simp [synd]
theorem synd_bytes {w : List Nat} (h : Bytes w) (t : Nat) : Bytes (synd w t) := by
  intro x hx
  obtain ⟨i, _, rfl⟩ := List.mem_map.1 hx
  exact peval_lt h _
theorem synd_getD (w : List Nat) {t i : Nat} (h : i < 2 * t) : (synd w t).getD i 0 = peval w (gpow 3 (i + 1)) := by simp [synd, h]
theorem peval_set : ∀ (w : List Nat) (p e v : Nat), Bytes w → e < 256 → v < 256 → p < w.length → peval (w.set p (w.getD p 0 ^^^ e)) v = peval w v ^^^ gmul e (gpow v p)
  | [], _, _, _, _, _, _, h => by simp at h
  | c :: w, 0, e, v, hb, he, hv, _ => by
    show gmul (peval w v) v ^^^ (c ^^^ e) = (gmul (peval w v) v ^^^ c) ^^^ gmul e 1
    rw [gmul_one he, Nat.xor_assoc]
  | c :: w, p + 1, e, v, hb, he, hv, h => by
    have bw : Bytes w := fun x hx => hb x (by simp [hx])
    have ih := peval_set w p e v bw he hv (by simpa using h)
    show gmul (peval (w.set p (w.getD p 0 ^^^ e)) v) v ^^^ c = (gmul (peval w v) v ^^^ c) ^^^ gmul e (gmul (gpow v p) v)
    rw [ih, sum_gmul v (peval_lt bw v) (gmul_lt he), gmul_assoc he (gpow_lt p) hv]
    simp only [Nat.xor_assoc]
    rw [Nat.xor_comm c]
def pts (E : List (Nat × Nat)) : List (Nat × Nat) := E.map (fun p => (gpow 3 p.1, p.2))
theorem pts_Pts {E : List (Nat × Nat)} (h : ∀ p ∈ E, p.2 < 256) : Pts (pts E) := by
  intro q hq
  obtain ⟨p, hp, rfl⟩ := List.mem_map.1 hq
  exact ⟨gpow_lt _, h p hp⟩
theorem psum_pts (E : List (Nat × Nat)) (m : Nat) : psum (pts E) m = esum E (fun p => gmul p.2 (gpow (gpow 3 m) p.1)) := by
  unfold psum pts esum
  rw [List.foldr_map]
  exact esum_congr (f := fun p => gmul p.2 (gpow (gpow 3 p.1) m)) (fun p _ => by rw [gpow_swap (by omega)])
theorem all_zero {s : List Nat} (h : s.all (· == 0) = true) (i : Nat) : s.getD i 0 = 0 := by
  rw [List.getD_eq_getElem?_getD]
  rcases Nat.lt_or_ge i s.length with u | u
  · rw [List.getElem?_eq_getElem u]
    have := List.all_eq_true.1 h s[i] (List.getElem_mem u)
    simpa using this
  · rw [List.getElem?_eq_none u]; rfl
def diffs : Nat → List Nat → List Nat → List (Nat × Nat)
  | i, a :: as, b :: bs => if a = b then diffs (i + 1) as bs else (i, a ^^^ b) :: diffs (i + 1) as bs
  | _, _, _ => []
theorem diffs_cons (i a b : Nat) (as bs : List Nat) : diffs i (a :: as) (b :: bs) = if a = b then diffs (i + 1) as bs else (i, a ^^^ b) :: diffs (i + 1) as bs := by rw [diffs]
theorem diffs_mem : ∀ (a b : List Nat) (i : Nat), a.length = b.length → Bytes a → Bytes b → ∀ p ∈ diffs i a b, i ≤ p.1 ∧ p.1 < i + a.length ∧ p.2 < 256 ∧ p.2 ≠ 0
  | [], [], i, _, _, _ => by simp [diffs]
  | [], _ :: _, _, h, _, _ => by simp at h
  | _ :: _, [], _, h, _, _ => by simp at h
  | a :: as, b :: bs, i, h, ha, hb => by
    have ih := diffs_mem as bs (i + 1) (by simpa using h) (fun x hx => ha x (by simp [hx])) (fun x hx => hb x (by simp [hx]))
    intro p hp
    unfold diffs at hp
    split at hp
    · have := ih p hp
      simp only [List.length_cons]; omega
    · rename_i e
      rcases List.mem_cons.1 hp with rfl | q
      · refine ⟨Nat.le_refl _, by simp only [List.length_cons]; omega, xlt (ha a (by simp)) (hb b (by simp)), fun z => e (xor_eq_zero z)⟩
      · have := ih p q
        simp only [List.length_cons]; omega
theorem diffs_inc : ∀ (a b : List Nat) (i : Nat), (diffs i a b).Pairwise (fun p q => p.1 < q.1)
  | [], _, _ => by simp [diffs]
  | _ :: _, [], _ => by simp [diffs]
  | a :: as, b :: bs, i => by
    unfold diffs
    have ih := diffs_inc as bs (i + 1)
    split
    · exact ih
    · refine List.pairwise_cons.2 ⟨?_, ih⟩
      have low : ∀ (a b : List Nat) (j : Nat), ∀ p ∈ diffs j a b, j ≤ p.1 := by
        intro a
        induction a with
        | nil => intro b j p hp; simp [diffs] at hp
        | cons x xs ih =>
          intro b j p hp
          cases b with
          | nil => simp [diffs] at hp
          | cons y ys =>
            unfold diffs at hp
            split at hp
            · have := ih ys (j + 1) p hp; omega
            · rcases List.mem_cons.1 hp with rfl | q
              · exact Nat.le_refl _
              · have := ih ys (j + 1) p q; omega
      intro p hp
      have := low as bs (i + 1) p hp
      show i < p.1
      omega
theorem diffs_eval : ∀ (a b : List Nat) (i v : Nat), a.length = b.length → Bytes a → Bytes b → v < 256 → gmul (gpow v i) (peval a v ^^^ peval b v) = esum (diffs i a b) (fun p => gmul p.2 (gpow v p.1))
  | [], [], i, v, _, _, _, _ => by simp [diffs, peval, esum, gmul_zero]
  | [], _ :: _, _, _, h, _, _, _ => by simp at h
  | _ :: _, [], _, _, h, _, _, _ => by simp at h
  | a :: as, b :: bs, i, v, h, ha, hb, hv => by
    have ba : Bytes as := fun x hx => ha x (by simp [hx])
    have bb : Bytes bs := fun x hx => hb x (by simp [hx])
    have ih := diffs_eval as bs (i + 1) v (by simpa using h) ba bb hv
    have xa := ha a (by simp)
    have xb := hb b (by simp)
    have pa := peval_lt ba v
    have pb := peval_lt bb v
    have hx : gmul (gpow v i) (peval (a :: as) v ^^^ peval (b :: bs) v) = gmul (gpow v (i + 1)) (peval as v ^^^ peval bs v) ^^^ gmul (a ^^^ b) (gpow v i) := by
      rw [peval_cons, peval_cons, xor4, gmul_sum, ← sum_gmul v pa pb]
      refine congr (congrArg HXor.hXor ?_) ?_
      · show _ = gmul (gmul (gpow v i) v) (peval as v ^^^ peval bs v)
        rw [gmul_comm (xlt pa pb) hv, ← gmul_assoc (gpow_lt i) hv (xlt pa pb)]
      · rw [gmul_comm (gpow_lt i) (xlt xa xb)]
    rw [hx, ih, diffs_cons]
    by_cases e : a = b
    · rw [if_pos e, e, Nat.xor_self, zero_gmul, Nat.xor_zero]
    · rw [if_neg e, esum_cons, Nat.xor_comm]
theorem diffs_none : ∀ (a b : List Nat) (i : Nat), a.length = b.length → diffs i a b = [] → a = b
  | [], [], _, _, _ => rfl
  | [], _ :: _, _, h, _ => by simp at h
  | _ :: _, [], _, h, _ => by simp at h
  | a :: as, b :: bs, i, h, e => by
    unfold diffs at e
    split at e
    · rename_i q
      rw [q, diffs_none as bs (i + 1) (by simpa using h) e]
    · simp at e
theorem diffs_self : ∀ (a : List Nat) (i : Nat), diffs i a a = []
  | [], _ => rfl
  | a :: as, i => by unfold diffs; rw [if_pos rfl]; exact diffs_self as (i + 1)
theorem diffs_syn {x w : List Nat} {t : Nat} (hl : x.length = w.length) (hx : Bytes x) (hw : Bytes w) (h0 : (synd w t).all (· == 0) = true) : Syn (synd x t) (pts (diffs 0 x w)) := by
  have hm := diffs_mem x w 0 hl hx hw
  refine ⟨pts_Pts (fun p hp => (hm p hp).2.2.1), synd_bytes hx t, fun i hi => ?_⟩
  rw [synd_length] at hi
  have z := all_zero h0 i
  rw [synd_getD _ hi] at z
  rw [synd_getD _ hi, psum_pts, ← diffs_eval x w 0 _ hl hx hw (gpow_lt _), z, Nat.xor_zero]
  show _ = gmul 1 _
  rw [one_gmul (peval_lt hx _)]
theorem diffs_errs {x w : List Nat} (hl : x.length = w.length) (h24 : x.length ≤ 24) (hx : Bytes x) (hw : Bytes w) : Errs (pts (diffs 0 x w)) := by
  have hm := diffs_mem x w 0 hl hx hw
  refine ⟨pts_Pts (fun p hp => (hm p hp).2.2.1), ?_, ?_, ?_⟩
  · unfold pts
    rw [List.map_map, List.nodup_iff_pairwise_ne, List.pairwise_map]
    refine List.Pairwise.imp_of_mem ?_ (diffs_inc x w 0)
    intro a b ha hb hab e
    have := gpow3_inj' (p := a.1) (q := b.1) (by have := hm a ha; omega) (by have := hm b hb; omega) e
    omega
  · intro q hq
    obtain ⟨p, hp, rfl⟩ := List.mem_map.1 hq
    exact gpow3_ne _
  · intro q hq
    obtain ⟨p, hp, rfl⟩ := List.mem_map.1 hq
    exact (hm p hp).2.2.2
theorem spaced {x w : List Nat} {t : Nat} (hl : x.length = w.length) (h24 : x.length ≤ 24) (hx : Bytes x) (hw : Bytes w) (h0 : (synd w t).all (· == 0) = true) (h1 : (synd x t).all (· == 0) = true) (hd : (diffs 0 x w).length ≤ 2 * t) : x = w := by
  have hS := diffs_syn hl hx hw h0
  have hE := diffs_errs hl h24 hx hw
  apply diffs_none x w 0 hl
  apply List.eq_nil_iff_forall_not_mem.2
  intro p hp
  have hz := vand2 (E := pts (diffs 0 x w)) hE.pts hE.nod hE.x0 (b := 1) (n := 2 * t) (by simpa [pts] using hd) (by
    intro m m1 m2
    have := hS.at_ (m - 1) (by rw [synd_length]; omega)
    rw [show m - 1 + 1 = m by omega, all_zero h1] at this
    exact this.symm) (gpow 3 p.1, p.2) (List.mem_map.2 ⟨p, hp, rfl⟩)
  exact hE.e0 _ (List.mem_map.2 ⟨p, hp, rfl⟩) hz
end Go.Proofs.Ytbloniemhkfnlaa.K
