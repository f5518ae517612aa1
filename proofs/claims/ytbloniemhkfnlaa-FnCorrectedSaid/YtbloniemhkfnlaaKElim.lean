import Derived.Test.YtbloniemhkfnlaaKGFL
set_option linter.unusedVariables false
set_option linter.unusedSimpArgs false
namespace Go.Proofs.Ytbloniemhkfnlaa.K
open Go Go.RowKit Go.Proofs.YtbloniemhkfnlaaW.PrintWords Go.Proofs.YtbloniemhkfnlaaW.PrintMore

def scl (f:Nat) (r:List Nat):List Nat:=r.map (fun x=>gmul f x)
def addr (a b:List Nat):List Nat:=List.zipWith (fun x y=>x ^^^ y) a b
def row (R:List (List Nat)) (i:Nat):List Nat:=R.getD i []
def ent (R:List (List Nat)) (i j:Nat):Nat:=(row R i).getD j 0
theorem cs_ (f:Nat) (r:List Nat):(scl f r).length=r.length:=by simp [scl]
theorem addr_length {a b:List Nat} (h:a.length=b.length):(addr a b).length=a.length:=by simp [addr,h]
theorem dz_ {f:Nat} (hf:f<256) (r:List Nat):Bytes (scl f r):=by
  intro x hx
  obtain ⟨y,_,rfl⟩:=List.mem_map.1 hx
  exact cg_ hf
theorem addr_bytes {a b:List Nat} (ha:Bytes a) (hb:Bytes b):Bytes (addr a b):=by
  intro x hx
  obtain ⟨i,hi,rfl⟩:=List.mem_iff_getElem.1 hx
  simp only [addr,List.getElem_zipWith]
  exact xlt (ha _ (List.getElem_mem _)) (hb _ (List.getElem_mem _))
theorem scl_take (f n:Nat) (r:List Nat):(scl f r).take n=scl f (r.take n):=by simp [scl,List.map_take]
theorem scl_drop (f n:Nat) (r:List Nat):(scl f r).drop n=scl f (r.drop n):=by simp [scl,List.map_drop]
theorem addr_take (n:Nat) (a b:List Nat):(addr a b).take n=addr (a.take n) (b.take n):=by simp [addr,List.take_zipWith]
theorem addr_drop (n:Nat) (a b:List Nat):(addr a b).drop n=addr (a.drop n) (b.drop n):=by simp [addr,List.drop_zipWith]
theorem Bytes.take {r:List Nat} (h:Bytes r) (n:Nat):Bytes (r.take n):=fun x hx=>h x (List.mem_of_mem_take hx)
theorem Bytes.drop {r:List Nat} (h:Bytes r) (n:Nat):Bytes (r.drop n):=fun x hx=>h x (List.mem_of_mem_drop hx)
theorem Bytes.getD {r:List Nat} (h:Bytes r) (j:Nat):r.getD j 0<256:=by
  rw [List.getD_eq_getElem?_getD]
  cases e:r[j]? with
  | none=>simp
  | some x=>exact h x (List.mem_of_getElem? e)

structure Mat (n w:Nat) (R:List (List Nat)):Prop where
  len:R.length=n
  wid:∀ r∈R,r.length=w
  byt:∀ r∈R,Bytes r
theorem row_eq {R:List (List Nat)} {i:Nat} (h:i<R.length):row R i=R[i]:=by simp [row,h]
theorem row_mem {R:List (List Nat)} {i:Nat} (h:i<R.length):row R i∈R:=by rw [row_eq h];exact List.getElem_mem h
theorem row_out {R:List (List Nat)} {i:Nat} (h:R.length≤i):row R i=[]:=by simp [row,h]
theorem Mat.cf_ {n w:Nat} {R:List (List Nat)} (h:Mat n w R) {i:Nat} (hi:i<n):(row R i).length=w:=h.wid _ (row_mem (by rw [h.len];exact hi))
theorem Mat.de_ {n w:Nat} {R:List (List Nat)} (h:Mat n w R) (i:Nat):Bytes (row R i):=by
  rcases Nat.lt_or_ge i R.length with q|q
  · exact h.byt _ (row_mem q)
  · rw [row_out q];intro x hx;simp at hx
theorem Mat.ent_lt {n w:Nat} {R:List (List Nat)} (h:Mat n w R) (i j:Nat):ent R i j<256:=(h.de_ i).getD j
theorem Mat.set {n w:Nat} {R:List (List Nat)} (h:Mat n w R) (i:Nat) {r:List Nat} (hr:r.length=w) (hb:Bytes r):Mat n w (R.set i r):=by
  refine ⟨by simpa using h.len,fun x hx=>?_,fun x hx=>?_⟩
  · rcases List.mem_or_eq_of_mem_set hx with q|rfl
    · exact h.wid x q
    · exact hr
  · rcases List.mem_or_eq_of_mem_set hx with q|rfl
    · exact h.byt x q
    · exact hb
theorem row_set {R:List (List Nat)} {i:Nat} (h:i<R.length) (r:List Nat) (k:Nat):row (R.set i r) k=if i=k then r else row R k:=by
  unfold row
  simp only [List.getD_eq_getElem?_getD]
  rw [List.getElem?_set]
  by_cases e:i=k
  · subst e;simp [h]
  · simp [e]

def clr (a j i:Nat) (R:List (List Nat)):List (List Nat):=if i=a∨ent R i j=0 then R else R.set i (addr (row R i) (scl (ent R i j) (row R a)))
def clrs (a j:Nat):Nat→Nat→List (List Nat)→List (List Nat)
  | 0,_,R=>R
  | d+1,i,R=>clrs a j d (i+1) (clr a j i R)
def piv (R:List (List Nat)) (j:Nat):Nat→Nat→Nat
  | 0,i=>i
  | d+1,i=>if ent R i j=0 then piv R j d (i+1) else i
def lead (a j p:Nat) (R:List (List Nat)):List (List Nat):=(R.set p (row R a)).set a (scl (ginv (ent R p j)) (row R p))
def estep (a j p:Nat) (R:List (List Nat)):List (List Nat):=clrs a j R.length 0 (lead a j p R)
def elim:Nat→Nat→Nat→List (List Nat)→List (List Nat) × Nat
  | 0,a,_,R=>(R,a)
  | d+1,a,j,R=>if a<R.length then (if piv R j (R.length - a) a<R.length then elim d (a+1) (j+1) (estep a j (piv R j (R.length - a) a) R) else elim d a (j+1) R) else (R,a)
theorem clr_mat {n w a j i:Nat} {R:List (List Nat)} (h:Mat n w R) (ha:a<n) (hi:i<n):Mat n w (clr a j i R):=by
  unfold clr
  split
  · exact h
  · refine h.set i ?_ ?_
    · rw [addr_length (by rw [cs_,h.cf_ ha,h.cf_ hi]),h.cf_ hi]
    · exact addr_bytes (h.de_ i) (dz_ (h.ent_lt i j) _)
theorem clrs_mat {n w a j:Nat} (ha:a<n):∀ (d i:Nat) (R:List (List Nat)),Mat n w R→i+d≤n→Mat n w (clrs a j d i R)
  | 0,_,R,h,_=>h
  | d+1,i,R,h,hd=>clrs_mat ha d (i+1) _ (clr_mat h ha (by omega)) (by omega)
theorem piv_ge (R:List (List Nat)) (j:Nat):∀ (d i:Nat),i≤piv R j d i∧piv R j d i≤i+d
  | 0,i=>by simp [piv]
  | d+1,i=>by
    unfold piv
    split
    · have:=piv_ge R j d (i+1);omega
    · omega
theorem piv_ne (R:List (List Nat)) (j:Nat):∀ (d i:Nat),piv R j d i<i+d→ent R (piv R j d i) j≠0
  | 0,i,h=>by simp [piv] at h
  | d+1,i,h=>by
    unfold piv at h ⊢
    by_cases e:ent R i j=0
    · rw [if_pos e] at h ⊢
      exact piv_ne R j d (i+1) (by omega)
    · rw [if_neg e];exact e
theorem piv_none (R:List (List Nat)) (j:Nat):∀ (d i:Nat),piv R j d i=i+d→∀ k,i≤k→k<i+d→ent R k j=0
  | 0,i,h,k,h1,h2=>by omega
  | d+1,i,h,k,h1,h2=>by
    unfold piv at h
    by_cases e:ent R i j=0
    · rw [if_pos e] at h
      rcases Nat.eq_or_lt_of_le h1 with rfl|q
      · exact e
      · exact piv_none R j d (i+1) (by omega) k (by omega) (by omega)
    · rw [if_neg e] at h;omega
theorem lead_mat {n w a j p:Nat} {R:List (List Nat)} (h:Mat n w R) (ha:a<n) (hp:p<n):Mat n w (lead a j p R):=by
  unfold lead
  refine (h.set p (h.cf_ ha) (h.de_ a)).set a ?_ (dz_ (dA_ _) _)
  rw [cs_,h.cf_ hp]
theorem estep_mat {n w a j p:Nat} {R:List (List Nat)} (h:Mat n w R) (ha:a<n) (hp:p<n):Mat n w (estep a j p R):=by
  unfold estep
  exact clrs_mat ha _ 0 _ (lead_mat h ha hp) (by rw [h.len];omega)
theorem elim_mat {n w:Nat} : ∀ (d a j:Nat) (R:List (List Nat)),Mat n w R→Mat n w (elim d a j R).1
  | 0,a,j,R,h=>h
  | d+1,a,j,R,h=>by
    unfold elim
    by_cases h1:a<R.length
    · rw [if_pos h1]
      by_cases h2:piv R j (R.length - a) a<R.length
      · rw [if_pos h2]
        exact elim_mat d _ _ _ (estep_mat h (by rw [← h.len];exact h1) (by rw [← h.len];exact h2))
      · rw [if_neg h2]
        exact elim_mat d _ _ _ h
    · rw [if_neg h1];exact h
theorem elim_rank {n w:Nat} : ∀ (d a j:Nat) (R:List (List Nat)),Mat n w R→a≤n→a≤(elim d a j R).2∧(elim d a j R).2≤n∧(elim d a j R).2≤a+d
  | 0,a,j,R,h,ha=>⟨Nat.le_refl _,ha,Nat.le_refl _⟩
  | d+1,a,j,R,h,ha=>by
    unfold elim
    by_cases h1:a<R.length
    · rw [if_pos h1]
      by_cases h2:piv R j (R.length - a) a<R.length
      · rw [if_pos h2]
        have:=elim_rank d (a+1) (j+1) _ (estep_mat (p:=piv R j (R.length - a) a) (j:=j) h (by rw [← h.len];exact h1) (by rw [← h.len];exact h2)) (by rw [← h.len];exact h1)
        omega
      · rw [if_neg h2]
        have:=elim_rank d a (j+1) R h ha
        omega
    · rw [if_neg h1];exact ⟨Nat.le_refl _,ha,by omega⟩

def ill (R:List (List Nat)):List (List Int):=R.map il
theorem bO_ (R:List (List Nat)):(ill R).length=R.length:=by simp [ill]
theorem il_getD (r:List Nat) (j:Nat):rd (il r) (j:Int)=((r.getD j 0:Nat):Int):=by
  rcases Nat.lt_or_ge j r.length with q|q
  · rw [dd_ q];simp [q]
  · rw [rd_out (by rw [bn_];exact q)];simp [q]
theorem ill_row (R:List (List Nat)) (i:Nat):(ill R).getD ((i:Int)).toNat ([]:List Int)=il (row R i):=by
  simp only [Int.toNat_natCast,row,ill,List.getD_eq_getElem?_getD,List.getElem?_map]
  cases R[i]? <;> simp [il]
theorem ill_set (R:List (List Nat)) (i:Nat) (r:List Nat):(ill R).set i (il r)=ill (R.set i r):=by simp [ill,List.map_set]
theorem ill_snoc (R:List (List Nat)) (r:List Nat):ill R++[il r]=ill (R++[r]):=by simp [ill]
theorem il_append (a b:List Nat):il a++il b=il (a++b):=by simp [il]
theorem il_take (a:List Nat) (n:Nat):(il a).take n=il (a.take n):=by simp [il,List.map_take]
theorem il_drop (a:List Nat) (n:Nat):(il a).drop n=il (a.drop n):=by simp [il,List.map_drop]
def lft (c:Nat) (R:List (List Nat)):List (List Nat):=R.map (List.take c)
def rgt (c:Nat) (R:List (List Nat)):List (List Nat):=R.map (List.drop c)
theorem lft_length (c:Nat) (R:List (List Nat)):(lft c R).length=R.length:=by simp [lft]
theorem rgt_length (c:Nat) (R:List (List Nat)):(rgt c R).length=R.length:=by simp [rgt]
theorem lft_row (c:Nat) (R:List (List Nat)) (i:Nat):row (lft c R) i=(row R i).take c:=by
  simp only [row,lft,List.getD_eq_getElem?_getD,List.getElem?_map]
  cases R[i]? <;> simp
theorem rgt_row (c:Nat) (R:List (List Nat)) (i:Nat):row (rgt c R) i=(row R i).drop c:=by
  simp only [row,rgt,List.getD_eq_getElem?_getD,List.getElem?_map]
  cases R[i]? <;> simp
theorem lft_set (c:Nat) (R:List (List Nat)) (i:Nat) (r:List Nat):(lft c R).set i (r.take c)=lft c (R.set i r):=by simp [lft,List.map_set]
theorem rgt_set (c:Nat) (R:List (List Nat)) (i:Nat) (r:List Nat):(rgt c R).set i (r.drop c)=rgt c (R.set i r):=by simp [rgt,List.map_set]
theorem take_getD {r:List Nat} {c j:Nat} (h:j<c):(r.take c).getD j 0=r.getD j 0:=by
  simp [List.getD_eq_getElem?_getD,List.getElem?_take,h]
theorem swap_set (R:List (List Nat)) (a p:Nat) (u v w:List Nat) (h:p=a→u=v):((R.set a u).set p v).set a w=(R.set p v).set a w:=by
  by_cases e:a=p
  · subst e;simp
  · rw [List.set_comm _ _ e,List.set_set]

theorem scl_snoc (f:Nat) (r:List Nat) (x:Nat):scl f (r++[x])=scl f r++[gmul f x]:=by simp [scl]
theorem addr_succ {a b:List Nat} {i:Nat} (ha:i<a.length) (hb:i<b.length):addr (a.take (i+1)) (b.take (i+1))=addr (a.take i) (b.take i)++[a[i] ^^^ b[i]]:=by
  rw [← addr_take,← addr_take,db_ _ _ (by simp [addr];omega)]
  simp [addr]
def dotp:List Nat→List Nat→Nat
  | x :: xs,y :: ys=>gmul x y ^^^ dotp xs ys
  | _,_=>0
theorem dotp_lt:∀ (a b:List Nat),Bytes a→dotp a b<256
  | [],_,_=>by simp [dotp]
  | x :: xs,[],_=>by simp [dotp]
  | x :: xs,y :: ys,h=>xlt (cg_ (h x (by simp))) (dotp_lt xs ys (fun z hz=>h z (by simp [hz])))
theorem dotp_drop {a b:List Nat} {i:Nat} (ha:i<a.length) (hb:i<b.length):dotp (a.drop i) (b.drop i)=gmul a[i] b[i] ^^^ dotp (a.drop (i+1)) (b.drop (i+1)):=by
  rw [List.drop_eq_getElem_cons ha,List.drop_eq_getElem_cons hb,dotp]
def app (R:List (List Nat)) (v:List Nat):List Nat:=R.map (fun r=>dotp r v)
def unit (n i:Nat):List Nat:=(List.replicate n 0).set i 1
def idm (n:Nat):List (List Nat):=(List.range n).map (unit n)
theorem unit_length (n i:Nat):(unit n i).length=n:=by simp [unit]
theorem unit_bytes (n i:Nat):Bytes (unit n i):=by
  intro x hx
  rcases List.mem_or_eq_of_mem_set hx with q|rfl
  · have:=List.eq_of_mem_replicate q;omega
  · omega
theorem idm_mat (n:Nat):Mat n n (idm n):=by
  refine ⟨by simp [idm],fun r hr=>?_,fun r hr=>?_⟩ <;> obtain ⟨i,_,rfl⟩:=List.mem_map.1 hr
  · exact unit_length n i
  · exact unit_bytes n i
theorem il_zeros (n:Nat):List.replicate n (0:Int)=il (List.replicate n 0):=by simp [il]
theorem il_unit (n i:Nat):(List.replicate n (0:Int)).set i 1=il (unit n i):=by simp [il,unit,List.map_set]
theorem idm_row {n i:Nat} (h:i<n):row (idm n) i=unit n i:=by simp [row,idm,h]
def beside (A B:List (List Nat)):List (List Nat):=List.zipWith (fun a b=>a++b) A B
theorem dh_ {n u v:Nat} {A B:List (List Nat)} (hA:Mat n u A) (hB:Mat n v B):Mat n (u+v) (beside A B):=by
  refine ⟨by simp [beside,hA.len,hB.len],fun r hr=>?_,fun r hr=>?_⟩ <;> obtain ⟨i,hi,rfl⟩:=List.mem_iff_getElem.1 hr <;> simp only [beside,List.getElem_zipWith]
  · rw [List.length_append,hA.wid _ (List.getElem_mem _),hB.wid _ (List.getElem_mem _)]
  · intro x hx
    rcases List.mem_append.1 hx with q|q
    · exact hA.byt _ (List.getElem_mem _) x q
    · exact hB.byt _ (List.getElem_mem _) x q
theorem beside_lft {n u v:Nat} {A B:List (List Nat)} (hA:Mat n u A) (hB:Mat n v B):lft u (beside A B)=A:=by
  apply List.ext_getElem
  · simp [lft,beside,hA.len,hB.len]
  · intro i h1 h2
    simp only [lft,beside,List.getElem_map,List.getElem_zipWith]
    rw [List.take_append_of_le_length (by rw [hA.wid _ (List.getElem_mem _)];omega),List.take_of_length_le (by rw [hA.wid _ (List.getElem_mem _)];omega)]
theorem beside_rgt {n u v:Nat} {A B:List (List Nat)} (hA:Mat n u A) (hB:Mat n v B):rgt u (beside A B)=B:=by
  apply List.ext_getElem
  · simp [rgt,beside,hA.len,hB.len]
  · intro i h1 h2
    simp only [rgt,beside,List.getElem_map,List.getElem_zipWith]
    rw [List.drop_append_of_le_length (by rw [hA.wid _ (List.getElem_mem _)];omega),List.drop_of_length_le (by rw [hA.wid _ (List.getElem_mem _)];omega),List.nil_append]
def minv (R:List (List Nat)):List (List Nat) × Nat:=((rgt R.length (elim R.length 0 0 (beside R (idm R.length))).1),(elim R.length 0 0 (beside R (idm R.length))).2)
theorem cU_ {n:Nat} {R:List (List Nat)} (h:Mat n n R):Mat n n (minv R).1:=by
  have hm:=elim_mat n 0 0 _ (dh_ h (idm_mat n))
  unfold minv
  rw [h.len]
  refine ⟨by rw [rgt_length];exact hm.len,fun r hr=>?_,fun r hr=>?_⟩ <;> obtain ⟨q,hq,rfl⟩:=List.mem_map.1 hr
  · rw [List.length_drop,hm.wid q hq];omega
  · exact (hm.byt q hq).drop n
theorem minv_rank {n:Nat} {R:List (List Nat)} (h:Mat n n R):(minv R).2≤n:=by
  have:=elim_rank n 0 0 _ (dh_ h (idm_mat n)) (by omega)
  unfold minv
  rw [h.len]
  exact this.2.1

def hrow (s:List Nat) (n i:Nat):List Nat:=(s.drop i).take n
def hank (s:List Nat) (n:Nat):List (List Nat):=(List.range n).map (hrow s n)
theorem cO_ {s:List Nat} {n i:Nat} (h:i+n≤s.length):(hrow s n i).length=n:=by simp [hrow];omega
theorem hrow_bytes {s:List Nat} (h:Bytes s) (n i:Nat):Bytes (hrow s n i):=(h.drop i).take n
theorem hank_mat {s:List Nat} (hb:Bytes s) {n:Nat} (h:n+n≤s.length):Mat n n (hank s n):=by
  refine ⟨by simp [hank],fun r hr=>?_,fun r hr=>?_⟩ <;> obtain ⟨i,hi,rfl⟩:=List.mem_map.1 hr
  · have:=List.mem_range.1 hi
    exact cO_ (by omega)
  · exact hrow_bytes hb n i
theorem hrow_get {s:List Nat} {n i:Nat} (h:i+n≤s.length):(List.range n).map (fun k=>s.getD (i+k) 0)=hrow s n i:=by
  apply List.ext_getElem
  · rw [cO_ h];simp
  · intro k h1 h2
    have hk:k<n:=by simpa using h1
    simp only [List.getElem_map,List.getElem_range,hrow,List.getElem_take,List.getElem_drop]
    simp [show i+k<s.length by omega]
def loc (s:List Nat):Nat→List Nat
  | 0=>[1]
  | n+1=>if (minv (hank s (n+1))).2=n+1 then 1 :: (app (minv (hank s (n+1))).1 (hrow s (n+1) (n+1))).reverse else loc s n
end Go.Proofs.Ytbloniemhkfnlaa.K
