import Derived.Test.YtbloniemhkfnlaaKElim
import Derived.Test.YtbloniemhkfnlaaKLag
set_option linter.unusedVariables false
set_option linter.unusedSimpArgs false
namespace Go.Proofs.Ytbloniemhkfnlaa.K
open Go Go.RowKit Go.Proofs.YtbloniemhkfnlaaW.PrintWords Go.Proofs.YtbloniemhkfnlaaW.PrintMore

theorem dotp_addr:∀ (a b y:List Nat),a.length=b.length→Bytes a→Bytes b→dotp (addr a b) y=dotp a y ^^^ dotp b y
  | [],[],_,_,_,_=>by simp [addr,dotp]
  | [],_ :: _,_,h,_,_=>by simp at h
  | _ :: _,[],_,h,_,_=>by simp at h
  | a :: as,b :: bs,[],_,_,_=>by simp [addr,dotp]
  | a :: as,b :: bs,y :: ys,h,ha,hb=>by
    have ih:=dotp_addr as bs ys (by simpa using h) (fun x hx=>ha x (by simp [hx])) (fun x hx=>hb x (by simp [hx]))
    show gmul (a ^^^ b) y ^^^ dotp (addr as bs) ys=(gmul a y ^^^ dotp as ys) ^^^ (gmul b y ^^^ dotp bs ys)
    rw [ih,cN_ y (ha a (by simp)) (hb b (by simp)),xor4]
theorem dotp_scl (f:Nat) (hf:f<256):∀ (a y:List Nat),Bytes a→Bytes y→dotp (scl f a) y=gmul f (dotp a y)
  | [],_,_,_=>by simp [scl,dotp,bD_]
  | a :: as,[],_,_=>by simp [scl,dotp,bD_]
  | a :: as,y :: ys,ha,hy=>by
    have ih:=dotp_scl f hf as ys (fun x hx=>ha x (by simp [hx])) (fun x hx=>hy x (by simp [hx]))
    have q:=ha a (by simp)
    have u:=hy y (by simp)
    show gmul (gmul f a) y ^^^ dotp (scl f as) ys=gmul f (gmul a y ^^^ dotp as ys)
    rw [ih,cT_,bS_ hf q u]
theorem dotp_single:∀ (r y:List Nat) (p:Nat),p<r.length→r.length=y.length→(∀ q,q≠p→r.getD q 0=0∨y.getD q 0=0)→dotp r y=gmul (r.getD p 0) (y.getD p 0)
  | [],_,_,h,_,_=>by simp at h
  | _ :: _,[],_,_,h,_=>by simp at h
  | a :: as,b :: bs,0,_,hl,h=>by
    have hz:∀ (u v:List Nat),(∀ q:Nat,u.getD q 0=0∨v.getD q 0=0)→dotp u v=0:=by
      intro u
      induction u with
      | nil=>intro v _;simp [dotp]
      | cons x xs ih =>
        intro v hv
        cases v with
        | nil=>simp [dotp]
        | cons z zs =>
          have e0:gmul x z=0:=by
            rcases hv 0 with q|q
            · simp at q;rw [q,ct_]
            · simp at q;rw [q,bD_]
          show gmul x z ^^^ dotp xs zs=0
          rw [e0,ih zs (fun q=>by have:=hv (q+1);simpa using this)]
          rfl
    show gmul a b ^^^ dotp as bs=_
    rw [hz as bs (fun q=>by have:=h (q+1) (by omega);simpa using this),Nat.xor_zero]
    rfl
  | a :: as,b :: bs,p+1,hp,hl,h=>by
    have ih:=dotp_single as bs p (by simpa using hp) (by simpa using hl) (fun q hq=>by have:=h (q+1) (by omega);simpa using this)
    have e0:gmul a b=0:=by
      rcases h 0 (by omega) with q|q
      · simp at q;rw [q,ct_]
      · simp at q;rw [q,bD_]
    show gmul a b ^^^ dotp as bs=_
    rw [e0,Nat.zero_xor,ih]
    simp
theorem dotp_zeros:∀ (a:List Nat) (n:Nat),dotp a (List.replicate n 0)=0
  | [],_=>by simp [dotp]
  | a :: as,0=>by simp [dotp]
  | a :: as,n+1=>by
    show gmul a 0 ^^^ dotp as (List.replicate n 0)=0
    rw [bD_,dotp_zeros as n];rfl
theorem dotp_append:∀ (a b y z:List Nat),a.length=y.length→dotp (a++b) (y++z)=dotp a y ^^^ dotp b z
  | [],b,[],z,_=>by simp [dotp]
  | [],_,_ :: _,_,h=>by simp at h
  | _ :: _,_,[],_,h=>by simp at h
  | a :: as,b,y :: ys,z,h=>by
    show gmul a y ^^^ dotp (as++b) (ys++z)=(gmul a y ^^^ dotp as ys) ^^^ dotp b z
    rw [dotp_append as b ys z (by simpa using h),Nat.xor_assoc]
theorem dotp_set:∀ (r y:List Nat) (p x:Nat),r.length=y.length→p<r.length→y.getD p 0=0→dotp r (y.set p x)=dotp r y ^^^ gmul (r.getD p 0) x
  | [],_,_,_,_,h,_=>by simp at h
  | _ :: _,[],_,_,h,_,_=>by simp at h
  | a :: as,b :: bs,0,x,_,_,h=>by
    simp at h
    show gmul a x ^^^ dotp as bs=(gmul a b ^^^ dotp as bs) ^^^ gmul a x
    rw [h,bD_,Nat.zero_xor,Nat.xor_comm]
  | a :: as,b :: bs,p+1,x,hl,hp,h=>by
    have ih:=dotp_set as bs p x (by simpa using hl) (by simpa using hp) (by simpa using h)
    show gmul a b ^^^ dotp as (bs.set p x)=(gmul a b ^^^ dotp as bs) ^^^ gmul (as.getD p 0) x
    rw [ih,Nat.xor_assoc]

theorem addr_getD {a b:List Nat} (h:a.length=b.length) (q:Nat):(addr a b).getD q 0=a.getD q 0 ^^^ b.getD q 0:=by
  simp only [addr,List.getD_eq_getElem?_getD,List.getElem?_zipWith]
  rcases Nat.lt_or_ge q a.length with e|e
  · simp [e,show q<b.length by omega]
  · simp [e,show b.length≤q by omega]
theorem scl_getD (f:Nat) (a:List Nat) (q:Nat):(scl f a).getD q 0=gmul f (a.getD q 0):=by
  simp only [scl,List.getD_eq_getElem?_getD,List.getElem?_map]
  rcases Nat.lt_or_ge q a.length with e|e
  · simp [e]
  · simp [e,bD_]
theorem cu_ {a b:List Nat} (h:a.length=b.length) (g:∀ q,a.getD q 0=b.getD q 0):a=b:=by
  apply List.ext_getElem h
  intro i h1 h2
  have:=g i
  simpa [h1,h2] using this
def crow (a j i:Nat) (R:List (List Nat)):List Nat:=if i=a then row R a else addr (row R i) (scl (ent R i j) (row R a))
theorem clr_row {n w a j i:Nat} {R:List (List Nat)} (h:Mat n w R) (ha:a<n) (hi:i<n) (k:Nat):row (clr a j i R) k=if k=i then crow a j i R else row R k:=by
  unfold clr crow
  by_cases e:i=a∨ent R i j=0
  · rw [if_pos e]
    by_cases ki:k=i
    · subst ki
      rw [if_pos rfl]
      by_cases ea:k=a
      · rw [if_pos ea,ea]
      · rw [if_neg ea]
        have z:ent R k j=0:=by rcases e with q|q;exact absurd q ea;exact q
        rw [z]
        apply cu_
        · rw [addr_length (by rw [cs_,h.cf_ hi,h.cf_ ha])]
        · intro q
          rw [addr_getD (by rw [cs_,h.cf_ hi,h.cf_ ha]),scl_getD,ct_,Nat.xor_zero]
    · rw [if_neg ki]
  · rw [if_neg e,row_set (by rw [h.len];exact hi)]
    by_cases ki:i=k
    · rw [if_pos ki,if_pos ki.symm,if_neg (fun q=>e (Or.inl q))]
    · rw [if_neg ki,if_neg (fun q=>ki q.symm)]
theorem clrs_row {n w a j:Nat} (ha:a<n):∀ (d i:Nat) (R:List (List Nat)),Mat n w R→i+d≤n→∀ k,row (clrs a j d i R) k=if i≤k∧k<i+d then crow a j k R else row R k
  | 0,i,R,h,hd,k=>by
    rw [if_neg (by omega)];rfl
  | d+1,i,R,h,hd,k=>by
    have hi:i<n:=by omega
    have hc:=clr_row (j:=j) h ha hi
    have ih:=clrs_row (j:=j) ha d (i+1) (clr a j i R) (clr_mat h ha hi) (by omega) k
    show row (clrs a j d (i+1) (clr a j i R)) k=_
    rw [ih]
    have ra:row (clr a j i R) a=row R a:=by
      rw [hc a]
      by_cases e:a=i
      · rw [if_pos e,← e];unfold crow;rw [if_pos rfl]
      · rw [if_neg e]
    by_cases e:i+1≤k∧k<i+1+d
    · rw [if_pos e,if_pos (by omega)]
      have rk:row (clr a j i R) k=row R k:=by rw [hc k,if_neg (by omega)]
      unfold crow ent
      rw [ra,rk]
    · rw [if_neg e,hc k]
      by_cases q:k=i
      · rw [if_pos q,if_pos (by omega),q]
      · rw [if_neg q,if_neg (by omega)]
def sw (a p i:Nat):Nat:=if i=p then a else i
def nrow (a j p i:Nat) (R:List (List Nat)):List Nat:=if i=a then scl (ginv (ent R p j)) (row R p) else addr (row R (sw a p i)) (scl (ent R (sw a p i) j) (scl (ginv (ent R p j)) (row R p)))
theorem lead_row {n w a j p:Nat} {R:List (List Nat)} (h:Mat n w R) (ha:a<n) (hp:p<n) (i:Nat):row (lead a j p R) i=if i=a then scl (ginv (ent R p j)) (row R p) else row R (sw a p i):=by
  unfold lead sw
  rw [row_set (by simp [h.len];exact ha)]
  by_cases e:a=i
  · rw [if_pos e,if_pos e.symm]
  · rw [if_neg e,if_neg (fun q=>e q.symm),row_set (by rw [h.len];exact hp)]
    by_cases q:p=i
    · rw [if_pos q,if_pos q.symm]
    · rw [if_neg q,if_neg (fun u=>q u.symm)]
theorem estep_row {n w a j p:Nat} {R:List (List Nat)} (h:Mat n w R) (ha:a<n) (hp:p<n) {i:Nat} (hi:i<n):row (estep a j p R) i=nrow a j p i R:=by
  unfold estep
  rw [h.len,clrs_row ha n 0 _ (lead_mat h ha hp) (by omega),if_pos (by omega)]
  unfold crow nrow
  have ra:row (lead a j p R) a=scl (ginv (ent R p j)) (row R p):=by rw [lead_row h ha hp,if_pos rfl]
  by_cases e:i=a
  · rw [if_pos e,if_pos e,ra]
  · have ri:row (lead a j p R) i=row R (sw a p i):=by rw [lead_row h ha hp,if_neg e]
    rw [if_neg e,if_neg e,ra,ri]
    unfold ent
    rw [ri]
theorem sw_lt {n a p i:Nat} (ha:a<n) (hi:i<n):sw a p i<n:=by unfold sw;split <;> omega
theorem estep_ent {n w a j p:Nat} {R:List (List Nat)} (h:Mat n w R) (ha:a<n) (hp:p<n) {i:Nat} (hi:i<n) (q:Nat):ent (estep a j p R) i q=if i=a then gmul (ginv (ent R p j)) (ent R p q) else ent R (sw a p i) q ^^^ gmul (ent R (sw a p i) j) (gmul (ginv (ent R p j)) (ent R p q)):=by
  unfold ent
  rw [estep_row h ha hp hi]
  unfold nrow
  by_cases e:i=a
  · rw [if_pos e,if_pos e,scl_getD];rfl
  · rw [if_neg e,if_neg e,addr_getD (by rw [cs_,cs_,h.cf_ hp,h.cf_ (sw_lt ha hi)]),scl_getD,scl_getD];rfl

def Ker (R:List (List Nat)) (y:List Nat):Prop:=∀ i,i<R.length→dotp (row R i) y=0
theorem ginv_ne {x:Nat} (h:x<256) (h0:x≠0):ginv x≠0:=by
  intro e
  have:=gmul_ginv h h0
  rw [e,bD_] at this
  omega
theorem estep_ker {n w a j p:Nat} {R:List (List Nat)} (h:Mat n w R) (ha:a<n) (hp:p<n) (h0:ent R p j≠0) {y:List Nat} (hy:Bytes y):Ker (estep a j p R) y↔Ker R y:=by
  have hm:=estep_mat (j:=j) h ha hp
  have hg:=dA_ (ent R p j)
  have d1:∀ i,i<n→i≠a→dotp (row (estep a j p R) i) y=dotp (row R (sw a p i)) y ^^^ gmul (ent R (sw a p i) j) (gmul (ginv (ent R p j)) (dotp (row R p) y)):=by
    intro i hi ea
    rw [estep_row h ha hp hi]
    unfold nrow
    rw [if_neg ea,dotp_addr _ _ _ (by rw [cs_,cs_,h.cf_ hp,h.cf_ (sw_lt ha hi)]) (h.de_ _) (dz_ (h.ent_lt _ _) _),dotp_scl _ (h.ent_lt _ _) _ _ (dz_ hg _) hy,dotp_scl _ hg _ _ (h.de_ _) hy]
  have d0:dotp (row (estep a j p R) a) y=gmul (ginv (ent R p j)) (dotp (row R p) y):=by
    rw [estep_row h ha hp ha]
    unfold nrow
    rw [if_pos rfl,dotp_scl _ hg _ _ (h.de_ _) hy]
  constructor
  · intro hk i hi
    rw [h.len] at hi
    have z0:dotp (row R p) y=0:=by
      have:=hk a (by rw [hm.len];exact ha)
      rw [d0] at this
      rcases cG_ hg (dotp_lt _ _ (h.de_ p)) this with e|e
      · exact absurd e (ginv_ne (h.ent_lt p j) h0)
      · exact e
    have dz:∀ i,i<n→i≠a→dotp (row R (sw a p i)) y=0:=by
      intro i hi ea
      have:=hk i (by rw [hm.len];exact hi)
      rw [d1 i hi ea,z0,bD_,bD_,Nat.xor_zero] at this
      exact this
    by_cases e:i=p
    · rw [e];exact z0
    · by_cases ea:i=a
      · have:=dz p hp (fun q=>e (ea.trans q.symm))
        unfold sw at this
        rw [if_pos rfl] at this
        rw [ea];exact this
      · have:=dz i hi ea
        unfold sw at this
        rw [if_neg e] at this
        exact this
  · intro hk i hi
    rw [hm.len] at hi
    have z0:=hk p (by rw [h.len];exact hp)
    by_cases ea:i=a
    · rw [ea,d0,z0,bD_]
    · rw [d1 i hi ea,z0,hk _ (by rw [h.len];exact sw_lt ha hi),bD_,bD_];rfl
theorem elim_ker {n w:Nat} {y:List Nat} (hy:Bytes y):∀ (d a j:Nat) (R:List (List Nat)),Mat n w R→(Ker (elim d a j R).1 y↔Ker R y)
  | 0,a,j,R,h=>Iff.rfl
  | d+1,a,j,R,h=>by
    unfold elim
    by_cases h1:a<R.length
    · rw [if_pos h1]
      have pg:=piv_ge R j (R.length - a) a
      have pn:=piv_ne R j (R.length - a) a
      generalize piv R j (R.length - a) a=p at pg pn ⊢
      by_cases h2:p<R.length
      · rw [if_pos h2,elim_ker hy d _ _ _ (estep_mat h (by rw [← h.len];exact h1) (by rw [← h.len];exact h2))]
        exact estep_ker h (by rw [← h.len];exact h1) (by rw [← h.len];exact h2) (pn (by omega)) hy
      · rw [if_neg h2]
        exact elim_ker hy d _ _ _ h
    · rw [if_neg h1]

structure Ech (n:Nat) (R:List (List Nat)) (a j:Nat) (ps:List Nat):Prop where
  len:ps.length=a
  low:∀ k,k<a→ps.getD k 0<j
  inc:∀ k m,k<m→m<a→ps.getD k 0<ps.getD m 0
  one:∀ i k,i<n→k<a→ent R i (ps.getD k 0)=if i=k then 1 else 0
  lft:∀ k,k<a→∀ q,q<ps.getD k 0→ent R k q=0
  zer:∀ i,a≤i→i<n→∀ q,q<j→ent R i q=0
theorem getD_snoc (ps:List Nat) (x k:Nat):(ps++[x]).getD k 0=if k<ps.length then ps.getD k 0 else if k=ps.length then x else 0:=by
  simp only [List.getD_eq_getElem?_getD,List.getElem?_append]
  by_cases e:k<ps.length
  · simp [e]
  · by_cases q:k=ps.length
    · simp [q]
    · simp [e,q,show ¬ (k - ps.length=0) by omega]
theorem estep_ech {n w a j p:Nat} {R:List (List Nat)} {ps:List Nat} (h:Mat n w R) (he:Ech n R a j ps) (ha:a<n) (hap:a≤p) (hp:p<n) (h0:ent R p j≠0):Ech n (estep a j p R) (a+1) (j+1) (ps++[j]):=by
  have E:=fun {i:Nat} (hi:i<n) (q:Nat)=>estep_ent (j:=j) h ha hp hi q
  have hg:=dA_ (ent R p j)
  have g1:gmul (ginv (ent R p j)) (ent R p j)=1:=by rw [ck_ hg (h.ent_lt _ _)];exact gmul_ginv (h.ent_lt _ _) h0
  have gp:∀ k,(ps++[j]).getD k 0=if k<a then ps.getD k 0 else if k=a then j else 0:=by intro k;rw [getD_snoc,he.len]
  have zp:∀ q,q<j→ent R p q=0:=fun q hq=>he.zer p hap hp q hq
  refine ⟨by rw [List.length_append,he.len];rfl,?_,?_,?_,?_,?_⟩
  · intro k hk
    rw [gp]
    by_cases e:k<a
    · rw [if_pos e];have:=he.low k e;omega
    · rw [if_neg e,if_pos (by omega)];omega
  · intro k m hkm hm
    rw [gp,gp,if_pos (show k<a by omega)]
    by_cases e:m<a
    · rw [if_pos e];exact he.inc k m hkm e
    · rw [if_neg e,if_pos (by omega)];exact he.low k (by omega)
  · intro i k hi hk
    rw [gp]
    by_cases e:k<a
    · rw [if_pos e,E hi,zp _ (he.low k e),bD_,bD_,Nat.xor_zero]
      by_cases ia:i=a
      · rw [if_pos ia,if_neg (by omega)]
      · rw [if_neg ia,he.one _ _ (sw_lt ha hi) e]
        unfold sw
        by_cases ip:i=p
        · rw [if_pos ip,if_neg (by omega),if_neg (by omega)]
        · rw [if_neg ip]
    · rw [if_neg e,if_pos (by omega),E hi,g1]
      by_cases ia:i=a
      · rw [if_pos ia,if_pos (by omega)]
      · rw [if_neg ia,cX_ (h.ent_lt _ _),Nat.xor_self,if_neg (by omega)]
  · intro k hk q hq
    rw [gp] at hq
    by_cases e:k<a
    · rw [if_pos e] at hq
      have hj:=he.low k e
      rw [E (by omega),zp q (by omega),bD_,bD_,Nat.xor_zero,if_neg (by omega)]
      unfold sw
      rw [if_neg (by omega)]
      exact he.lft k e q hq
    · have ka:k=a:=by omega
      rw [if_neg e,if_pos ka] at hq
      rw [E (by omega),zp q hq,bD_,if_pos ka]
  · intro i hi hn q hq
    rw [E hn,if_neg (show ¬ i=a by omega)]
    have hs:a≤sw a p i:=by unfold sw;split <;> omega
    by_cases e:q=j
    · rw [e,g1,cX_ (h.ent_lt _ _),Nat.xor_self]
    · rw [zp q (by omega),bD_,bD_,Nat.xor_zero]
      exact he.zer _ hs (sw_lt ha hn) q (by omega)
theorem elim_ech {n w:Nat} : ∀ (d a j:Nat) (R:List (List Nat)) (ps:List Nat),Mat n w R→Ech n R a j ps→a≤n→∃ ps',Ech n (elim d a j R).1 (elim d a j R).2 (j+d) ps'
  | 0,a,j,R,ps,h,he,_=>⟨ps,he⟩
  | d+1,a,j,R,ps,h,he,han=>by
    unfold elim
    by_cases h1:a<R.length
    · rw [if_pos h1]
      have pg:=piv_ge R j (R.length - a) a
      have pn:=piv_ne R j (R.length - a) a
      have pz:=piv_none R j (R.length - a) a
      generalize piv R j (R.length - a) a=p at pg pn pz ⊢
      have h1':=h1
      rw [h.len] at h1'
      by_cases h2:p<R.length
      · rw [if_pos h2]
        have h2':=h2
        rw [h.len] at h2'
        have:=elim_ech d (a+1) (j+1) _ _ (estep_mat (j:=j) h h1' h2') (estep_ech h he h1' pg.1 h2' (pn (by omega))) h1'
        rw [show j+(d+1)=j+1+d by omega]
        exact this
      · rw [if_neg h2]
        have hz:=pz (by omega)
        rw [show j+(d+1)=j+1+d by omega]
        refine elim_ech d a (j+1) R ps h ⟨he.len,fun k hk=>by have:=he.low k hk;omega,he.inc,he.one,he.lft,?_⟩ han
        intro i hi hn q hq
        by_cases e:q=j
        · rw [e];exact hz i hi (by rw [h.len];omega)
        · exact he.zer i hi hn q (by omega)
    · rw [if_neg h1]
      have:a=n:=by rw [h.len] at h1;omega
      refine ⟨ps,he.len,fun k hk=>by have:=he.low k hk;omega,he.inc,he.one,he.lft,?_⟩
      intro i hi hn;omega

structure Vec (w:Nat) (y:List Nat):Prop where
  len:y.length=w
  byt:Bytes y
theorem Vec.set {w:Nat} {y:List Nat} (h:Vec w y) (p:Nat) {x:Nat} (hx:x<256):Vec w (y.set p x):=by
  refine ⟨by rw [List.length_set,h.len],fun z hz=>?_⟩
  rcases List.mem_or_eq_of_mem_set hz with q|rfl
  · exact h.byt z q
  · exact hx
theorem set_getD (y:List Nat) {p:Nat} (hp:p<y.length) (x q:Nat):(y.set p x).getD q 0=if q=p then x else y.getD q 0:=by
  simp only [List.getD_eq_getElem?_getD,List.getElem?_set]
  by_cases e:p=q
  · subst e;simp [hp]
  · rw [if_neg e,if_neg (fun u=>e u.symm)]
theorem unit_vec (n i:Nat):Vec n (unit n i):=⟨unit_length n i,unit_bytes n i⟩
theorem unit_getD {n i:Nat} (h:i<n) (q:Nat):(unit n i).getD q 0=if q=i then 1 else 0:=by
  unfold unit
  rw [set_getD _ (by simpa using h)]
  by_cases e:q=i
  · rw [if_pos e,if_pos e]
  · rw [if_neg e,if_neg e]
    simp only [List.getD_eq_getElem?_getD,List.getElem?_replicate]
    split <;> rfl
theorem ech_free {n w a c:Nat} {M:List (List Nat)} {ps:List Nat} (h:Mat n w M) (he:Ech n M a c ps) (han:a≤n) (hc:c≤w) {j:Nat} (hj:j<c) (hn:∀ k,k<a→ps.getD k 0≠j):∃ y,Vec w y∧Ker M y∧y.getD j 0=1∧∀ q,j<q→y.getD q 0=0:=by
  have key:∀ m,m≤a→∃ y,Vec w y∧(∀ i,i<n→dotp (row M i) y=if i<m then 0 else ent M i j)∧y.getD j 0=1∧(∀ q,j<q→y.getD q 0=0)∧(∀ k,m≤k→k<a→y.getD (ps.getD k 0) 0=0):=by
    intro m
    induction m with
    | zero =>
      intro _
      refine ⟨unit w j,unit_vec w j,?_,?_,?_,?_⟩
      · intro i hi
        rw [if_neg (by omega)]
        rw [dotp_single _ _ j (by rw [h.cf_ hi];omega) (by rw [h.cf_ hi,unit_length]) (fun q hq=>Or.inr (by rw [unit_getD (by omega),if_neg hq])),unit_getD (by omega),if_pos rfl]
        exact cX_ (h.ent_lt i j)
      · rw [unit_getD (by omega),if_pos rfl]
      · intro q hq;rw [unit_getD (by omega),if_neg (by omega)]
      · intro k _ hk;rw [unit_getD (by omega),if_neg (hn k hk)]
    | succ m ih =>
      intro hm
      obtain ⟨y,hv,hd,h1,h2,h3⟩:=ih (by omega)
      have hpw:ps.getD m 0<w:=by have:=he.low m (by omega);omega
      have hpy:ps.getD m 0<y.length:=by rw [hv.len];exact hpw
      refine ⟨y.set (ps.getD m 0) (ent M m j),hv.set _ (h.ent_lt _ _),?_,?_,?_,?_⟩
      · intro i hi
        have e0:(row M i).getD (ps.getD m 0) 0=if i=m then 1 else 0:=he.one i m hi (by omega)
        rw [dotp_set _ _ _ _ (by rw [h.cf_ hi,hv.len]) (by rw [h.cf_ hi];exact hpw) (h3 m (Nat.le_refl _) (by omega)),hd i hi,e0]
        by_cases e:i=m
        · rw [if_pos e,if_neg (by omega),if_pos (by omega),one_gmul (h.ent_lt _ _),e,Nat.xor_self]
        · rw [if_neg e,ct_,Nat.xor_zero]
          by_cases q:i<m
          · rw [if_pos q,if_pos (by omega)]
          · rw [if_neg q,if_neg (by omega)]
      · rw [set_getD _ hpy,if_neg (fun e=>hn m (by omega) e.symm)];exact h1
      · intro q hq
        rw [set_getD _ hpy]
        by_cases e:q=ps.getD m 0
        · rw [if_pos e];exact he.lft m (by omega) j (by omega)
        · rw [if_neg e];exact h2 q hq
      · intro k hk hka
        rw [set_getD _ hpy,if_neg (by have:=he.inc m k (by omega) hka;omega)]
        exact h3 k (by omega) hka
  obtain ⟨y,hv,hd,h1,h2,_⟩:=key a (Nat.le_refl _)
  refine ⟨y,hv,fun i hi=>?_,h1,h2⟩
  rw [h.len] at hi
  rw [hd i hi]
  by_cases e:i<a
  · rw [if_pos e]
  · rw [if_neg e];exact he.zer i (by omega) hi j hj
theorem ech0 (n:Nat) (R:List (List Nat)):Ech n R 0 0 []:=⟨rfl,fun k h=>by omega,fun k m _ h=>by omega,fun i k _ h=>by omega,fun k h=>by omega,fun i _ _ q h=>by omega⟩
theorem inc_ge {ps:List Nat} {a:Nat} (hi:∀ k m,k<m→m<a→ps.getD k 0<ps.getD m 0):∀ k,k<a→k≤ps.getD k 0
  | 0,_=>Nat.zero_le _
  | k+1,h=>by have:=inc_ge hi k (by omega);have:=hi k (k+1) (by omega) h;omega
theorem inc_all {ps:List Nat} {a:Nat} (hi:∀ k m,k<m→m<a→ps.getD k 0<ps.getD m 0) (hl:∀ k,k<a→ps.getD k 0<a):∀ d k,k+d+1=a→ps.getD k 0=k
  | 0,k,h=>by have:=inc_ge hi k (by omega);have:=hl k (by omega);omega
  | d+1,k,h=>by have:=inc_all hi hl d (k+1) (by omega);have:=hi k (k+1) (by omega) (by omega);have:=inc_ge hi k (by omega);omega
theorem cB_ (R:List (List Nat)) (v:List Nat):(app R v).length=R.length:=by simp [app]
theorem app_getD {R:List (List Nat)} (v:List Nat) {i:Nat} (h:i<R.length):(app R v).getD i 0=dotp (row R i) v:=by
  simp [app,row,h]
theorem app_bytes {n w:Nat} {R:List (List Nat)} (h:Mat n w R) (v:List Nat):Bytes (app R v):=by
  intro x hx
  obtain ⟨r,hr,rfl⟩:=List.mem_map.1 hx
  exact dotp_lt _ _ (h.byt r hr)
theorem beside_row {n u v:Nat} {A B:List (List Nat)} (hA:Mat n u A) (hB:Mat n v B) {i:Nat} (hi:i<n):row (beside A B) i=row A i++row B i:=by
  rw [row_eq (by rw [(dh_ hA hB).len];exact hi),row_eq (by rw [hA.len];exact hi),row_eq (by rw [hB.len];exact hi)]
  simp [beside]
theorem dotp_unit {n i:Nat} (h:i<n) {z:List Nat} (hz:Vec n z):dotp (unit n i) z=z.getD i 0:=by
  rw [dotp_single _ _ i (by rw [unit_length];exact h) (by rw [unit_length,hz.len]) (fun q hq=>Or.inl (by rw [unit_getD h,if_neg hq])),unit_getD h,if_pos rfl,one_gmul (hz.byt.getD i)]
theorem beside_ker {n:Nat} {A:List (List Nat)} (hA:Mat n n A) {y z:List Nat} (hy:Vec n y) (hz:Vec n z):Ker (beside A (idm n)) (y++z)↔∀ i,i<n→dotp (row A i) y=z.getD i 0:=by
  have hb:=dh_ hA (idm_mat n)
  have e:∀ i,i<n→dotp (row (beside A (idm n)) i) (y++z)=dotp (row A i) y ^^^ z.getD i 0:=by
    intro i hi
    rw [beside_row hA (idm_mat n) hi,dotp_append _ _ _ _ (by rw [hA.cf_ hi,hy.len]),idm_row hi,dotp_unit hi hz]
  constructor
  · intro h i hi
    have:=h i (by rw [hb.len];exact hi)
    rw [e i hi] at this
    exact dq_ this
  · intro h i hi
    rw [hb.len] at hi
    rw [e i hi,h i hi,Nat.xor_self]
theorem minv_back {n:Nat} {A:List (List Nat)} (hA:Mat n n A) (hr:(minv A).2=n) {y:List Nat} (hy:Vec n y):app (minv A).1 (app A y)=y:=by
  have hb:=dh_ hA (idm_mat n)
  obtain ⟨ps,he⟩:=elim_ech n 0 0 _ [] hb (ech0 n _) (by omega)
  rw [Nat.zero_add] at he
  have hm:=elim_mat n 0 0 _ hb
  have er:(elim n 0 0 (beside A (idm n))).2=n:=by unfold minv at hr;rw [hA.len] at hr;exact hr
  have em:(minv A).1=rgt n (elim n 0 0 (beside A (idm n))).1:=by unfold minv;rw [hA.len]
  rw [er] at he
  have hz:Vec n (app A y):=⟨by rw [cB_,hA.len],app_bytes hA y⟩
  have hk:Ker (beside A (idm n)) (y++app A y):=(beside_ker hA hy hz).2 (fun i hi=>(app_getD y (by rw [hA.len];exact hi)).symm)
  have hvb:Bytes (y++app A y):=fun x hx=>by rcases List.mem_append.1 hx with q|q;exact hy.byt x q;exact hz.byt x q
  have hk2:=(elim_ker hvb n 0 0 _ hb).2 hk
  have hp:∀ k,k<n→ps.getD k 0=k:=fun k hk=>inc_all he.inc he.low (n - k - 1) k (by omega)
  have hl:(app (minv A).1 (app A y)).length=n:=by rw [cB_,(cU_ hA).len]
  apply cu_ (by rw [hl,hy.len])
  intro i
  rcases Nat.lt_or_ge i n with hi|hi
  · have hq:=hk2 i (by rw [hm.len];exact hi)
    have hw:=hm.cf_ hi
    rw [← List.take_append_drop n (row (elim n 0 0 (beside A (idm n))).1 i),dotp_append _ _ _ _ (by rw [List.length_take,hw,hy.len];omega)] at hq
    have e1:dotp ((row (elim n 0 0 (beside A (idm n))).1 i).take n) y=y.getD i 0:=by
      have en:∀ q,q<n→((row (elim n 0 0 (beside A (idm n))).1 i).take n).getD q 0=if i=q then 1 else 0:=by
        intro q hq
        rw [take_getD hq]
        have:=he.one i q hi hq
        rw [hp q hq] at this
        exact this
      rw [dotp_single _ _ i (by rw [List.length_take,hw];omega) (by rw [List.length_take,hw,hy.len];omega) (fun q hq=>by
        rcases Nat.lt_or_ge q n with u|u
        · left;rw [en q u,if_neg (by omega)]
        · right;simp [hy.len,u]),en i hi,if_pos rfl,one_gmul (hy.byt.getD i)]
    rw [e1] at hq
    rw [app_getD _ (by rw [(cU_ hA).len];exact hi),em,rgt_row]
    exact (dq_ hq).symm
  · simp [hl,hy.len,hi]
theorem minv_full {n:Nat} {A:List (List Nat)} (hA:Mat n n A) (h:∀ y,Vec n y→app A y=List.replicate n 0→y=List.replicate n 0):(minv A).2=n:=by
  have hb:=dh_ hA (idm_mat n)
  have hm:=elim_mat n 0 0 _ hb
  obtain ⟨ps,he⟩:=elim_ech n 0 0 _ [] hb (ech0 n _) (by omega)
  rw [Nat.zero_add] at he
  have hr:=(elim_rank n 0 0 _ hb (by omega)).2.1
  have er:(minv A).2=(elim n 0 0 (beside A (idm n))).2:=by unfold minv;rw [hA.len]
  rw [er]
  apply Classical.byContradiction
  intro hne
  have hlt:(elim n 0 0 (beside A (idm n))).2<n:=by omega
  -- a column without a step
  have hfree:∃ j,j<n∧∀ k,k<(elim n 0 0 (beside A (idm n))).2→ps.getD k 0≠j:=by
    apply Classical.byContradiction
    intro hno
    have hall:∀ j,j<n→j∈ps:=by
      intro j hj
      apply Classical.byContradiction
      intro hjn
      refine hno ⟨j,hj,fun k hk e=>hjn ?_⟩
      rw [← e]
      have hkl:k<ps.length:=by rw [he.len];exact hk
      simp [hkl]
    have hsub:(List.range n).length≤ps.length:=List.Nodup.length_le_of_subset List.nodup_range (fun x hx=>hall x (List.mem_range.1 hx))
    rw [List.length_range,he.len] at hsub
    omega
  obtain ⟨j,hj,hq⟩:=hfree
  obtain ⟨y,hv,hy,h1,h2⟩:=ech_free hm he hr (show n≤n+n by omega) hj hq
  have hk:=(elim_ker hv.byt n 0 0 _ hb).1 hy
  have hyt:Vec n (y.take n):=⟨by rw [List.length_take,hv.len];omega,hv.byt.take n⟩
  have hyd:Vec n (y.drop n):=⟨by rw [List.length_drop,hv.len];omega,hv.byt.drop n⟩
  rw [← List.take_append_drop n y] at hk
  have hk':=(beside_ker hA hyt hyd).1 hk
  have e0:app A (y.take n)=List.replicate n 0:=by
    apply cu_ (by rw [cB_,hA.len,List.length_replicate])
    intro q
    have rz:(List.replicate n 0).getD q 0=0:=by simp only [List.getD_eq_getElem?_getD,List.getElem?_replicate];split <;> rfl
    rw [rz]
    rcases Nat.lt_or_ge q n with u|u
    · rw [app_getD _ (by rw [hA.len];exact u),hk' q u]
      have:=h2 (n+q) (by omega)
      simpa [List.getD_eq_getElem?_getD,List.getElem?_drop] using this
    · simp [cB_,hA.len,u]
  have:=h _ hyt e0
  have g:=take_getD (r:=y) hj
  rw [this] at g
  have rz:(List.replicate n 0).getD j 0=0:=by simp only [List.getD_eq_getElem?_getD,List.getElem?_replicate];split <;> rfl
  omega
theorem minv_short {n:Nat} {A:List (List Nat)} (hA:Mat n n A) {y:List Nat} (hy:Vec n y) (h:app A y=List.replicate n 0) {j:Nat} (hj:y.getD j 0≠0):(minv A).2≠n:=by
  intro hr
  have:=minv_back hA hr hy
  rw [h] at this
  have hz:(app (minv A).1 (List.replicate n 0)).getD j 0=0:=by
    rcases Nat.lt_or_ge j (minv A).1.length with u|u
    · rw [app_getD _ u,dotp_zeros]
    · simp [cB_,u]
  rw [this] at hz
  exact hj hz
end Go.Proofs.Ytbloniemhkfnlaa.K
