import Derived.Test.YtbloniemhkfnlaaKCor
set_option linter.unusedVariables false
set_option linter.unusedSimpArgs false
namespace Go.Proofs.Ytbloniemhkfnlaa.K
open Go Go.RowKit Go.Proofs.YtbloniemhkfnlaaW.PrintWords Go.Proofs.YtbloniemhkfnlaaW.PrintMore

def synd (w:List Nat) (t:Nat):List Nat:=(List.range (2 * t)).map (fun i=>peval w (gpow 3 (i+1)))
def putAll:List Nat→List (Nat × Nat)→List Nat
  | w,[]=>w
  | w,p :: r=>putAll (w.set p.1 (w.getD p.1 0 ^^^ p.2)) r
theorem co_ (w:List Nat) (t:Nat):(synd w t).length=2 * t:=by simp [synd]
theorem synd_bytes {w:List Nat} (h:Bytes w) (t:Nat):Bytes (synd w t):=by
  intro x hx
  obtain ⟨i,_,rfl⟩:=List.mem_map.1 hx
  exact ca_ h _
theorem synd_getD (w:List Nat) {t i:Nat} (h:i<2 * t):(synd w t).getD i 0=peval w (gpow 3 (i+1)):=by simp [synd,h]
theorem putAll_length:∀ (E:List (Nat × Nat)) (w:List Nat),(putAll w E).length=w.length
  | [],_=>rfl
  | p :: r,w=>by show (putAll _ r).length=_;rw [putAll_length r];simp
theorem putAll_bytes:∀ (E:List (Nat × Nat)) (w:List Nat),Bytes w→(∀ p∈E,p.2<256)→Bytes (putAll w E)
  | [],_,h,_=>h
  | p :: r,w,h,hE=>by
    refine putAll_bytes r _ ?_ (fun q hq=>hE q (by simp [hq]))
    intro x hx
    rcases List.mem_or_eq_of_mem_set hx with q|rfl
    · exact h x q
    · exact xlt (h.getD _) (hE p (by simp))
theorem peval_set:∀ (w:List Nat) (p e v:Nat),Bytes w→e<256→v<256→p<w.length→peval (w.set p (w.getD p 0 ^^^ e)) v=peval w v ^^^ gmul e (gpow v p)
  | [],_,_,_,_,_,_,h=>by simp at h
  | c :: w,0,e,v,hb,he,hv,_=>by
    show gmul (peval w v) v ^^^ (c ^^^ e)=(gmul (peval w v) v ^^^ c) ^^^ gmul e 1
    rw [cX_ he,Nat.xor_assoc]
  | c :: w,p+1,e,v,hb,he,hv,h=>by
    have bw:Bytes w:=fun x hx=>hb x (by simp [hx])
    have ih:=peval_set w p e v bw he hv (by simpa using h)
    show gmul (peval (w.set p (w.getD p 0 ^^^ e)) v) v ^^^ c=(gmul (peval w v) v ^^^ c) ^^^ gmul e (gmul (gpow v p) v)
    rw [ih,cN_ v (ca_ bw v) (cg_ he),bS_ he (bY_ p) hv]
    simp only [Nat.xor_assoc]
    rw [Nat.xor_comm c]
theorem peval_put:∀ (E:List (Nat × Nat)) (w:List Nat) (v:Nat),Bytes w→(∀ p∈E,p.1<w.length∧p.2<256)→v<256→peval (putAll w E) v=peval w v ^^^ esum E (fun p=>gmul p.2 (gpow v p.1))
  | [],w,v,_,_,_=>by show peval w v=peval w v ^^^ 0;rw [Nat.xor_zero]
  | p :: r,w,v,hb,hE,hv=>by
    have hp:=hE p (by simp)
    have b1:Bytes (w.set p.1 (w.getD p.1 0 ^^^ p.2)):=by
      intro x hx
      rcases List.mem_or_eq_of_mem_set hx with q|rfl
      · exact hb x q
      · exact xlt (hb.getD _) hp.2
    show peval (putAll (w.set p.1 (w.getD p.1 0 ^^^ p.2)) r) v=_
    rw [peval_put r _ v b1 (fun q hq=>by have:=hE q (by simp [hq]);exact ⟨by simpa using this.1,this.2⟩) hv,peval_set w p.1 p.2 v hb hp.2 hv hp.1,esum_cons,Nat.xor_assoc]

def rootsOf (c:List Nat) (n:Nat):List Nat:=(List.range n).filter (fun i=>peval c (ginv (gpow 3 i)) == 0)
def vrow (ps:List Nat) (k:Nat):List Nat:=ps.map (fun p=>gpow (gpow 3 p) (k+1))
def vmat (ps:List Nat):List (List Nat):=(List.range ps.length).map (vrow ps)
theorem vmat_mat (ps:List Nat):Mat ps.length ps.length (vmat ps):=by
  refine ⟨by simp [vmat],fun r hr=>?_,fun r hr=>?_⟩ <;> obtain ⟨k,_,rfl⟩:=List.mem_map.1 hr
  · simp [vrow]
  · intro x hx
    obtain ⟨p,_,rfl⟩:=List.mem_map.1 hx
    exact bY_ _
theorem vmat_row {ps:List Nat} {k:Nat} (h:k<ps.length):row (vmat ps) k=vrow ps k:=by simp [row,vmat,h]
def corLast (w:List Nat) (t:Nat) (s ps:List Nat):Option (List Nat × Nat) :=
  if (minv (vmat ps)).2≠ps.length then none else
  if (app (minv (vmat ps)).1 (s.take ps.length)).any (· == 0) then none else
  if (synd (putAll w (ps.zip (app (minv (vmat ps)).1 (s.take ps.length)))) t).all (· == 0) then some (putAll w (ps.zip (app (minv (vmat ps)).1 (s.take ps.length))),ps.length) else none
def corS (w:List Nat) (t:Nat) (s c ps:List Nat):Option (List Nat × Nat):=if ps.length=0∨ps.length+1≠c.length then none else corLast w t s ps
def trim (c:List Nat):Nat→Nat
  | 0=>0
  | n+1=>if c.getD (n+1) 0=0 then trim c n else n+1
def corI (w:List Nat) (t:Nat) (s c ps:List Nat):Option (List Nat × Nat):=if trim c (c.length - 1)=0∨ps.length≠trim c (c.length - 1) then none else corLast w t s ps
def cor (w:List Nat) (t:Nat):Option (List Nat × Nat):=if (synd w t).all (· == 0) then some (w,0) else corS w t (synd w t) (loc (synd w t) t) (rootsOf (loc (synd w t) t) w.length)
theorem trim_le (c:List Nat):∀ n,trim c n≤n
  | 0=>Nat.le_refl _
  | n+1=>by
    unfold trim
    split
    · have:=trim_le c n;omega
    · omega
theorem trim_zero (c:List Nat):∀ n k,trim c n<k→k≤n→c.getD k 0=0
  | 0,k,h1,h2=>by simp [trim] at h1;omega
  | n+1,k,h1,h2=>by
    unfold trim at h1
    split at h1
    · rename_i e
      by_cases q:k=n+1
      · rw [q];exact e
      · exact trim_zero c n k h1 (by omega)
    · omega
theorem trim_split (c:List Nat) (h:c≠[]):c=c.take (trim c (c.length - 1)+1)++List.replicate (c.length - (trim c (c.length - 1)+1)) 0:=by
  have hc:0<c.length:=List.length_pos_iff.2 h
  have ht:=trim_le c (c.length - 1)
  have hl:(c.take (trim c (c.length - 1)+1)).length=trim c (c.length - 1)+1:=by rw [List.length_take];omega
  apply cu_ (by rw [List.length_append,hl,List.length_replicate];omega)
  intro q
  rw [List.getD_eq_getElem?_getD,List.getD_eq_getElem?_getD,List.getElem?_append,hl]
  by_cases e:q<trim c (c.length - 1)+1
  · rw [if_pos e,List.getElem?_take_of_lt e]
  · rw [if_neg e]
    have r0:=dc_ (c.length - (trim c (c.length - 1)+1)) (q - (trim c (c.length - 1)+1))
    rw [List.getD_eq_getElem?_getD] at r0
    rw [r0]
    rcases Nat.lt_or_ge q c.length with u|u
    · have:=trim_zero c (c.length - 1) q (by omega) (by omega)
      rw [List.getD_eq_getElem?_getD] at this
      exact this
    · rw [List.getElem?_eq_none u];rfl
theorem trim_eval (c:List Nat) (h:c≠[]) (v:Nat):peval c v=peval (c.take (trim c (c.length - 1)+1)) v:=by
  conv=>lhs;rw [trim_split c h]
  exact peval_zeros _ _ _
theorem rootsOf_lt {c:List Nat} {n p:Nat} (h:p∈rootsOf c n):p<n:=List.mem_range.1 (List.mem_filter.1 h).1
theorem rootsOf_nodup (c:List Nat) (n:Nat):(rootsOf c n).Nodup:=List.Nodup.sublist List.filter_sublist List.nodup_range
theorem roots_le {r:List Nat} (hb:Bytes (1 :: r)) {n:Nat} (hn:n≤24):(rootsOf (1 :: r) n).length≤trim (1 :: r) ((1 :: r).length - 1):=by
  apply Classical.byContradiction
  intro hlt
  have ht:=trim_le (1 :: r) ((1 :: r).length - 1)
  have hz:=roots_zero _ _ rfl (hb.take (trim (1 :: r) ((1 :: r).length - 1)+1)) ((rootsOf (1 :: r) n).map (fun i=>ginv (gpow 3 i))) (by
    intro x hx
    obtain ⟨i,_,rfl⟩:=List.mem_map.1 hx
    exact dA_ _) (by
    rw [List.nodup_iff_pairwise_ne,List.pairwise_map]
    refine List.Pairwise.imp_of_mem ?_ (rootsOf_nodup (1 :: r) n)
    intro a b ha hbm hab e
    have la:=rootsOf_lt ha
    have lb:=rootsOf_lt hbm
    exact hab (gpow3_inj' (by omega) (by omega) (ginv_inj (bY_ _) (bY_ _) (gpow3_ne _) (gpow3_ne _) e))) (by
    rw [List.length_map,List.length_take];omega) (by
    intro x hx
    obtain ⟨i,hi,rfl⟩:=List.mem_map.1 hx
    rw [← trim_eval _ (by simp)]
    simpa using (List.mem_filter.1 hi).2) 0 (by omega)
  rw [← trim_eval _ (by simp),cr_,bD_,Nat.zero_xor] at hz
  omega
def pts (E:List (Nat × Nat)):List (Nat × Nat):=E.map (fun p=>(gpow 3 p.1,p.2))
theorem pts_Pts {E:List (Nat × Nat)} (h:∀ p∈E,p.2<256):Pts (pts E):=by
  intro q hq
  obtain ⟨p,hp,rfl⟩:=List.mem_map.1 hq
  exact ⟨bY_ _,h p hp⟩
theorem psum_pts (E:List (Nat × Nat)) (m:Nat):psum (pts E) m=esum E (fun p=>gmul p.2 (gpow (gpow 3 m) p.1)):=by
  unfold psum pts esum
  rw [List.foldr_map]
  exact esum_congr (f:=fun p=>gmul p.2 (gpow (gpow 3 p.1) m)) (fun p _=>by rw [gpow_swap (by omega)])
theorem all_zero {s:List Nat} (h:s.all (· == 0)=true) (i:Nat):s.getD i 0=0:=by
  rw [List.getD_eq_getElem?_getD]
  rcases Nat.lt_or_ge i s.length with u|u
  · rw [List.getElem?_eq_getElem u]
    have:=List.all_eq_true.1 h s[i] (List.getElem_mem u)
    simpa using this
  · rw [List.getElem?_eq_none u];rfl
theorem syn_of_put {w:List Nat} {t:Nat} {E:List (Nat × Nat)} (hb:Bytes w) (hE:∀ p∈E,p.1<w.length∧p.2<256) (h:(synd (putAll w E) t).all (· == 0)=true):Syn (synd w t) (pts E):=by
  refine ⟨pts_Pts (fun p hp=>(hE p hp).2),synd_bytes hb t,fun i hi=>?_⟩
  rw [co_] at hi
  have h0:=all_zero h i
  rw [synd_getD _ hi,peval_put E w _ hb hE (bY_ _)] at h0
  rw [synd_getD _ hi,psum_pts]
  exact dq_ h0
theorem cor_same {w:List Nat} {t:Nat} (hb:Bytes w) (hw:w.length≤24):corI w t (synd w t) (loc (synd w t) t) (rootsOf (loc (synd w t) t) w.length)=corS w t (synd w t) (loc (synd w t) t) (rootsOf (loc (synd w t) t) w.length):=by
  have hs:t+t≤(synd w t).length:=by rw [co_];omega
  have hsb:=synd_bytes hb t
  have hcb:=loc_bytes (synd w t) hsb t hs
  have hlong:=loc_long (synd w t) hsb t hs
  obtain ⟨r,hr⟩:=loc_head (synd w t) t
  have hroot:∀ p∈rootsOf (loc (synd w t) t) w.length,peval (loc (synd w t) t) (ginv (gpow 3 p))=0:=fun p hp=>by simpa using (List.mem_filter.1 hp).2
  have hle:(rootsOf (loc (synd w t) t) w.length).length≤trim (loc (synd w t) t) ((loc (synd w t) t).length - 1):=by
    rw [hr] at hcb ⊢
    exact roots_le hcb hw
  have hlt:∀ p∈rootsOf (loc (synd w t) t) w.length,p<w.length:=fun p hp=>rootsOf_lt hp
  have hne:loc (synd w t) t≠[]:=by rw [hr];simp
  have hhead:(loc (synd w t) t).getD 0 0=1:=by rw [hr];rfl
  have htr:=trim_le (loc (synd w t) t) ((loc (synd w t) t).length - 1)
  have hte:=trim_eval (loc (synd w t) t) hne
  have hlen:0<(loc (synd w t) t).length:=List.length_pos_iff.2 hne
  generalize hps:rootsOf (loc (synd w t) t) w.length=ps at hroot hle hlt ⊢
  generalize hc:loc (synd w t) t=c at hcb hlong hroot hle hne hhead htr hte hlen ⊢
  generalize hk:trim c (c.length - 1)=k at hle htr hte ⊢
  unfold corI corS
  rw [hk]
  by_cases e:ps.length+1=c.length
  · have:k=ps.length:=by omega
    by_cases z:ps.length=0
    · rw [if_pos (by omega),if_pos (by omega)]
    · rw [if_neg (by omega),if_neg (by omega)]
  · rw [if_pos (show ps.length=0∨ps.length+1≠c.length from Or.inr e)]
    by_cases q:k=0∨ps.length≠k
    · rw [if_pos q]
    · rw [if_neg q]
      unfold corLast
      by_cases u1:(minv (vmat ps)).2≠ps.length
      · rw [if_pos u1]
      rw [if_neg u1]
      by_cases u2:(app (minv (vmat ps)).1 ((synd w t).take ps.length)).any (· == 0)=true
      · rw [if_pos u2]
      rw [if_neg u2]
      by_cases u3:(synd (putAll w (ps.zip (app (minv (vmat ps)).1 ((synd w t).take ps.length)))) t).all (· == 0)=true
      · exfalso
        have hv:=cU_ (vmat_mat ps)
        have hE:∀ p∈ps.zip (app (minv (vmat ps)).1 ((synd w t).take ps.length)),p.1<w.length∧p.2<256:=by
          intro p hp
          exact ⟨hlt _ (List.of_mem_zip hp).1,app_bytes hv _ _ (List.of_mem_zip hp).2⟩
        have hS:=syn_of_put hb hE u3
        obtain ⟨m,m1,m2,m3⟩:=hlong (by omega)
        refine absurd m3 (hS.hank_short (by omega) (y:=(c.take (k+1)).reverse) (hcb.take _).reverse (by rw [List.length_reverse,List.length_take];omega) ?_ (j:=k) ?_)
        · intro x hx
          obtain ⟨p,hp,rfl⟩:=List.mem_map.1 hx
          rw [← root_reverse (hcb.take _) (bY_ _) (gpow3_ne _),← hte]
          exact hroot _ (List.of_mem_zip hp).1
        · have:(c.take (k+1)).reverse.getD k 0=c.getD 0 0:=by
            simp only [List.getD_eq_getElem?_getD]
            rw [List.getElem?_reverse (by rw [List.length_take];omega),List.length_take,List.getElem?_take_of_lt (by omega)]
            congr 2;omega
          rw [this,hhead];omega
      · rw [if_neg u3]

def diffs:Nat→List Nat→List Nat→List (Nat × Nat)
  | i,a :: as,b :: bs=>if a=b then diffs (i+1) as bs else (i,a ^^^ b) :: diffs (i+1) as bs
  | _,_,_=>[]
theorem diffs_cons (i a b:Nat) (as bs:List Nat):diffs i (a :: as) (b :: bs)=if a=b then diffs (i+1) as bs else (i,a ^^^ b) :: diffs (i+1) as bs:=by rw [diffs]
theorem diffs_mem:∀ (a b:List Nat) (i:Nat),a.length=b.length→Bytes a→Bytes b→∀ p∈diffs i a b,i≤p.1∧p.1<i+a.length∧p.2<256∧p.2≠0
  | [],[],i,_,_,_=>by simp [diffs]
  | [],_ :: _,_,h,_,_=>by simp at h
  | _ :: _,[],_,h,_,_=>by simp at h
  | a :: as,b :: bs,i,h,ha,hb=>by
    have ih:=diffs_mem as bs (i+1) (by simpa using h) (fun x hx=>ha x (by simp [hx])) (fun x hx=>hb x (by simp [hx]))
    intro p hp
    unfold diffs at hp
    split at hp
    · have:=ih p hp
      simp only [List.length_cons];omega
    · rename_i e
      rcases List.mem_cons.1 hp with rfl|q
      · refine ⟨Nat.le_refl _,by simp only [List.length_cons];omega,xlt (ha a (by simp)) (hb b (by simp)),fun z=>e (dq_ z)⟩
      · have:=ih p q
        simp only [List.length_cons];omega
theorem diffs_inc:∀ (a b:List Nat) (i:Nat),(diffs i a b).Pairwise (fun p q=>p.1<q.1)
  | [],_,_=>by simp [diffs]
  | _ :: _,[],_=>by simp [diffs]
  | a :: as,b :: bs,i=>by
    unfold diffs
    have ih:=diffs_inc as bs (i+1)
    split
    · exact ih
    · refine List.pairwise_cons.2 ⟨?_,ih⟩
      have low:∀ (a b:List Nat) (j:Nat),∀ p∈diffs j a b,j≤p.1:=by
        intro a
        induction a with
        | nil=>intro b j p hp;simp [diffs] at hp
        | cons x xs ih =>
          intro b j p hp
          cases b with
          | nil=>simp [diffs] at hp
          | cons y ys =>
            unfold diffs at hp
            split at hp
            · have:=ih ys (j+1) p hp;omega
            · rcases List.mem_cons.1 hp with rfl|q
              · exact Nat.le_refl _
              · have:=ih ys (j+1) p q;omega
      intro p hp
      have:=low as bs (i+1) p hp
      show i<p.1
      omega
theorem diffs_eval:∀ (a b:List Nat) (i v:Nat),a.length=b.length→Bytes a→Bytes b→v<256→gmul (gpow v i) (peval a v ^^^ peval b v)=esum (diffs i a b) (fun p=>gmul p.2 (gpow v p.1))
  | [],[],i,v,_,_,_,_=>by simp [diffs,peval,esum,bD_]
  | [],_ :: _,_,_,h,_,_,_=>by simp at h
  | _ :: _,[],_,_,h,_,_,_=>by simp at h
  | a :: as,b :: bs,i,v,h,ha,hb,hv=>by
    have ba:Bytes as:=fun x hx=>ha x (by simp [hx])
    have bb:Bytes bs:=fun x hx=>hb x (by simp [hx])
    have ih:=diffs_eval as bs (i+1) v (by simpa using h) ba bb hv
    have xa:=ha a (by simp)
    have xb:=hb b (by simp)
    have pa:=ca_ ba v
    have pb:=ca_ bb v
    have hx:gmul (gpow v i) (peval (a :: as) v ^^^ peval (b :: bs) v)=gmul (gpow v (i+1)) (peval as v ^^^ peval bs v) ^^^ gmul (a ^^^ b) (gpow v i):=by
      rw [cr_,cr_,xor4,cT_,← cN_ v pa pb]
      refine congr (congrArg HXor.hXor ?_) ?_
      · show _=gmul (gmul (gpow v i) v) (peval as v ^^^ peval bs v)
        rw [ck_ (xlt pa pb) hv,← bS_ (bY_ i) hv (xlt pa pb)]
      · rw [ck_ (bY_ i) (xlt xa xb)]
    rw [hx,ih,diffs_cons]
    by_cases e:a=b
    · rw [if_pos e,e,Nat.xor_self,ct_,Nat.xor_zero]
    · rw [if_neg e,esum_cons,Nat.xor_comm]
theorem diffs_none:∀ (a b:List Nat) (i:Nat),a.length=b.length→diffs i a b=[]→a=b
  | [],[],_,_,_=>rfl
  | [],_ :: _,_,h,_=>by simp at h
  | _ :: _,[],_,h,_=>by simp at h
  | a :: as,b :: bs,i,h,e=>by
    unfold diffs at e
    split at e
    · rename_i q
      rw [q,diffs_none as bs (i+1) (by simpa using h) e]
    · simp at e
theorem diffs_self:∀ (a:List Nat) (i:Nat),diffs i a a=[]
  | [],_=>rfl
  | a :: as,i=>by unfold diffs;rw [if_pos rfl];exact diffs_self as (i+1)
theorem diffs_put:∀ (a b pre:List Nat),a.length=b.length→putAll (pre++a) (diffs pre.length a b)=pre++b
  | [],[],_,_=>rfl
  | [],_ :: _,_,h=>by simp at h
  | _ :: _,[],_,h=>by simp at h
  | a :: as,b :: bs,pre,h=>by
    have ih:=diffs_put as bs (pre++[b]) (by simpa using h)
    rw [List.length_append,List.length_singleton] at ih
    unfold diffs
    split
    · rename_i e
      rw [e]
      simpa using ih
    · show putAll ((pre++a :: as).set pre.length ((pre++a :: as).getD pre.length 0 ^^^ (a ^^^ b))) (diffs (pre.length+1) as bs)=_
      have e1:(pre++a :: as).getD pre.length 0=a:=by simp
      have e2:a ^^^ (a ^^^ b)=b:=by rw [← Nat.xor_assoc,Nat.xor_self,Nat.zero_xor]
      have e3:(pre++a :: as).set pre.length b=(pre++[b])++as:=by simp
      rw [e1,e2,e3,ih];simp
theorem diffs_fst:∀ (a b:List Nat) (i:Nat),a.length=b.length→∀ q,q∈(diffs i a b).map Prod.fst↔∃ j,q=i+j∧j<a.length∧a.getD j 0≠b.getD j 0
  | [],[],i,_,q=>by simp [diffs]
  | [],_ :: _,_,h,_=>by simp at h
  | _ :: _,[],_,h,_=>by simp at h
  | a :: as,b :: bs,i,h,q=>by
    have ih:=diffs_fst as bs (i+1) (by simpa using h) q
    have step:(∃ j,q=i+j∧j<(a :: as).length∧(a :: as).getD j 0≠(b :: bs).getD j 0)↔(q=i∧a≠b)∨∃ j,q=i+1+j∧j<as.length∧as.getD j 0≠bs.getD j 0:=by
      constructor
      · rintro ⟨j,h1,h2,h3⟩
        cases j with
        | zero=>left;exact ⟨by omega,by simpa using h3⟩
        | succ j=>right;exact ⟨j,by omega,by simpa using h2,by simpa using h3⟩
      · rintro (⟨h1,h2⟩|⟨j,h1,h2,h3⟩)
        · exact ⟨0,by omega,by simp,by simpa using h2⟩
        · exact ⟨j+1,by omega,by simpa using h2,by simpa using h3⟩
    rw [step,← ih,diffs_cons]
    by_cases e:a=b
    · rw [if_pos e]
      constructor
      · exact Or.inr
      · rintro (u|u)
        · exact absurd e u.2
        · exact u
    · rw [if_neg e,List.map_cons,List.mem_cons]
      constructor
      · rintro (u|u)
        · exact Or.inl ⟨u,e⟩
        · exact Or.inr u
      · rintro (u|u)
        · exact Or.inl u.1
        · exact Or.inr u
theorem sorted_ext:∀ {l m:List Nat},l.Pairwise (· < ·)→m.Pairwise (· < ·)→(∀ x,x∈l↔x∈m)→l=m
  | [],[],_,_,_=>rfl
  | [],y :: ys,_,_,h=>by have:=(h y).2 (by simp);simp at this
  | x :: xs,[],_,_,h=>by have:=(h x).1 (by simp);simp at this
  | x :: xs,y :: ys,hl,hm,h=>by
    obtain ⟨l1,l2⟩:=List.pairwise_cons.1 hl
    obtain ⟨m1,m2⟩:=List.pairwise_cons.1 hm
    have e:x=y:=by
      rcases List.mem_cons.1 ((h x).1 (by simp)) with q|q
      · exact q
      rcases List.mem_cons.1 ((h y).2 (by simp)) with u|u
      · exact u.symm
      have:=m1 x q
      have:=l1 y u
      omega
    subst e
    congr 1
    refine sorted_ext l2 m2 (fun z=>?_)
    have hz:=h z
    constructor
    · intro q
      rcases List.mem_cons.1 (hz.1 (List.mem_cons_of_mem _ q)) with u|u
      · have:=l1 z q;omega
      · exact u
    · intro q
      rcases List.mem_cons.1 (hz.2 (List.mem_cons_of_mem _ q)) with u|u
      · have:=m1 z q;omega
      · exact u
theorem diffs_syn {x w:List Nat} {t:Nat} (hl:x.length=w.length) (hx:Bytes x) (hw:Bytes w) (h0:(synd w t).all (· == 0)=true):Syn (synd x t) (pts (diffs 0 x w)):=by
  have hm:=diffs_mem x w 0 hl hx hw
  refine ⟨pts_Pts (fun p hp=>(hm p hp).2.2.1),synd_bytes hx t,fun i hi=>?_⟩
  rw [co_] at hi
  have z:=all_zero h0 i
  rw [synd_getD _ hi] at z
  rw [synd_getD _ hi,psum_pts,← diffs_eval x w 0 _ hl hx hw (bY_ _),z,Nat.xor_zero]
  show _=gmul 1 _
  rw [one_gmul (ca_ hx _)]
theorem diffs_errs {x w:List Nat} (hl:x.length=w.length) (h24:x.length≤24) (hx:Bytes x) (hw:Bytes w):Errs (pts (diffs 0 x w)):=by
  have hm:=diffs_mem x w 0 hl hx hw
  refine ⟨pts_Pts (fun p hp=>(hm p hp).2.2.1),?_,?_,?_⟩
  · unfold pts
    rw [List.map_map,List.nodup_iff_pairwise_ne,List.pairwise_map]
    refine List.Pairwise.imp_of_mem ?_ (diffs_inc x w 0)
    intro a b ha hb hab e
    have:=gpow3_inj' (p:=a.1) (q:=b.1) (by have:=hm a ha;omega) (by have:=hm b hb;omega) e
    omega
  · intro q hq
    obtain ⟨p,hp,rfl⟩:=List.mem_map.1 hq
    exact gpow3_ne _
  · intro q hq
    obtain ⟨p,hp,rfl⟩:=List.mem_map.1 hq
    exact (hm p hp).2.2.2
theorem spaced {x w:List Nat} {t:Nat} (hl:x.length=w.length) (h24:x.length≤24) (hx:Bytes x) (hw:Bytes w) (h0:(synd w t).all (· == 0)=true) (h1:(synd x t).all (· == 0)=true) (hd:(diffs 0 x w).length≤2 * t):x=w:=by
  have hS:=diffs_syn hl hx hw h0
  have hE:=diffs_errs hl h24 hx hw
  apply diffs_none x w 0 hl
  apply List.eq_nil_iff_forall_not_mem.2
  intro p hp
  have hz:=vand2 (E:=pts (diffs 0 x w)) hE.pts hE.nod hE.x0 (b:=1) (n:=2 * t) (by simpa [pts] using hd) (by
    intro m m1 m2
    have:=hS.at_ (m - 1) (by rw [co_];omega)
    rw [show m - 1+1=m by omega,all_zero h1] at this
    exact this.symm) (gpow 3 p.1,p.2) (List.mem_map.2 ⟨p,hp,rfl⟩)
  exact hE.e0 _ (List.mem_map.2 ⟨p,hp,rfl⟩) hz
theorem dotp_zip (f:Nat→Nat):∀ (ps es:List Nat),(∀ p∈ps,f p<256)→Bytes es→dotp (ps.map f) es=esum (ps.zip es) (fun p=>gmul p.2 (f p.1))
  | [],es,_,_=>by cases es <;> rfl
  | p :: ps,[],_,_=>rfl
  | p :: ps,e :: es,h,he=>by
    show gmul (f p) e ^^^ dotp (ps.map f) es=gmul e (f p) ^^^ _
    rw [dotp_zip f ps es (fun q hq=>h q (by simp [hq])) (fun q hq=>he q (by simp [hq])),ck_ (h p (by simp)) (he e (by simp))]
    rfl
theorem vmat_app {ps es:List Nat} (he:Vec ps.length es) {k:Nat} (hk:k<ps.length):(app (vmat ps) es).getD k 0=psum (pts (ps.zip es)) (k+1):=by
  rw [app_getD _ (by rw [(vmat_mat ps).len];exact hk),vmat_row hk]
  unfold vrow
  rw [dotp_zip _ ps es (fun p _=>bY_ _) he.byt,psum_pts]
  exact esum_congr (fun p _=>by rw [gpow_swap (by omega)])
theorem vmat_full {ps:List Nat} (hd:ps.Nodup) (h24:∀ p∈ps,p<24):(minv (vmat ps)).2=ps.length:=by
  refine minv_full (vmat_mat ps) (fun y hy hz=>?_)
  have hm:∀ q∈ps.zip y,q.1∈ps∧q.2<256:=fun q hq=>⟨(List.of_mem_zip hq).1,hy.byt _ (List.of_mem_zip hq).2⟩
  have hfst:(ps.zip y).map Prod.fst=ps:=List.map_fst_zip (by rw [hy.len];exact Nat.le_refl _)
  have v:=vand2 (E:=pts (ps.zip y)) (pts_Pts (fun p hp=>(hm p hp).2)) (by
    have:(pts (ps.zip y)).map Prod.fst=ps.map (fun p=>gpow 3 p):=by
      conv=>rhs;rw [← hfst]
      simp [pts,List.map_map]
    rw [this,List.nodup_iff_pairwise_ne,List.pairwise_map]
    exact List.Pairwise.imp_of_mem (fun ha hb hab e=>hab (gpow3_inj' (h24 _ ha) (h24 _ hb) e)) hd) (by
    intro q hq
    obtain ⟨p,hp,rfl⟩:=List.mem_map.1 hq
    exact gpow3_ne _) (b:=1) (n:=ps.length) (by simp [pts];omega) (by
    intro m m1 m2
    have:=vmat_app hy (k:=m - 1) (by omega)
    rw [show m - 1+1=m by omega,hz,dc_] at this
    exact this.symm)
  apply cu_ (by rw [hy.len,List.length_replicate])
  intro i
  rw [dc_]
  rcases Nat.lt_or_ge i ps.length with u|u
  · have hi:i<(ps.zip y).length:=by rw [List.length_zip,hy.len];omega
    have:=v (gpow 3 ps[i],y[i]'(by rw [hy.len];exact u)) (List.mem_map.2 ⟨(ps.zip y)[i],List.getElem_mem hi,by simp⟩)
    simp [hy.len,u]
    exact this
  · rw [List.getD_eq_getElem?_getD,List.getElem?_eq_none (by rw [hy.len];exact u)];rfl
theorem corrected {x w:List Nat} {t:Nat} (hl:x.length=w.length) (h24:x.length≤24) (ht:t≤100) (hx:Bytes x) (hw:Bytes w) (h0:(synd w t).all (· == 0)=true) (hd:(diffs 0 x w).length≤t):cor x t=some (w,(diffs 0 x w).length):=by
  unfold cor
  by_cases hz:(synd x t).all (· == 0)=true
  · rw [if_pos hz,spaced hl h24 hx hw h0 hz (by omega),diffs_self];rfl
  rw [if_neg hz]
  have hS:=diffs_syn hl hx hw h0
  have hE:=diffs_errs hl h24 hx hw
  have hm:=diffs_mem x w 0 hl hx hw
  have hput:=diffs_put x w [] hl
  have hinc:=diffs_inc x w 0
  have hfst:=diffs_fst x w 0 hl
  have hpos:0<(diffs 0 x w).length:=by
    rcases Nat.eq_zero_or_pos (diffs 0 x w).length with e|e
    · exfalso
      have:=diffs_none x w 0 hl (List.eq_nil_of_length_eq_zero e)
      rw [this] at hz
      exact hz h0
    · exact e
  simp only [List.nil_append,List.length_nil] at hput
  generalize diffs 0 x w=D at hS hE hm hput hinc hfst hpos hd ⊢
  have hpl:(pts D).length=D.length:=by simp [pts]
  have hloc:=hS.loc hE (by rw [hpl];omega) t (by rw [hpl];exact hd) (by rw [co_];omega)
  have hxs:Bytes (xsOf (pts D)):=hS.pts.xs
  have hps:rootsOf (loc (synd x t) t) x.length=D.map Prod.fst:=by
    refine sorted_ext ((List.pairwise_lt_range (n:=x.length)).filter _) (by rw [List.pairwise_map];exact hinc) (fun q=>?_)
    rw [hfst q,hloc]
    unfold rootsOf
    rw [List.mem_filter,List.mem_range]
    have hr:peval (lamb (xsOf (pts D))).reverse (ginv (gpow 3 q))=0↔peval (lamb (xsOf (pts D))) (gpow 3 q)=0:=by
      rw [root_reverse (da_ _ hxs).reverse (bY_ _) (gpow3_ne _),List.reverse_reverse]
    simp only [beq_iff_eq,hr]
    constructor
    · rintro ⟨h1,h2⟩
      have:=lamb_only hxs (bY_ _) h2
      obtain ⟨p',hp',e⟩:=List.mem_map.1 this
      obtain ⟨p,hp,rfl⟩:=List.mem_map.1 hp'
      have hpm:=hm p hp
      have:=gpow3_inj' (p:=p.1) (q:=q) (by omega) (by omega) e
      obtain ⟨j,j1,j2,j3⟩:=(hfst q).1 (List.mem_map.2 ⟨p,hp,this⟩)
      exact ⟨j,j1,j2,j3⟩
    · rintro ⟨j,j1,j2,j3⟩
      refine ⟨by omega,?_⟩
      have:=(hfst q).2 ⟨j,j1,j2,j3⟩
      obtain ⟨p,hp,e⟩:=List.mem_map.1 this
      refine lamb_root hxs (List.mem_map.2 ⟨(gpow 3 p.1,p.2),List.mem_map.2 ⟨p,hp,rfl⟩,?_⟩)
      rw [e]
  rw [hps,hloc]
  unfold corS
  have hcl:(lamb (xsOf (pts D))).reverse.length=D.length+1:=by simp [cF_,xsOf,pts]
  rw [if_neg (by rw [hcl,List.length_map];omega)]
  unfold corLast
  have hfull:(minv (vmat (D.map Prod.fst))).2=(D.map Prod.fst).length:=vmat_full (by
    rw [List.nodup_iff_pairwise_ne,List.pairwise_map]
    exact hinc.imp (fun h e=>by omega)) (by
    intro p hp
    obtain ⟨q,hq,rfl⟩:=List.mem_map.1 hp
    have:=hm q hq;omega)
  rw [if_neg (by rw [hfull];simp)]
  have hev:Vec (D.map Prod.fst).length (D.map Prod.snd):=⟨by simp,by
    intro e he
    obtain ⟨q,hq,rfl⟩:=List.mem_map.1 he
    exact (hm q hq).2.2.1⟩
  have hzip:(D.map Prod.fst).zip (D.map Prod.snd)=D:=by
    clear hS hE hm hput hinc hfst hpos hd hpl hloc hxs hps hcl hfull hev
    induction D with
    | nil=>rfl
    | cons p D ih=>simp [ih]
  have hs:(synd x t).take (D.map Prod.fst).length=app (vmat (D.map Prod.fst)) (D.map Prod.snd):=by
    apply cu_ (by rw [List.length_take,co_,cB_,(vmat_mat _).len,List.length_map];omega)
    intro q
    rcases Nat.lt_or_ge q (D.map Prod.fst).length with u|u
    · have u':q<D.length:=by simpa using u
      rw [vmat_app hev u,hzip,take_getD u]
      exact hS.at_ q (by rw [co_];omega)
    · rw [List.getD_eq_getElem?_getD,List.getD_eq_getElem?_getD,List.getElem?_eq_none (by rw [List.length_take];omega),List.getElem?_eq_none (by rw [cB_,(vmat_mat _).len];exact u)]
  rw [hs,minv_back (vmat_mat _) hfull hev,hzip]
  have hany:¬ ((D.map Prod.snd).any (· == 0)=true):=by
    intro h
    obtain ⟨e,he,h⟩:=List.any_eq_true.1 h
    obtain ⟨q,hq,rfl⟩:=List.mem_map.1 he
    have:=(hm q hq).2.2.2
    simp at h
    omega
  rw [if_neg hany,hput,if_pos h0,List.length_map]
theorem cor_tells {w:List Nat} {t:Nat} (hb:Bytes w) (hw:w.length≤24) {out:List Nat} {n:Nat} (h:cor w t=some (out,n)):out.length=w.length∧Bytes out∧(synd out t).all (· == 0)=true∧n≤t∧(diffs 0 w out).length=n:=by
  unfold cor at h
  by_cases hz:(synd w t).all (· == 0)=true
  · rw [if_pos hz] at h
    cases h
    exact ⟨rfl,hb,hz,Nat.zero_le _,by rw [diffs_self];rfl⟩
  rw [if_neg hz] at h
  have hs:t+t≤(synd w t).length:=by rw [co_];omega
  have hlong:=loc_long (synd w t) (synd_bytes hb t) t hs
  have hlt:∀ p∈rootsOf (loc (synd w t) t) w.length,p<w.length:=fun p hp=>rootsOf_lt hp
  have hinc:(rootsOf (loc (synd w t) t) w.length).Pairwise (· < ·):=(List.pairwise_lt_range (n:=w.length)).filter _
  generalize rootsOf (loc (synd w t) t) w.length=ps at h hlt hinc
  generalize loc (synd w t) t=c at h hlong
  unfold corS at h
  split at h
  · cases h
  rename_i hc
  unfold corLast at h
  split at h
  · cases h
  split at h
  · cases h
  rename_i hany
  split at h
  case isFalse=>cases h
  rename_i hall
  have hel:(app (minv (vmat ps)).1 ((synd w t).take ps.length)).length=ps.length:=by rw [cB_,(cU_ (vmat_mat ps)).len]
  have heb:=app_bytes (cU_ (vmat_mat ps)) ((synd w t).take ps.length)
  generalize app (minv (vmat ps)).1 ((synd w t).take ps.length)=es at h hany hall hel heb
  cases h
  have hE:∀ p∈ps.zip es,p.2<256:=fun p hp=>heb _ (List.of_mem_zip hp).2
  refine ⟨putAll_length _ _,putAll_bytes _ _ hb hE,hall,?_,?_⟩
  · obtain ⟨m,m1,m2,_⟩:=hlong (by omega)
    omega
  · have hd:diffs 0 w (putAll w (ps.zip es))=ps.zip es:=by
      have key:∀ (ps es pre w:List Nat),ps.length=es.length→Bytes w→(∀ e∈es,e<256∧e≠0)→ps.Pairwise (· < ·)→(∀ p∈ps,pre.length≤p∧p<pre.length+w.length)→∃ w',putAll (pre++w) (ps.zip es)=pre++w'∧w'.length=w.length∧diffs pre.length w w'=ps.zip es:=by
        intro ps es pre w
        induction w generalizing ps es pre with
        | nil =>
          intro h1 _ _ _ h4
          cases ps with
          | nil=>exact ⟨[],by simp [putAll],rfl,by simp [diffs]⟩
          | cons p ps=>have:=h4 p (by simp);simp at this;omega
        | cons c w ih =>
          intro h1 hbw h2 h3 h4
          have bw:Bytes w:=fun x hx=>hbw x (by simp [hx])
          by_cases e:∃ ps',ps=pre.length :: ps'
          · obtain ⟨ps',rfl⟩:=e
            cases es with
            | nil=>simp at h1
            | cons x es =>
              obtain ⟨l1,l2⟩:=List.pairwise_cons.1 h3
              have hx:=h2 x (by simp)
              obtain ⟨w',e1,e2,e3⟩:=ih ps' es (pre++[c ^^^ x]) (by simpa using h1) bw (fun z hz=>h2 z (by simp [hz])) l2 (fun p hp=>by
                have:=l1 p hp
                have:=h4 p (by simp [hp])
                simp at this ⊢;omega)
              refine ⟨(c ^^^ x) :: w',?_,by simp [e2],?_⟩
              · show putAll ((pre++c :: w).set pre.length ((pre++c :: w).getD pre.length 0 ^^^ x)) (ps'.zip es)=_
                have g1:(pre++c :: w).getD pre.length 0=c:=by simp
                have g2:(pre++c :: w).set pre.length (c ^^^ x)=(pre++[c ^^^ x])++w:=by simp
                rw [g1,g2,e1];simp
              · have hne:¬ c=c ^^^ x:=by
                  intro q
                  have:c ^^^ (c ^^^ x)=c ^^^ c:=by rw [← q]
                  rw [← Nat.xor_assoc,Nat.xor_self,Nat.zero_xor] at this
                  exact hx.2 this
                have hxx:c ^^^ (c ^^^ x)=x:=by rw [← Nat.xor_assoc,Nat.xor_self,Nat.zero_xor]
                rw [List.length_append,List.length_singleton] at e3
                unfold diffs
                rw [if_neg hne,hxx,e3];rfl
          · obtain ⟨w',e1,e2,e3⟩:=ih ps es (pre++[c]) h1 bw h2 h3 (fun p hp=>by
              have h5:=h4 p hp
              have:p≠pre.length:=by
                intro q
                cases ps with
                | nil=>simp at hp
                | cons a ps' =>
                  have ha:=h4 a (by simp)
                  rcases List.mem_cons.1 hp with u|u
                  · exact e ⟨ps',by rw [← q,u]⟩
                  · have:=(List.pairwise_cons.1 h3).1 p u
                    omega
              simp at h5 ⊢;omega)
            refine ⟨c :: w',?_,by simp [e2],?_⟩
            · have:pre++c :: w=(pre++[c])++w:=by simp
              rw [this,e1];simp
            · rw [List.length_append,List.length_singleton] at e3
              unfold diffs
              rw [if_pos rfl]
              exact e3
      obtain ⟨w',e1,e2,e3⟩:=key ps es [] w (by omega) hb (fun e he=>⟨heb e he,fun z=>hany (List.any_eq_true.2 ⟨e,he,by simpa using z⟩)⟩) hinc (fun p hp=>⟨Nat.zero_le _,by have:=hlt p hp;simpa using this⟩)
      simp only [List.nil_append,List.length_nil] at e1 e3
      rw [e1];exact e3
    rw [hd,List.length_zip];omega
end Go.Proofs.Ytbloniemhkfnlaa.K
