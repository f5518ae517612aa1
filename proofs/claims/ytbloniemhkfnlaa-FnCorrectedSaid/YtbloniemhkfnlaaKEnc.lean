import Derived.Test.YtbloniemhkfnlaaKCor2
set_option linter.unusedVariables false
set_option linter.unusedSimpArgs false
namespace Go.Proofs.Ytbloniemhkfnlaa.K
open Go Go.RowKit Go.Proofs.YtbloniemhkfnlaaW.PrintWords Go.Proofs.YtbloniemhkfnlaaW.PrintMore

def addAt:List Nat→Nat→Nat→List Nat→List Nat
  | [],_,_,row=>row
  | c :: g,d,by_,row=>addAt g (d+1) by_ (row.set d (row.getD d 0 ^^^ gmul by_ c))
def encLoop (g:List Nat) (t:Nat):Nat→List Nat→List Nat
  | 0,row=>row
  | d+1,row=>encLoop g t d (addAt g d (row.getD (2 * t+d) 0) row)
def enc (g:List Nat) (t:Nat) (m:List Nat):List Nat:=(encLoop g t m.length (List.replicate (2 * t) 0++m)).take (2 * t)++m
theorem cV_:∀ (g:List Nat) (d b:Nat) (row:List Nat),(addAt g d b row).length=row.length
  | [],_,_,_=>rfl
  | c :: g,d,b,row=>by show (addAt g (d+1) b _).length=_;rw [cV_ g];simp
theorem addAt_bytes:∀ (g:List Nat) (d b:Nat) (row:List Nat),b<256→Bytes row→Bytes (addAt g d b row)
  | [],_,_,_,_,h=>h
  | c :: g,d,b,row,hb,h=>by
    refine addAt_bytes g (d+1) b _ hb ?_
    intro x hx
    rcases List.mem_or_eq_of_mem_set hx with q|rfl
    · exact h x q
    · exact xlt (h.getD _) (cg_ hb)
theorem addAt_eval:∀ (g:List Nat) (d b v:Nat) (row:List Nat),b<256→Bytes g→Bytes row→v<256→d+g.length≤row.length→peval (addAt g d b row) v=peval row v ^^^ gmul (gmul b (gpow v d)) (peval g v)
  | [],d,b,v,row,_,_,_,_,_=>by show peval row v=peval row v ^^^ gmul _ 0;rw [bD_,Nat.xor_zero]
  | c :: g,d,b,v,row,hb,hg,hr,hv,hl=>by
    have hc:=hg c (by simp)
    have bg:Bytes g:=fun x hx=>hg x (by simp [hx])
    have hx:gmul b c<256:=cg_ hb
    have br:Bytes (row.set d (row.getD d 0 ^^^ gmul b c)):=by
      intro x hx'
      rcases List.mem_or_eq_of_mem_set hx' with q|rfl
      · exact hr x q
      · exact xlt (hr.getD _) hx
    simp only [List.length_cons] at hl
    have gp:=bY_ (a:=v) d
    have pg:=ca_ bg v
    show peval (addAt g (d+1) b (row.set d (row.getD d 0 ^^^ gmul b c))) v=_
    rw [addAt_eval g (d+1) b v _ hb bg br hv (by simp;omega),peval_set row d (gmul b c) v hr hx hv (by omega),cr_,cT_,gpow_succ,Nat.xor_assoc]
    refine congrArg (fun z:Nat=>peval row v ^^^ z) ?_
    rw [Nat.xor_comm]
    refine congr (congrArg HXor.hXor ?_) ?_
    · rw [← bS_ hb gp hv,bS_ (cg_ hb) hv pg,ck_ hv pg]
    · rw [bS_ hb hc gp,ck_ hc gp,← bS_ hb gp hc]
theorem addAt_out:∀ (g:List Nat) (d b q:Nat) (row:List Nat),(q<d∨d+g.length≤q)→(addAt g d b row).getD q 0=row.getD q 0
  | [],_,_,_,_,_=>rfl
  | c :: g,d,b,q,row,h=>by
    simp only [List.length_cons] at h
    show (addAt g (d+1) b _).getD q 0=_
    rw [addAt_out g (d+1) b q _ (by omega)]
    rcases Nat.lt_or_ge d row.length with u|u
    · rw [set_getD _ u,if_neg (by omega)]
    · rw [List.set_eq_of_length_le u]
theorem addAt_in:∀ (g:List Nat) (d b j:Nat) (row:List Nat),j<g.length→d+j<row.length→(addAt g d b row).getD (d+j) 0=row.getD (d+j) 0 ^^^ gmul b (g.getD j 0)
  | [],_,_,_,_,h,_=>by simp at h
  | c :: g,d,b,0,row,_,h2=>by
    show (addAt g (d+1) b (row.set d (row.getD d 0 ^^^ gmul b c))).getD d 0=row.getD d 0 ^^^ gmul b c
    rw [addAt_out g (d+1) b d _ (by omega),set_getD _ (by omega),if_pos rfl]
  | c :: g,d,b,j+1,row,h1,h2=>by
    show (addAt g (d+1) b (row.set d (row.getD d 0 ^^^ gmul b c))).getD (d+(j+1)) 0=row.getD (d+(j+1)) 0 ^^^ gmul b (g.getD j 0)
    have:=addAt_in g (d+1) b j (row.set d (row.getD d 0 ^^^ gmul b c)) (by simpa using h1) (by simp;omega)
    rw [show d+(j+1)=d+1+j by omega,this,set_getD _ (by omega),if_neg (by omega)]
theorem dj_ (g:List Nat) (t:Nat):∀ (d:Nat) (row:List Nat),(encLoop g t d row).length=row.length
  | 0,_=>rfl
  | d+1,row=>by show (encLoop g t d _).length=_;rw [dj_ g t d,cV_]
theorem encLoop_bytes (g:List Nat) (t:Nat):∀ (d:Nat) (row:List Nat),Bytes row→Bytes (encLoop g t d row)
  | 0,_,h=>h
  | d+1,row,h=>encLoop_bytes g t d _ (addAt_bytes g d _ row (h.getD _) h)
theorem encLoop_eval {g:List Nat} {t v:Nat} (hg:Bytes g) (hl:g.length=2 * t+1) (hv:v<256) (h0:peval g v=0):∀ (d:Nat) (row:List Nat),Bytes row→2 * t+d≤row.length→peval (encLoop g t d row) v=peval row v
  | 0,_,_,_=>rfl
  | d+1,row,h,hd=>by
    show peval (encLoop g t d (addAt g d (row.getD (2 * t+d) 0) row)) v=_
    rw [encLoop_eval hg hl hv h0 d _ (addAt_bytes g d _ row (h.getD _) h) (by rw [cV_];omega),addAt_eval g d _ v row (h.getD _) hg h hv (by omega),h0,bD_,Nat.xor_zero]
theorem encLoop_zero {g:List Nat} {t:Nat} (hl:g.length=2 * t+1) (ht:g.getD (2 * t) 0=1):∀ (d:Nat) (row:List Nat),Bytes row→2 * t+d≤row.length→∀ q,2 * t≤q→(encLoop g t d row).getD q 0=if q<2 * t+d then 0 else row.getD q 0
  | 0,row,_,_,q,hq=>by rw [if_neg (by omega)];rfl
  | d+1,row,h,hd,q,hq=>by
    show (encLoop g t d (addAt g d (row.getD (2 * t+d) 0) row)).getD q 0=_
    rw [encLoop_zero hl ht d _ (addAt_bytes g d _ row (h.getD _) h) (by rw [cV_];omega) q hq]
    by_cases e:q<2 * t+d
    · rw [if_pos e,if_pos (by omega)]
    · rw [if_neg e]
      by_cases u:q=2 * t+d
      · have:=addAt_in g d (row.getD (2 * t+d) 0) (2 * t) row (by omega) (by omega)
        rw [show d+2 * t=2 * t+d by omega,ht,cX_ (h.getD _),Nat.xor_self] at this
        rw [if_pos (by omega),u]
        exact this
      · rw [if_neg (by omega),addAt_out g d _ q row (by omega)]
theorem enc_length {g:List Nat} {t:Nat} (m:List Nat):(enc g t m).length=2 * t+m.length:=by
  unfold enc
  rw [List.length_append,List.length_take,dj_]
  simp
theorem enc_bytes {g:List Nat} {t:Nat} {m:List Nat} (hm:Bytes m):Bytes (enc g t m):=by
  intro x hx
  rcases List.mem_append.1 hx with q|q
  · refine encLoop_bytes g t m.length _ ?_ x (List.mem_of_mem_take q)
    intro y hy
    rcases List.mem_append.1 hy with u|u
    · have:=List.eq_of_mem_replicate u;omega
    · exact hm y u
  · exact hm x q
theorem enc_drop {g:List Nat} {t:Nat} (m:List Nat):(enc g t m).drop (2 * t)=m:=by
  unfold enc
  have hl:((encLoop g t m.length (List.replicate (2 * t) 0++m)).take (2 * t)).length=2 * t:=by
    rw [List.length_take,dj_];simp
  rw [List.drop_append_of_le_length (by omega),List.drop_of_length_le (by omega),List.nil_append]
theorem peval_append:∀ (a b:List Nat) (v:Nat),Bytes a→Bytes b→v<256→peval (a++b) v=peval a v ^^^ gmul (gpow v a.length) (peval b v)
  | [],b,v,_,hb,hv=>by show peval b v=0 ^^^ gmul 1 (peval b v);rw [one_gmul (ca_ hb v),Nat.zero_xor]
  | c :: a,b,v,ha,hb,hv=>by
    have ba:Bytes a:=fun x hx=>ha x (by simp [hx])
    have pb:=ca_ hb v
    have gp:=bY_ (a:=v) a.length
    show gmul (peval (a++b) v) v ^^^ c=(gmul (peval a v) v ^^^ c) ^^^ gmul (gmul (gpow v a.length) v) (peval b v)
    rw [peval_append a b v ba hb hv,cN_ v (ca_ ba v) (cg_ gp),bS_ gp pb hv,ck_ pb hv,← bS_ gp hv pb]
    simp only [Nat.xor_assoc]
    rw [Nat.xor_comm c]
theorem peval_replicate:∀ (n v:Nat),peval (List.replicate n 0) v=0
  | 0,_=>rfl
  | n+1,v=>by show gmul (peval (List.replicate n 0) v) v ^^^ 0=0;rw [peval_replicate n v,ct_];rfl
theorem enc_root {g:List Nat} {t v:Nat} {m:List Nat} (hg:Bytes g) (hl:g.length=2 * t+1) (ht:g.getD (2 * t) 0=1) (hm:Bytes m) (hv:v<256) (h0:peval g v=0):peval (enc g t m) v=0:=by
  have bz:Bytes (List.replicate (2 * t) 0):=by intro y hy;have:=List.eq_of_mem_replicate hy;omega
  have b0:Bytes (List.replicate (2 * t) 0++m):=by
    intro y hy
    rcases List.mem_append.1 hy with u|u
    · exact bz y u
    · exact hm y u
  have hlen:(List.replicate (2 * t) 0++m).length=2 * t+m.length:=by simp
  have he:=encLoop_eval hg hl hv h0 m.length _ b0 (by omega)
  have hz:=encLoop_zero hl ht m.length _ b0 (by omega)
  have hel:=dj_ g t m.length (List.replicate (2 * t) 0++m)
  have heb:=encLoop_bytes g t m.length _ b0
  unfold enc
  generalize encLoop g t m.length (List.replicate (2 * t) 0++m)=R at he hz hel heb ⊢
  rw [hlen] at hel
  have hs:R=R.take (2 * t)++List.replicate m.length 0:=by
    apply cu_ (by simp;omega)
    intro q
    rw [List.getD_eq_getElem?_getD,List.getD_eq_getElem?_getD,List.getElem?_append,List.length_take]
    by_cases e:q<min (2 * t) R.length
    · rw [if_pos e,List.getElem?_take_of_lt (by omega)]
    · rw [if_neg e]
      have r0:=dc_ m.length (q - min (2 * t) R.length)
      rw [List.getD_eq_getElem?_getD] at r0
      rw [r0]
      have:=hz q (by omega)
      rw [List.getD_eq_getElem?_getD] at this
      rw [this]
      by_cases u:q<2 * t+m.length
      · rw [if_pos u]
      · rw [if_neg u,List.getD_eq_getElem?_getD,List.getElem?_eq_none (by rw [hlen];omega)];rfl
  have hpt:peval (R.take (2 * t)) v=peval (List.replicate (2 * t) 0++m) v:=by
    rw [← he]
    conv=>rhs;rw [hs]
    exact (peval_zeros _ _ _).symm
  have htl:(R.take (2 * t)).length=2 * t:=by rw [List.length_take];omega
  rw [peval_append _ m v (heb.take _) hm hv,hpt,peval_append _ m v bz hm hv,peval_replicate,Nat.zero_xor,htl,List.length_replicate,Nat.xor_self]
theorem enc_word {g:List Nat} {t:Nat} {m:List Nat} (hg:Bytes g) (hl:g.length=2 * t+1) (ht:g.getD (2 * t) 0=1) (hm:Bytes m) (h0:∀ i,i<2 * t→peval g (gpow 3 (i+1))=0):(synd (enc g t m) t).all (· == 0)=true:=by
  rw [List.all_eq_true]
  intro x hx
  obtain ⟨i,hi,rfl⟩:=List.mem_map.1 hx
  have:=List.mem_range.1 hi
  rw [enc_root hg hl ht hm (bY_ _) (h0 i this)]
  rfl
end Go.Proofs.Ytbloniemhkfnlaa.K
set_option linter.unusedVariables false
set_option linter.unusedSimpArgs false
namespace Go.Proofs.Ytbloniemhkfnlaa.K
open Go Go.RowKit Go.Proofs.YtbloniemhkfnlaaW.PrintWords

def ham:List Int→List Int→Nat
  | x :: a,y :: b=>(if x=y then 0 else 1)+ham a b
  | _,_=>0
def outB (s b:Nat):List Int:=[48+((b+s / 2+s % 2) % 2:Nat),48+((b+s % 2) % 2:Nat),48+((b+s / 2) % 2:Nat)]
def nextS (s b:Nat):Nat:=2 * b+s / 2
def encL:Nat→List Nat→List Int
  | _,[]=>[]
  | s,b :: l=>outB s b++encL (nextS s b) l
def Bits (l:List Nat):Prop:=∀ b∈l,b<2
def val:List Nat→Nat
  | []=>0
  | b :: l=>b * 2 ^ l.length+val l
theorem Bits.append {l m:List Nat} (h:Bits l) (h2:Bits m):Bits (l++m):=fun x hx=>by
  rcases List.mem_append.1 hx with q|q
  · exact h x q
  · exact h2 x q
theorem Bits.left {l m:List Nat} (h:Bits (l++m)):Bits l:=fun x hx=>h x (List.mem_append.2 (.inl hx))
def cost (R:List Int) (l:List Nat):Nat:=ham (encL 0 l) R
end Go.Proofs.Ytbloniemhkfnlaa.K
