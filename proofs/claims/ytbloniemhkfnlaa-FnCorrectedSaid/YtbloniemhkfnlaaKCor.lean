import Derived.Test.YtbloniemhkfnlaaKEch
set_option linter.unusedVariables false
set_option linter.unusedSimpArgs false
namespace Go.Proofs.Ytbloniemhkfnlaa.K
open Go Go.RowKit Go.Proofs.YtbloniemhkfnlaaW.PrintWords Go.Proofs.YtbloniemhkfnlaaW.PrintMore

theorem gpow_mul {a:Nat} (ha:a<256) (m:Nat):∀ n:Nat,gpow (gpow a m) n=gpow a (m * n)
  | 0=>rfl
  | n+1=>by
    show gmul (gpow (gpow a m) n) (gpow a m)=_
    rw [gpow_mul ha m n,Nat.mul_succ,gpow_add ha]
theorem gpow_swap {a:Nat} (ha:a<256) (m n:Nat):gpow (gpow a m) n=gpow (gpow a n) m:=by rw [gpow_mul ha,gpow_mul ha,Nat.mul_comm]
theorem gpow_ne {a:Nat} (ha:a<256) (h0:a≠0):∀ n:Nat,gpow a n≠0
  | 0=>by simp [gpow]
  | n+1=>fun e=>by
    rcases cG_ (bY_ n) ha e with q|q
    · exact gpow_ne ha h0 n q
    · exact h0 q
theorem gpow3_inj:∀ p q:Fin 24,gpow 3 p.val=gpow 3 q.val→p=q:=by decide +kernel
theorem gpow3_inj' {p q:Nat} (hp:p<24) (hq:q<24) (h:gpow 3 p=gpow 3 q):p=q:=by
  have:=gpow3_inj ⟨p,hp⟩ ⟨q,hq⟩ h
  simpa using this
theorem gpow3_ne (p:Nat):gpow 3 p≠0:=gpow_ne (by omega) (by omega) p
theorem ginv_inj {a b:Nat} (ha:a<256) (hb:b<256) (h0:a≠0) (h1:b≠0) (h:ginv a=ginv b):a=b:=by
  have e1:=gmul_ginv ha h0
  have e2:=gmul_ginv hb h1
  rw [← h] at e2
  have:gmul a (gmul b (ginv a))=gmul b (gmul a (ginv a)):=by
    rw [← bS_ ha hb (dA_ a),ck_ ha hb,bS_ hb ha (dA_ a)]
  rw [e2,e1,cX_ ha,cX_ hb] at this
  exact this

theorem peval_addr:∀ (a b:List Nat) (v:Nat),a.length=b.length→Bytes a→Bytes b→peval (addr a b) v=peval a v ^^^ peval b v
  | [],[],_,_,_,_=>by simp [addr,peval]
  | [],_ :: _,_,h,_,_=>by simp at h
  | _ :: _,[],_,h,_,_=>by simp at h
  | a :: as,b :: bs,v,h,ha,hb=>by
    have ba:Bytes as:=fun x hx=>ha x (by simp [hx])
    have bb:Bytes bs:=fun x hx=>hb x (by simp [hx])
    have ih:=peval_addr as bs v (by simpa using h) ba bb
    show gmul (peval (addr as bs) v) v ^^^ (a ^^^ b)=(gmul (peval as v) v ^^^ a) ^^^ (gmul (peval bs v) v ^^^ b)
    rw [ih,cN_ v (ca_ ba v) (ca_ bb v),xor4]
theorem peval_scl (c:Nat) (hc:c<256) (l:List Nat) (h:Bytes l) {v:Nat} (hv:v<256):peval (scl c l) v=gmul c (peval l v):=(smul_spec c hc l h).2 v hv
theorem peval_zeros:∀ (l:List Nat) (k v:Nat),peval (l++List.replicate k 0) v=peval l v
  | l,0,v=>by simp
  | l,k+1,v=>by rw [List.replicate_succ',← List.append_assoc,dB_,peval_zeros l k v]
theorem peval_snoc {l:List Nat} (h:Bytes l) {c v:Nat} (hc:c<256) (hv:v<256):peval (l++[c]) v=peval l v ^^^ gmul c (gpow v l.length):=by
  induction l with
  | nil=>show gmul 0 v ^^^ c=0 ^^^ gmul c 1;rw [ct_,cX_ hc]
  | cons a l ih =>
    have bl:Bytes l:=fun x hx=>h x (by simp [hx])
    show gmul (peval (l++[c]) v) v ^^^ a=(gmul (peval l v) v ^^^ a) ^^^ gmul c (gmul (gpow v l.length) v)
    rw [ih bl,cN_ v (ca_ bl v) (cg_ hc),bS_ hc (bY_ _) hv]
    simp only [Nat.xor_assoc]
    rw [Nat.xor_comm a]
theorem Bytes.reverse {l:List Nat} (h:Bytes l):Bytes l.reverse:=fun x hx=>h x (List.mem_reverse.1 hx)
theorem peval_reverse (c:List Nat) (v:Nat) (h:Bytes c) (hv:v<256) (h0:v≠0):gmul v (peval c.reverse v)=gmul (gpow v c.length) (peval c (ginv v)):=by
  have gi:=dA_ v
  have gv:=gmul_ginv hv h0
  generalize ginv v=u at gi gv ⊢
  induction c with
  | nil=>simp [peval,bD_]
  | cons a l ih =>
    have bl:Bytes l:=fun x hx=>h x (by simp [hx])
    have ih:=ih bl
    have ha:=h a (by simp)
    have pl:=ca_ bl u
    have gp:=bY_ (a:=v) l.length
    have ep:gpow v (a :: l).length=gmul (gpow v l.length) v:=rfl
    rw [List.reverse_cons,peval_snoc bl.reverse ha hv,cT_,ih,List.length_reverse,ep,cr_,cT_]
    refine congr (congrArg HXor.hXor ?_) ?_
    · rw [swap4 gp hv pl gi,gv,cX_ (cg_ gp)]
    · rw [ck_ ha gp,← bS_ hv gp ha,ck_ hv gp]
theorem root_reverse {c:List Nat} {v:Nat} (hc:Bytes c) (hv:v<256) (h0:v≠0):peval c (ginv v)=0↔peval c.reverse v=0:=by
  have e:=peval_reverse c v hc hv h0
  constructor
  · intro h
    rw [h,bD_] at e
    rcases cG_ hv (ca_ hc.reverse v) e with q|q
    · exact absurd q h0
    · exact q
  · intro h
    rw [h,bD_] at e
    rcases cG_ (bY_ c.length) (ca_ hc (ginv v)) e.symm with q|q
    · exact absurd q (gpow_ne hv h0 _)
    · exact q
theorem peval_all_zero:∀ (l:List Nat),Bytes l→l.length≤200→(∀ v,v<256→peval l v=0)→l=List.replicate l.length 0
  | [],_,_,_=>rfl
  | c :: l,h,hl,hz=>by
    have bl:Bytes l:=fun x hx=>h x (by simp [hx])
    have c0:c=0:=by
      have:=hz 0 (by omega)
      rw [cr_,bD_,Nat.zero_xor] at this
      exact this
    have hr:∀ v,v<256→v≠0→peval l v=0:=by
      intro v hv h0
      have:=hz v hv
      rw [cr_,c0,Nat.xor_zero] at this
      rcases cG_ (ca_ bl v) hv this with q|q
      · exact q
      · exact absurd q h0
    have hz':=roots_zero l.length l rfl bl ((List.range 200).map (· + 1)) (by intro x hx;obtain ⟨y,hy,rfl⟩:=List.mem_map.1 hx;have:=List.mem_range.1 hy;omega) (by
      rw [List.nodup_iff_pairwise_ne,List.pairwise_map]
      exact (List.nodup_range (n:=200)).imp (fun h e=>h (by omega))) (by simp only [List.length_map,List.length_range,List.length_cons] at hl ⊢;omega) (by
      intro x hx;obtain ⟨y,hy,rfl⟩:=List.mem_map.1 hx;have:=List.mem_range.1 hy;exact hr _ (by omega) (by omega))
    have ih:=peval_all_zero l bl (by simp at hl;omega) hz'
    rw [c0]
    show 0 :: l=0 :: List.replicate l.length 0
    rw [← ih]

def lamb:List Nat→List Nat
  | []=>[1]
  | x :: xs=>addr (0 :: lamb xs) (scl x (lamb xs)++[0])
theorem cF_:∀ xs,(lamb xs).length=xs.length+1
  | []=>rfl
  | x :: xs=>by
    show (addr _ _).length=_
    rw [addr_length (by simp [cs_]),List.length_cons,cF_ xs];rfl
theorem da_:∀ xs,Bytes xs→Bytes (lamb xs)
  | [],_=>by intro y hy;rw [List.mem_singleton.1 hy];omega
  | x :: xs,h=>by
    have ih:=da_ xs (fun y hy=>h y (by simp [hy]))
    refine addr_bytes ?_ ?_
    · intro y hy
      rcases List.mem_cons.1 hy with rfl|q
      · omega
      · exact ih y q
    · intro y hy
      rcases List.mem_append.1 hy with q|q
      · exact dz_ (h x (by simp)) _ y q
      · rw [List.mem_singleton.1 q];omega
theorem lamb_top:∀ xs,(lamb xs).getD xs.length 0=1
  | []=>rfl
  | x :: xs=>by
    show (addr (0 :: lamb xs) (scl x (lamb xs)++[0])).getD (xs.length+1) 0=1
    rw [addr_getD (by simp [cs_])]
    have e1:(0 :: lamb xs).getD (xs.length+1) 0=1:=by simpa using lamb_top xs
    have e2:(scl x (lamb xs)++[0]).getD (xs.length+1) 0=0:=by
      rw [getD_snoc,cs_,cF_,if_neg (by omega),if_pos rfl]
    rw [e1,e2];rfl
theorem lamb_eval:∀ xs,Bytes xs→∀ v,v<256→peval (lamb xs) v=xs.foldr (fun x acc=>gmul (v ^^^ x) acc) 1
  | [],_,v,_=>by show gmul 0 v ^^^ 1=1;rw [ct_];rfl
  | x :: xs,h,v,hv=>by
    have bx:Bytes xs:=fun y hy=>h y (by simp [hy])
    have hx:=h x (by simp)
    have bl:=da_ xs bx
    have ih:=lamb_eval xs bx v hv
    have pl:=ca_ bl v
    show peval (addr (0 :: lamb xs) (scl x (lamb xs)++[0])) v=gmul (v ^^^ x) (xs.foldr (fun x acc=>gmul (v ^^^ x) acc) 1)
    rw [peval_addr _ _ _ (by simp [cs_]) (by
      intro y hy
      rcases List.mem_cons.1 hy with rfl|q
      · omega
      · exact bl y q) (by
      intro y hy
      rcases List.mem_append.1 hy with q|q
      · exact dz_ hx _ y q
      · rw [List.mem_singleton.1 q];omega),cr_,Nat.xor_zero,dB_,peval_scl x hx _ bl hv,cN_ _ hv hx,← ih,ck_ pl hv]
theorem lamb_root {xs:List Nat} (h:Bytes xs) {x:Nat} (hx:x∈xs):peval (lamb xs) x=0:=by
  rw [lamb_eval xs h x (h x hx)]
  induction xs with
  | nil=>cases hx
  | cons y ys ih =>
    simp only [List.foldr_cons]
    rcases List.mem_cons.1 hx with e|q
    · subst e;rw [Nat.xor_self,ct_]
    · rw [ih (fun z hz=>h z (by simp [hz])) q,bD_]
theorem lamb_only {xs:List Nat} (h:Bytes xs) {x:Nat} (hb:x<256) (hx:peval (lamb xs) x=0):x∈xs:=by
  rw [lamb_eval xs h x hb] at hx
  induction xs with
  | nil=>simp at hx
  | cons y ys ih =>
    simp only [List.foldr_cons] at hx
    have hy:=h y (by simp)
    have by':Bytes ys:=fun z hz=>h z (by simp [hz])
    have hl:∀ (l:List Nat),Bytes l→l.foldr (fun x_1 acc=>gmul (x ^^^ x_1) acc) 1<256:=by
      intro l bl
      rw [← lamb_eval l bl x hb];exact ca_ (da_ l bl) x
    rcases cG_ (xlt hb hy) (hl ys by') hx with q|q
    · rw [dq_ q];simp
    · exact List.mem_cons_of_mem _ (ih by' q)

def esum (E:List (Nat × Nat)) (f:Nat × Nat→Nat):Nat:=E.foldr (fun p acc=>f p ^^^ acc) 0
def psum (E:List (Nat × Nat)) (m:Nat):Nat:=esum E (fun p=>gmul p.2 (gpow p.1 m))
theorem esum_cons (p:Nat × Nat) (E:List (Nat × Nat)) (f:Nat × Nat→Nat):esum (p :: E) f=f p ^^^ esum E f:=rfl
theorem esum_congr {f g:Nat × Nat→Nat} : ∀ {E:List (Nat × Nat)},(∀ p∈E,f p=g p)→esum E f=esum E g
  | [],_=>rfl
  | p :: E,h=>by rw [esum_cons,esum_cons,h p (by simp),esum_congr (fun q hq=>h q (by simp [hq]))]
theorem esum_lt {f:Nat × Nat→Nat} : ∀ {E:List (Nat × Nat)},(∀ p∈E,f p<256)→esum E f<256
  | [],_=>by simp [esum]
  | p :: E,h=>by rw [esum_cons];exact xlt (h p (by simp)) (esum_lt (fun q hq=>h q (by simp [hq])))
theorem esum_none {f:Nat × Nat→Nat} : ∀ {E:List (Nat × Nat)},(∀ p∈E,f p=0)→esum E f=0
  | [],_=>rfl
  | p :: E,h=>by rw [esum_cons,h p (by simp),esum_none (fun q hq=>h q (by simp [hq]))];rfl
theorem esum_single {f:Nat × Nat→Nat} : ∀ {E:List (Nat × Nat)} (k:Nat) (hk:k<E.length),(∀ j (hj:j<E.length),j≠k→f E[j]=0)→esum E f=f E[k]
  | [],k,hk,_=>by simp at hk
  | p :: E,0,_,h=>by
    rw [esum_cons,esum_none (E:=E) (fun q hq=>by
      obtain ⟨j,hj,rfl⟩:=List.mem_iff_getElem.1 hq
      have:=h (j+1) (by simpa using hj) (by omega)
      simpa using this),Nat.xor_zero];rfl
  | p :: E,k+1,hk,h=>by
    have h0:f p=0:=by have:=h 0 (by simp) (by omega);simpa using this
    rw [esum_cons,h0,Nat.zero_xor,esum_single k (by simpa using hk) (fun j hj hjk=>by
      have:=h (j+1) (by simpa using hj) (by omega)
      simpa using this)];rfl
theorem psum_lt {E:List (Nat × Nat)} (h:Pts E) (m:Nat):psum E m<256:=esum_lt (fun p hp=>cg_ (h p hp).2)
def seq (f:Nat→Nat):Nat→Nat→List Nat
  | _,0=>[]
  | b,n+1=>f b :: seq f (b+1) n
theorem seq_length (f:Nat→Nat):∀ b n,(seq f b n).length=n
  | _,0=>rfl
  | b,n+1=>by show (seq f (b+1) n).length+1=_;rw [seq_length f (b+1) n]
theorem seq_getD (f:Nat→Nat):∀ (b n i:Nat),i<n→(seq f b n).getD i 0=f (b+i)
  | b,n+1,0,_=>rfl
  | b,n+1,i+1,h=>by
    have:=seq_getD f (b+1) n i (by omega)
    show (seq f (b+1) n).getD i 0=_
    rw [this];congr 1;omega
theorem seq_congr {f g:Nat→Nat} : ∀ (b n:Nat),(∀ m,b≤m→m<b+n→f m=g m)→seq f b n=seq g b n
  | _,0,_=>rfl
  | b,n+1,h=>by
    show f b :: seq f (b+1) n=g b :: seq g (b+1) n
    rw [h b (Nat.le_refl _) (by omega),seq_congr (b+1) n (fun m h1 h2=>h m (by omega) (by omega))]
theorem seq_bytes {f:Nat→Nat} (h:∀ m,f m<256):∀ (b n:Nat),Bytes (seq f b n)
  | _,0=>by intro y hy;cases hy
  | b,n+1=>by
    intro y hy
    rcases List.mem_cons.1 hy with rfl|q
    · exact h b
    · exact seq_bytes h (b+1) n y q
theorem dotp_cons (a b:Nat) (as bs:List Nat):dotp (a :: as) (b :: bs)=gmul a b ^^^ dotp as bs:=rfl
theorem seq_succ (f:Nat→Nat) (b n:Nat):seq f b (n+1)=f b :: seq f (b+1) n:=rfl
theorem gpow_succ (x b:Nat):gpow x (b+1)=gmul (gpow x b) x:=rfl
theorem dotp_geo (e x:Nat) (he:e<256) (hx:x<256) (y:List Nat):∀ (b:Nat),Bytes y→dotp (seq (fun m=>gmul e (gpow x m)) b y.length) y=gmul (gmul e (gpow x b)) (peval y x):=by
  induction y with
  | nil=>intro b _;simp [dotp,seq,peval,bD_]
  | cons c y ih =>
    intro b h
    have by':Bytes y:=fun z hz=>h z (by simp [hz])
    have ih:=ih (b+1) by'
    have hc:=h c (by simp)
    have hg:gmul e (gpow x b)<256:=cg_ he
    rw [List.length_cons,seq_succ,dotp_cons,ih,cr_,cT_,Nat.xor_comm,gpow_succ]
    refine congrArg (fun z=>z ^^^ _) ?_
    rw [← bS_ he (bY_ b) hx,bS_ hg hx (ca_ by' x),ck_ hx (ca_ by' x)]
theorem seq_xor (f g:Nat→Nat):∀ (b n:Nat),seq (fun m=>f m ^^^ g m) b n=addr (seq f b n) (seq g b n)
  | _,0=>rfl
  | b,n+1=>by
    show (f b ^^^ g b) :: seq (fun m=>f m ^^^ g m) (b+1) n=(f b ^^^ g b) :: addr (seq f (b+1) n) (seq g (b+1) n)
    rw [seq_xor f g (b+1) n]
theorem dotp_left_zero:∀ (n b:Nat) (y:List Nat),dotp (seq (fun _=>0) b n) y=0
  | 0,_,_=>by simp [seq,dotp]
  | n+1,b,[]=>by simp [seq,dotp]
  | n+1,b,c :: y=>by
    show gmul 0 c ^^^ dotp (seq (fun _=>0) (b+1) n) y=0
    rw [ct_,dotp_left_zero n (b+1) y];rfl
theorem dotp_psum:∀ (E:List (Nat × Nat)),Pts E→∀ (y:List Nat) (b:Nat),Bytes y→dotp (seq (psum E) b y.length) y=esum E (fun p=>gmul (gmul p.2 (gpow p.1 b)) (peval y p.1))
  | [],_,y,b,_=>dotp_left_zero y.length b y
  | p :: E,hE,y,b,h=>by
    have hp:=hE p (by simp)
    have hE':Pts E:=fun q hq=>hE q (by simp [hq])
    have e:seq (psum (p :: E)) b y.length=addr (seq (fun m=>gmul p.2 (gpow p.1 m)) b y.length) (seq (psum E) b y.length):=seq_xor _ _ b y.length
    rw [e,dotp_addr _ _ _ (by rw [seq_length,seq_length]) (seq_bytes (fun m=>cg_ hp.2) _ _) (seq_bytes (psum_lt hE') _ _),dotp_geo p.2 p.1 hp.2 hp.1 y b h,dotp_psum E hE' y b h]
    rfl
theorem vand2 {E:List (Nat × Nat)} (hE:Pts E) (hd:(E.map Prod.fst).Nodup) (h0:∀ p∈E,p.1≠0) {b n:Nat} (hn:E.length≤n) (hz:∀ m,b≤m→m<b+n→psum E m=0):∀ p∈E,p.2=0:=by
  intro p hp
  obtain ⟨k,hk,rfl⟩:=List.mem_iff_getElem.1 hp
  have hb:Bytes (E.map Prod.fst):=by
    intro x hx
    obtain ⟨q,hq,rfl⟩:=List.mem_map.1 hx
    exact (hE q hq).1
  have hb':Bytes ((E.map Prod.fst).eraseIdx k):=fun x hx=>hb x (List.mem_of_mem_eraseIdx hx)
  have hl:(lamb ((E.map Prod.fst).eraseIdx k)).length=E.length:=by
    rw [cF_,List.length_eraseIdx]
    simp only [List.length_map,hk,if_true];omega
  have e1:=dotp_psum E hE (lamb ((E.map Prod.fst).eraseIdx k)) b (da_ _ hb')
  rw [hl,seq_congr (g:=fun _=>0) b E.length (fun m h1 h2=>hz m h1 (by omega)),dotp_left_zero] at e1
  rw [esum_single k hk (fun j hj hjk=>by
    have:peval (lamb ((E.map Prod.fst).eraseIdx k)) E[j].1=0:=by
      refine lamb_root hb' ?_
      rw [List.mem_eraseIdx_iff_getElem]
      exact ⟨j,by simpa using hj,hjk,by simp⟩
    rw [this,bD_])] at e1
  have hpk:=hE E[k] hp
  rcases cG_ (cg_ hpk.2) (ca_ (da_ _ hb') _) e1.symm with q|q
  · rcases cG_ hpk.2 (bY_ b) q with u|u
    · exact u
    · exact absurd u (gpow_ne hpk.1 (h0 _ hp) b)
  · have:=lamb_only hb' hpk.1 q
    rw [List.mem_eraseIdx_iff_getElem] at this
    obtain ⟨j,hj,hjk,e⟩:=this
    have hj':j<E.length:=by simpa using hj
    have:=(List.getElem_inj (h₀:=hj) (h₁:=by simpa using hk) hd).1 (by rw [e];simp)
    exact absurd this hjk

structure Syn (s:List Nat) (E:List (Nat × Nat)):Prop where
  pts:Pts E
  byt:Bytes s
  at_:∀ i,i<s.length→s.getD i 0=psum E (i+1)
theorem Syn.hrow {s:List Nat} {E:List (Nat × Nat)} (h:Syn s E) {n i:Nat} (hi:i+n≤s.length):hrow s n i=seq (psum E) (i+1) n:=by
  apply cu_ (by rw [cO_ hi,seq_length])
  intro q
  rcases Nat.lt_or_ge q n with u|u
  · rw [seq_getD _ _ _ _ u,← hrow_get hi]
    have:=h.at_ (i+q) (by omega)
    simp only [List.getD_eq_getElem?_getD] at this ⊢
    simp only [List.getElem?_map,List.getElem?_range u,Option.map_some,Option.getD_some]
    rw [this];congr 1;omega
  · rw [List.getD_eq_getElem?_getD,List.getD_eq_getElem?_getD,List.getElem?_eq_none (by rw [cO_ hi];exact u),List.getElem?_eq_none (by rw [seq_length];exact u)]
theorem dc_ (n q:Nat):(List.replicate n 0).getD q 0=0:=by simp only [List.getD_eq_getElem?_getD,List.getElem?_replicate];split <;> rfl
theorem hank_row {s:List Nat} {n i:Nat} (h:i<n):row (hank s n) i=hrow s n i:=by simp [row,hank,h]
theorem do_ (s:List Nat) (n:Nat):(hank s n).length=n:=by simp [hank]
theorem Syn.dot {s:List Nat} {E:List (Nat × Nat)} (h:Syn s E) {i:Nat} {y:List Nat} (hy:Bytes y) (hi:i+y.length≤s.length):dotp (K.hrow s y.length i) y=esum E (fun p=>gmul (gmul p.2 (gpow p.1 (i+1))) (peval y p.1)):=by
  rw [h.hrow hi,dotp_psum E h.pts y (i+1) hy]
theorem Syn.hank_zero {s:List Nat} {E:List (Nat × Nat)} (h:Syn s E) {n:Nat} (hn:n+n≤s.length) {y:List Nat} (hy:Vec n y) (hz:∀ p∈E,peval y p.1=0):app (hank s n) y=List.replicate n 0:=by
  apply cu_ (by rw [cB_,do_,List.length_replicate])
  intro q
  rw [dc_]
  rcases Nat.lt_or_ge q n with u|u
  · have:=h.dot (i:=q) hy.byt (by rw [hy.len];omega)
    rw [hy.len] at this
    rw [app_getD _ (by rw [do_];exact u),hank_row u,this]
    exact esum_none (fun p hp=>by rw [hz p hp,bD_])
  · rw [List.getD_eq_getElem?_getD,List.getElem?_eq_none (by rw [cB_,do_];exact u)];rfl
theorem Syn.hank_short {s:List Nat} {E:List (Nat × Nat)} (h:Syn s E) {n:Nat} (hn:n+n≤s.length) {y:List Nat} (hy:Bytes y) (hl:y.length≤n) (hz:∀ p∈E,peval y p.1=0) {j:Nat} (hj:y.getD j 0≠0):(minv (hank s n)).2≠n:=by
  have hv:Vec n (y++List.replicate (n - y.length) 0):=⟨by simp;omega,fun x hx=>by
    rcases List.mem_append.1 hx with q|q
    · exact hy x q
    · have:=List.eq_of_mem_replicate q;omega⟩
  refine minv_short (hank_mat h.byt hn) hv (h.hank_zero hn hv (fun p hp=>by rw [peval_zeros];exact hz p hp)) (j:=j) ?_
  have hjl:j<y.length:=by
    rcases Nat.lt_or_ge j y.length with u|u
    · exact u
    · exact absurd (by rw [List.getD_eq_getElem?_getD,List.getElem?_eq_none u];rfl) hj
  have:(y++List.replicate (n - y.length) 0).getD j 0=y.getD j 0:=by
    simp only [List.getD_eq_getElem?_getD,List.getElem?_append_left hjl]
  rw [this];exact hj
structure Errs (E:List (Nat × Nat)):Prop where
  pts:Pts E
  nod:(E.map Prod.fst).Nodup
  x0:∀ p∈E,p.1≠0
  e0:∀ p∈E,p.2≠0
def xsOf (E:List (Nat × Nat)):List Nat:=E.map Prod.fst
theorem Pts.xs {E:List (Nat × Nat)} (h:Pts E):Bytes (xsOf E):=by
  intro x hx
  obtain ⟨q,hq,rfl⟩:=List.mem_map.1 hx
  exact (h q hq).1
theorem Syn.hank_full {s:List Nat} {E:List (Nat × Nat)} (h:Syn s E) (he:Errs E) (hn:E.length+E.length≤s.length) (h200:E.length≤200):(minv (hank s E.length)).2=E.length:=by
  refine minv_full (hank_mat h.byt hn) (fun y hy hz=>?_)
  -- the sums of e x p(x)
  have hz':∀ i,i<E.length→esum E (fun p=>gmul (gmul p.2 (gpow p.1 (i+1))) (peval y p.1))=0:=by
    intro i hi
    have:=h.dot (i:=i) hy.byt (by rw [hy.len];omega)
    rw [hy.len] at this
    rw [← this,← hank_row hi,← app_getD y (by rw [do_];exact hi),hz,dc_]
  have hE2:∀ p∈E.map (fun p=>(p.1,gmul p.2 (peval y p.1))),p.2=0:=by
    refine vand2 (b:=1) (n:=E.length) ?_ ?_ ?_ (by simp) ?_
    · intro q hq
      obtain ⟨p,hp,rfl⟩:=List.mem_map.1 hq
      exact ⟨(h.pts p hp).1,cg_ (h.pts p hp).2⟩
    · rw [List.map_map]
      exact he.nod
    · intro q hq
      obtain ⟨p,hp,rfl⟩:=List.mem_map.1 hq
      exact he.x0 p hp
    · intro m h1 h2
      have:=hz' (m - 1) (by omega)
      rw [show m - 1+1=m by omega] at this
      rw [← this]
      unfold psum esum
      rw [List.foldr_map]
      refine esum_congr (f:=fun p=>gmul (gmul p.2 (peval y p.1)) (gpow p.1 m)) (fun p hp=>?_)
      have hp':=h.pts p hp
      have pl:=ca_ hy.byt p.1
      show gmul (gmul p.2 (peval y p.1)) (gpow p.1 m)=gmul (gmul p.2 (gpow p.1 m)) (peval y p.1)
      rw [bS_ hp'.2 pl (bY_ m),ck_ pl (bY_ m),← bS_ hp'.2 (bY_ m) pl]
  have hroot:∀ x∈xsOf E,peval y x=0:=by
    intro x hx
    obtain ⟨p,hp,rfl⟩:=List.mem_map.1 hx
    have:=hE2 _ (List.mem_map.2 ⟨p,hp,rfl⟩)
    rcases cG_ (h.pts p hp).2 (ca_ hy.byt p.1) this with q|q
    · exact absurd q (he.e0 p hp)
    · exact q
  have:=peval_all_zero y hy.byt (by rw [hy.len];exact h200) (roots_zero E.length y hy.len hy.byt (xsOf E) h.pts.xs he.nod (by simp [xsOf]) hroot)
  rw [hy.len] at this
  exact this
theorem lamb_split (xs:List Nat):lamb xs=(lamb xs).take xs.length++[1]:=by
  apply cu_ (by simp [cF_])
  intro q
  have hl:((lamb xs).take xs.length).length=xs.length:=by simp [cF_]
  rw [getD_snoc,hl]
  by_cases e:q<xs.length
  · rw [if_pos e,take_getD e]
  · rw [if_neg e]
    by_cases u:q=xs.length
    · rw [if_pos u,u,lamb_top]
    · rw [if_neg u,List.getD_eq_getElem?_getD,List.getElem?_eq_none (by rw [cF_];omega)];rfl
theorem Syn.solution {s:List Nat} {E:List (Nat × Nat)} (h:Syn s E) (hn:E.length+E.length≤s.length):app (hank s E.length) ((lamb (xsOf E)).take E.length)=K.hrow s E.length E.length:=by
  have hx:(xsOf E).length=E.length:=by simp [xsOf]
  have hl:((lamb (xsOf E)).take E.length).length=E.length:=by simp [cF_,hx]
  have hb:Bytes ((lamb (xsOf E)).take E.length):=(da_ _ h.pts.xs).take _
  apply cu_ (by rw [cB_,do_,cO_ hn])
  intro q
  rcases Nat.lt_or_ge q E.length with u|u
  · rw [app_getD _ (by rw [do_];exact u),hank_row u]
    -- the whole sum is nothing
    have e1:=h.dot (i:=q) (y:=lamb (xsOf E)) (da_ _ h.pts.xs) (by rw [cF_,hx];omega)
    rw [esum_none (fun p hp=>by rw [lamb_root h.pts.xs (List.mem_map.2 ⟨p,hp,rfl⟩),bD_])] at e1
    have es:K.hrow s (lamb (xsOf E)).length q=K.hrow s E.length q++[s.getD (q+E.length) 0]:=by
      rw [cF_,hx]
      unfold K.hrow
      rw [db_ _ _ (by rw [List.length_drop];omega),List.getElem_drop]
      congr 2
      simp [show q+E.length<s.length by omega]
    have e2:dotp (K.hrow s (lamb (xsOf E)).length q) (lamb (xsOf E))=dotp (K.hrow s E.length q) ((lamb (xsOf E)).take E.length) ^^^ s.getD (q+E.length) 0:=by
      rw [es]
      conv=>lhs;rw [lamb_split (xsOf E),hx]
      rw [dotp_append _ _ _ _ (by rw [cO_ (by omega),hl])]
      refine congrArg (fun z=>_ ^^^ z) ?_
      show gmul (s.getD (q+E.length) 0) 1 ^^^ 0=_
      rw [cX_ (h.byt.getD _),Nat.xor_zero]
    rw [e2] at e1
    rw [dq_ e1]
    have:=h.hrow hn
    rw [this,seq_getD _ _ _ _ u,h.at_ (q+E.length) (by omega)]
    congr 1;omega
  · rw [List.getD_eq_getElem?_getD,List.getD_eq_getElem?_getD,List.getElem?_eq_none (by rw [cB_,do_];exact u),List.getElem?_eq_none (by rw [cO_ hn];exact u)]
theorem Syn.loc {s:List Nat} {E:List (Nat × Nat)} (h:Syn s E) (he:Errs E) (h200:E.length≤200):∀ n,E.length≤n→n+n≤s.length→loc s n=(lamb (xsOf E)).reverse
  | 0,hn,_=>by
    obtain rfl:E=[]:=List.eq_nil_of_length_eq_zero (by omega)
    rfl
  | n+1,hn,hs=>by
    have hx:(xsOf E).length=E.length:=by simp [xsOf]
    unfold K.loc
    by_cases e:E.length=n+1
    · have hf:=h.hank_full he (by omega) h200
      rw [e] at hf
      rw [if_pos hf]
      have hsol:=h.solution (by omega)
      have hv:Vec E.length ((lamb (xsOf E)).take E.length):=⟨by simp [cF_,hx],(da_ _ h.pts.xs).take _⟩
      rw [e] at hsol hv
      rw [← hsol,minv_back (hank_mat h.byt hs) hf hv]
      conv=>rhs;rw [lamb_split (xsOf E),hx,e]
      simp
    · rw [if_neg (h.hank_short hs (da_ _ h.pts.xs) (by rw [cF_,hx];omega) (fun p hp=>lamb_root h.pts.xs (List.mem_map.2 ⟨p,hp,rfl⟩)) (j:=(xsOf E).length) (by rw [lamb_top];omega))]
      exact Syn.loc h he h200 n (by omega) (by omega)
theorem loc_long (s:List Nat) (hb:Bytes s):∀ n,n+n≤s.length→(loc s n).length≠1→∃ m,m+1≤n∧(loc s n).length=m+1+1∧(minv (hank s (m+1))).2=m+1
  | 0,_,h=>by simp [K.loc] at h
  | n+1,hs,h=>by
    unfold K.loc at h ⊢
    by_cases e:(minv (hank s (n+1))).2=n+1
    · rw [if_pos e] at h ⊢
      refine ⟨n,Nat.le_refl _,?_,e⟩
      simp [app,(cU_ (hank_mat hb hs)).len]
    · rw [if_neg e] at h ⊢
      obtain ⟨m,h1,h2,h3⟩:=loc_long s hb n (by omega) h
      exact ⟨m,by omega,h2,h3⟩
theorem loc_head (s:List Nat):∀ n,∃ r,loc s n=1 :: r
  | 0=>⟨[],rfl⟩
  | n+1=>by
    unfold K.loc
    split
    · exact ⟨_,rfl⟩
    · exact loc_head s n
theorem loc_bytes (s:List Nat) (hb:Bytes s):∀ n,n+n≤s.length→Bytes (loc s n)
  | 0,_=>by intro y hy;rw [List.mem_singleton.1 hy];omega
  | n+1,hs=>by
    unfold K.loc
    split
    · intro y hy
      rcases List.mem_cons.1 hy with rfl|q
      · omega
      · exact app_bytes (cU_ (hank_mat hb hs)) _ y (List.mem_reverse.1 q)
    · exact loc_bytes s hb n (by omega)
end Go.Proofs.Ytbloniemhkfnlaa.K
