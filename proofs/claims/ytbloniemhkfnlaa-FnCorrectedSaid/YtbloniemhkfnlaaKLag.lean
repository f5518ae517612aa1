import Derived.Test.YtbloniemhkfnlaaKGFL
set_option linter.unusedVariables false
set_option linter.unusedSimpArgs false
namespace Go.Proofs.Ytbloniemhkfnlaa.K
open Go Go.RowKit Go.Proofs.YtbloniemhkfnlaaW.PrintWords Go.Proofs.YtbloniemhkfnlaaW.PrintMore

def Poly (n:Nat) (f:Nat→Nat):Prop:=∃ l:List Nat,l.length=n∧Bytes l∧∀ v,v<256→f v=peval l v
theorem cr_ (c:Nat) (l:List Nat) (x:Nat):peval (c :: l) x=gmul (peval l x) x ^^^ c:=rfl
theorem Poly.lt {n:Nat} {f:Nat→Nat} (h:Poly n f) {v:Nat} (hv:v<256):f v<256:=by
  obtain ⟨l,_,hb,he⟩:=h
  rw [he v hv];exact ca_ hb v
def ladd:List Nat→List Nat→List Nat
  | a :: l,b :: m=>(a ^^^ b) :: ladd l m
  | _,_=>[]
theorem ladd_spec:∀ (l m:List Nat),l.length=m.length→Bytes l→Bytes m→(ladd l m).length=l.length∧Bytes (ladd l m)∧∀ v,v<256→peval (ladd l m) v=peval l v ^^^ peval m v
  | [],[],_,_,_=>⟨rfl,(by intro y hy;cases hy),fun v _=>by simp only [ladd,peval,List.foldr_nil,Nat.xor_self]⟩
  | a :: l,b :: m,h,hl,hm=>by
    obtain ⟨i1,i2,i3⟩:=ladd_spec l m (by simpa using h) (fun y hy=>hl y (by simp [hy])) (fun y hy=>hm y (by simp [hy]))
    have ha:=hl a (by simp)
    have hb:=hm b (by simp)
    have bl:Bytes l:=fun y hy=>hl y (by simp [hy])
    have bm:Bytes m:=fun y hy=>hm y (by simp [hy])
    refine ⟨by simp [ladd,i1],?_,?_⟩
    · intro y hy
      rcases List.mem_cons.1 hy with rfl|hy
      · exact xlt ha hb
      · exact i2 y hy
    · intro v hv
      show gmul (peval (ladd l m) v) v ^^^ (a ^^^ b)=_
      rw [i3 v hv,cr_,cr_,cN_ v (ca_ bl v) (ca_ bm v),xor4]
  | [],b :: m,h,_,_=>by simp at h
  | a :: l,[],h,_,_=>by simp at h
theorem Poly.add {n:Nat} {f g:Nat→Nat} (hf:Poly n f) (hg:Poly n g):Poly n (fun v=>f v ^^^ g v):=by
  obtain ⟨l,l1,l2,l3⟩:=hf
  obtain ⟨m,m1,m2,m3⟩:=hg
  obtain ⟨i1,i2,i3⟩:=ladd_spec l m (by omega) l2 m2
  exact ⟨ladd l m,by omega,i2,fun v hv=>by show f v ^^^ g v=_;rw [i3 v hv,l3 v hv,m3 v hv]⟩
theorem smul_spec (c:Nat) (hc:c<256):∀ (l:List Nat),Bytes l→Bytes (l.map (gmul c))∧∀ v,v<256→peval (l.map (gmul c)) v=gmul c (peval l v)
  | [],_=>⟨(by intro y hy;cases hy),fun v _=>by simp only [peval,List.map_nil,List.foldr_nil,bD_,Nat.xor_zero]⟩
  | a :: l,hl=>by
    have bl:Bytes l:=fun y hy=>hl y (by simp [hy])
    obtain ⟨i1,i2⟩:=smul_spec c hc l bl
    refine ⟨?_,?_⟩
    · intro y hy
      rcases List.mem_cons.1 hy with rfl|hy
      · exact cg_ hc
      · exact i1 y hy
    · intro v hv
      show gmul (peval (l.map (gmul c)) v) v ^^^ gmul c a=_
      rw [i2 v hv,cr_,cT_,bS_ hc (ca_ bl v) hv]
theorem dB_:∀ (l:List Nat) (v:Nat),peval (l++[0]) v=peval l v
  | [],v=>by simp only [peval,List.nil_append,List.foldr_cons,List.foldr_nil,ct_,Nat.xor_zero]
  | a :: l,v=>by
    rw [List.cons_append,cr_,cr_,dB_ l v]
theorem Poly.more {n:Nat} {f:Nat→Nat} (hf:Poly n f):Poly (n+1) f:=by
  obtain ⟨l,l1,l2,l3⟩:=hf
  refine ⟨l++[0],by simp [l1],?_,fun v hv=>by rw [dB_,l3 v hv]⟩
  intro y hy
  rcases List.mem_append.1 hy with hy|hy
  · exact l2 y hy
  · rw [List.mem_singleton.1 hy];omega
theorem cG_ {a b:Nat} (ha:a<256) (hb:b<256) (h:gmul a b=0):a=0∨b=0:=by
  by_cases h0:a=0
  · exact .inl h0
  · right
    have:gmul (ginv a) (gmul a b)=b:=by
      rw [← bS_ (dA_ a) ha hb,ck_ (dA_ a) ha,gmul_ginv ha h0,one_gmul hb]
    rw [← this,h,bD_]
theorem dq_ {a b:Nat} (h:a ^^^ b=0):a=b:=by
  have h2:a ^^^ (a ^^^ b)=a ^^^ 0:=by rw [h]
  rw [← Nat.xor_assoc,Nat.xor_self,Nat.zero_xor,Nat.xor_zero] at h2
  exact h2.symm
theorem divide:∀ (l:List Nat),Bytes l→∀ a,a<256→∃ m:List Nat,m.length=l.length - 1∧Bytes m∧∀ v,v<256→peval l v=gmul (v ^^^ a) (peval m v) ^^^ peval l a
  | [],_,a,_=>⟨[],rfl,(by intro y hy;cases hy),fun v _=>by simp only [peval,List.map_nil,List.foldr_nil,bD_,Nat.xor_zero]⟩
  | c :: l,hl,a,ha=>by
    have hc:=hl c (by simp)
    have bl:Bytes l:=fun y hy=>hl y (by simp [hy])
    obtain ⟨m,m1,m2,m3⟩:=divide l bl a ha
    by_cases h0:l.length=0
    · obtain rfl:l=[]:=List.eq_nil_of_length_eq_zero h0
      exact ⟨[],rfl,(by intro y hy;cases hy),fun v _=>by simp [peval,bD_,ct_]⟩
    have hla:=ca_ bl a
    refine ⟨peval l a :: m,by simp [m1];omega,?_,?_⟩
    · intro y hy
      rcases List.mem_cons.1 hy with rfl|hy
      · exact hla
      · exact m2 y hy
    · intro v hv
      have hva:v ^^^ a<256:=xlt hv ha
      have hmv:=ca_ m2 v
      rw [cr_ c l v,m3 v hv,cr_ c l a,cr_,cN_ v (cg_ hva) hla,bS_ hva hmv hv,cT_,ck_ hva hla,cT_ (peval l a),ck_ hla ha]
      simp only [Nat.xor_assoc]
      congr 1
      rw [ck_ ha hla]
      congr 1
      rw [← Nat.xor_assoc,Nat.xor_self,Nat.zero_xor]
theorem roots_zero:∀ (n:Nat) (l:List Nat),l.length=n→Bytes l→∀ rs:List Nat,Bytes rs→rs.Nodup→n≤rs.length→(∀ r∈rs,peval l r=0)→∀ v,v<256→peval l v=0
  | 0,l,h,_,_,_,_,_,_,v,_=>by
    obtain rfl:l=[]:=List.eq_nil_of_length_eq_zero h
    rfl
  | n+1,l,h,hl,rs,hr,hd,hn,hz,v,hv=>by
    cases rs with
    | nil=>simp at hn
    | cons a rs =>
      have ha:=hr a (by simp)
      obtain ⟨m,m1,m2,m3⟩:=divide l hl a ha
      have za:=hz a (by simp)
      have hm:∀ r∈rs,peval m r=0:=by
        intro r hrr
        have hrb:=hr r (by simp [hrr])
        have e:=m3 r hrb
        rw [hz r (by simp [hrr]),za,Nat.xor_zero] at e
        rcases cG_ (xlt hrb ha) (ca_ m2 r) e.symm with h1|h1
        · have:=dq_ h1
          subst this
          exact absurd hrr (List.nodup_cons.1 hd).1
        · exact h1
      have:=roots_zero n m (by omega) m2 rs (fun y hy=>hr y (by simp [hy])) (List.nodup_cons.1 hd).2 (by simpa using hn) hm v hv
      rw [m3 v hv,this,bD_,za];rfl
theorem Poly.zero {n:Nat} {f:Nat→Nat} (hf:Poly n f) {rs:List Nat} (hr:Bytes rs) (hd:rs.Nodup) (hn:n≤rs.length) (hz:∀ r∈rs,f r=0) {v:Nat} (hv:v<256):f v=0:=by
  obtain ⟨l,l1,l2,l3⟩:=hf
  rw [l3 v hv]
  exact roots_zero n l l1 l2 rs hr hd hn (fun r h=>by rw [← l3 r (hr r h)];exact hz r h) v hv
theorem Poly.congr {n:Nat} {f g:Nat→Nat} (hf:Poly n f) (h:∀ v,v<256→g v=f v):Poly n g:=by
  obtain ⟨l,l1,l2,l3⟩:=hf
  exact ⟨l,l1,l2,fun v hv=>by rw [h v hv,l3 v hv]⟩
theorem Poly.nothing (n:Nat):Poly n (fun _=>0):=by
  induction n with
  | zero=>exact ⟨[],rfl,(by intro y hy;cases hy),fun v _=>rfl⟩
  | succ n ih=>exact ih.more
theorem Poly.upto {n k:Nat} {f:Nat→Nat} (hf:Poly n f) (h:n≤k):Poly k f:=by
  induction k with
  | zero => obtain rfl : n = 0 := by omega
            exact hf
  | succ k ih =>
    by_cases e:n=k+1
    · subst e;exact hf
    · exact (ih (by omega)).more
def Pts (m:List (Nat × Nat)):Prop:=∀ p∈m,p.1<256∧p.2<256
theorem Poly.one:Poly 1 (fun _=>1):=⟨[1],rfl,(by intro y hy;rw [List.mem_singleton.1 hy];omega),fun v hv=>by simp only [peval,List.foldr_cons,List.foldr_nil,ct_,Nat.zero_xor]⟩
end Go.Proofs.Ytbloniemhkfnlaa.K
