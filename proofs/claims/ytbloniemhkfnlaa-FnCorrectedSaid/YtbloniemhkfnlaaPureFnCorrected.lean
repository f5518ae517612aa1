/- The law FnCorrected answers true for all drawn data and errors: a word with at most t wrong bytes is corrected, and what is corrected is whole and as far away as is told. -/
import Derived.Test.YtbloniemhkfnlaaPFnCorrectedx20
import Derived.Test.YtbloniemhkfnlaaKKit
import Derived.Test.YtbloniemhkfnlaaKEnc
import Derived.Test.YtbloniemhkfnlaaKCor2
import Derived.Test.YtbloniemhkfnlaaKGFL
import Derived.Test.YtbloniemhkfnlaaKElim
set_option linter.unusedVariables false
set_option linter.unusedSimpArgs false
namespace Go.Proofs.Ytbloniemhkfnlaa.Pure
open Go Go.RowKit Go.Proofs.Ytbloniemhkfnlaa Go.Proofs.Ytbloniemhkfnlaa.PFnCorrected Go.Proofs.YtbloniemhkfnlaaW.PrintWords Go.Proofs.YtbloniemhkfnlaaW.PrintLast Go.Proofs.YtbloniemhkfnlaaW.PrintMore

theorem fits_eq (n:Nat) (hn:n≤1048576) (l:List Int) (hl:l.length=n) (t:Int):∃ b:Bool,Fbe.f l t=some b∧Fah.f l t=some b∧(b=true→1≤t∧t≤4∧2 * t+1≤n∧n≤24):=by
  by_cases h:1≤t∧t≤4
  · have q:Fal.f t 1 4=some true:=by unfold Fal.f;rw [if_pos h.1];simp [h.2]
    have q2:Fp.f t 1 4=some true:=q
    have w:wrap64 (wrap64 (2 * t)+1)=2 * t+1:=by rw [K.w64 (x:=2 * t) (by omega) (by omega),K.w64 (by omega) (by omega)]
    by_cases h2:(n:Int) ≥ 2 * t+1
    · refine ⟨decide ((n:Int)≤24),?_,?_,fun hb=>by simp at hb;omega⟩
      · simp only [Fbe.f,Fav.f,q,Option.bind_some,if_true,w];simp only [Fal.f,hl,if_pos h2,Option.bind_some]
      · simp only [Fah.f,Faf.f,q2,Option.bind_some,if_true,w];simp only [Fp.f,hl,if_pos h2,Option.bind_some]
    · refine ⟨false,?_,?_,fun hb=>by cases hb⟩
      · simp only [Fbe.f,Fav.f,q,Option.bind_some,if_true,w];simp only [Fal.f,hl,if_neg h2,Option.bind_some]
      · simp only [Fah.f,Faf.f,q2,Option.bind_some,if_true,w];simp only [Fp.f,hl,if_neg h2,Option.bind_some]
  · have q:Fal.f t 1 4=some false:=by
      unfold Fal.f;split
      · simp;omega
      · rfl
    have q2:Fp.f t 1 4=some false:=q
    refine ⟨false,?_,?_,fun hb=>by cases hb⟩
    · simp only [Fbe.f,Fav.f,q,Option.bind_some,Bool.false_eq_true,if_false]
    · simp only [Fah.f,Faf.f,q2,Option.bind_some,Bool.false_eq_true,if_false]

theorem clone_eq (l:List Int) (h:l.length<140737488355328):Faj.f l=some l:=by
  simp [Faj.f,h]

def genW (t:Nat):List Nat:=((Fw.f 400 (t:Int)).getD []).map Int.toNat
theorem gen_full (t:Nat) (h1:1≤t) (h4:t≤4):((genW t).length=2 * t+1∧K.Bytes (genW t)∧(genW t).getD (2 * t) 0=1∧∀ i,i<2 * t→K.peval (genW t) (K.gpow 3 (i+1))=0)∧Ev (fun k=>Fw.f k (t:Int)) (K.il (genW t))∧Ev (fun k=>Fh.f k (t:Int)) (K.il (genW t)):=by
  have h:∀ t:Fin 5,1≤t.val→((genW t.val).length=2 * t.val+1∧(∀ x∈genW t.val,x<256)∧(genW t.val).getD (2 * t.val) 0=1∧∀ i:Fin 8,i.val<2 * t.val→K.peval (genW t.val) (K.gpow 3 (i.val+1))=0)∧Fw.f 400 (t.val:Int)=some (K.il (genW t.val))∧Fh.f 400 (t.val:Int)=some (K.il (genW t.val)):=by decide +kernel
  obtain ⟨⟨a,b,b2,b3⟩,c,d⟩:=h ⟨t,by omega⟩ h1
  have b4:∀ i,i<2 * t→K.peval (genW t) (K.gpow 3 (i+1))=0:=fun i hi=>b3 ⟨i,by omega⟩ hi
  exact ⟨⟨a,b,b2,b4⟩,Ev.of (Fw.mono _) c,Ev.of (Fh.mono _) d⟩
/-- Data that fit, and a number of errors. -/
def EncFits (n:Nat) (t:Int):Prop:=1≤t∧t≤4∧1≤n∧(n:Int)+2 * t≤24
theorem encode_no (m:List Nat) (hl:m.length≤1048576) (t:Int) (h:¬ EncFits m.length t):Ev (fun k=>Fv.f k (K.il m) t) (([]:List Int),false)∧Ev (fun k=>Ff.f k (K.il m) t) (([]:List Int),false):=by
  unfold EncFits at h
  have bad:Ev (fun k=>Fv.j0 k (K.il m) t true) (([]:List Int),false)∧Ev (fun k=>Ff.j0 k (K.il m) t true) (([]:List Int),false):=by
    constructor <;> apply K.Ev.succ
    · simp only [Fv.j0,if_true];exact Ev.now _
    · simp only [Ff.j0,if_true];exact Ev.now _
  by_cases h14:1≤t∧t≤4
  case neg =>
    have q:Fal.f t 1 4=some false:=by
      unfold Fal.f;split
      · simp;omega
      · rfl
    have q2:Fp.f t 1 4=some false:=q
    constructor
    · simp only [Fv.f,Fav.f,q,Option.bind_some,Bool.false_eq_true,if_false];exact bad.1
    · simp only [Ff.f,Faf.f,q2,Option.bind_some,Bool.false_eq_true,if_false];exact bad.2
  have q:Fal.f t 1 4=some true:=by unfold Fal.f;rw [if_pos h14.1];simp;omega
  have q2:Fp.f t 1 4=some true:=q
  have w2:K.Eqn (wrap64 (2 * t)) (2 * t):=⟨K.w64 (by omega) (by omega)⟩
  have w3:K.Eqn (wrap64 ((m.length:Int)+2 * t)) ((m.length:Int)+2 * t):=⟨K.w64 (by omega) (by omega)⟩
  have w4:K.Eqn (wrap64 (24 - 2 * t)) (24 - 2 * t):=⟨K.w64 (by omega) (by omega)⟩
  by_cases h0:(m.length:Int)=0
  · have q3:Fp.f (m.length:Int) 1 (24 - 2 * t)=some false:=by unfold Fp.f;rw [if_neg (by omega)]
    constructor
    · simp only [Fv.f,Fav.f,q,Option.bind_some,if_true,K.bn_,if_pos h0];exact bad.1
    · simp only [Ff.f,Faf.f,q2,Option.bind_some,if_true,K.bn_,w2.o,w4.o,q3,Bool.not_false];exact bad.2
  · have q3:Fp.f (m.length:Int) 1 (24 - 2 * t)=some false:=by unfold Fp.f;rw [if_pos (by omega),decide_eq_false (by omega)]
    constructor
    · simp only [Fv.f,Fav.f,q,Option.bind_some,if_true,K.bn_,if_neg h0,w2.o,w3.o,decide_eq_true (show (m.length:Int)+2 * t > 24 by omega)];exact bad.1
    · simp only [Ff.f,Faf.f,q2,Option.bind_some,if_true,K.bn_,w2.o,w4.o,q3,Bool.not_false];exact bad.2
theorem l1Times_ev (a b:Nat) (ha:a<256) (hb:b<256):Ev (fun k=>Fi.f k (a:Int) (b:Int)) ((K.gmul a b:Nat):Int):=by
  have key:∀ (n x y o:Nat),x<256→o<256→y<2 ^ n→n≤8→Ev (fun k=>Fi.l0 k (o:Int) (x:Int) (y:Int)) ((K.gstep n x y o:Nat):Int):=by
    intro n
    induction n with
    | zero =>
      intro x y o hx ho hy _
      obtain rfl:y=0:=by simpa using hy
      apply K.Ev.succ
      simp only [Fi.l0,show ¬ (((0:Nat):Int) > 0) by omega,if_false,K.gstep]
      exact K.Ev.const (by rw [show (o:Int) % 256=(o:Int) by omega])
    | succ n ih =>
      intro x y o hx ho hy hn
      by_cases h0:y=0
      · subst h0
        apply K.Ev.succ
        rw [K.gstep_zero]
        simp only [Fi.l0,show ¬ (((0:Nat):Int) > 0) by omega,if_false]
        exact K.Ev.const (by rw [show (o:Int) % 256=(o:Int) by omega])
      have hy2:y<512:=Nat.lt_of_lt_of_le hy (by
        have:2 ^ (n+1)≤2 ^ 9:=Nat.pow_le_pow_right (by omega) (by omega)
        omega)
      have w:K.Eqn (wrap64 ((x:Int) * 2)) ((2 * x:Nat):Int):=⟨by rw [K.w64 (by omega) (by omega)];omega⟩
      have hx2:(if ((2 * x:Nat):Int) > 255 then Go.bits .xor .i64 ((2 * x:Nat):Int) 283 else ((2 * x:Nat):Int))=((K.xt x:Nat):Int):=by
        unfold K.xt
        by_cases h:2 * x > 255
        · rw [if_pos (by omega),if_pos h]
          exact K.xor_i64 (b:=283) (by omega) (by omega)
        · rw [if_neg (by omega),if_neg h]
      have hy':(y:Int) / 2=((y / 2:Nat):Int):=by omega
      have hnext:=ih (K.xt x) (y / 2) (if y % 2=1 then o ^^^ x else o) (K.xt_lt hx) (by
        split
        · exact Nat.xor_lt_two_pow (n:=8) ho hx
        · exact ho) (by rw [Nat.pow_succ] at hy;omega) (by omega)
      apply K.Ev.succ
      simp only [Fi.l0,if_pos (show (y:Int) > 0 by omega),K.and_i64_1 (show y<1024 by omega),w.o,K.xor_i64 (show o<1024 by omega) (show x<1024 by omega),hy']
      by_cases h1:y % 2=1
      · rw [if_pos h1] at hnext
        simp only [h1,show (((1:Nat):Int)=1)=True by simp,if_true,K.gstep]
        by_cases h2:((2 * x:Nat):Int) > 255
        · rw [if_pos h2] at hx2
          simp only [if_pos h2]
          simp only [hx2]
          exact hnext
        · rw [if_neg h2] at hx2
          simp only [if_neg h2]
          simp only [hx2]
          exact hnext
      · rw [if_neg h1] at hnext
        have h1':¬ (((y % 2:Nat):Int)=1):=by omega
        simp only [if_neg h1',K.gstep,if_neg h1]
        by_cases h2:((2 * x:Nat):Int) > 255
        · rw [if_pos h2] at hx2
          simp only [if_pos h2]
          simp only [hx2]
          exact hnext
        · rw [if_neg h2] at hx2
          simp only [if_neg h2]
          simp only [hx2]
          exact hnext
  have wa:K.Eqn (wrap64 (a:Int)) (a:Int):=⟨K.w64 (by omega) (by omega)⟩
  have wb:K.Eqn (wrap64 (b:Int)) (b:Int):=⟨K.w64 (by omega) (by omega)⟩
  simp only [Fi.f,wa.o,wb.o]
  exact key 8 a b 0 ha (by omega) (by omega) (by omega)

theorem encLeftIn_ev (g:List Nat) (t d lead:Nat) (hg:g.length=2 * t+1) (hgb:K.Bytes g) (h4:t≤4) (hd24:d≤24) (hlead:lead<256) (X:List Int):∀ (e j:Nat) (row:List Nat),j+e=2 * t+1→2 * t+d<row.length→row.length≤100→K.Bytes row→Ev (fun k=>Fm.l0 k (K.il g) (K.il (K.addAt (g.drop j) (d+j) lead row)) (((2 * t+d:Nat):Int) - 1)) X→Ev (fun k=>Fm.l1 k (K.il g) (K.il row) ((2 * t+d:Nat):Int) (lead:Int) (K.il g) ((2 * t+1:Nat):Int) (j:Int)) X:=by
  have wi:K.Eqn (wrap64 (((2 * t+d:Nat):Int) - 1)) (((2 * t+d:Nat):Int) - 1):=⟨K.w64 (by omega) (by omega)⟩
  intro e
  induction e with
  | zero =>
    intro j row hj hrl hr100 hrb hx
    rw [List.drop_of_length_le (by omega)] at hx
    apply K.Ev.succ
    simp only [Fm.l1,if_neg (show ¬ ((j:Int)<((2 * t+1:Nat):Int)) by omega),wi.o]
    exact hx
  | succ e ih =>
    intro j row hj hrl hr100 hrb hx
    have hjg:j<g.length:=by omega
    have hgj:=hgb g[j] (List.getElem_mem hjg)
    have hp:d+j<row.length:=by omega
    have hrp:=hrb row[d+j] (List.getElem_mem hp)
    have hy:K.gmul lead g[j]<256:=K.cg_ hlead
    have gd:row.getD (d+j) 0=row[d+j]:=by simp [hp]
    rw [List.drop_eq_getElem_cons hjg] at hx
    have p1:K.Eqn (wrap64 ((wrap64 ((wrap64 (((2 * t+d:Nat):Int) - ((2 * t+1:Nat):Int)))+1))+(j:Int))) ((d+j:Nat):Int):=⟨by
      rw [K.w64 (x:=((2 * t+d:Nat):Int) - ((2 * t+1:Nat):Int)) (by omega) (by omega),K.w64 (x:=((2 * t+d:Nat):Int) - ((2 * t+1:Nat):Int)+1) (by omega) (by omega),K.w64 (by omega) (by omega)];omega⟩
    have c1:(j:Int)<((2 * t+1:Nat):Int):=by omega
    have c2:0≤(j:Int):=by omega
    have c3:0≤((d+j:Nat):Int):=by omega
    have c4:((d+j:Nat):Int)<(row.length:Int):=by omega
    have wj:=K.w64s j (show j<9223372036854775807 by omega)
    have b2:K.Bytes (row.set (d+j) (row[d+j] ^^^ K.gmul lead g[j])):=by
      intro y hy'
      rcases List.mem_or_eq_of_mem_set hy' with q|rfl
      · exact hrb y q
      · exact K.xlt hrp hy
    apply K.Ev.succ
    simp only [Fm.l1,K.bn_,hg,if_pos c1,if_pos c2,p1.o,if_pos c3,if_pos c4,K.dd_ hjg,K.dd_ hp,Int.toNat_natCast,wj]
    refine Ev.bind (l1Times_ev _ _ hlead hgj) ?_
    simp only [K.xor_u8 hrp hy]
    have:=ih (j+1) (row.set (d+j) (row[d+j] ^^^ K.gmul lead g[j])) (by omega) (by simpa using hrl) (by simpa using hr100) b2 (by
      simp only [K.addAt,gd] at hx
      exact hx)
    rw [show (K.il row).set (d+j) ((row[d+j] ^^^ K.gmul lead g[j]:Nat):Int)=K.il (row.set (d+j) (row[d+j] ^^^ K.gmul lead g[j])) by simp [K.il,List.map_set]]
    exact this
theorem encLeft_ev (g:List Nat) (t:Nat) (hg:g.length=2 * t+1) (hgb:K.Bytes g) (h4:t≤4):∀ (d:Nat) (row:List Nat),2 * t+d≤row.length→row.length≤24→K.Bytes row→Ev (fun k=>Fm.l0 k (K.il g) (K.il row) (((2 * t+d:Nat):Int) - 1)) (K.il ((K.encLoop g t d row).take (2 * t))):=by
  have wg:K.Eqn (wrap64 ((((2 * t+1:Nat)):Int) - 1)) ((2 * t:Nat):Int):=⟨by rw [K.w64 (by omega) (by omega)];omega⟩
  intro d
  induction d with
  | zero =>
    intro row hrl h24 hrb
    apply K.Ev.succ
    simp only [Fm.l0,K.bn_,hg,wg.o,if_neg (show ¬ ((((2 * t+0:Nat)):Int) - 1 ≥ ((2 * t:Nat):Int)) by omega),if_pos (show 0≤((2 * t:Nat):Int) by omega),if_pos (show ((2 * t:Nat):Int)≤(row.length:Int) by omega),Int.toNat_natCast,K.il_take]
    exact Ev.now _
  | succ d ih =>
    intro row hrl h24 hrb
    have ei:((2 * t+(d+1):Nat):Int) - 1=((2 * t+d:Nat):Int):=by omega
    have hi:2 * t+d<row.length:=by omega
    have gd:row.getD (2 * t+d) 0=row[2 * t+d]:=by simp [hi]
    apply K.Ev.succ
    simp only [Fm.l0,K.bn_,hg,wg.o,ei,if_pos (show ((2 * t+d:Nat):Int) ≥ ((2 * t:Nat):Int) by omega),if_pos (show 0≤((2 * t+d:Nat):Int) by omega),if_pos (show ((2 * t+d:Nat):Int)<(row.length:Int) by omega),K.dd_ hi]
    have hlead:=hrb row[2 * t+d] (List.getElem_mem hi)
    refine encLeftIn_ev g t d row[2 * t+d] hg hgb h4 (by omega) hlead _ (2 * t+1) 0 row (by omega) hi (by omega) hrb ?_
    have:=ih (K.addAt g d row[2 * t+d] row) (by rw [K.cV_];omega) (by rw [K.cV_];omega) (K.addAt_bytes g d _ row hlead hrb)
    rw [List.drop_zero,Nat.add_zero]
    show Ev _ (K.il ((K.encLoop g t d (K.addAt g d (row.getD (2 * t+d) 0) row)).take (2 * t)))
    rw [gd]
    exact this
theorem Times_ev (a b:Nat) (ha:a<256) (hb:b<256):Ev (fun k=>Fg.f k (a:Int) (b:Int)) ((K.gmul a b:Nat):Int):=by
  have key:∀ (n j x o:Nat),j+n=8→x<256→o<256→Ev (fun k=>Fg.l0 k (b:Int) (o:Int) (j:Int) (x:Int)) ((K.gstep n x (b / 2 ^ j) o:Nat):Int):=by
    intro n
    induction n with
    | zero =>
      intro j x o hj hx ho
      apply K.Ev.succ
      simp only [Fg.l0,if_neg (show ¬ ((j:Int)<8) by omega),K.gstep]
      exact K.Ev.const (by rw [show (o:Int) % 256=(o:Int) by omega])
    | succ n ih =>
      intro j x o hj hx ho
      have w:K.Eqn (wrap64 ((x:Int) * 2)) ((2 * x:Nat):Int):=⟨by rw [K.w64 (by omega) (by omega)];omega⟩
      have hx2:(if ((2 * x:Nat):Int) > 255 then Go.bits .xor .i64 ((2 * x:Nat):Int) 283 else ((2 * x:Nat):Int))=((K.xt x:Nat):Int):=by
        unfold K.xt
        by_cases h:2 * x > 255
        · rw [if_pos (by omega),if_pos h]
          exact K.xor_i64 (b:=283) (by omega) (by omega)
        · rw [if_neg (by omega),if_neg h]
      have hs:shr .u8 (b:Int) (j:Int)=((b / 2 ^ j:Nat):Int):=K.shr_u8 b j (by omega)
      have hbj:b / 2 ^ j<256:=Nat.lt_of_le_of_lt (Nat.div_le_self _ _) hb
      have hnext:=ih (j+1) (K.xt x) (if (b / 2 ^ j) % 2=1 then o ^^^ x else o) (by omega) (K.xt_lt hx) (by
        split
        · exact Nat.xor_lt_two_pow (n:=8) ho hx
        · exact ho)
      rw [Nat.pow_succ,← Nat.div_div_eq_div_mul] at hnext
      apply K.Ev.succ
      simp only [Fg.l0,if_pos (show (j:Int)<8 by omega),if_pos (show 0≤(j:Int) by omega),hs,K.and_u8_1 hbj,w.o,K.xor_i64 (show o<1024 by omega) (show x<1024 by omega),K.w64s j (show j<9223372036854775807 by omega)]
      by_cases h1:(b / 2 ^ j) % 2=1
      · rw [if_pos h1] at hnext
        simp only [h1,show (((1:Nat):Int)=1)=True by simp,if_true,K.gstep]
        by_cases h2:((2 * x:Nat):Int) > 255
        · rw [if_pos h2] at hx2
          simp only [if_pos h2]
          simp only [hx2]
          exact hnext
        · rw [if_neg h2] at hx2
          simp only [if_neg h2]
          simp only [hx2]
          exact hnext
      · rw [if_neg h1] at hnext
        have h1':¬ (((b / 2 ^ j % 2:Nat):Int)=1):=by omega
        simp only [if_neg h1',K.gstep,if_neg h1]
        by_cases h2:((2 * x:Nat):Int) > 255
        · rw [if_pos h2] at hx2
          simp only [if_pos h2]
          simp only [hx2]
          exact hnext
        · rw [if_neg h2] at hx2
          simp only [if_neg h2]
          simp only [hx2]
          exact hnext
  have wa:K.Eqn (wrap64 (a:Int)) (a:Int):=⟨K.w64 (by omega) (by omega)⟩
  simp only [Fg.f,wa.o]
  have:=key 8 0 a 0 (by omega) ha (by omega)
  rw [Nat.pow_zero,Nat.div_one] at this
  exact this

theorem encWordIn_ev (m g:List Nat) (t d lead:Nat) (hg:g.length=2 * t+1) (hgb:K.Bytes g) (h4:t≤4) (hd24:d≤24) (hlead:lead<256) (X:List Int × Bool):∀ (e j:Nat) (row:List Nat),j+e=2 * t+1→2 * t+d<row.length→row.length≤100→K.Bytes row→Ev (fun k=>Ff.l0 k (K.il m) (t:Int) (K.il (K.addAt (g.drop j) (d+j) lead row)) (K.il g) (((2 * t+d:Nat):Int) - 1)) X→Ev (fun k=>Ff.l1 k (K.il m) (t:Int) (K.il row) (K.il g) ((2 * t+d:Nat):Int) (lead:Int) (K.il g) ((2 * t+1:Nat):Int) (j:Int)) X:=by
  have w2:K.Eqn (wrap64 (2 * (t:Int))) ((2 * t:Nat):Int):=⟨by rw [K.w64 (by omega) (by omega)];omega⟩
  have wi:K.Eqn (wrap64 (((2 * t+d:Nat):Int) - 1)) (((2 * t+d:Nat):Int) - 1):=⟨K.w64 (by omega) (by omega)⟩
  intro e
  induction e with
  | zero =>
    intro j row hj hrl hr100 hrb hx
    rw [List.drop_of_length_le (by omega)] at hx
    apply K.Ev.succ
    simp only [Ff.l1,if_neg (show ¬ ((j:Int)<((2 * t+1:Nat):Int)) by omega),wi.o]
    exact hx
  | succ e ih =>
    intro j row hj hrl hr100 hrb hx
    have hjg:j<g.length:=by omega
    have hgj:=hgb g[j] (List.getElem_mem hjg)
    have hp:d+j<row.length:=by omega
    have hrp:=hrb row[d+j] (List.getElem_mem hp)
    have hy:K.gmul lead g[j]<256:=K.cg_ hlead
    have gd:row.getD (d+j) 0=row[d+j]:=by simp [hp]
    rw [List.drop_eq_getElem_cons hjg] at hx
    have p2:K.Eqn (wrap64 ((wrap64 (((2 * t+d:Nat):Int) - ((2 * t:Nat):Int)))+(j:Int))) ((d+j:Nat):Int):=⟨by
      rw [K.w64 (x:=((2 * t+d:Nat):Int) - ((2 * t:Nat):Int)) (by omega) (by omega),K.w64 (by omega) (by omega)];omega⟩
    have c1:(j:Int)<((2 * t+1:Nat):Int):=by omega
    have c2:0≤(j:Int):=by omega
    have c3:0≤((d+j:Nat):Int):=by omega
    have c4:((d+j:Nat):Int)<(row.length:Int):=by omega
    have wj:=K.w64s j (show j<9223372036854775807 by omega)
    have b2:K.Bytes (row.set (d+j) (row[d+j] ^^^ K.gmul lead g[j])):=by
      intro y hy'
      rcases List.mem_or_eq_of_mem_set hy' with q|rfl
      · exact hrb y q
      · exact K.xlt hrp hy
    apply K.Ev.succ
    simp only [Ff.l1,K.bn_,hg,if_pos c1,if_pos c2,w2.o,p2.o,if_pos c3,if_pos c4,K.dd_ hjg,K.dd_ hp,Int.toNat_natCast,wj]
    refine Ev.bind (Times_ev _ _ hlead hgj) ?_
    simp only [K.xor_u8 hrp hy]
    have:=ih (j+1) (row.set (d+j) (row[d+j] ^^^ K.gmul lead g[j])) (by omega) (by simpa using hrl) (by simpa using hr100) b2 (by
      simp only [K.addAt,gd] at hx
      exact hx)
    rw [show (K.il row).set (d+j) ((row[d+j] ^^^ K.gmul lead g[j]:Nat):Int)=K.il (row.set (d+j) (row[d+j] ^^^ K.gmul lead g[j])) by simp [K.il,List.map_set]]
    exact this
theorem encWord_ev (m g:List Nat) (t:Nat) (hg:g.length=2 * t+1) (hgb:K.Bytes g) (h4:t≤4) (hm24:m.length≤24):∀ (d:Nat) (row:List Nat),2 * t+d≤row.length→row.length≤24→K.Bytes row→Ev (fun k=>Ff.l0 k (K.il m) (t:Int) (K.il row) (K.il g) (((2 * t+d:Nat):Int) - 1)) (K.il ((K.encLoop g t d row).take (2 * t)++m),true):=by
  have w2:K.Eqn (wrap64 (2 * (t:Int))) ((2 * t:Nat):Int):=⟨by rw [K.w64 (by omega) (by omega)];omega⟩
  intro d
  induction d with
  | zero =>
    intro row hrl h24 hrb
    have htl:(K.il (row.take (2 * t))).length=2 * t:=by rw [K.bn_,List.length_take];omega
    apply K.Ev.succ
    simp only [Ff.l0,K.bn_,w2.o,if_neg (show ¬ ((((2 * t+0:Nat)):Int) - 1 ≥ ((2 * t:Nat):Int)) by omega),if_pos (show 0≤((2 * t:Nat):Int) by omega),if_pos (show ((2 * t:Nat):Int)≤(row.length:Int) by omega),Int.toNat_natCast,K.il_take,clone_eq (K.il (row.take (2 * t))) (by rw [htl];omega),Option.bind_some,List.length_take,if_pos (show min (2 * t) row.length+m.length<140737488355328 by omega),K.il_append]
    exact Ev.now _
  | succ d ih =>
    intro row hrl h24 hrb
    have ei:((2 * t+(d+1):Nat):Int) - 1=((2 * t+d:Nat):Int):=by omega
    have hi:2 * t+d<row.length:=by omega
    have gd:row.getD (2 * t+d) 0=row[2 * t+d]:=by simp [hi]
    apply K.Ev.succ
    simp only [Ff.l0,K.bn_,hg,w2.o,ei,if_pos (show ((2 * t+d:Nat):Int) ≥ ((2 * t:Nat):Int) by omega),if_pos (show 0≤((2 * t+d:Nat):Int) by omega),if_pos (show ((2 * t+d:Nat):Int)<(row.length:Int) by omega),K.dd_ hi]
    have hlead:=hrb row[2 * t+d] (List.getElem_mem hi)
    refine encWordIn_ev m g t d row[2 * t+d] hg hgb h4 (by omega) hlead _ (2 * t+1) 0 row (by omega) hi (by omega) hrb ?_
    have:=ih (K.addAt g d row[2 * t+d] row) (by rw [K.cV_];omega) (by rw [K.cV_];omega) (K.addAt_bytes g d _ row hlead hrb)
    rw [List.drop_zero,Nat.add_zero]
    show Ev _ (K.il ((K.encLoop g t d (K.addAt g d (row.getD (2 * t+d) 0) row)).take (2 * t)++m),true)
    rw [gd]
    exact this
theorem encode_yes (m:List Nat) (hm:K.Bytes m) (n:Nat) (h:EncFits m.length (n:Int)):Ev (fun k=>Fv.f k (K.il m) (n:Int)) (K.il (K.enc (genW n) n m),true)∧Ev (fun k=>Ff.f k (K.il m) (n:Int)) (K.il (K.enc (genW n) n m),true):=by
  obtain ⟨h1,h4,h0,h24⟩:=h
  obtain ⟨⟨g0,g1,_,_⟩,g2,g3⟩:=gen_full n (by omega) (by omega)
  have q:Fal.f (n:Int) 1 4=some true:=by unfold Fal.f;rw [if_pos h1];simp;omega
  have q2:Fp.f (n:Int) 1 4=some true:=q
  have w2:K.Eqn (wrap64 (2 * (n:Int))) ((2 * n:Nat):Int):=⟨by rw [K.w64 (by omega) (by omega)];omega⟩
  have w3:K.Eqn (wrap64 ((m.length:Int)+((2 * n:Nat):Int))) ((m.length+2 * n:Nat):Int):=⟨by rw [K.w64 (by omega) (by omega)];omega⟩
  have w4:K.Eqn (wrap64 (24 - ((2 * n:Nat):Int))) (24 - ((2 * n:Nat):Int)):=⟨K.w64 (by omega) (by omega)⟩
  have q3:Fp.f (m.length:Int) 1 (24 - ((2 * n:Nat):Int))=some true:=by unfold Fp.f;rw [if_pos (by omega),decide_eq_true (by omega)]
  have wl:K.Eqn (wrap64 (((2 * n+m.length:Nat):Int) - 1)) (((2 * n+m.length:Nat):Int) - 1):=⟨K.w64 (by omega) (by omega)⟩
  have hz:(K.il (List.replicate (2 * n) 0)).length=2 * n:=by simp [K.il]
  have hlen:(List.replicate (2 * n) 0++m).length=2 * n+m.length:=by simp
  have b0:K.Bytes (List.replicate (2 * n) 0++m):=by
    intro x hx
    rcases List.mem_append.1 hx with hx|hx
    · have:=List.eq_of_mem_replicate hx;omega
    · exact hm x hx
  have s1:=encLeft_ev (genW n) n g0 g1 (by omega) m.length (List.replicate (2 * n) 0++m) (by omega) (by omega) b0
  have s2:=encWord_ev m (genW n) n g0 g1 (by omega) (by omega) m.length (List.replicate (2 * n) 0++m) (by omega) (by omega) b0
  have hsl:((K.encLoop (genW n) n m.length (List.replicate (2 * n) 0++m)).take (2 * n)).length=2 * n:=by rw [List.length_take,K.dj_];omega
  constructor
  · simp only [Fv.f,Fav.f,q,Option.bind_some,if_true,K.bn_,if_neg (show ¬ (m.length:Int)=0 by omega),w2.o,w3.o,decide_eq_false (show ¬ ((m.length+2 * n:Nat):Int) > 24 by omega)]
    apply K.Ev.succ
    simp only [Fv.j0,Bool.false_eq_true,if_false,w2.o,if_pos (show 0≤((2 * n:Nat):Int) by omega),Int.toNat_natCast,if_pos (show 2 * n≤281474976710656 by omega),Option.bind_some,K.il_zeros,hz,K.bn_,if_pos (show 2 * n+m.length<140737488355328 by omega)]
    refine Ev.bind g2 ?_
    have e1:Ev (fun k=>Fm.f k (K.il (List.replicate (2 * n) 0)++K.il m) (K.il (genW n))) (K.il ((K.encLoop (genW n) n m.length (List.replicate (2 * n) 0++m)).take (2 * n))):=by
      simp only [Fm.f,K.il_append,Option.bind_some,List.length_nil,List.nil_append,K.bn_,hlen,if_pos (show 0+(2 * n+m.length)<140737488355328 by omega),wl.o]
      exact s1
    refine Ev.bind e1 ?_
    simp only [K.bn_,hsl,if_pos (show 2 * n+m.length<140737488355328 by omega),K.il_append]
    exact Ev.now _
  · simp only [Ff.f,Faf.f,q2,Option.bind_some,if_true,K.bn_,w2.o,w4.o,q3,Bool.not_true]
    apply K.Ev.succ
    simp only [Ff.j0,Bool.false_eq_true,if_false,w2.o,if_pos (show 0≤((2 * n:Nat):Int) by omega),Int.toNat_natCast,if_pos (show 2 * n≤281474976710656 by omega),Option.bind_some,K.il_zeros,hz,K.bn_,if_pos (show 2 * n+m.length<140737488355328 by omega),K.il_append,hlen,wl.o]
    refine Ev.bind g3 ?_
    exact s2
/-- The whole cost of a string. -/
def whole (x:ByteArray) (l:List Nat):Nat:=K.cost (bytesOf x) (l++[0,0])
/-- The word of data is whole. -/
theorem enc_whole (m:List Nat) (hm:K.Bytes m) (n:Nat) (h1:1≤n) (h4:n≤4):(K.synd (K.enc (genW n) n m) n).all (· == 0)=true:=by
  obtain ⟨⟨g0,g1,g2,g3⟩,_,_⟩:=gen_full n h1 h4
  exact K.enc_word g1 g0 g2 hm g3

/-- A correction, as Go hands it back. -/
def corRes:Option (List Nat × Nat)→List Int × Int × Bool
  | some p=>(K.il p.1,(p.2:Int),true)
  | none=>([],0,false)
theorem l1Power_ev (a n:Nat) (ha:a<256) (hn:n<1024):Ev (fun k=>Fk.f k (a:Int) (n:Int)) ((K.gpow a n:Nat):Int):=by
  have key:∀ (n o:Nat),n<1024→o<256→Ev (fun k=>Fk.l0 k (a:Int) (n:Int) (o:Int)) ((K.gmul o (K.gpow a n):Nat):Int):=by
    intro n
    induction n with
    | zero =>
      intro o _ ho
      apply K.Ev.succ
      simp only [Fk.l0,show ¬ (((0:Nat):Int) > 0) by omega,if_false,K.gpow,K.cX_ ho]
      exact Ev.now _
    | succ n ih =>
      intro o h ho
      have w:K.Eqn (wrap64 (((n+1:Nat):Int) - 1)) (n:Int):=⟨by rw [K.w64 (by omega) (by omega)];omega⟩
      have e:K.gmul o (K.gpow a (n+1))=K.gmul (K.gmul o a) (K.gpow a n):=by
        rw [K.bS_ ho ha (K.bY_ n),K.ck_ ha (K.bY_ n)];rfl
      apply K.Ev.succ
      simp only [Fk.l0,if_pos (show ((n+1:Nat):Int) > 0 by omega),w.o]
      refine Ev.bind (l1Times_ev o a ho ha) ?_
      rw [e]
      exact ih _ (by omega) (K.cg_ ho)
  have:=key n 1 hn (by omega)
  rw [K.one_gmul (K.bY_ n)] at this
  simp only [Fk.f]
  exact this

theorem l7At_ev (l:List Nat) (hl:l.length≤1048576) (hb:K.Bytes l) (x:Nat) (hx:x<256):Ev (fun k=>Fau.f k (K.il l) (x:Int)) ((K.peval l x:Nat):Int):=by
  have key:∀ (n:Nat),n≤l.length→Ev (fun k=>Fau.l0 k (K.il l) (x:Int) ((K.peval (l.drop n) x:Nat):Int) ((n:Int) - 1)) ((K.peval l x:Nat):Int):=by
    intro n
    induction n with
    | zero =>
      intro _
      apply K.Ev.succ
      simp only [Fau.l0,show ¬ (((0:Nat):Int) - 1 ≥ 0) by omega,if_false,List.drop_zero]
      exact Ev.now _
    | succ n ih =>
      intro h
      have hn:n<l.length:=by omega
      have hd:K.Bytes (l.drop (n+1)):=fun y hy=>hb y (List.mem_of_mem_drop hy)
      have e:(((n+1:Nat):Int) - 1)=(n:Int):=by omega
      have w:K.Eqn (wrap64 ((n:Int) - 1)) ((n:Int) - 1):=⟨K.w64 (by omega) (by omega)⟩
      have hp:=K.ca_ hd x
      apply K.Ev.succ
      simp only [Fau.l0,e,if_pos (show (n:Int) ≥ 0 by omega)]
      refine Ev.bind (l1Times_ev _ x hp hx) ?_
      simp only [if_pos (show 0≤(n:Int) by omega),K.bn_,if_pos (show (n:Int)<(l.length:Int) by omega),K.dd_ hn,K.xor_u8 (K.cg_ (b:=x) hp) (hb l[n] (List.getElem_mem hn)),w.o]
      have:=ih (by omega)
      rw [List.drop_eq_getElem_cons hn] at this
      exact this
  have w:K.Eqn (wrap64 ((l.length:Int) - 1)) ((l.length:Int) - 1):=⟨K.w64 (by omega) (by omega)⟩
  simp only [Fau.f,K.bn_,w.o]
  have:=key l.length (Nat.le_refl _)
  rw [List.drop_length] at this
  exact this

theorem syndS_ev (l:List Nat) (hl:l.length≤24) (hb:K.Bytes l) (t:Nat) (ht:t≤4):Ev (fun k=>Fy.f k (K.il l) (t:Int)) (K.il (K.synd l t)):=by
  have w2:K.Eqn (wrap64 (2 * (t:Int))) (2 * (t:Int)):=⟨K.w64 (by omega) (by omega)⟩
  have key:∀ (d i:Nat),i+d=2 * t→Ev (fun k=>Fy.l0 k (K.il l) (t:Int) (K.il ((List.range i).map (fun i=>K.peval l (K.gpow 3 (i+1))))) ((i+1:Nat):Int)) (K.il (K.synd l t)):=by
    intro d
    induction d with
    | zero =>
      intro i h1
      obtain rfl:i=2 * t:=by omega
      apply K.Ev.succ
      simp only [Fy.l0,w2.o,if_neg (show ¬ (((2 * t+1:Nat):Int)≤2 * (t:Int)) by omega)]
      exact Ev.now _
    | succ d ih =>
      intro i h1
      have hx:=ih (i+1) (by omega)
      rw [List.range_succ,List.map_append,List.map_cons,List.map_nil,← K.il_snoc] at hx
      apply K.Ev.succ
      simp only [Fy.l0,w2.o,if_pos (show ((i+1:Nat):Int)≤2 * (t:Int) by omega)]
      refine Ev.bind (l1Power_ev 3 (i+1) (by omega) (by omega)) ?_
      refine Ev.bind (l7At_ev l (by omega) hb _ (K.bY_ _)) ?_
      simp only [K.bn_,List.length_map,List.length_range,if_pos (show i<140737488355328 by omega),K.w64s (i+1) (show i+1<9223372036854775807 by omega)]
      exact hx
  simp only [Fy.f]
  exact key (2 * t) 0 (by omega)

theorem l8Zero_ev (l:List Nat) (hl:l.length≤1048576):Ev (fun k=>Fak.f k (K.il l)) (l.all (· == 0)):=by
  have key:∀ (d n:Nat),n+d=l.length→Ev (fun k=>Fak.l0 k (K.il l) (l.length:Int) (n:Int)) ((l.drop n).all (· == 0)):=by
    intro d
    induction d with
    | zero =>
      intro n h
      apply K.Ev.succ
      simp only [Fak.l0,if_neg (show ¬ ((n:Int)<(l.length:Int)) by omega),List.drop_of_length_le (show l.length≤n by omega),List.all_nil]
      exact Ev.now _
    | succ d ih =>
      intro n h
      have hn:n<l.length:=by omega
      apply K.Ev.succ
      rw [List.drop_eq_getElem_cons hn,List.all_cons]
      simp only [Fak.l0,K.bn_,if_pos (show (n:Int)<(l.length:Int) by omega),if_pos (show 0≤(n:Int) by omega),K.dd_ hn,K.w64s n (show n<9223372036854775807 by omega)]
      by_cases h0:l[n]=0
      · simp only [h0,if_pos (show (((0:Nat)):Int)=0 by omega),beq_self_eq_true,Bool.true_and]
        exact ih (n+1) (by omega)
      · simp only [if_neg (show ¬ ((l[n]:Nat):Int)=0 by omega),show (l[n] == 0)=false by simpa using h0,Bool.false_and]
        exact Ev.now _
  have:=key l.length 0 (by omega)
  simp only [Fak.f,K.bn_]
  exact this

theorem l2Own_ev (R:List (List Nat)) {n c:Nat} (h:K.Mat n c R) (hn:n≤100000) (hc:c≤1000000):Ev (fun k=>Fr.f k (K.ill R)) (K.ill R):=by
  have key:∀ (d i:Nat),i+d=R.length→Ev (fun k=>Fr.l0 k (K.ill R) (R.length:Int) (i:Int) (K.ill (R.take i))) (K.ill R):=by
    intro d
    induction d with
    | zero =>
      intro i hd
      apply K.Ev.succ
      simp only [Fr.l0,if_neg (show ¬ ((i:Int)<(R.length:Int)) by omega)]
      rw [List.take_of_length_le (by omega)]
      exact Ev.now _
    | succ d ih =>
      intro i hd
      have hn':=h.len
      have hi:i<R.length:=by omega
      have hx:=ih (i+1) (by omega)
      rw [K.db_ _ _ hi,← K.row_eq hi] at hx
      have hw:=h.cf_ (i:=i) (by omega)
      have hr:rd_L1 (K.ill R) (i:Int)=K.il (K.row R i):=K.ill_row R i
      apply K.Ev.succ
      simp only [Fr.l0,K.bO_,if_pos (show (i:Int)<(R.length:Int) by omega),if_pos (show (0:Int)≤(i:Int) by omega),Option.bind_some,hr,List.length_nil,K.bn_,hw,if_pos (show 0+c<140737488355328 by omega),if_pos (show (R.take i).length<5864062014805 by simp;omega),List.nil_append,K.w64s i (show i<9223372036854775807 by omega),K.ill_snoc]
      exact hx
  have:=key R.length 0 (by omega)
  simp only [Fr.f,K.bO_]
  exact this

theorem l1Inverse_ev (a:Nat) (ha:a<256):Ev (fun k=>Fbj.f k (a:Int)) ((K.ginv a:Nat):Int):=by
  simp only [Fbj.f]
  by_cases h:(a:Int)=0
  · simp only [if_pos h]
    obtain rfl:a=0:=by omega
    have:K.ginv 0=0:=K.gpow_zero 254 (by omega)
    rw [this]
    exact Ev.now _
  · simp only [if_neg h]
    exact Ev.bind (l1Power_ev a 254 ha (by omega)) (Ev.now _)

theorem l1Scale_ev (f:Nat) (r:List Nat) (hf:f<256) (hr:K.Bytes r) (hl:r.length≤1000000):Ev (fun k=>Fu.f k (f:Int) (K.il r)) (K.il (K.scl f r)):=by
  have key:∀ (d i:Nat),i+d=r.length→Ev (fun k=>Fu.l0 k (f:Int) (K.il (K.scl f (r.take i))) (K.il r) (r.length:Int) (i:Int)) (K.il (K.scl f r)):=by
    intro d
    induction d with
    | zero =>
      intro i h
      apply K.Ev.succ
      simp only [Fu.l0,if_neg (show ¬ ((i:Int)<(r.length:Int)) by omega)]
      rw [List.take_of_length_le (by omega)]
      exact Ev.now _
    | succ d ih =>
      intro i h
      have hi:i<r.length:=by omega
      have hx:=ih (i+1) (by omega)
      rw [K.db_ _ _ hi,K.scl_snoc] at hx
      apply K.Ev.succ
      simp only [Fu.l0,K.bn_,if_pos (show (i:Int)<(r.length:Int) by omega),if_pos (show (0:Int)≤(i:Int) by omega),K.dd_ hi]
      refine Ev.bind (l1Times_ev f r[i] hf (hr _ (List.getElem_mem hi))) ?_
      simp only [K.cs_,if_pos (show (r.take i).length<140737488355328 by simp;omega),K.w64s i (show i<9223372036854775807 by omega),K.il_snoc]
      exact hx
  simp only [Fu.f,K.bn_]
  exact key r.length 0 (by omega)

theorem l2_lft_row (c:Nat) (R:List (List Nat)) (i:Nat):rd_L1 (K.ill (K.lft c R)) (i:Int)=K.il ((K.row R i).take c):=by
  rw [← K.lft_row];exact K.ill_row _ i
theorem l2_rgt_row (c:Nat) (R:List (List Nat)) (i:Nat):rd_L1 (K.ill (K.rgt c R)) (i:Int)=K.il ((K.row R i).drop c):=by
  rw [← K.rgt_row];exact K.ill_row _ i
theorem l1Add_ev (a b:List Nat) (ha:K.Bytes a) (hb:K.Bytes b) (hl:a.length≤1000000) (he:a.length=b.length):Ev (fun k=>Ft.f k (K.il a) (K.il b)) (K.il (K.addr a b)):=by
  have key:∀ (d i:Nat),i+d=a.length→Ev (fun k=>Ft.l0 k (K.il a) (K.il b) (K.il (K.addr (a.take i) (b.take i))) (a.length:Int) (i:Int)) (K.il (K.addr a b)):=by
    intro d
    induction d with
    | zero =>
      intro i h
      apply K.Ev.succ
      simp only [Ft.l0,if_neg (show ¬ ((i:Int)<(a.length:Int)) by omega)]
      rw [List.take_of_length_le (by omega),List.take_of_length_le (by omega)]
      exact Ev.now _
    | succ d ih =>
      intro i h
      have hi:i<a.length:=by omega
      have hj:i<b.length:=by omega
      have hx:=ih (i+1) (by omega)
      rw [K.addr_succ hi hj] at hx
      apply K.Ev.succ
      simp only [Ft.l0,K.bn_,if_pos (show (i:Int)<(a.length:Int) by omega),if_pos (show (i:Int)<(b.length:Int) by omega),if_pos (show (0:Int)≤(i:Int) by omega),K.dd_ hi,K.dd_ hj,K.xor_u8 (ha _ (List.getElem_mem hi)) (hb _ (List.getElem_mem hj))]
      simp only [if_pos (show (K.addr (a.take i) (b.take i)).length<140737488355328 by simp [K.addr];omega),K.w64s i (show i<9223372036854775807 by omega),K.il_snoc]
      exact hx
  simp only [Ft.f,K.bn_]
  exact key a.length 0 (by omega)

theorem l2_clears {n w c:Nat} (hn:n≤100000) (hw:w≤1000000) (hc:c≤w) (a j:Nat) (ha:a<n) (hj:j<c) (X:(List (List Int)) × (List (List Int)) × Int):∀ (d i:Nat) (R:List (List Nat)),K.Mat n w R→i+d=n→Ev (fun k=>Fb.l0 k ((a+1:Nat):Int) ((j+1:Nat):Int) (K.ill (K.lft c (K.clrs a j d i R))) (K.ill (K.rgt c (K.clrs a j d i R)))) X→Ev (fun k=>Fb.l2 k (a:Int) (j:Int) (n:Int) (i:Int) (K.ill (K.lft c R)) (K.ill (K.rgt c R))) X:=by
  intro d
  induction d with
  | zero =>
    intro i R h hd hx
    apply K.Ev.succ
    simp only [Fb.l2,if_neg (show ¬ ((i:Int)<(n:Int)) by omega),K.w64s a (show a<9223372036854775807 by omega),K.w64s j (show j<9223372036854775807 by omega)]
    exact hx
  | succ d ih =>
    intro i R h hd hx
    have hi:i<n:=by omega
    have wi:(K.row R i).length=w:=h.cf_ hi
    have wa:(K.row R a).length=w:=h.cf_ ha
    have hl:(K.ill (K.lft c R)).length=n:=by rw [K.bO_,K.lft_length,h.len]
    have hl2:(K.ill (K.rgt c R)).length=n:=by rw [K.bO_,K.rgt_length,h.len]
    have ent:rd (K.il ((K.row R i).take c)) (j:Int)=((K.ent R i j:Nat):Int):=by rw [K.il_getD,K.take_getD hj];rfl
    have he:=h.ent_lt i j
    have hx':=ih (i+1) _ (K.clr_mat (j:=j) h ha hi) (by omega) hx
    clear ih hx
    apply K.Ev.succ
    simp only [Fb.l2,hl,if_pos (show (i:Int)<(n:Int) by omega),if_pos (show (0:Int)≤(i:Int) by omega),if_pos (show (0:Int)≤(j:Int) by omega),l2_lft_row,K.bn_,List.length_take,wi,if_pos (show (j:Int)<((min c w:Nat):Int) by omega),ent]
    by_cases e:i=a∨K.ent R i j=0
    · have e1:K.clr a j i R=R:=by unfold K.clr;rw [if_pos e]
      rw [e1] at hx'
      have done:Ev (fun k=>Fb.j5 k (a:Int) (j:Int) (i:Int) ((K.ent R i j:Nat):Int) (n:Int) (i:Int) false (K.ill (K.lft c R)) (K.ill (K.rgt c R))) X:=by
        apply K.Ev.succ
        simp only [Fb.j5,Bool.false_eq_true,if_false,K.w64s i (show i<9223372036854775807 by omega)]
        exact hx'
      by_cases q:(i:Int)=(a:Int)
      · simp only [if_pos q];exact done
      · simp only [if_neg q]
        have z:(((K.ent R i j:Nat):Int) != 0)=false:=by
          rcases e with e|e
          · omega
          · rw [e];rfl
        rw [z];exact done
    · have e1:K.clr a j i R=R.set i (K.addr (K.row R i) (K.scl (K.ent R i j) (K.row R a))):=by unfold K.clr;rw [if_neg e]
      have q:¬ (i:Int)=(a:Int):=fun q=>e (Or.inl (by omega))
      have z:(((K.ent R i j:Nat):Int) != 0)=true:=by
        rw [bne_iff_ne];intro q;exact e (Or.inr (by omega))
      rw [e1,← K.lft_set,← K.rgt_set,K.addr_take,K.addr_drop,K.scl_take,K.scl_drop,← K.ill_set,← K.ill_set] at hx'
      simp only [if_neg q,z]
      apply K.Ev.succ
      simp only [Fb.j5,if_true,hl,hl2,if_pos (show (i:Int)<(n:Int) by omega),if_pos (show (0:Int)≤(i:Int) by omega),if_pos (show (a:Int)<(n:Int) by omega),if_pos (show (0:Int)≤(a:Int) by omega),l2_lft_row,l2_rgt_row]
      refine Ev.bind (l1Scale_ev (K.ent R i j) ((K.row R a).take c) he ((h.de_ a).take c) (by simp;omega)) ?_
      refine Ev.bind (l1Add_ev ((K.row R i).take c) (K.scl (K.ent R i j) ((K.row R a).take c)) ((h.de_ i).take c) (K.dz_ he _) (by simp;omega) (by rw [K.cs_,List.length_take,List.length_take,wi,wa])) ?_
      refine Ev.bind (l1Scale_ev (K.ent R i j) ((K.row R a).drop c) he ((h.de_ a).drop c) (by simp;omega)) ?_
      refine Ev.bind (l1Add_ev ((K.row R i).drop c) (K.scl (K.ent R i j) ((K.row R a).drop c)) ((h.de_ i).drop c) (K.dz_ he _) (by simp;omega) (by rw [K.cs_,List.length_drop,List.length_drop,wi,wa])) ?_
      simp only [Int.toNat_natCast,K.w64s i (show i<9223372036854775807 by omega)]
      exact hx'
theorem l2_seeks {n w c:Nat} (hn:n≤100000) (hc:c≤w) (a j:Nat) (hj:j<c) (X:(List (List Int)) × (List (List Int)) × Int) (R:List (List Nat)) (h:K.Mat n w R):∀ (d i:Nat),i+d=n→Ev (fun k=>Fb.j3 k (a:Int) (j:Int) ((K.piv R j d i:Nat):Int) (K.ill (K.lft c R)) (K.ill (K.rgt c R))) X→Ev (fun k=>Fb.l1 k (a:Int) (j:Int) (i:Int) (K.ill (K.lft c R)) (K.ill (K.rgt c R))) X:=by
  have hl:(K.ill (K.lft c R)).length=n:=by rw [K.bO_,K.lft_length,h.len]
  intro d
  induction d with
  | zero =>
    intro i hd hx
    apply K.Ev.succ
    simp only [Fb.l1,hl,if_neg (show ¬ ((i:Int)<(n:Int)) by omega)]
    exact hx
  | succ d ih =>
    intro i hd hx
    have wi:(K.row R i).length=w:=h.cf_ (by omega)
    have ent:rd (K.il ((K.row R i).take c)) (j:Int)=((K.ent R i j:Nat):Int):=by rw [K.il_getD,K.take_getD hj];rfl
    apply K.Ev.succ
    simp only [Fb.l1,hl,if_pos (show (i:Int)<(n:Int) by omega),if_pos (show (0:Int)≤(i:Int) by omega),if_pos (show (0:Int)≤(j:Int) by omega),l2_lft_row,K.bn_,List.length_take,wi,if_pos (show (j:Int)<((min c w:Nat):Int) by omega),ent]
    unfold K.piv at hx
    by_cases e:K.ent R i j=0
    · rw [if_pos e] at hx
      simp only [if_pos (show ((K.ent R i j:Nat):Int)=0 by omega),K.w64s i (show i<9223372036854775807 by omega)]
      exact ih (i+1) (by omega) hx
    · rw [if_neg e] at hx
      simp only [if_neg (show ¬ ((K.ent R i j:Nat):Int)=0 by omega)]
      exact hx
theorem l2_loop {n w c:Nat} (hn:n≤100000) (hn0:0<n) (hw:w≤1000000) (hc:c≤w):∀ (d a j:Nat) (R:List (List Nat)),K.Mat n w R→j+d=c→a≤n→Ev (fun k=>Fb.l0 k (a:Int) (j:Int) (K.ill (K.lft c R)) (K.ill (K.rgt c R))) (K.ill (K.lft c (K.elim d a j R).1),K.ill (K.rgt c (K.elim d a j R).1),(((K.elim d a j R).2:Nat):Int)):=by
  intro d
  induction d with
  | zero =>
    intro a j R h hd ha
    have hl:(K.ill (K.lft c R)).length=n:=by rw [K.bO_,K.lft_length,h.len]
    have r0:=l2_lft_row c R 0
    have w0:(K.row R 0).length=w:=h.cf_ hn0
    apply K.Ev.succ
    simp only [Int.natCast_zero] at r0
    simp only [Fb.l0,hl,if_pos (show (0:Int)<(n:Int) by omega),r0,K.bn_,List.length_take,w0,if_neg (show ¬ ((j:Int)<((min c w:Nat):Int)) by omega)]
    apply K.Ev.succ
    simp only [Fb.j1,Bool.false_eq_true,if_false,K.elim]
    exact Ev.now _
  | succ d ih =>
    intro a j R h hd ha
    have hl:(K.ill (K.lft c R)).length=n:=by rw [K.bO_,K.lft_length,h.len]
    have hl2:(K.ill (K.rgt c R)).length=n:=by rw [K.bO_,K.rgt_length,h.len]
    have r0:=l2_lft_row c R 0
    have w0:(K.row R 0).length=w:=h.cf_ hn0
    apply K.Ev.succ
    simp only [Int.natCast_zero] at r0
    simp only [Fb.l0,hl,if_pos (show (0:Int)<(n:Int) by omega),r0,K.bn_,List.length_take,w0,if_pos (show ((j:Int)<((min c w:Nat):Int)) by omega)]
    apply K.Ev.succ
    unfold K.elim
    rw [h.len]
    by_cases h1:a<n
    · simp only [Fb.j1,decide_eq_true (show (a:Int)<(n:Int) by omega),if_true,if_pos h1]
      refine l2_seeks hn hc a j (by omega) _ R h (n - a) a (by omega) ?_
      have pg:=K.piv_ge R j (n - a) a
      have pn:=K.piv_ne R j (n - a) a
      generalize K.piv R j (n - a) a=p at pg pn ⊢
      apply K.Ev.succ
      by_cases h2:p<n
      · have wp:(K.row R p).length=w:=h.cf_ h2
        have ent:rd (K.il ((K.row R p).take c)) (j:Int)=((K.ent R p j:Nat):Int):=by rw [K.il_getD,K.take_getD (by omega)];rfl
        have he:=h.ent_lt p j
        simp only [Fb.j3,hl,hl2,if_neg (show ¬ ((p:Int)=(n:Int)) by omega),if_pos (show (p:Int)<(n:Int) by omega),if_pos (show (a:Int)<(n:Int) by omega),if_pos (show (0:Int)≤(p:Int) by omega),if_pos (show (0:Int)≤(a:Int) by omega),if_pos (show (0:Int)≤(j:Int) by omega),l2_lft_row,l2_rgt_row,K.bn_,List.length_take,wp,if_pos (show ((j:Int)<((min c w:Nat):Int)) by omega),ent,if_pos h2]
        refine Ev.bind (l1Inverse_ev (K.ent R p j) he) ?_
        refine Ev.bind (l1Scale_ev (K.ginv (K.ent R p j)) ((K.row R p).take c) (K.dA_ _) ((h.de_ p).take c) (by simp;omega)) ?_
        refine Ev.bind (l1Scale_ev (K.ginv (K.ent R p j)) ((K.row R p).drop c) (K.dA_ _) ((h.de_ p).drop c) (by simp;omega)) ?_
        simp only [Int.toNat_natCast]
        have hx:=ih (a+1) (j+1) (K.estep a j p R) (K.estep_mat h h1 h2) (by omega) (by omega)
        have es:K.estep a j p R=K.clrs a j n 0 (K.lead a j p R):=by unfold K.estep;rw [h.len]
        have g:=l2_clears hn hw hc a j h1 (by omega) _ n 0 (K.lead a j p R) (K.lead_mat h h1 h2) (by omega) (by rw [← es];exact hx)
        have e1:K.ill (K.lft c (K.lead a j p R))=((K.ill (K.lft c R)).set p (K.il ((K.row R a).take c))).set a (K.il (K.scl (K.ginv (K.ent R p j)) ((K.row R p).take c))):=by
          unfold K.lead;rw [← K.lft_set,← K.lft_set,K.scl_take,K.ill_set,K.ill_set]
        have e2:K.ill (K.rgt c (K.lead a j p R))=((K.ill (K.rgt c R)).set p (K.il ((K.row R a).drop c))).set a (K.il (K.scl (K.ginv (K.ent R p j)) ((K.row R p).drop c))):=by
          unfold K.lead;rw [← K.rgt_set,← K.rgt_set,K.scl_drop,K.ill_set,K.ill_set]
        rw [e1,e2] at g
        exact g
      · simp only [Fb.j3,hl,if_pos (show ((p:Int)=(n:Int)) by omega),if_neg h2,K.w64s j (show j<9223372036854775807 by omega)]
        exact ih a (j+1) R h (by omega) ha
    · simp only [Fb.j1,decide_eq_false (show ¬ (a:Int)<(n:Int) by omega),Bool.false_eq_true,if_false,if_neg h1]
      exact Ev.now _
/-- The reference's elimination of A, with B carried along. -/
theorem l2Reduce_ev (A B:List (List Nat)) {n u v:Nat} (hA:K.Mat n u A) (hB:K.Mat n v B) (hn:n≤100000) (hn0:0<n) (hw:u+v≤1000000):Ev (fun k=>Fb.f k (K.ill A) (K.ill B)) (K.ill (K.lft u (K.elim u 0 0 (K.beside A B)).1),K.ill (K.rgt u (K.elim u 0 0 (K.beside A B)).1),(((K.elim u 0 0 (K.beside A B)).2:Nat):Int)):=by
  simp only [Fb.f]
  refine Ev.bind (l2Own_ev A hA hn (by omega)) ?_
  refine Ev.bind (l2Own_ev B hB hn (by omega)) ?_
  have:=l2_loop hn hn0 hw (Nat.le_add_right u v) u 0 0 (K.beside A B) (K.dh_ hA hB) (by omega) (by omega)
  rw [K.beside_lft hA hB,K.beside_rgt hA hB] at this
  exact this

theorem l2Blank_ev (n c:Nat) (hn:n≤100000) (hc:c≤1000000):Ev (fun k=>Fab.f k (n:Int) (c:Int)) (K.ill (List.replicate n (List.replicate c 0))):=by
  have key:∀ (d i:Nat),i+d=n→Ev (fun k=>Fab.l0 k (n:Int) (c:Int) (i:Int) (K.ill (List.replicate i (List.replicate c 0)))) (K.ill (List.replicate n (List.replicate c 0))):=by
    intro d
    induction d with
    | zero =>
      intro i hd
      apply K.Ev.succ
      simp only [Fab.l0,if_neg (show ¬ ((i:Int)<(n:Int)) by omega)]
      obtain rfl:i=n:=by omega
      exact Ev.now _
    | succ d ih =>
      intro i hd
      have hx:=ih (i+1) (by omega)
      rw [List.replicate_succ'] at hx
      apply K.Ev.succ
      simp only [Fab.l0,K.bO_,if_pos (show (i:Int)<(n:Int) by omega),if_pos (show (0:Int)≤(c:Int) by omega),Int.toNat_natCast,if_pos (show c≤281474976710656 by omega),List.length_replicate,if_pos (show i<5864062014805 by omega),K.w64s i (show i<9223372036854775807 by omega),K.il_zeros,K.ill_snoc]
      exact hx
  have:=key n 0 (by omega)
  simp only [Fab.f]
  exact this

theorem l2Identity_ev (n:Nat) (hn:n≤100000):Ev (fun k=>Faq.f k (n:Int)) (K.ill (K.idm n)):=by
  have key:∀ (d i:Nat) (R:List (List Nat)),i+d=n→R.length=n→(∀ j,j<i→K.row R j=K.unit n j)→(∀ j,i≤j→j<n→K.row R j=List.replicate n 0)→Ev (fun k=>Faq.l0 k (n:Int) (i:Int) (K.ill R)) (K.ill (K.idm n)):=by
    intro d
    induction d with
    | zero =>
      intro i R hd hl h1 h2
      apply K.Ev.succ
      simp only [Faq.l0,if_neg (show ¬ ((i:Int)<(n:Int)) by omega)]
      have e:R=K.idm n:=by
        apply List.ext_getElem
        · rw [hl,(K.idm_mat n).len]
        · intro j g1 g2
          have:=h1 j (by omega)
          rw [K.row_eq g1] at this
          rw [this,← K.row_eq g2,K.idm_row (by omega)]
      rw [e];exact Ev.now _
    | succ d ih =>
      intro i R hd hl h1 h2
      have hi:i<R.length:=by omega
      have hr:rd_L1 (K.ill R) (i:Int)=K.il (List.replicate n 0):=by
        rw [← h2 i (by omega) (by omega)];exact K.ill_row R i
      have hx:=ih (i+1) (R.set i (K.unit n i)) (by omega) (by simpa using hl) (fun j hj=>by
        rw [K.row_set hi]
        by_cases e:i=j
        · subst e;rw [if_pos rfl]
        · rw [if_neg e];exact h1 j (by omega)) (fun j g1 g2=>by
        rw [K.row_set hi,if_neg (by omega)];exact h2 j (by omega) g2)
      rw [← K.ill_set,← K.il_unit,K.il_zeros] at hx
      apply K.Ev.succ
      simp only [Faq.l0,K.bO_,hl,if_pos (show (i:Int)<(n:Int) by omega),if_pos (show (0:Int)≤(i:Int) by omega),hr,K.bn_,List.length_replicate,K.w64s i (show i<9223372036854775807 by omega),Int.toNat_natCast]
      exact hx
  simp only [Faq.f]
  refine Ev.bind (l2Blank_ev n n hn (by omega)) ?_
  simp only [K.bO_,List.length_replicate]
  exact key n 0 _ (by omega) (by simp) (fun j hj=>by omega) (fun j _ hj=>by simp [K.row,hj])

theorem l2Inverse_ev (A:List (List Nat)) {n:Nat} (hA:K.Mat n n A) (hn:n≤100000) (hn0:0<n):Ev (fun k=>Fat.f k (K.ill A)) (K.ill (K.minv A).1,decide ((K.minv A).2=n)):=by
  simp only [Fat.f,K.bO_,hA.len]
  refine Ev.bind (l2Identity_ev n hn) ?_
  refine Ev.bind (l2Reduce_ev A (K.idm n) hA (K.idm_mat n) hn hn0 (by omega)) ?_
  unfold K.minv
  rw [hA.len]
  refine K.Ev.to (Ev.now _) ?_
  congr 1
  generalize (K.elim n 0 0 (K.beside A (K.idm n))).2=q
  show ((q:Int) == (n:Int))=decide (q=n)
  by_cases e:q=n
  · subst e;simp
  · rw [decide_eq_false e,beq_eq_false_iff_ne];omega

theorem l1Dot_ev (a b:List Nat) (ha:K.Bytes a) (hb:K.Bytes b) (hl:a.length≤1000000) (he:a.length≤b.length):Ev (fun k=>Fbc.f k (K.il a) (K.il b)) ((K.dotp a b:Nat):Int):=by
  have key:∀ (d i o:Nat),i+d=a.length→o<256→Ev (fun k=>Fbc.l0 k (K.il a) (K.il b) (o:Int) (a.length:Int) (i:Int)) ((o ^^^ K.dotp (a.drop i) (b.drop i):Nat):Int):=by
    intro d
    induction d with
    | zero =>
      intro i o h ho
      apply K.Ev.succ
      simp only [Fbc.l0,if_neg (show ¬ ((i:Int)<(a.length:Int)) by omega)]
      rw [List.drop_of_length_le (by omega)]
      simp only [K.dotp,Nat.xor_zero]
      exact Ev.now _
    | succ d ih =>
      intro i o h ho
      have hi:i<a.length:=by omega
      have hj:i<b.length:=by omega
      have hlt:=K.cg_ (b:=b[i]) (ha _ (List.getElem_mem hi))
      have hx:=ih (i+1) (o ^^^ K.gmul a[i] b[i]) (by omega) (K.xlt ho hlt)
      rw [Nat.xor_assoc,← K.dotp_drop hi hj] at hx
      apply K.Ev.succ
      simp only [Fbc.l0,K.bn_,if_pos (show (i:Int)<(a.length:Int) by omega),if_pos (show (i:Int)<(b.length:Int) by omega),if_pos (show (0:Int)≤(i:Int) by omega),K.dd_ hi,K.dd_ hj]
      refine Ev.bind (l1Times_ev a[i] b[i] (ha _ (List.getElem_mem hi)) (hb _ (List.getElem_mem hj))) ?_
      simp only [K.xor_u8 ho hlt,K.w64s i (show i<9223372036854775807 by omega)]
      exact hx
  have:=key a.length 0 0 (by omega) (by omega)
  simp only [Fbc.f,K.bn_]
  simpa using this

theorem l2Apply_ev (R:List (List Nat)) (v:List Nat) {n c:Nat} (h:K.Mat n c R) (hv:K.Bytes v) (hw:c≤v.length) (hn:n≤100000) (hc:c≤1000000):Ev (fun k=>Fai.f k (K.ill R) (K.il v)) (K.il (K.app R v)):=by
  have key:∀ (d i:Nat),i+d=R.length→Ev (fun k=>Fai.l0 k (K.il v) (K.il (K.app (R.take i) v)) (K.ill R) (R.length:Int) (i:Int)) (K.il (K.app R v)):=by
    intro d
    induction d with
    | zero =>
      intro i hd
      apply K.Ev.succ
      simp only [Fai.l0,if_neg (show ¬ ((i:Int)<(R.length:Int)) by omega)]
      rw [List.take_of_length_le (by omega)]
      exact Ev.now _
    | succ d ih =>
      intro i hd
      have hn':=h.len
      have hi:i<R.length:=by omega
      have hx:=ih (i+1) (by omega)
      have e:K.app (R.take (i+1)) v=K.app (R.take i) v++[K.dotp (K.row R i) v]:=by
        rw [K.db_ _ _ hi,← K.row_eq hi];simp [K.app]
      rw [e,← K.il_snoc] at hx
      have hw:=h.cf_ (i:=i) (by omega)
      have hr:rd_L1 (K.ill R) (i:Int)=K.il (K.row R i):=K.ill_row R i
      apply K.Ev.succ
      simp only [Fai.l0,K.bO_,if_pos (show (i:Int)<(R.length:Int) by omega),if_pos (show (0:Int)≤(i:Int) by omega),hr]
      refine Ev.bind (l1Dot_ev (K.row R i) v (h.de_ i) hv (by omega) (by omega)) ?_
      simp only [K.bn_,if_pos (show (K.app (R.take i) v).length<140737488355328 by simp [K.app];omega),K.w64s i (show i<9223372036854775807 by omega)]
      exact hx
  have:=key R.length 0 (by omega)
  simp only [Fai.f,K.bO_]
  exact this

theorem l8Hankel_ev (s:List Nat) (n:Nat) (hn:n+n≤s.length) (hs:s.length≤100000):Ev (fun k=>Fz.f k (K.il s) (n:Int)) (K.ill (K.hank s n)):=by
  have key:∀ (d i:Nat),i+d=n→Ev (fun k=>Fz.l0 k (K.il s) (n:Int) (i:Int) (K.ill ((List.range i).map (K.hrow s n)))) (K.ill (K.hank s n)):=by
    intro d
    induction d with
    | zero =>
      intro i hd
      apply K.Ev.succ
      simp only [Fz.l0,if_neg (show ¬ ((i:Int)<(n:Int)) by omega)]
      obtain rfl:i=n:=by omega
      exact Ev.now _
    | succ d ih =>
      intro i hd
      have hx:=ih (i+1) (by omega)
      rw [List.range_succ,List.map_append,List.map_cons,List.map_nil] at hx
      have wr:K.Eqn (wrap64 ((i:Int)+(n:Int))) ((i+n:Nat):Int):=⟨by rw [K.w64 (by omega) (by omega)];omega⟩
      have er:((K.il s).take (i+n)).drop i=K.il (K.hrow s n i):=by
        rw [K.il_take,K.il_drop,List.drop_take,Nat.add_sub_cancel_left];rfl
      have wl:(K.hrow s n i).length=n:=K.cO_ (by omega)
      apply K.Ev.succ
      simp only [Fz.l0,Option.bind_some,wr.o,K.bn_,if_pos (show (i:Int)<(n:Int) by omega),if_pos (show (0:Int)≤(i:Int) by omega),if_pos (show (i:Int)≤((i+n:Nat):Int) by omega),if_pos (show ((i+n:Nat):Int)≤(s.length:Int) by omega),Int.toNat_natCast,er,wl,List.length_nil,if_pos (show 0+n<140737488355328 by omega),K.bO_,List.length_map,List.length_range,if_pos (show i<5864062014805 by omega),List.nil_append,K.w64s i (show i<9223372036854775807 by omega),K.ill_snoc]
      exact hx
  have:=key n 0 (by omega)
  simp only [Fz.f]
  exact this

theorem l8Turn_ev (v:List Nat) (hv:v.length≤100000):Ev (fun k=>Fl.l1 k (K.il v) (([1]:List Int)) ((v.length:Int) - 1)) (K.il (1 :: v.reverse)):=by
  have key:∀ (i:Nat),i≤v.length→Ev (fun k=>Fl.l1 k (K.il v) (K.il (1 :: (v.drop i).reverse)) ((i:Int) - 1)) (K.il (1 :: v.reverse)):=by
    intro i
    induction i with
    | zero =>
      intro hi
      apply K.Ev.succ
      simp only [Fl.l1,if_neg (show ¬ (((0:Nat):Int) - 1 ≥ 0) by omega),List.drop_zero]
      exact Ev.now _
    | succ i ih =>
      intro hi
      have hx:=ih (by omega)
      rw [List.drop_eq_getElem_cons (show i<v.length by omega),List.reverse_cons,← List.cons_append,← K.il_snoc] at hx
      have e:(((i+1:Nat):Int) - 1)=(i:Int):=by omega
      have wr:K.Eqn (wrap64 ((i:Int) - 1)) ((i:Int) - 1):=⟨K.w64 (by omega) (by omega)⟩
      apply K.Ev.succ
      simp only [Fl.l1,e,if_pos (show (i:Int) ≥ 0 by omega),if_pos (show (0:Int)≤(i:Int) by omega),K.bn_,if_pos (show (i:Int)<(v.length:Int) by omega),if_pos (show (1 :: (v.drop (i+1)).reverse).length<140737488355328 by simp;omega),K.dd_ (show i<v.length by omega),wr.o]
      exact hx
  have:=key v.length (Nat.le_refl _)
  rw [List.drop_of_length_le (Nat.le_refl _)] at this
  exact this
theorem l8Locator_ev (s:List Nat) (hb:K.Bytes s) (hs:s.length≤100000):Ev (fun k=>Fl.f k (K.il s)) (K.il (K.loc s (s.length / 2))):=by
  have key:∀ (n:Nat),n+n≤s.length→Ev (fun k=>Fl.l0 k (K.il s) (n:Int)) (K.il (K.loc s n)):=by
    intro n
    induction n with
    | zero =>
      intro _
      apply K.Ev.succ
      simp only [Fl.l0,if_neg (show ¬ (((0:Nat):Int) > 0) by omega)]
      exact Ev.now _
    | succ n ih =>
      intro hn
      have hm:=K.hank_mat hb hn
      have wr:K.Eqn (wrap64 (2 * ((n+1:Nat):Int))) ((n+1+(n+1):Nat):Int):=⟨by rw [K.w64 (by omega) (by omega)];omega⟩
      have er:((K.il s).take (n+1+(n+1))).drop (n+1)=K.il (K.hrow s (n+1) (n+1)):=by
        rw [K.il_take,K.il_drop,List.drop_take,Nat.add_sub_cancel_left];rfl
      have wl:(K.hrow s (n+1) (n+1)).length=n+1:=K.cO_ (by omega)
      apply K.Ev.succ
      simp only [Fl.l0,if_pos (show ((n+1:Nat):Int) > 0 by omega)]
      refine Ev.bind (l8Hankel_ev s (n+1) hn hs) ?_
      refine Ev.bind (l2Inverse_ev _ hm (by omega) (by omega)) ?_
      unfold K.loc
      by_cases e:(K.minv (K.hank s (n+1))).2=n+1
      · simp only [decide_eq_true e,if_true,if_pos e,wr.o,K.bn_,if_pos (show (0:Int)≤((n+1:Nat):Int) by omega),if_pos (show ((n+1:Nat):Int)≤((n+1+(n+1):Nat):Int) by omega),if_pos (show ((n+1+(n+1):Nat):Int)≤(s.length:Int) by omega),Int.toNat_natCast,er]
        refine Ev.bind (l2Apply_ev _ (K.hrow s (n+1) (n+1)) (K.cU_ hm) (K.hrow_bytes hb _ _) (by omega) (by omega) (by omega)) ?_
        have al:(K.app (K.minv (K.hank s (n+1))).1 (K.hrow s (n+1) (n+1))).length=n+1:=by unfold K.app;rw [List.length_map,(K.cU_ hm).len]
        have g:=l8Turn_ev (K.app (K.minv (K.hank s (n+1))).1 (K.hrow s (n+1) (n+1))) (by omega)
        rw [al] at g
        simp only [K.w64p n (show n<9223372036854775807 by omega)]
        rw [show (((n+1:Nat):Int) - 1)=(n:Int) by omega] at g
        exact g
      · simp only [decide_eq_false e,Bool.false_eq_true,if_false,if_neg e,K.w64p n (show n<9223372036854775807 by omega)]
        exact ih (by omega)
  have e:wrap64 (((K.il s).length:Int) / 2)=((s.length / 2:Nat):Int):=by rw [K.bn_,K.w64 (by omega) (by omega)];omega
  simp only [Fl.f,e]
  exact key _ (by omega)

theorem specPlaces_ev (w s c:List Nat) (t:Nat) (hw:w.length≤24) (hc:K.Bytes c) (hcl:c.length≤1000) (X:List Int × Int × Bool)
    (h:Ev (fun k=>Fc.j1 k (K.il w) (t:Int) (K.il s) (K.il (K.rootsOf c w.length)) ((K.rootsOf c w.length).length:Int) (decide ((K.rootsOf c w.length).length=0∨(K.rootsOf c w.length).length+1≠c.length))) X) (hc0:0<c.length) :
    Ev (fun k=>Fc.l0 k (K.il w) (t:Int) (K.il s) (K.il c) ([]:List Int) ((K.il w).length:Int) 0) X:=by
  have key:∀ (d i:Nat),i+d=w.length→Ev (fun k=>Fc.l0 k (K.il w) (t:Int) (K.il s) (K.il c) (K.il (K.rootsOf c i)) ((K.il w).length:Int) (i:Int)) X:=by
    intro d
    induction d with
    | zero =>
      intro i hi
      obtain rfl:i=w.length:=by omega
      have wr:K.Eqn (wrap64 ((c.length:Int) - 1)) ((c.length:Int) - 1):=⟨K.w64 (by omega) (by omega)⟩
      apply K.Ev.succ
      simp only [Fc.l0,K.bn_,if_neg (show ¬ ((w.length:Int)<(w.length:Int)) by omega),wr.o]
      by_cases e:(K.rootsOf c w.length).length=0
      · rw [decide_eq_true (show (K.rootsOf c w.length).length=0∨(K.rootsOf c w.length).length+1≠c.length from Or.inl e)] at h
        simp only [if_pos (show ((K.rootsOf c w.length).length:Int)=0 by omega)]
        exact h
      · simp only [if_neg (show ¬ (((K.rootsOf c w.length).length:Int)=0) by omega)]
        have e2:(((K.rootsOf c w.length).length:Int) != ((c.length:Int) - 1))=decide ((K.rootsOf c w.length).length=0∨(K.rootsOf c w.length).length+1≠c.length):=by
          by_cases q:(K.rootsOf c w.length).length+1=c.length
          · rw [decide_eq_false (by omega),bne_eq_false_iff_eq];omega
          · rw [decide_eq_true (by omega),bne_iff_ne];omega
        rw [e2]
        exact h
    | succ d ih =>
      intro i hi
      have hx:=ih (i+1) (by omega)
      have hl:(K.rootsOf c i).length≤i:=by
        have:=List.length_filter_le (fun i=>K.peval c (K.ginv (K.gpow 3 i)) == 0) (List.range i)
        rw [List.length_range] at this;exact this
      have er:K.rootsOf c (i+1)=K.rootsOf c i++(if K.peval c (K.ginv (K.gpow 3 i)) == 0 then [i] else []):=by
        unfold K.rootsOf
        rw [List.range_succ,List.filter_append,List.filter_cons,List.filter_nil]
      apply K.Ev.succ
      simp only [Fc.l0,K.bn_,if_pos (show (i:Int)<(w.length:Int) by omega)]
      refine Ev.bind (l1Power_ev 3 i (by omega) (by omega)) ?_
      refine Ev.bind (l1Inverse_ev _ (K.bY_ _)) ?_
      refine Ev.bind (l7At_ev c (by omega) hc _ (K.dA_ _)) ?_
      by_cases z:K.peval c (K.ginv (K.gpow 3 i))=0
      · rw [er,if_pos (by simpa using z),← K.il_snoc] at hx
        simp only [z,if_pos (show ((0:Nat):Int)=0 by omega),if_pos (show (K.rootsOf c i).length<17592186044416 by omega),K.w64s i (show i<9223372036854775807 by omega)]
        rw [K.bn_] at hx
        exact hx
      · rw [er,if_neg (by simpa using z),List.append_nil] at hx
        simp only [if_neg (show ¬ ((K.peval c (K.ginv (K.gpow 3 i)):Nat):Int)=0 by omega),K.w64s i (show i<9223372036854775807 by omega)]
        rw [K.bn_] at hx
        exact hx
  exact key w.length 0 (by omega)
theorem specRow_ev (w s ps:List Nat) (t:Nat) (hps:∀ p∈ps,p<24) (hn:ps.length≤24) (j:Nat) (hj:j<ps.length) (acc:List (List Nat)) (hacc:acc.length=j) (X:List Int × Int × Bool)
    (h:Ev (fun k=>Fc.l1 k (K.il w) (t:Int) (K.il s) (K.il ps) (ps.length:Int) ((j+2:Nat):Int) (K.ill (acc++[K.vrow ps j]))) X) :
    Ev (fun k=>Fc.l2 k (K.il w) (t:Int) (K.il s) (K.il ps) (ps.length:Int) ((j+1:Nat):Int) ([]:List Int) (K.il ps) ((K.il ps).length:Int) 0 (K.ill acc)) X:=by
  have key:∀ (d i:Nat),i+d=ps.length→Ev (fun k=>Fc.l2 k (K.il w) (t:Int) (K.il s) (K.il ps) (ps.length:Int) ((j+1:Nat):Int) (K.il (K.vrow (ps.take i) j)) (K.il ps) ((K.il ps).length:Int) (i:Int) (K.ill acc)) X:=by
    intro d
    induction d with
    | zero =>
      intro i hi
      obtain rfl:i=ps.length:=by omega
      apply K.Ev.succ
      simp only [Fc.l2,K.bn_,if_neg (show ¬ ((ps.length:Int)<(ps.length:Int)) by omega),K.bO_,if_pos (show acc.length<5864062014805 by omega),List.take_length,K.ill_snoc,K.w64s (j+1) (show j+1<9223372036854775807 by omega)]
      exact h
    | succ d ih =>
      intro i hi
      have hx:=ih (i+1) (by omega)
      have hil:i<ps.length:=by omega
      have hp:=hps ps[i] (List.getElem_mem hil)
      have e:K.vrow (ps.take (i+1)) j=K.vrow (ps.take i) j++[K.gpow (K.gpow 3 (j+1)) ps[i]]:=by
        unfold K.vrow
        rw [K.db_ _ _ hil,List.map_append,List.map_cons,List.map_nil,K.gpow_swap (by omega)]
      rw [e,← K.il_snoc] at hx
      apply K.Ev.succ
      simp only [Fc.l2,K.bn_,if_pos (show (i:Int)<(ps.length:Int) by omega),if_pos (show (0:Int)≤(i:Int) by omega),K.dd_ hil]
      refine Ev.bind (l1Power_ev 3 (j+1) (by omega) (by omega)) ?_
      refine Ev.bind (l1Power_ev _ _ (K.bY_ _) (by omega)) ?_
      simp only [if_pos (show (K.vrow (ps.take i) j).length<140737488355328 by simp [K.vrow];omega),K.w64s i (show i<9223372036854775807 by omega)]
      rw [K.bn_] at hx
      exact hx
  exact key ps.length 0 (by omega)
/-- What stands at the end: the changes, put in one by one. -/
def corEnd (t n:Nat) (cur:List Nat) (E:List (Nat × Nat)):List Int × Int × Bool:=if (K.synd (K.putAll cur E) t).all (· == 0) then (K.il (K.putAll cur E),(n:Int),true) else ([],0,false)
theorem zip_drop (ps es:List Nat) (h:es.length=ps.length) {i:Nat} (hi:i<ps.length):(ps.zip es).drop i=(ps.getD i 0,es.getD i 0) :: (ps.zip es).drop (i+1):=by
  rw [List.drop_eq_getElem_cons (by rw [List.length_zip];omega)]
  simp [hi,show i<es.length by omega]
theorem specEnd_ev (t:Nat) (ht:t≤4) (ps es:List Nat) (he:es.length=ps.length) (hes:K.Bytes es) (hn:ps.length≤24):∀ (d i:Nat) (cur:List Nat),i+d=ps.length→K.Bytes cur→cur.length≤24→(∀ p∈ps,p<cur.length)→Ev (fun k=>Fc.l3 k (t:Int) (K.il ps) (ps.length:Int) (K.il cur) (K.il es) ((K.il es).length:Int) (i:Int)) (if (es.drop i).any (· == 0) then ([],0,false) else corEnd t ps.length cur ((ps.zip es).drop i)):=by
  intro d
  induction d with
  | zero =>
    intro i cur hi hb hc hps
    apply K.Ev.succ
    have e1:es.drop i=[]:=List.drop_of_length_le (by omega)
    have e2:(ps.zip es).drop i=[]:=List.drop_of_length_le (by rw [List.length_zip];omega)
    simp only [Fc.l3,K.bn_,if_neg (show ¬ ((i:Int)<(es.length:Int)) by omega),e1,e2,List.any_nil,Bool.false_eq_true,if_false]
    refine Ev.bind (syndS_ev cur hc hb t ht) ?_
    refine Ev.bind (l8Zero_ev _ (by rw [K.co_];omega)) ?_
    unfold corEnd K.putAll
    by_cases z:(K.synd cur t).all (· == 0)=true
    · simp only [z,if_true];exact Ev.now _
    · simp only [Bool.not_eq_true _ ▸ z,if_neg z,Bool.false_eq_true,if_false];exact Ev.now _
  | succ d ih =>
    intro i cur hi hb hc hps
    have hil:i<ps.length:=by omega
    have hie:i<es.length:=by omega
    have e1:es.drop i=es[i] :: es.drop (i+1):=List.drop_eq_getElem_cons hie
    have e2:=zip_drop ps es he hil
    have g1:ps.getD i 0=ps[i]:=by simp [hil]
    have g2:es.getD i 0=es[i]:=by simp [hie]
    have hp:=hps ps[i] (List.getElem_mem hil)
    have hx:=hes es[i] (List.getElem_mem hie)
    apply K.Ev.succ
    simp only [Fc.l3,K.bn_,if_pos (show (i:Int)<(es.length:Int) by omega),if_pos (show (i:Int)<(ps.length:Int) by omega),if_pos (show (0:Int)≤(i:Int) by omega),K.dd_ hie,K.dd_ hil,if_pos (show (0:Int)≤((ps[i]:Nat):Int) by omega),if_pos (show ((ps[i]:Nat):Int)<(cur.length:Int) by omega),K.w64s i (show i<9223372036854775807 by omega)]
    rw [e1,List.any_cons]
    by_cases z:es[i]=0
    · simp only [z,if_pos (show ((0:Nat):Int)=0 by omega),beq_self_eq_true,Bool.true_or,if_true]
      exact Ev.now _
    · simp only [if_neg (show ¬ ((es[i]:Nat):Int)=0 by omega),show (es[i] == 0)=false by simpa using z,Bool.false_or,Int.toNat_natCast]
      have hcp:cur[ps[i]]<256:=hb _ (List.getElem_mem hp)
      have b2:K.Bytes (cur.set ps[i] (cur[ps[i]] ^^^ es[i])):=by
        intro y hy
        rcases List.mem_or_eq_of_mem_set hy with q|rfl
        · exact hb y q
        · exact K.xlt hcp hx
      have:=ih (i+1) (cur.set ps[i] (cur[ps[i]] ^^^ es[i])) (by omega) b2 (by simpa using hc) (by simpa using hps)
      rw [K.bn_] at this
      have e3:corEnd t ps.length cur ((ps.zip es).drop i)=corEnd t ps.length (cur.set ps[i] (cur[ps[i]] ^^^ es[i])) ((ps.zip es).drop (i+1)):=by
        rw [e2,g1,g2]
        unfold corEnd
        have:cur.getD ps[i] 0=cur[ps[i]]:=by simp [hp]
        simp only [K.putAll,this]
      rw [e3,K.dd_ hp,K.xor_u8 hcp hx,show (K.il cur).set ps[i] ((cur[ps[i]] ^^^ es[i]:Nat):Int)=K.il (cur.set ps[i] (cur[ps[i]] ^^^ es[i])) by simp [K.il,List.map_set]]
      exact this
theorem corLast_eq (w:List Nat) (t:Nat) (s ps:List Nat):corRes (K.corLast w t s ps)=if (K.minv (K.vmat ps)).2=ps.length then (if (K.app (K.minv (K.vmat ps)).1 (s.take ps.length)).any (· == 0) then ([],0,false) else corEnd t ps.length w (ps.zip (K.app (K.minv (K.vmat ps)).1 (s.take ps.length)))) else ([],0,false):=by
  unfold K.corLast corEnd
  by_cases e1:(K.minv (K.vmat ps)).2=ps.length
  · rw [if_neg (fun h=>h e1),if_pos e1]
    by_cases e2:(K.app (K.minv (K.vmat ps)).1 (s.take ps.length)).any (· == 0)=true
    · rw [if_pos e2,if_pos e2];rfl
    · rw [if_neg e2,if_neg e2]
      by_cases e3:(K.synd (K.putAll w (ps.zip (K.app (K.minv (K.vmat ps)).1 (s.take ps.length)))) t).all (· == 0)=true
      · rw [if_pos e3,if_pos e3];rfl
      · rw [if_neg e3,if_neg e3];rfl
  · rw [if_pos e1,if_neg e1];rfl
theorem specCor_ev (w:List Nat) (t:Nat) (h1:1≤t) (ht:t≤4) (hw:w.length≤24) (hb:K.Bytes w) (hs:Fbe.f (K.il w) (t:Int)=some true):Ev (fun k=>Fc.f k (K.il w) (t:Int)) (corRes (K.cor w t)):=by
  have sl:=K.co_ w t
  have sb:=K.synd_bytes hb t
  have hst:t+t≤(K.synd w t).length:=by omega
  have hc:=K.loc_bytes (K.synd w t) sb t hst
  have hlong:=K.loc_long (K.synd w t) sb t hst
  obtain ⟨r0,hr0⟩:=K.loc_head (K.synd w t) t
  have hc0:0<(K.loc (K.synd w t) t).length:=by rw [hr0];simp
  have hcl:(K.loc (K.synd w t) t).length≤t+1:=by
    by_cases e:(K.loc (K.synd w t) t).length=1
    · omega
    · obtain ⟨m,m1,m2,_⟩:=hlong e;omega
  have hloc:=l8Locator_ev (K.synd w t) sb (by omega)
  rw [show (K.synd w t).length / 2=t by omega] at hloc
  simp only [Fc.f,hs,Option.bind_some,if_true]
  refine Ev.bind (syndS_ev w hw hb t ht) ?_
  refine Ev.bind (l8Zero_ev _ (by omega)) ?_
  unfold K.cor
  by_cases z:(K.synd w t).all (· == 0)=true
  · rw [if_pos z]
    simp only [z,if_true,Option.bind_some,List.length_nil,List.nil_append,K.bn_,if_pos (show 0+w.length<140737488355328 by omega)]
    exact Ev.now _
  rw [if_neg z]
  simp only [Bool.not_eq_true _ ▸ z,Bool.false_eq_true,if_false]
  refine Ev.bind hloc ?_
  refine specPlaces_ev w (K.synd w t) (K.loc (K.synd w t) t) t hw hc (by omega) _ ?_ hc0
  have hps:∀ p∈K.rootsOf (K.loc (K.synd w t) t) w.length,p<w.length:=fun p hp=>K.rootsOf_lt hp
  have hpl:(K.rootsOf (K.loc (K.synd w t) t) w.length).length≤w.length:=by
    have:=List.length_filter_le (fun i=>K.peval (K.loc (K.synd w t) t) (K.ginv (K.gpow 3 i)) == 0) (List.range w.length)
    rw [List.length_range] at this;exact this
  generalize K.rootsOf (K.loc (K.synd w t) t) w.length=ps at hps hpl ⊢
  generalize K.loc (K.synd w t) t=c at hcl hc0 ⊢
  unfold K.corS
  apply K.Ev.succ
  by_cases e:ps.length=0∨ps.length+1≠c.length
  · rw [if_pos e,decide_eq_true e]
    simp only [Fc.j1,if_true]
    exact Ev.now _
  rw [if_neg e,decide_eq_false e]
  simp only [Fc.j1,Bool.false_eq_true,if_false]
  have hsn:ps.length≤(K.synd w t).length:=by omega
  -- the matrix, and what stands behind it
  have hlast:Ev (fun k=>Fc.l1 k (K.il w) (t:Int) (K.il (K.synd w t)) (K.il ps) (ps.length:Int) ((ps.length+1:Nat):Int) (K.ill (K.vmat ps))) (corRes (K.corLast w t (K.synd w t) ps)):=by
    apply K.Ev.succ
    have hm:=K.vmat_mat ps
    simp only [Fc.l1,if_neg (show ¬ (((ps.length+1:Nat):Int)≤(ps.length:Int)) by omega)]
    refine Ev.bind (l2Inverse_ev _ hm (by omega) (by omega)) ?_
    rw [corLast_eq]
    by_cases q:(K.minv (K.vmat ps)).2=ps.length
    · simp only [decide_eq_true q,if_true,if_pos q,Option.bind_some,List.length_nil,List.nil_append,K.bn_,if_pos (show 0+w.length<140737488355328 by omega),if_pos (show (0:Int)≤(ps.length:Int) by omega),if_pos (show (ps.length:Int)≤((K.synd w t).length:Int) by omega),Int.toNat_natCast,K.il_take]
      refine Ev.bind (l2Apply_ev _ ((K.synd w t).take ps.length) (K.cU_ hm) (sb.take _) (by rw [List.length_take];omega) (by omega) (by omega)) ?_
      have ha:(K.app (K.minv (K.vmat ps)).1 ((K.synd w t).take ps.length)).length=ps.length:=by rw [K.cB_,(K.cU_ hm).len]
      have:=specEnd_ev t ht ps (K.app (K.minv (K.vmat ps)).1 ((K.synd w t).take ps.length)) ha (K.app_bytes (K.cU_ hm) _) (by omega) ps.length 0 w (by omega) hb hw hps
      rw [List.drop_zero,List.drop_zero] at this
      exact this
    · simp only [decide_eq_false q,Bool.false_eq_true,if_false,if_neg q]
      exact Ev.now _
  have key:∀ (d j:Nat),j+d=ps.length→Ev (fun k=>Fc.l1 k (K.il w) (t:Int) (K.il (K.synd w t)) (K.il ps) (ps.length:Int) ((j+1:Nat):Int) (K.ill ((List.range j).map (K.vrow ps)))) (corRes (K.corLast w t (K.synd w t) ps)):=by
    intro d
    induction d with
    | zero =>
      intro j hj
      obtain rfl:j=ps.length:=by omega
      exact hlast
    | succ d ih =>
      intro j hj
      have hx:=ih (j+1) (by omega)
      rw [List.range_succ,List.map_append,List.map_cons,List.map_nil] at hx
      apply K.Ev.succ
      simp only [Fc.l1,if_pos (show ((j+1:Nat):Int)≤(ps.length:Int) by omega)]
      exact specRow_ev w (K.synd w t) ps t (fun p hp=>by have:=hps p hp;omega) (by omega) j (by omega) _ (by simp) _ hx
  exact key ps.length 0 (by omega)

theorem power_ev (a n:Nat) (ha:a<256) (hn:n<1024):Ev (fun k=>Fj.f k (a:Int) (n:Int)) ((K.gpow a n:Nat):Int):=by
  have key:∀ (d n a o:Nat),n≤d→n<1024→a<256→o<256→Ev (fun k=>Fj.l0 k (a:Int) (n:Int) (o:Int)) ((K.gmul o (K.gpow a n):Nat):Int):=by
    intro d
    induction d with
    | zero =>
      intro n a o hd _ ha ho
      obtain rfl:n=0:=by omega
      apply K.Ev.succ
      simp only [Fj.l0,show ¬ (((0:Nat):Int) > 0) by omega,if_false,K.gpow,K.cX_ ho]
      exact Ev.now _
    | succ d ih =>
      intro n a o hd hn ha ho
      by_cases h0:n=0
      · subst h0
        apply K.Ev.succ
        simp only [Fj.l0,show ¬ (((0:Nat):Int) > 0) by omega,if_false,K.gpow,K.cX_ ho]
        exact Ev.now _
      have hh:(n:Int) / 2=((n / 2:Nat):Int):=by omega
      apply K.Ev.succ
      simp only [Fj.l0,if_pos (show (n:Int) > 0 by omega),K.and_i64_1 hn,hh]
      by_cases h1:n % 2=1
      · simp only [if_pos (show ((n % 2:Nat):Int)=1 by omega)]
        refine Ev.bind (Times_ev o a ho ha) ?_
        refine Ev.bind (Times_ev a a ha ha) ?_
        have e:K.gmul o (K.gpow a n)=K.gmul (K.gmul o a) (K.gpow (K.gmul a a) (n / 2)):=by
          rw [K.gpow_sq ha,K.bS_ ho ha (K.bY_ _),K.ck_ ha (K.bY_ _)]
          have h:n=(n / 2+n / 2)+1:=by omega
          rw [show K.gpow a n=K.gpow a ((n / 2+n / 2)+1) by rw [← h]]
          rfl
        rw [e]
        exact ih _ _ _ (by omega) (by omega) (K.cg_ ha) (K.cg_ ho)
      · simp only [if_neg (show ¬ ((n % 2:Nat):Int)=1 by omega)]
        refine Ev.bind (Times_ev a a ha ha) ?_
        have e:K.gmul o (K.gpow a n)=K.gmul o (K.gpow (K.gmul a a) (n / 2)):=by
          rw [K.gpow_sq ha]
          have h:n=(n / 2+n / 2):=by omega
          rw [show K.gpow a n=K.gpow a (n / 2+n / 2) by rw [← h]]
        rw [e]
        exact ih _ _ _ (by omega) (by omega) (K.cg_ ha) ho
  have:=key n n a 1 (by omega) hn ha (by omega)
  rw [K.one_gmul (K.bY_ n)] at this
  simp only [Fj.f]
  exact this

theorem valueAt_ev (l:List Nat) (hl:l.length≤1048576) (hb:K.Bytes l) (x:Nat) (hx:x<256):Ev (fun k=>Fas.f k (K.il l) (x:Int)) ((K.peval l x:Nat):Int):=by
  have key:∀ (n:Nat),n≤l.length→Ev (fun k=>Fas.l0 k (K.il l) (x:Int) ((K.peval (l.drop n) x:Nat):Int) ((n:Int) - 1)) ((K.peval l x:Nat):Int):=by
    intro n
    induction n with
    | zero =>
      intro _
      apply K.Ev.succ
      simp only [Fas.l0,show ¬ (((0:Nat):Int) - 1 ≥ 0) by omega,if_false,List.drop_zero]
      exact Ev.now _
    | succ n ih =>
      intro h
      have hn:n<l.length:=by omega
      have hd:K.Bytes (l.drop (n+1)):=fun y hy=>hb y (List.mem_of_mem_drop hy)
      have e:(((n+1:Nat):Int) - 1)=(n:Int):=by omega
      have w:K.Eqn (wrap64 ((n:Int) - 1)) ((n:Int) - 1):=⟨K.w64 (by omega) (by omega)⟩
      have hp:=K.ca_ hd x
      apply K.Ev.succ
      simp only [Fas.l0,e,if_pos (show (n:Int) ≥ 0 by omega)]
      refine Ev.bind (Times_ev _ x hp hx) ?_
      simp only [if_pos (show 0≤(n:Int) by omega),K.bn_,if_pos (show (n:Int)<(l.length:Int) by omega),K.dd_ hn,K.xor_u8 (K.cg_ (b:=x) hp) (hb l[n] (List.getElem_mem hn)),w.o]
      have:=ih (by omega)
      rw [List.drop_eq_getElem_cons hn] at this
      exact this
  have w:K.Eqn (wrap64 ((l.length:Int) - 1)) ((l.length:Int) - 1):=⟨K.w64 (by omega) (by omega)⟩
  simp only [Fas.f,K.bn_,w.o]
  have:=key l.length (Nat.le_refl _)
  rw [List.drop_length] at this
  exact this

theorem syndI_ev (l:List Nat) (hl:l.length≤24) (hb:K.Bytes l) (t:Nat) (ht:t≤4):Ev (fun k=>Fx.f k (K.il l) (t:Int)) (K.il (K.synd l t)):=by
  have w2:K.Eqn (wrap64 (2 * (t:Int))) (2 * (t:Int)):=⟨K.w64 (by omega) (by omega)⟩
  have key:∀ (d i:Nat),i+d=2 * t→Ev (fun k=>Fx.l0 k (K.il l) (t:Int) (K.il ((List.range i).map (fun i=>K.peval l (K.gpow 3 (i+1))))) ((i+1:Nat):Int)) (K.il (K.synd l t)):=by
    intro d
    induction d with
    | zero =>
      intro i h1
      obtain rfl:i=2 * t:=by omega
      apply K.Ev.succ
      simp only [Fx.l0,w2.o,if_neg (show ¬ (((2 * t+1:Nat):Int)≤2 * (t:Int)) by omega)]
      exact Ev.now _
    | succ d ih =>
      intro i h1
      have hx:=ih (i+1) (by omega)
      rw [List.range_succ,List.map_append,List.map_cons,List.map_nil,← K.il_snoc] at hx
      apply K.Ev.succ
      simp only [Fx.l0,w2.o,if_pos (show ((i+1:Nat):Int)≤2 * (t:Int) by omega)]
      refine Ev.bind (power_ev 3 (i+1) (by omega) (by omega)) ?_
      refine Ev.bind (valueAt_ev l (by omega) hb _ (K.bY_ _)) ?_
      simp only [K.bn_,List.length_map,List.length_range,if_pos (show i<140737488355328 by omega),K.w64s (i+1) (show i+1<9223372036854775807 by omega)]
      exact hx
  simp only [Fx.f]
  exact key (2 * t) 0 (by omega)

theorem Max_zero (l:List Nat) (h0:0<l.length) (hl:l.length≤1048576):∃ v:Int,Ev (fun k=>Faw.f k (K.il l)) v∧(v == 0)=l.all (· == 0):=by
  have key:∀ (d n c:Nat),n+d=l.length→∃ v:Int,Ev (fun k=>Faw.l0 k (K.il l) (c:Int) (n:Int)) v∧(v == 0)=(c == 0 && (l.drop n).all (· == 0)):=by
    intro d
    induction d with
    | zero =>
      intro n c h
      refine ⟨(c:Int),?_,?_⟩
      · apply K.Ev.succ
        simp only [Faw.l0,K.bn_,if_neg (show ¬ ((n:Int)<(l.length:Int)) by omega)]
        exact Ev.now _
      · rw [List.drop_of_length_le (by omega)]
        by_cases hc:c=0
        · subst hc;rfl
        · rw [show (c == 0)=false by simpa using hc,show ((c:Int) == 0)=false by simp;omega];rfl
    | succ d ih =>
      intro n c h
      have hn:n<l.length:=by omega
      obtain ⟨v,v1,v2⟩:=ih (n+1) (if c<l[n] then l[n] else c) (by omega)
      have hm:mx (c:Int) ((l[n]:Nat):Int)=(((if c<l[n] then l[n] else c:Nat)):Int):=by
        unfold mx
        by_cases hc:c<l[n]
        · rw [if_pos hc,if_pos (by omega)]
        · rw [if_neg hc,if_neg (by omega)]
      refine ⟨v,?_,?_⟩
      · apply K.Ev.succ
        simp only [Faw.l0,K.bn_,if_pos (show (n:Int)<(l.length:Int) by omega),if_pos (show 0≤(n:Int) by omega),K.dd_ hn,hm,K.w64s n (show n<9223372036854775807 by omega)]
        exact v1
      · rw [v2,List.drop_eq_getElem_cons hn,List.all_cons,← Bool.and_assoc]
        congr 1
        by_cases hc:c<l[n]
        · rw [if_pos hc,show (l[n] == 0)=false by simp;omega];simp
        · rw [if_neg hc]
          by_cases hz:c=0
          · have:l[n]=0:=by omega
            simp [hz,this]
          · simp [hz]
  obtain ⟨v,v1,v2⟩:=key (l.length - 1) 1 l[0] (by omega)
  refine ⟨v,?_,?_⟩
  · simp only [Faw.f,K.bn_,if_pos (show 0<(l.length:Int) by omega)]
    have:=K.dd_ h0
    rw [show (0:Int)=((0:Nat):Int) from rfl,this]
    exact v1
  · rw [v2]
    conv=>rhs;rw [← List.drop_zero (l:=l),List.drop_eq_getElem_cons h0,List.all_cons]

theorem identity_ev (n:Nat) (hn:n≤100000):Ev (fun k=>Fan.f k (n:Int)) (K.ill (K.idm n)):=by
  have key:∀ (d i:Nat),i+d=n→Ev (fun k=>Fan.l0 k (n:Int) (K.ill ((List.range i).map (K.unit n))) (n:Int) (i:Int)) (K.ill (K.idm n)):=by
    intro d
    induction d with
    | zero =>
      intro i hd
      apply K.Ev.succ
      simp only [Fan.l0,if_neg (show ¬ ((i:Int)<(n:Int)) by omega)]
      obtain rfl:i=n:=by omega
      exact Ev.now _
    | succ d ih =>
      intro i hd
      have hx:=ih (i+1) (by omega)
      rw [List.range_succ,List.map_append,List.map_cons,List.map_nil] at hx
      apply K.Ev.succ
      simp only [Fan.l0,K.bO_,if_pos (show (i:Int)<(n:Int) by omega),if_pos (show (0:Int)≤(n:Int) by omega),if_pos (show (0:Int)≤(i:Int) by omega),Int.toNat_natCast,if_pos (show n≤281474976710656 by omega),Option.bind_some,List.length_replicate,List.length_map,List.length_range,if_pos (show i<5864062014805 by omega),K.w64s i (show i<9223372036854775807 by omega),K.il_unit,K.ill_snoc]
      exact hx
  have:=key n 0 (by omega)
  simp only [Fan.f]
  exact this

theorem Inverse_ev (a:Nat) (ha:a<256):Ev (fun k=>Fbg.f k (a:Int)) ((K.ginv a:Nat):Int):=by
  simp only [Fbg.f]
  exact Ev.bind (power_ev a 254 ha (by omega)) (Ev.now _)

theorem idxNZ_ev (R:List (List Nat)) (j:Nat) {n w:Nat} (h:K.Mat n w R) (hj:j<w):∀ (d i m:Nat),i+d=n→idxNZ (j:Int) ((K.ill R).drop i) m=some (if K.piv R j d i<n then ((m+(K.piv R j d i - i):Nat):Int) else -1):=by
  intro d
  induction d with
  | zero =>
    intro i m hd
    have e:(K.ill R).drop i=[]:=List.drop_of_length_le (by rw [K.bO_,h.len];omega)
    rw [e]
    show some (-1:Int)=some (if i<n then ((m+(i - i):Nat):Int) else -1)
    rw [if_neg (show ¬ i<n by omega)]
  | succ d ih =>
    intro i m hd
    have hi:i<R.length:=by rw [h.len];omega
    have hi':i<(K.ill R).length:=by rw [K.bO_];exact hi
    have wi:(K.row R i).length=w:=h.cf_ (by omega)
    have er:(K.ill R)[i]=K.il (K.row R i):=by rw [K.row_eq hi];simp [K.ill]
    have ent:rd (K.il (K.row R i)) (j:Int)=((K.ent R i j:Nat):Int):=K.il_getD _ _
    rw [List.drop_eq_getElem_cons hi',er]
    have pg:=K.piv_ge R j d (i+1)
    simp only [idxNZ,if_pos (show (0:Int)≤(j:Int) by omega),K.bn_,wi,if_pos (show (j:Int)<(w:Int) by omega),ent,K.piv]
    by_cases e:K.ent R i j=0
    · simp only [if_pos (show ((K.ent R i j:Nat):Int)=0 by omega),if_pos e]
      rw [ih (i+1) (m+1) (by omega)]
      by_cases q:K.piv R j d (i+1)<n
      · simp only [if_pos q];congr 2;omega
      · simp only [if_neg q]
    · simp only [if_neg (show ¬ ((K.ent R i j:Nat):Int)=0 by omega),if_neg e,if_pos (show i<n by omega)]
      congr 2;omega
theorem index_eq (R:List (List Nat)) (a j:Nat) {n w:Nat} (h:K.Mat n w R) (hj:j<w) (ha:a≤n):Fax.f (K.ill R) (a:Int) (j:Int)=some (if K.piv R j (n - a) a<n then ((K.piv R j (n - a) a - a:Nat):Int) else -1):=by
  simp only [Fax.f,K.bO_,h.len,if_pos (show (0:Int)≤(a:Int) by omega),if_pos (show (a:Int)≤(n:Int) by omega),Int.toNat_natCast]
  rw [idxNZ_ev R j h hj (n - a) a 0 (by omega),Nat.zero_add]

theorem scaled_ev (f:Nat) (r:List Nat) (hf:f<256) (hr:K.Bytes r) (hl:r.length≤1000000):Ev (fun k=>Fam.f k (f:Int) (K.il r)) (K.il (K.scl f r)):=by
  have key:∀ (d i:Nat),i+d=r.length→Ev (fun k=>Fam.l0 k (f:Int) (K.il (K.scl f (r.take i))) (K.il r) (r.length:Int) (i:Int)) (K.il (K.scl f r)):=by
    intro d
    induction d with
    | zero =>
      intro i h
      apply K.Ev.succ
      simp only [Fam.l0,if_neg (show ¬ ((i:Int)<(r.length:Int)) by omega)]
      rw [List.take_of_length_le (by omega)]
      exact Ev.now _
    | succ d ih =>
      intro i h
      have hi:i<r.length:=by omega
      have hx:=ih (i+1) (by omega)
      rw [K.db_ _ _ hi,K.scl_snoc] at hx
      apply K.Ev.succ
      simp only [Fam.l0,K.bn_,if_pos (show (i:Int)<(r.length:Int) by omega),if_pos (show (0:Int)≤(i:Int) by omega),K.dd_ hi]
      refine Ev.bind (Times_ev f r[i] hf (hr _ (List.getElem_mem hi))) ?_
      simp only [K.cs_,if_pos (show (r.take i).length<140737488355328 by simp;omega),K.w64s i (show i<9223372036854775807 by omega),K.il_snoc]
      exact hx
  simp only [Fam.f,K.bn_]
  exact key r.length 0 (by omega)

theorem el_row (R:List (List Nat)) (i:Nat):rd_L1 (K.ill R) (i:Int)=K.il (K.row R i):=K.ill_row R i
theorem added_ev (a b:List Nat) (ha:K.Bytes a) (hb:K.Bytes b) (hl:a.length≤1000000) (he:a.length=b.length):Ev (fun k=>Fay.f k (K.il a) (K.il b)) (K.il (K.addr a b)):=by
  have key:∀ (d i:Nat),i+d=a.length→Ev (fun k=>Fay.l0 k (K.il b) (K.il (K.addr (a.take i) (b.take i))) (K.il a) (a.length:Int) (i:Int)) (K.il (K.addr a b)):=by
    intro d
    induction d with
    | zero =>
      intro i h
      apply K.Ev.succ
      simp only [Fay.l0,if_neg (show ¬ ((i:Int)<(a.length:Int)) by omega)]
      rw [List.take_of_length_le (by omega),List.take_of_length_le (by omega)]
      exact Ev.now _
    | succ d ih =>
      intro i h
      have hi:i<a.length:=by omega
      have hj:i<b.length:=by omega
      have hx:=ih (i+1) (by omega)
      rw [K.addr_succ hi hj] at hx
      apply K.Ev.succ
      simp only [Fay.l0,K.bn_,if_pos (show (i:Int)<(a.length:Int) by omega),if_pos (show (i:Int)<(b.length:Int) by omega),if_pos (show (0:Int)≤(i:Int) by omega),K.dd_ hi,K.dd_ hj,K.xor_u8 (ha _ (List.getElem_mem hi)) (hb _ (List.getElem_mem hj))]
      simp only [if_pos (show (K.addr (a.take i) (b.take i)).length<140737488355328 by simp [K.addr];omega),K.w64s i (show i<9223372036854775807 by omega),K.il_snoc]
      exact hx
  simp only [Fay.f,K.bn_]
  exact key a.length 0 (by omega)

theorem el_clears {n w c:Nat} (hn:n≤100000) (hw:w≤1000000) (a j:Nat) (ha:a<n) (hj:j<w) (X:List (List Int) × Int):∀ (d i:Nat) (R:List (List Nat)),K.Mat n w R→i+d=n→Ev (fun k=>Fd.l0 k (K.ill (K.clrs a j d i R)) (c:Int) ((a+1:Nat):Int) ((j+1:Nat):Int)) X→Ev (fun k=>Fd.l1 k (K.ill R) (c:Int) (a:Int) (j:Int) (n:Int) (i:Int)) X:=by
  intro d
  induction d with
  | zero =>
    intro i R h hd hx
    apply K.Ev.succ
    simp only [Fd.l1,if_neg (show ¬ ((i:Int)<(n:Int)) by omega),K.w64s a (show a<9223372036854775807 by omega),K.w64s j (show j<9223372036854775807 by omega)]
    exact hx
  | succ d ih =>
    intro i R h hd hx
    have hi:i<n:=by omega
    have wi:(K.row R i).length=w:=h.cf_ hi
    have wa:(K.row R a).length=w:=h.cf_ ha
    have hl:(K.ill R).length=n:=by rw [K.bO_,h.len]
    have ent:rd (K.il (K.row R i)) (j:Int)=((K.ent R i j:Nat):Int):=K.il_getD _ _
    have he:=h.ent_lt i j
    have hx':=ih (i+1) _ (K.clr_mat (j:=j) h ha hi) (by omega) hx
    clear ih hx
    apply K.Ev.succ
    simp only [Fd.l1,hl,if_pos (show (i:Int)<(n:Int) by omega),if_pos (show (0:Int)≤(i:Int) by omega),if_pos (show (0:Int)≤(j:Int) by omega),el_row,K.bn_,wi,if_pos (show (j:Int)<(w:Int) by omega),ent,K.w64s i (show i<9223372036854775807 by omega)]
    by_cases e:i=a∨K.ent R i j=0
    · have e1:K.clr a j i R=R:=by unfold K.clr;rw [if_pos e]
      rw [e1] at hx'
      by_cases q:(i:Int)=(a:Int)
      · simp only [if_pos q];exact hx'
      · simp only [if_neg q,if_pos (show ((K.ent R i j:Nat):Int)=0 by omega)];exact hx'
    · have e1:K.clr a j i R=R.set i (K.addr (K.row R i) (K.scl (K.ent R i j) (K.row R a))):=by unfold K.clr;rw [if_neg e]
      have q:¬ (i:Int)=(a:Int):=fun q=>e (Or.inl (by omega))
      have z:¬ (((K.ent R i j:Nat):Int)=0):=fun q=>e (Or.inr (by omega))
      rw [e1,← K.ill_set] at hx'
      simp only [if_neg q,if_neg z,if_pos (show (a:Int)<(n:Int) by omega),if_pos (show (0:Int)≤(a:Int) by omega)]
      refine Ev.bind (scaled_ev (K.ent R i j) (K.row R a) he (h.de_ a) (by omega)) ?_
      refine Ev.bind (added_ev (K.row R i) (K.scl (K.ent R i j) (K.row R a)) (h.de_ i) (K.dz_ he _) (by omega) (by rw [K.cs_,wi,wa])) ?_
      simp only [Int.toNat_natCast]
      exact hx'
theorem el_loop {n w c:Nat} (hn:n≤100000) (hw:w≤1000000) (hc:c≤w):∀ (d a j:Nat) (R:List (List Nat)),K.Mat n w R→j+d=c→a≤n→Ev (fun k=>Fd.l0 k (K.ill R) (c:Int) (a:Int) (j:Int)) (K.ill (K.elim d a j R).1,(((K.elim d a j R).2:Nat):Int)):=by
  intro d
  induction d with
  | zero =>
    intro a j R h hd ha
    apply K.Ev.succ
    simp only [Fd.l0,if_neg (show ¬ ((j:Int)<(c:Int)) by omega)]
    apply K.Ev.succ
    simp only [Fd.j1,Bool.false_eq_true,if_false,K.elim]
    exact Ev.now _
  | succ d ih =>
    intro a j R h hd ha
    have hl:(K.ill R).length=n:=by rw [K.bO_,h.len]
    apply K.Ev.succ
    simp only [Fd.l0,if_pos (show (j:Int)<(c:Int) by omega),hl]
    apply K.Ev.succ
    unfold K.elim
    rw [h.len]
    by_cases h1:a<n
    · have pg:=K.piv_ge R j (n - a) a
      have ie:=index_eq R a j h (by omega) ha
      simp only [Fd.j1,decide_eq_true (show (a:Int)<(n:Int) by omega),if_true,if_pos h1,ie,Option.bind_some]
      generalize K.piv R j (n - a) a=p at pg ⊢
      by_cases h2:p<n
      · have wp:(K.row R p).length=w:=h.cf_ h2
        have ent:rd (K.il (K.row R p)) (j:Int)=((K.ent R p j:Nat):Int):=K.il_getD _ _
        have he:=h.ent_lt p j
        have wr:K.Eqn (wrap64 ((a:Int)+((p - a:Nat):Int))) (p:Int):=⟨by rw [K.w64 (by omega) (by omega)];omega⟩
        have hra:a<((K.ill R).set a (K.il (K.row R p))).length:=by simp [hl,h1]
        have y1:rd_L1 (((K.ill R).set a (K.il (K.row R p))).set p (K.il (K.row R a))) (a:Int)=K.il (K.row R p):=by
          rw [K.ill_set,K.ill_set,el_row,K.row_set (by simp [h.len,h2]),K.row_set (by rw [h.len];exact h1)]
          by_cases e:p=a
          · rw [if_pos e,e]
          · rw [if_neg e,if_pos rfl]
        simp only [if_pos h2,if_neg (show ¬ (((p - a:Nat):Int)<0) by omega),wr.o,hl,if_pos (show (p:Int)<(n:Int) by omega),if_pos (show (a:Int)<(n:Int) by omega),if_pos (show (0:Int)≤(p:Int) by omega),if_pos (show (0:Int)≤(a:Int) by omega),if_pos (show (0:Int)≤(j:Int) by omega),el_row,Int.toNat_natCast,y1,K.bn_,wp,if_pos (show (j:Int)<(w:Int) by omega),ent,Option.bind_some]
        refine Ev.bind (Inverse_ev (K.ent R p j) he) ?_
        refine Ev.bind (scaled_ev (K.ginv (K.ent R p j)) (K.row R p) (K.dA_ _) (h.de_ p) (by omega)) ?_
        have hx:=ih (a+1) (j+1) (K.estep a j p R) (K.estep_mat h h1 h2) (by omega) (by omega)
        have es:K.estep a j p R=K.clrs a j n 0 (K.lead a j p R):=by unfold K.estep;rw [h.len]
        have g:=el_clears hn hw a j h1 (by omega) _ n 0 (K.lead a j p R) (K.lead_mat h h1 h2) (by omega) (by rw [← es];exact hx)
        have e1:K.ill (K.lead a j p R)=(((K.ill R).set a (K.il (K.row R p))).set p (K.il (K.row R a))).set a (K.il (K.scl (K.ginv (K.ent R p j)) (K.row R p))):=by
          rw [K.ill_set,K.ill_set,K.ill_set,K.swap_set R a p _ _ _ (fun e=>by rw [e])]
          rfl
        rw [e1] at g
        exact g
      · simp only [if_neg h2,if_pos (show ((-1:Int)<0) by omega),K.w64s j (show j<9223372036854775807 by omega)]
        exact ih a (j+1) R h (by omega) ha
    · simp only [Fd.j1,decide_eq_false (show ¬ (a:Int)<(n:Int) by omega),Bool.false_eq_true,if_false,if_neg h1]
      exact Ev.now _
theorem eliminate_ev (R:List (List Nat)) {n w:Nat} (c:Nat) (h:K.Mat n w R) (hn:n≤100000) (hw:w≤1000000) (hc:c≤w):Ev (fun k=>Fd.f k (K.ill R) (c:Int)) (K.ill (K.elim c 0 0 R).1,(((K.elim c 0 0 R).2:Nat):Int)):=by
  simp only [Fd.f]
  exact el_loop hn hw hc c 0 0 R h (by omega) (by omega)

theorem io_joins (A:List (List Nat)) {n:Nat} (hA:K.Mat n n A) (hn:n≤100000) (X:(List (List Int)) × Bool) (hx:Ev (fun k=>(Fd.f k (K.ill (K.beside A (K.idm n))) (n:Int)).bind fun bt154=>(if bt154.2<(n:Int) then (some (([]:List (List Int)),false)) else (Fo.l1 k (n:Int) (([]:List (List Int))) bt154.1 (bt154.1.length:Int) 0))) X):∀ (d i:Nat),i+d=n→Ev (fun k=>Fo.l0 k (K.ill A) (n:Int) (K.ill ((K.beside A (K.idm n)).take i)) (K.ill (K.idm n)) (n:Int) (i:Int)) X:=by
  have hI:=K.idm_mat n
  have hB:=K.dh_ hA hI
  intro d
  induction d with
  | zero =>
    intro i hd
    apply K.Ev.succ
    simp only [Fo.l0,if_neg (show ¬ ((i:Int)<(n:Int)) by omega)]
    rw [List.take_of_length_le (by rw [hB.len];omega)]
    exact hx
  | succ d ih =>
    intro i hd
    have hi:i<n:=by omega
    have r1:rd_L1 (K.ill A) (i:Int)=K.il (K.row A i):=K.ill_row A i
    have r2:rd_L1 (K.ill (K.idm n)) (i:Int)=K.il (K.row (K.idm n) i):=K.ill_row _ i
    have w1:=hA.cf_ hi
    have w2:=hI.cf_ hi
    have hg:=ih (i+1) (by omega)
    have e:(K.beside A (K.idm n)).take (i+1)=(K.beside A (K.idm n)).take i++[K.row A i++K.row (K.idm n) i]:=by
      rw [K.db_ _ _ (by rw [hB.len];omega),K.row_eq (by rw [hA.len];omega),K.row_eq (by rw [hI.len];omega)]
      simp [K.beside]
    rw [e,← K.ill_snoc,← K.il_append] at hg
    apply K.Ev.succ
    simp only [Fo.l0,K.bO_,hA.len,hI.len,if_pos (show (i:Int)<(n:Int) by omega),if_pos (show (0:Int)≤(i:Int) by omega),r1,r2,clone_eq (K.il (K.row A i)) (by rw [K.bn_,w1];omega),Option.bind_some,K.bn_,w1,w2,if_pos (show n+n<140737488355328 by omega),if_pos (show ((K.beside A (K.idm n)).take i).length<5864062014805 by rw [List.length_take,hB.len];omega),K.w64s i (show i<9223372036854775807 by omega)]
    exact hg
theorem io_cuts (R:List (List Nat)) {n w c:Nat} (h:K.Mat n w R) (hc:c≤w) (hn:n≤100000) (hw:w≤1000000):Ev (fun k=>Fo.l1 k (c:Int) (([]:List (List Int))) (K.ill R) (n:Int) 0) (K.ill (K.rgt c R),true):=by
  have key:∀ (d i:Nat),i+d=n→Ev (fun k=>Fo.l1 k (c:Int) (K.ill (K.rgt c (R.take i))) (K.ill R) (n:Int) (i:Int)) (K.ill (K.rgt c R),true):=by
    intro d
    induction d with
    | zero =>
      intro i hd
      apply K.Ev.succ
      simp only [Fo.l1,if_neg (show ¬ ((i:Int)<(n:Int)) by omega)]
      rw [List.take_of_length_le (by rw [h.len];omega)]
      exact Ev.now _
    | succ d ih =>
      intro i hd
      have hi:i<n:=by omega
      have r1:rd_L1 (K.ill R) (i:Int)=K.il (K.row R i):=K.ill_row R i
      have w1:=h.cf_ hi
      have hg:=ih (i+1) (by omega)
      have e:K.rgt c (R.take (i+1))=K.rgt c (R.take i)++[(K.row R i).drop c]:=by
        rw [K.db_ _ _ (by rw [h.len];omega),K.row_eq (by rw [h.len];omega)]
        simp only [K.rgt,List.map_append,List.map_cons,List.map_nil]
      rw [e,← K.ill_snoc,← K.il_drop] at hg
      apply K.Ev.succ
      simp only [Fo.l1,K.bO_,h.len,if_pos (show (i:Int)<(n:Int) by omega),if_pos (show (0:Int)≤(i:Int) by omega),if_pos (show (0:Int)≤(c:Int) by omega),r1,K.bn_,w1,if_pos (show (c:Int)≤(w:Int) by omega),Int.toNat_natCast,clone_eq ((K.il (K.row R i)).drop c) (by rw [List.length_drop,K.bn_,w1];omega),Option.bind_some,if_pos (show (K.rgt c (R.take i)).length<5864062014805 by rw [K.rgt_length,List.length_take,h.len];omega),K.w64s i (show i<9223372036854775807 by omega)]
      exact hg
  exact key n 0 (by omega)
theorem inverseOf_ev (A:List (List Nat)) {n:Nat} (hA:K.Mat n n A) (hn:n≤100000):Ev (fun k=>Fo.f k (K.ill A)) (if (K.minv A).2<n then ([],false) else (K.ill (K.minv A).1,true)):=by
  have hI:=K.idm_mat n
  have hB:=K.dh_ hA hI
  have hm:=K.elim_mat n 0 0 _ hB
  simp only [Fo.f,K.bO_,hA.len]
  refine Ev.bind (identity_ev n hn) ?_
  simp only [K.bO_,hI.len]
  refine io_joins A hA hn _ ?_ n 0 (by omega)
  refine Ev.bind (eliminate_ev _ n hB hn (by omega) (by omega)) ?_
  simp only [K.bO_,hm.len]
  unfold K.minv
  rw [hA.len]
  by_cases e:(K.elim n 0 0 (K.beside A (K.idm n))).2<n
  · rw [if_pos e]
    simp only [if_pos (show (((K.elim n 0 0 (K.beside A (K.idm n))).2:Nat):Int)<(n:Int) by omega)]
    exact Ev.now _
  · rw [if_neg e]
    simp only [if_neg (show ¬ (((K.elim n 0 0 (K.beside A (K.idm n))).2:Nat):Int)<(n:Int) by omega)]
    exact io_cuts _ hm (by omega) hn (by omega)

theorem dot_ev (a b:List Nat) (ha:K.Bytes a) (hb:K.Bytes b) (hl:a.length≤1000000) (he:a.length≤b.length):Ev (fun k=>Fba.f k (K.il a) (K.il b)) ((K.dotp a b:Nat):Int):=by
  have key:∀ (d i o:Nat),i+d=a.length→o<256→Ev (fun k=>Fba.l0 k (K.il b) (o:Int) (K.il a) (a.length:Int) (i:Int)) ((o ^^^ K.dotp (a.drop i) (b.drop i):Nat):Int):=by
    intro d
    induction d with
    | zero =>
      intro i o h ho
      apply K.Ev.succ
      simp only [Fba.l0,if_neg (show ¬ ((i:Int)<(a.length:Int)) by omega)]
      rw [List.drop_of_length_le (by omega)]
      simp only [K.dotp,Nat.xor_zero]
      exact Ev.now _
    | succ d ih =>
      intro i o h ho
      have hi:i<a.length:=by omega
      have hj:i<b.length:=by omega
      have hlt:=K.cg_ (b:=b[i]) (ha _ (List.getElem_mem hi))
      have hx:=ih (i+1) (o ^^^ K.gmul a[i] b[i]) (by omega) (K.xlt ho hlt)
      rw [Nat.xor_assoc,← K.dotp_drop hi hj] at hx
      apply K.Ev.succ
      simp only [Fba.l0,K.bn_,if_pos (show (i:Int)<(a.length:Int) by omega),if_pos (show (i:Int)<(b.length:Int) by omega),if_pos (show (0:Int)≤(i:Int) by omega),K.dd_ hi,K.dd_ hj]
      refine Ev.bind (Times_ev a[i] b[i] (ha _ (List.getElem_mem hi)) (hb _ (List.getElem_mem hj))) ?_
      simp only [K.xor_u8 ho hlt,K.w64s i (show i<9223372036854775807 by omega)]
      exact hx
  have:=key a.length 0 0 (by omega) (by omega)
  simp only [Fba.f,K.bn_]
  simpa using this

theorem solveLoop_ev (R:List (List Nat)) (v:List Nat) {n c:Nat} (h:K.Mat n c R) (hv:K.Bytes v) (hw:c≤v.length) (hn:n≤100000) (hc:c≤1000000):Ev (fun k=>Fag.l0 k (K.il v) ([]:List Int) (K.ill R) (R.length:Int) 0) (K.il (K.app R v),true):=by
  have key:∀ (d i:Nat),i+d=R.length→Ev (fun k=>Fag.l0 k (K.il v) (K.il (K.app (R.take i) v)) (K.ill R) (R.length:Int) (i:Int)) (K.il (K.app R v),true):=by
    intro d
    induction d with
    | zero =>
      intro i hd
      apply K.Ev.succ
      simp only [Fag.l0,if_neg (show ¬ ((i:Int)<(R.length:Int)) by omega)]
      rw [List.take_of_length_le (by omega)]
      exact Ev.now _
    | succ d ih =>
      intro i hd
      have hn':=h.len
      have hi:i<R.length:=by omega
      have hx:=ih (i+1) (by omega)
      have e:K.app (R.take (i+1)) v=K.app (R.take i) v++[K.dotp (K.row R i) v]:=by
        rw [K.db_ _ _ hi,← K.row_eq hi];simp [K.app]
      rw [e,← K.il_snoc] at hx
      have hw:=h.cf_ (i:=i) (by omega)
      have hr:rd_L1 (K.ill R) (i:Int)=K.il (K.row R i):=K.ill_row R i
      apply K.Ev.succ
      simp only [Fag.l0,K.bO_,if_pos (show (i:Int)<(R.length:Int) by omega),if_pos (show (0:Int)≤(i:Int) by omega),hr]
      refine Ev.bind (dot_ev (K.row R i) v (h.de_ i) hv (by omega) (by omega)) ?_
      simp only [K.bn_,if_pos (show (K.app (R.take i) v).length<140737488355328 by simp [K.app];omega),K.w64s i (show i<9223372036854775807 by omega)]
      exact hx
  have:=key R.length 0 (by omega)
  exact this
theorem solve_ev (A:List (List Nat)) (v:List Nat) {n:Nat} (hA:K.Mat n n A) (hv:K.Bytes v) (hw:n≤v.length) (hn:n≤100000):Ev (fun k=>Fag.f k (K.ill A) (K.il v)) (if (K.minv A).2=n then (K.il (K.app (K.minv A).1 v),true) else ([],false)):=by
  have hr:=K.minv_rank hA
  simp only [Fag.f]
  refine Ev.bind (inverseOf_ev A hA hn) ?_
  by_cases e:(K.minv A).2=n
  · simp only [if_neg (show ¬ (K.minv A).2<n by omega),if_pos e,if_true,K.bO_]
    exact solveLoop_ev _ v (K.cU_ hA) hv hw hn (by omega)
  · simp only [if_pos (show (K.minv A).2<n by omega),if_neg e,Bool.false_eq_true,if_false]
    exact Ev.now _

theorem reverse_int_l0:∀ (d:Nat) (a m c:List Int),m.length=d→(a++m++c).length≤140737488355328→∀ i j:Int,i=(a.length:Int)→j=(a.length:Int)+(m.length:Int) - 1→Ev (fun k=>Fae.l0 k (a++m++c) i j) (a++m.reverse++c):=by
  intro d
  induction d using Nat.strongRecOn with
  | _ d ih =>
  intro a m c hd hl i j hi hj
  apply K.Ev.succ
  rcases Nat.lt_or_ge 1 d with h|h
  · obtain ⟨p,m1,rfl⟩:∃ p m1,m=p :: m1:=by cases m with|nil=>simp at hd;omega|cons p m1=>exact ⟨p,m1,rfl⟩
    obtain ⟨m2,q,rfl⟩:∃ m2 q,m1=m2++[q]:=by
      rcases List.eq_nil_or_concat m1 with rfl|⟨m2,q,rfl⟩
      · simp at hd;omega
      · exact ⟨m2,q,by simp⟩
    simp only [List.length_append,List.length_cons,List.length_nil] at hd hl hj
    have e1:rd (a++p :: (m2++[q])++c) i=p:=by
      subst hi;simp [rd,List.getElem?_append]
    have jt:j.toNat=a.length+m2.length+1:=by omega
    have e2:rd (a++p :: (m2++[q])++c) j=q:=by
      simp only [rd,jt,List.getD_eq_getElem?_getD]
      rw [List.getElem?_append_left (by simp;omega),List.getElem?_append_right (by omega),show a.length+m2.length+1 - a.length=m2.length+1 by omega]
      simp
    have s1:((a++p :: (m2++[q])++c).set i.toNat q).set j.toNat p=(a++[q])++m2++(p :: c):=by
      subst hi
      rw [jt,Int.toNat_natCast]
      rw [List.append_assoc,List.set_append_right _ _ (by omega),List.set_append_right _ _ (by omega)]
      rw [show a.length - a.length=0 by omega,show a.length+m2.length+1 - a.length=m2.length+1 by omega]
      simp [List.set_append_right]
    have w1:wrap64 (i+1)=i+1:=K.w64 (by omega) (by omega)
    have w2:wrap64 (j - 1)=j - 1:=K.w64 (by omega) (by omega)
    simp only [Fae.l0,if_pos (show i<j by omega),if_pos (show 0≤j by omega),if_pos (show j<(((a++p :: (m2++[q])++c).length:Nat):Int) by simp;omega),if_pos (show 0≤i by omega),if_pos (show i<(((a++p :: (m2++[q])++c).length:Nat):Int) by simp;omega),e1,e2,s1,w1,w2]
    have:=ih (d - 2) (by omega) (a++[q]) m2 (p :: c) (by omega) (by simp;omega) (i+1) (j - 1) (by simp;omega) (by simp;omega)
    refine K.Ev.to this ?_
    simp
  · simp only [Fae.l0,if_neg (show ¬ (i<j) by omega)]
    have:m.reverse=m:=by
      match m,hd with
      | [],_=>rfl
      | [_],_=>rfl
      | _ :: _ :: _,hd=>simp at hd;omega
    rw [this];exact Ev.now _
theorem reverse_byte_ev (l:List Int) (hl:l.length≤140737488355328):Ev (fun k=>Fae.f k l) l.reverse:=by
  have w:wrap64 ((l.length:Int) - 1)=(l.length:Int) - 1:=K.w64 (by omega) (by omega)
  have:=reverse_int_l0 l.length [] l [] rfl (by simpa using hl) 0 ((l.length:Int) - 1) (by simp) (by simp)
  simp only [Fae.f,w]
  simpa using this

theorem filled_ev (q:Nat→Int→Int→Option Int) (g:Nat→Nat→Nat) (n m:Nat) (hn:n≤100000) (hm:m≤100000) (hq:∀ i k,i<n→k<m→Ev (fun r=>q r (i:Int) (k:Int)) ((g i k:Nat):Int)):Ev (fun r=>Fs.f (q r) r (n:Int) (m:Int)) (K.ill ((List.range n).map (fun i=>(List.range m).map (g i)))):=by
  have key:∀ (d i:Nat),i+d=n→∀ e:Nat,Ev (fun r=>Fs.l0 (q (r+e)) r (m:Int) (K.ill ((List.range i).map (fun i=>(List.range m).map (g i)))) (n:Int) (i:Int)) (K.ill ((List.range n).map (fun i=>(List.range m).map (g i)))):=by
    intro d
    induction d with
    | zero =>
      intro i hd e
      apply K.Ev.succ
      simp only [Fs.l0,if_neg (show ¬ ((i:Int)<(n:Int)) by omega)]
      obtain rfl:i=n:=by omega
      exact Ev.now _
    | succ d ih =>
      intro i hd e
      have inner:∀ (dd k:Nat),k+dd=m→∀ e:Nat,Ev (fun r=>Fs.l1 (q (r+e)) r (m:Int) (K.ill ((List.range i).map (fun i=>(List.range m).map (g i)))) (i:Int) (K.il ((List.range k).map (g i))) (n:Int) (i:Int) (m:Int) (k:Int)) (K.ill ((List.range n).map (fun i=>(List.range m).map (g i)))):=by
        intro dd
        induction dd with
        | zero =>
          intro k hk e
          obtain rfl:k=m:=by omega
          have hx:=ih (i+1) (by omega) (e+1)
          rw [List.range_succ,List.map_append,List.map_cons,List.map_nil,← K.ill_snoc] at hx
          apply K.Ev.succ
          simp only [Fs.l1,if_neg (show ¬ ((k:Int)<(k:Int)) by omega),K.bO_,List.length_map,List.length_range,if_pos (show i<5864062014805 by omega),K.w64s i (show i<9223372036854775807 by omega)]
          simpa only [Nat.add_assoc,Nat.add_comm 1 e] using hx
        | succ dd ih2 =>
          intro k hk e
          have hx:=ih2 (k+1) (by omega) (e+1)
          rw [show (List.range (k+1)).map (g i)=(List.range k).map (g i)++[g i k] by rw [List.range_succ,List.map_append,List.map_cons,List.map_nil],← K.il_snoc] at hx
          have hq':Ev (fun r=>q (r+1+e) (i:Int) (k:Int)) ((g i k:Nat):Int):=by
            obtain ⟨N,hN⟩:=hq i k (by omega) (by omega)
            exact ⟨N,fun r hr=>hN _ (by omega)⟩
          apply K.Ev.succ
          simp only [Fs.l1,if_pos (show ((k:Int)<(m:Int)) by omega)]
          refine Ev.bind hq' ?_
          simp only [K.bn_,List.length_map,List.length_range,if_pos (show k<140737488355328 by omega),K.w64s k (show k<9223372036854775807 by omega)]
          simpa only [Nat.add_assoc,Nat.add_comm 1 e] using hx
      apply K.Ev.succ
      simp only [Fs.l0,if_pos (show ((i:Int)<(n:Int)) by omega)]
      have this:=inner m 0 (by omega) (e+1)
      simp only [Nat.add_assoc,Nat.add_comm 1 e]
      exact this
  have:=key n 0 (by omega) 0
  simp only [Fs.f]
  exact this

theorem locator_rows_ev (s:List Nat) (n:Nat) (hn:n+n≤s.length) (hs:s.length≤100000):Ev (fun k=>Fbd.f k (n:Int) (n:Int) (K.il s)) (K.ill (K.hank s n)):=by
  have e:K.hank s n=(List.range n).map (fun i=>(List.range n).map (fun k=>s.getD (i+k) 0)):=by
    unfold K.hank
    refine List.map_congr_left fun i hi=>?_
    have:=List.mem_range.1 hi
    rw [K.hrow_get (by omega)]
  rw [e]
  have:=filled_ev (fun _=>Fbd.at_ (K.il s)) (fun i k=>s.getD (i+k) 0) n n (by omega) (by omega) (fun i k hi hk=>by
    have wr:K.Eqn (wrap64 ((i:Int)+(k:Int))) ((i+k:Nat):Int):=⟨by rw [K.w64 (by omega) (by omega)];omega⟩
    simp only [Fbd.at_,wr.o,K.bn_,if_pos (show (0:Int)≤((i+k:Nat):Int) by omega),if_pos (show ((i+k:Nat):Int)<(s.length:Int) by omega),K.il_getD]
    exact Ev.now _)
  simp only [Fbd.f]
  exact this
theorem locator_ev (s:List Nat) (hb:K.Bytes s) (hs:s.length≤100000):Ev (fun k=>Far.f k (K.il s)) (K.il (K.loc s (s.length / 2))):=by
  have key:∀ (n:Nat),n+n≤s.length→Ev (fun k=>Far.l0 k (K.il s) (n:Int)) (K.il (K.loc s n)):=by
    intro n
    induction n with
    | zero =>
      intro _
      apply K.Ev.succ
      simp only [Far.l0,if_neg (show ¬ (((0:Nat):Int) > 0) by omega)]
      exact Ev.now _
    | succ n ih =>
      intro hn
      have hm:=K.hank_mat hb hn
      have wr:K.Eqn (wrap64 (2 * ((n+1:Nat):Int))) ((n+1+(n+1):Nat):Int):=⟨by rw [K.w64 (by omega) (by omega)];omega⟩
      have er:((K.il s).take (n+1+(n+1))).drop (n+1)=K.il (K.hrow s (n+1) (n+1)):=by
        rw [K.il_take,K.il_drop,List.drop_take,Nat.add_sub_cancel_left];rfl
      have wl:(K.hrow s (n+1) (n+1)).length=n+1:=K.cO_ (by omega)
      apply K.Ev.succ
      simp only [Far.l0,if_pos (show ((n+1:Nat):Int) > 0 by omega)]
      refine Ev.bind (locator_rows_ev s (n+1) hn hs) ?_
      simp only [wr.o,K.bn_,if_pos (show (0:Int)≤((n+1:Nat):Int) by omega),if_pos (show ((n+1:Nat):Int)≤((n+1+(n+1):Nat):Int) by omega),if_pos (show ((n+1+(n+1):Nat):Int)≤(s.length:Int) by omega),Int.toNat_natCast,er]
      refine Ev.bind (solve_ev _ (K.hrow s (n+1) (n+1)) hm (K.hrow_bytes hb _ _) (by omega) (by omega)) ?_
      unfold K.loc
      by_cases e:(K.minv (K.hank s (n+1))).2=n+1
      · have al:(K.app (K.minv (K.hank s (n+1))).1 (K.hrow s (n+1) (n+1))).length=n+1:=by unfold K.app;rw [List.length_map,(K.cU_ hm).len]
        simp only [if_pos e,if_true]
        refine Ev.bind (reverse_byte_ev _ (by rw [K.bn_,al];omega)) ?_
        simp only [Option.bind_some,List.length_reverse,K.bn_,al,List.length_cons,List.length_nil,if_pos (show 0+1+(n+1)<140737488355328 by omega)]
        refine K.Ev.to (Ev.now _) ?_
        simp [K.il]
      · simp only [if_neg e,Bool.false_eq_true,if_false,K.w64p n (show n<9223372036854775807 by omega)]
        exact ih (by omega)
  have e:wrap64 (((K.il s).length:Int) / 2)=((s.length / 2:Nat):Int):=by rw [K.bn_,K.w64 (by omega) (by omega)];omega
  simp only [Far.f,e]
  exact key _ (by omega)

theorem contains_byte_ev (l:List Int) (x:Int) (hl:l.length≤140737488355328):Ev (fun k=>Fbl.f k l x) (decide (x∈l)):=by
  have key:∀ (d n:Nat),n+d=l.length→(∀ j,j<n→l[j]?≠some x)→∃ r:Int,Ev (fun k=>Fao.l0 k l x (l.length:Int) (n:Int)) r∧(r ≥ 0↔x∈l):=by
    intro d
    induction d with
    | zero =>
      intro n h1 h2
      refine ⟨-1,?_,?_⟩
      · apply K.Ev.succ
        simp only [Fao.l0,if_neg (show ¬ ((n:Int)<(l.length:Int)) by omega)]
        exact Ev.now _
      · refine ⟨fun h=>by omega,fun h=>?_⟩
        obtain ⟨j,hj⟩:=List.getElem?_of_mem h
        exact absurd hj (h2 j (by have:=(List.getElem?_eq_some_iff.1 hj).1;omega))
    | succ d ih =>
      intro n h1 h2
      have hn:n<l.length:=by omega
      by_cases hc:x=l[n]
      · refine ⟨(n:Int),?_,fun _=>hc ▸ List.getElem_mem hn,fun _=>by omega⟩
        apply K.Ev.succ
        simp only [Fao.l0,if_pos (show (n:Int)<(l.length:Int) by omega),if_pos (show (0:Int)≤(n:Int) by omega),K.rd_nat hn,if_pos hc]
        exact Ev.now _
      · obtain ⟨r,e1,e2⟩:=ih (n+1) (by omega) (fun j hj=>by
          rcases Nat.lt_or_ge j n with q|q
          · exact h2 j q
          · obtain rfl:j=n:=by omega
            rw [List.getElem?_eq_getElem hn];simpa using fun h=>hc h.symm)
        refine ⟨r,?_,e2⟩
        apply K.Ev.succ
        simp only [Fao.l0,if_pos (show (n:Int)<(l.length:Int) by omega),if_pos (show (0:Int)≤(n:Int) by omega),K.rd_nat hn,if_neg hc,K.w64s n (show n<9223372036854775807 by omega)]
        exact e1
  obtain ⟨r,e1,e2⟩:=key l.length 0 (by omega) (fun j hj=>by omega)
  simp only [Fbl.f,Fao.f]
  refine Ev.bind e1 ?_
  rw [decide_eq_decide.mpr e2]
  exact Ev.now _

theorem implPlaces_ev (w s c cw:List Nat) (n t:Nat) (hw:w.length≤24) (hc:K.Bytes c) (hcl:c.length≤1000) (X:List Int × Int × Bool)
    (h:Ev (fun k=>Fa.j3 k (t:Int) (K.il cw) (K.il s) (n:Int) (K.il (K.rootsOf c w.length)) (decide (n=0∨(K.rootsOf c w.length).length≠n))) X) :
    Ev (fun k=>Fa.l1 k (t:Int) (K.il cw) (K.il s) (K.il c) (n:Int) ([]:List Int) (w.length:Int) 0) X:=by
  have key:∀ (d i:Nat),i+d=w.length→Ev (fun k=>Fa.l1 k (t:Int) (K.il cw) (K.il s) (K.il c) (n:Int) (K.il (K.rootsOf c i)) (w.length:Int) (i:Int)) X:=by
    intro d
    induction d with
    | zero =>
      intro i hi
      obtain rfl:i=w.length:=by omega
      apply K.Ev.succ
      simp only [Fa.l1,K.bn_,if_neg (show ¬ ((w.length:Int)<(w.length:Int)) by omega)]
      by_cases e:n=0
      · rw [decide_eq_true (show n=0∨(K.rootsOf c w.length).length≠n from Or.inl e)] at h
        simp only [if_pos (show (n:Int)=0 by omega)]
        exact h
      · simp only [if_neg (show ¬ ((n:Int)=0) by omega)]
        have e2:(((K.rootsOf c w.length).length:Int) != (n:Int))=decide (n=0∨(K.rootsOf c w.length).length≠n):=by
          by_cases q:(K.rootsOf c w.length).length=n
          · rw [decide_eq_false (by omega),bne_eq_false_iff_eq];omega
          · rw [decide_eq_true (by omega),bne_iff_ne];omega
        rw [e2]
        exact h
    | succ d ih =>
      intro i hi
      have hx:=ih (i+1) (by omega)
      have hl:(K.rootsOf c i).length≤i:=by
        have:=List.length_filter_le (fun i=>K.peval c (K.ginv (K.gpow 3 i)) == 0) (List.range i)
        rw [List.length_range] at this;exact this
      have er:K.rootsOf c (i+1)=K.rootsOf c i++(if K.peval c (K.ginv (K.gpow 3 i)) == 0 then [i] else []):=by
        unfold K.rootsOf
        rw [List.range_succ,List.filter_append,List.filter_cons,List.filter_nil]
      apply K.Ev.succ
      simp only [Fa.l1,K.bn_,if_pos (show (i:Int)<(w.length:Int) by omega)]
      refine Ev.bind (power_ev 3 i (by omega) (by omega)) ?_
      refine Ev.bind (Inverse_ev _ (K.bY_ _)) ?_
      refine Ev.bind (valueAt_ev c (by omega) hc _ (K.dA_ _)) ?_
      by_cases z:K.peval c (K.ginv (K.gpow 3 i))=0
      · rw [er,if_pos (by simpa using z),← K.il_snoc] at hx
        simp only [z,if_pos (show ((0:Nat):Int)=0 by omega),if_pos (show (K.rootsOf c i).length<17592186044416 by omega),K.w64s i (show i<9223372036854775807 by omega)]
        exact hx
      · rw [er,if_neg (by simpa using z),List.append_nil] at hx
        simp only [if_neg (show ¬ ((K.peval c (K.ginv (K.gpow 3 i)):Nat):Int)=0 by omega),K.w64s i (show i<9223372036854775807 by omega)]
        exact hx
  exact key w.length 0 (by omega)
theorem implTrim_ev (w cw s c:List Nat) (t:Nat) (hcl:c.length≤1000) (X:List Int × Int × Bool) (hc0:0<c.length)
    (h:Ev (fun k=>Fa.l1 k (t:Int) (K.il cw) (K.il s) (K.il c) ((K.trim c (c.length - 1):Nat):Int) ([]:List Int) (w.length:Int) 0) X) :
    Ev (fun k=>Fa.l0 k (K.il w) (t:Int) (K.il cw) (K.il s) (K.il c) (wrap64 (((K.il c).length:Int) - 1))) X:=by
  have key:∀ (n:Nat),n<c.length→K.trim c n=K.trim c (c.length - 1)→Ev (fun k=>Fa.l0 k (K.il w) (t:Int) (K.il cw) (K.il s) (K.il c) (n:Int)) X:=by
    intro n
    induction n with
    | zero =>
      intro _ e
      rw [← e] at h
      apply K.Ev.succ
      simp only [Fa.l0,if_neg (show ¬ (((0:Nat):Int) > 0) by omega)]
      apply K.Ev.succ
      simp only [Fa.j1,K.bn_]
      exact h
    | succ n ih =>
      intro hn e
      have g:rd (K.il c) ((n+1:Nat):Int)=((c.getD (n+1) 0:Nat):Int):=K.il_getD _ _
      apply K.Ev.succ
      simp only [Fa.l0,if_pos (show ((n+1:Nat):Int) > 0 by omega),if_pos (show (0:Int)≤((n+1:Nat):Int) by omega),K.bn_,if_pos (show ((n+1:Nat):Int)<(c.length:Int) by omega),g]
      by_cases z:c.getD (n+1) 0=0
      · simp only [if_pos (show ((c.getD (n+1) 0:Nat):Int)=0 by omega),K.w64p n (show n<9223372036854775807 by omega)]
        refine ih (by omega) ?_
        rw [← e]
        conv=>rhs;unfold K.trim
        rw [if_pos z]
      · have e2:K.trim c (n+1)=n+1:=by
          conv=>lhs;unfold K.trim
          rw [if_neg z]
        rw [e2] at e
        rw [← e] at h
        simp only [if_neg (show ¬ ((c.getD (n+1) 0:Nat):Int)=0 by omega)]
        apply K.Ev.succ
        simp only [Fa.j1,K.bn_]
        exact h
  have e:wrap64 (((K.il c).length:Int) - 1)=((c.length - 1:Nat):Int):=by rw [K.bn_,K.w64 (by omega) (by omega)];omega
  rw [e]
  exact key (c.length - 1) (by omega) rfl
theorem corRows_ev (ps:List Nat) (hps:∀ p∈ps,p<24) (hn:ps.length≤24):Ev (fun k=>Fbb.f k (ps.length:Int) (ps.length:Int) (K.il ps)) (K.ill (K.vmat ps)):=by
  have e:K.vmat ps=(List.range ps.length).map (fun j=>(List.range ps.length).map (fun i=>K.gpow (K.gpow 3 (ps.getD i 0)) (j+1))):=by
    unfold K.vmat
    refine List.map_congr_left fun j hj=>?_
    unfold K.vrow
    apply List.ext_getElem
    · simp
    · intro i h1 h2
      have hi:i<ps.length:=by simpa using h1
      simp [hi]
  rw [e]
  have:=filled_ev (fun k=>Fbb.at_ k (K.il ps)) (fun j i=>K.gpow (K.gpow 3 (ps.getD i 0)) (j+1)) ps.length ps.length (by omega) (by omega) (fun j i hj hi=>by
    have g:rd (K.il ps) (i:Int)=((ps.getD i 0:Nat):Int):=K.il_getD _ _
    have hp:ps.getD i 0<24:=by
      have:=hps ps[i] (List.getElem_mem hi)
      simpa [hi] using this
    simp only [Fbb.at_,K.bn_,if_pos (show (0:Int)≤(i:Int) by omega),if_pos (show (i:Int)<(ps.length:Int) by omega),g,K.w64s j (show j<9223372036854775807 by omega)]
    refine Ev.bind (power_ev 3 _ (by omega) (by omega)) ?_
    exact power_ev _ (j+1) (K.bY_ _) (by omega))
  simp only [Fbb.f]
  exact this
theorem implEnd_ev (t:Nat) (h1:1≤t) (ht:t≤4) (ps es:List Nat) (he:es.length=ps.length) (hes:K.Bytes es) (hn:ps.length≤24) (m:Nat):∀ (d i:Nat) (cur:List Nat),i+d=ps.length→K.Bytes cur→cur.length≤24→(∀ p∈ps,p<cur.length)→Ev (fun k=>Fa.l2 k (t:Int) (K.il cur) (m:Int) (K.il es) (K.il ps) (ps.length:Int) (i:Int)) (corEnd t m cur ((ps.zip es).drop i)):=by
  intro d
  induction d with
  | zero =>
    intro i cur hi hb hc hps
    apply K.Ev.succ
    have e2:(ps.zip es).drop i=[]:=List.drop_of_length_le (by rw [List.length_zip];omega)
    obtain ⟨v,v1,v2⟩:=Max_zero (K.synd cur t) (by rw [K.co_];omega) (by rw [K.co_];omega)
    have hw:Ev (fun k=>Fad.f k (K.il cur) (t:Int)) ((K.synd cur t).all (· == 0)):=by
      simp only [Fad.f]
      refine Ev.bind (syndI_ev cur hc hb t ht) ?_
      refine Ev.bind v1 ?_
      simp only [v2]
      exact Ev.now _
    simp only [Fa.l2,if_neg (show ¬ ((i:Int)<(ps.length:Int)) by omega),e2]
    refine Ev.bind hw ?_
    unfold corEnd K.putAll
    by_cases z:(K.synd cur t).all (· == 0)=true
    · simp only [z,if_true];exact Ev.now _
    · simp only [Bool.not_eq_true _ ▸ z,if_neg z,Bool.false_eq_true,if_false];exact Ev.now _
  | succ d ih =>
    intro i cur hi hb hc hps
    have hil:i<ps.length:=by omega
    have hie:i<es.length:=by omega
    have e2:=zip_drop ps es he hil
    have g1:ps.getD i 0=ps[i]:=by simp [hil]
    have g2:es.getD i 0=es[i]:=by simp [hie]
    have hp:=hps ps[i] (List.getElem_mem hil)
    have hx:=hes es[i] (List.getElem_mem hie)
    have hcp:cur[ps[i]]<256:=hb _ (List.getElem_mem hp)
    apply K.Ev.succ
    simp only [Fa.l2,K.bn_,if_pos (show (i:Int)<(es.length:Int) by omega),if_pos (show (i:Int)<(ps.length:Int) by omega),if_pos (show (0:Int)≤(i:Int) by omega),K.dd_ hie,K.dd_ hil,if_pos (show (0:Int)≤((ps[i]:Nat):Int) by omega),if_pos (show ((ps[i]:Nat):Int)<(cur.length:Int) by omega),K.w64s i (show i<9223372036854775807 by omega),Int.toNat_natCast]
    have b2:K.Bytes (cur.set ps[i] (cur[ps[i]] ^^^ es[i])):=by
      intro y hy
      rcases List.mem_or_eq_of_mem_set hy with q|rfl
      · exact hb y q
      · exact K.xlt hcp hx
    have:=ih (i+1) (cur.set ps[i] (cur[ps[i]] ^^^ es[i])) (by omega) b2 (by simpa using hc) (by simpa using hps)
    have e3:corEnd t m cur ((ps.zip es).drop i)=corEnd t m (cur.set ps[i] (cur[ps[i]] ^^^ es[i])) ((ps.zip es).drop (i+1)):=by
      rw [e2,g1,g2]
      unfold corEnd
      have:cur.getD ps[i] 0=cur[ps[i]]:=by simp [hp]
      simp only [K.putAll,this]
    rw [e3,K.dd_ hp,K.xor_u8 hcp hx,show (K.il cur).set ps[i] ((cur[ps[i]] ^^^ es[i]:Nat):Int)=K.il (cur.set ps[i] (cur[ps[i]] ^^^ es[i])) by simp [K.il,List.map_set]]
    exact this
theorem implCor_ev (w:List Nat) (t:Nat) (h1:1≤t) (ht:t≤4) (hw:w.length≤24) (hb:K.Bytes w) (hs:Fah.f (K.il w) (t:Int)=some true):Ev (fun k=>Fa.f k (K.il w) (t:Int)) (corRes (K.cor w t)):=by
  have sl:=K.co_ w t
  have sb:=K.synd_bytes hb t
  have hst:t+t≤(K.synd w t).length:=by omega
  have hc:=K.loc_bytes (K.synd w t) sb t hst
  have hlong:=K.loc_long (K.synd w t) sb t hst
  obtain ⟨r0,hr0⟩:=K.loc_head (K.synd w t) t
  have hc0:0<(K.loc (K.synd w t) t).length:=by rw [hr0];simp
  have hcl:(K.loc (K.synd w t) t).length≤t+1:=by
    by_cases e:(K.loc (K.synd w t) t).length=1
    · omega
    · obtain ⟨m,m1,m2,_⟩:=hlong e;omega
  have hloc:=locator_ev (K.synd w t) sb (by omega)
  rw [show (K.synd w t).length / 2=t by omega] at hloc
  have hsame:=K.cor_same (t:=t) hb hw
  obtain ⟨v,v1,v2⟩:=Max_zero (K.synd w t) (by omega) (by omega)
  have hword:Ev (fun k=>Fad.f k (K.il w) (t:Int)) ((K.synd w t).all (· == 0)):=by
    simp only [Fad.f]
    refine Ev.bind (syndI_ev w hw hb t ht) ?_
    refine Ev.bind v1 ?_
    simp only [v2]
    exact Ev.now _
  simp only [Fa.f,hs,Option.bind_some,if_true,clone_eq (K.il w) (by rw [K.bn_];omega)]
  refine Ev.bind hword ?_
  unfold K.cor
  by_cases z:(K.synd w t).all (· == 0)=true
  · rw [if_pos z]
    simp only [z,if_true]
    exact Ev.now _
  rw [if_neg z,← hsame]
  simp only [Bool.not_eq_true _ ▸ z,Bool.false_eq_true,if_false]
  refine Ev.bind (syndI_ev w hw hb t ht) ?_
  refine Ev.bind hloc ?_
  refine implTrim_ev w w (K.synd w t) (K.loc (K.synd w t) t) t (by omega) _ hc0 ?_
  refine implPlaces_ev w (K.synd w t) (K.loc (K.synd w t) t) w _ t hw hc (by omega) _ ?_
  have hps:∀ p∈K.rootsOf (K.loc (K.synd w t) t) w.length,p<w.length:=fun p hp=>K.rootsOf_lt hp
  have hpl:(K.rootsOf (K.loc (K.synd w t) t) w.length).length≤w.length:=by
    have:=List.length_filter_le (fun i=>K.peval (K.loc (K.synd w t) t) (K.ginv (K.gpow 3 i)) == 0) (List.range w.length)
    rw [List.length_range] at this;exact this
  have htr:=K.trim_le (K.loc (K.synd w t) t) ((K.loc (K.synd w t) t).length - 1)
  unfold K.corI
  generalize K.rootsOf (K.loc (K.synd w t) t) w.length=ps at hps hpl ⊢
  generalize K.trim (K.loc (K.synd w t) t) ((K.loc (K.synd w t) t).length - 1)=n at htr ⊢
  apply K.Ev.succ
  by_cases e:n=0∨ps.length≠n
  · rw [if_pos e,decide_eq_true e]
    simp only [Fa.j3,if_true]
    exact Ev.now _
  rw [if_neg e,decide_eq_false e]
  obtain rfl:n=ps.length:=by omega
  have hm:=K.vmat_mat ps
  simp only [Fa.j3,Bool.false_eq_true,if_false]
  refine Ev.bind (corRows_ev ps (fun p hp=>by have:=hps p hp;omega) (by omega)) ?_
  simp only [K.bn_,if_pos (show (0:Int)≤(ps.length:Int) by omega),if_pos (show (ps.length:Int)≤((K.synd w t).length:Int) by omega),Int.toNat_natCast,K.il_take]
  refine Ev.bind (solve_ev _ ((K.synd w t).take ps.length) hm (sb.take _) (by rw [List.length_take];omega) (by omega)) ?_
  rw [corLast_eq]
  have ha:(K.app (K.minv (K.vmat ps)).1 ((K.synd w t).take ps.length)).length=ps.length:=by rw [K.cB_,(K.cU_ hm).len]
  have hab:=K.app_bytes (K.cU_ hm) ((K.synd w t).take ps.length)
  by_cases q:(K.minv (K.vmat ps)).2=ps.length
  · simp only [if_pos q,if_true]
    generalize K.app (K.minv (K.vmat ps)).1 ((K.synd w t).take ps.length)=es at ha hab ⊢
    refine Ev.bind (contains_byte_ev (K.il es) 0 (by rw [K.bn_];omega)) ?_
    have ez:decide ((0:Int)∈K.il es)=es.any (· == 0):=by
      rw [Bool.eq_iff_iff]
      simp only [decide_eq_true_eq,List.any_eq_true,beq_iff_eq,K.il,List.mem_map]
      constructor
      · rintro ⟨x,hx,e⟩;exact ⟨x,hx,by omega⟩
      · rintro ⟨x,hx,e⟩;exact ⟨x,hx,by omega⟩
    rw [ez]
    apply K.Ev.succ
    by_cases u:es.any (· == 0)=true
    · simp only [Fa.j4,u,if_true]
      exact Ev.now _
    · simp only [Fa.j4,Bool.not_eq_true _ ▸ u,Bool.false_eq_true,if_false,K.bn_]
      have:=implEnd_ev t h1 ht ps es ha hab (by omega) ps.length ps.length 0 w (by omega) hb hw hps
      rw [List.drop_zero] at this
      exact this
  · simp only [if_neg q,Bool.false_eq_true,if_false]
    apply K.Ev.succ
    simp only [Fa.j4,if_true]
    exact Ev.now _

theorem next_ok (c:List Int) (hc:K.Code c) (a:Int) (h0:0≤a) (h1:a≤1152921504606846976) (sd:Int):∃ v sd',Fbf.f c a sd=some (v,a+1,sd')∧0≤v∧v≤255:=by
  have hl:=hc.len
  have w:K.Eqn (wrap64 (a+1)) (a+1):=⟨K.w64 (by omega) (by omega)⟩
  by_cases h:a<(c.length:Int)
  · have hr:=hc.rd_rng a
    have wr:K.Eqn (wrap64 (rd c a)) (rd c a):=⟨K.w64 (by omega) (by omega)⟩
    have h2:a+1≤(c.length:Int):=by omega
    simp only [Fbf.f,if_pos h,if_pos h0,w.o,if_pos h2,wr.o]
    exact ⟨_,_,rfl,hr.1,hr.2⟩
  · have h2:¬ (a+1≤(c.length:Int)):=by omega
    have hb:∀ y:Int,wrap64 (Go.bits .and .u64 y 255)=Go.bits .and .u64 y 255∧0≤Go.bits .and .u64 y 255∧Go.bits .and .u64 y 255≤255:=fun y=>by
      have:=K.u64_and255 y
      exact ⟨K.w64 (by omega) (by omega),this⟩
    simp only [Fbf.f,if_neg h,w.o,if_neg h2,(hb _).1]
    exact ⟨_,_,rfl,(hb _).2.1,(hb _).2.2⟩

theorem pick_ok (c:List Int) (hc:K.Code c) (a:Int) (h0:0≤a) (h1:a≤1000000000000000000) (sd:Int) (n:Int) (hn:n≤1000000):∃ v a' sd',Fq.f c a sd n=some (v,a',sd')∧0≤v∧(v<n∨v=0)∧a≤a'∧a'≤a+2:=by
  by_cases h:n≤1
  · exact ⟨0,a,sd,by simp only [Fq.f,if_pos h],by omega,.inr rfl,by omega,by omega⟩
  obtain ⟨v,sd1,e1,v0,v1⟩:=next_ok c hc a h0 (by omega) sd
  have hnz:¬ n=0:=by omega
  have tm:∀ x:Int,0≤x→0≤Int.tmod x n∧Int.tmod x n<n:=fun x hx=>by
    rw [Int.tmod_eq_emod_of_nonneg hx]
    exact ⟨Int.emod_nonneg _ (by omega),Int.emod_lt_of_pos _ (by omega)⟩
  by_cases h2:n > 200
  · obtain ⟨u,sd2,e2,u0,u1⟩:=next_ok c hc (a+1) (by omega) (by omega) sd1
    have w1:K.Eqn (wrap64 (v * 256)) (v * 256):=⟨K.w64 (by omega) (by omega)⟩
    have w2:K.Eqn (wrap64 (v * 256+u)) (v * 256+u):=⟨K.w64 (by omega) (by omega)⟩
    have t:=tm (v * 256+u) (by omega)
    refine ⟨_,a+1+1,sd2,by simp only [Fq.f,if_neg h,e1,Option.bind_some,if_pos h2,e2,if_neg hnz,w1.o,w2.o],t.1,.inl t.2,by omega,by omega⟩
  · have t:=tm v v0
    exact ⟨_,a+1,sd1,by simp only [Fq.f,if_neg h,e1,Option.bind_some,if_neg h2,if_neg hnz],t.1,.inl t.2,by omega,by omega⟩

theorem among_ok (c:List Int) (hc:K.Code c) (a:Int) (h0:0≤a) (h1:a≤1000000000000000000) (sd:Int) (l:List Int) (hl:0<l.length) (hl2:l.length≤1000000):∃ (x a' sd':Int),Fbh.f c a sd l=some (x,a',sd')∧x∈l∧a≤a'∧a'≤a+2:=by
  obtain ⟨v,a',sd',e,v0,v1,g1,g2⟩:=pick_ok c hc a h0 h1 sd (l.length:Int) (by omega)
  have hv:v.toNat<l.length:=by omega
  refine ⟨rd l v,a',sd',by simp only [Fbh.f,e,Option.bind_some,if_pos v0,if_pos (show v<(l.length:Int) by omega)],?_,g1,g2⟩
  simp only [rd,List.getD_eq_getElem?_getD,List.getElem?_eq_getElem hv,Option.getD_some]
  exact List.getElem_mem hv

theorem one_ok (c:List Int) (hc:K.Code c) (a:Int) (h0:0≤a) (h1:a≤1000000000000000000) (sd:Int) (n:Int) (hn:n≤1000000):∃ (b:Bool) (a' sd':Int),Fbi.f c a sd n=some (b,a',sd')∧a≤a'∧a'≤a+2:=by
  obtain ⟨v,a',sd',e,_,_,g1,g2⟩:=pick_ok c hc a h0 h1 sd n hn
  exact ⟨v == 0,a',sd',by simp only [Fbi.f,e,Option.bind_some],g1,g2⟩

theorem byte_ok (c:List Int) (hc:K.Code c) (a:Int) (h0:0≤a) (h1:a≤900000000000000000) (sd:Int):∃ (x a' sd':Int),Fbk.f c a sd=some (x,a',sd')∧0≤x∧x≤255∧a≤a'∧a'≤a+4:=by
  obtain ⟨b,a1,sd1,e1,g1,g2⟩:=one_ok c hc a h0 (by omega) sd 5 (by omega)
  cases b with
  | true =>
    obtain ⟨x,a2,sd2,e2,_,g3,g4⟩:=among_ok c hc a1 (by omega) (by omega) sd1 ([0,1,2,3,255,27]:List Int) (by simp) (by simp)
    exact ⟨x % 256,a2,sd2,by simp only [Fbk.f,e1,Option.bind_some,if_true,e2],by omega,by omega,by omega,by omega⟩
  | false =>
    obtain ⟨x,a2,sd2,e2,_,_,g3,g4⟩:=pick_ok c hc a1 (by omega) (by omega) sd1 256 (by omega)
    exact ⟨x % 256,a2,sd2,by simp only [Fbk.f,e1,Option.bind_some,Bool.false_eq_true,if_false,e2],by omega,by omega,by omega,by omega⟩

theorem vector_ok (c:List Int) (hc:K.Code c) (n:Nat) (hn:n≤1000) (a:Int) (h0:0≤a) (h1:a≤800000000000000000) (sd:Int):∃ (l:List Int) (a' sd':Int),Ev (fun k=>Fap.f k c a sd (n:Int)) (l,a',sd')∧l.length=n∧(∀ x∈l,0≤x∧x≤255)∧a≤a'∧a'≤a+4 * n:=by
  have key:∀ (d:Nat) (acc:List Int) (a sd:Int),d≤1000→acc.length+d≤1000000→(∀ x∈acc,0≤x∧x≤255)→0≤a→a+4 * d≤850000000000000000→∃ (l:List Int) (a' sd':Int),Ev (fun k=>Fap.l0 k (d:Int) acc c a sd) (l,a',sd')∧l.length=acc.length+d∧(∀ x∈l,0≤x∧x≤255)∧a≤a'∧a'≤a+4 * d:=by
    intro d
    induction d with
    | zero =>
      intro acc a sd _ g1 g2 g3 g4
      refine ⟨acc,a,sd,?_,rfl,g2,by omega,by omega⟩
      apply K.Ev.succ
      simp only [Fap.l0,if_neg (show ¬ (((0:Nat):Int) > 0) by omega)]
      exact Ev.now _
    | succ d ih =>
      intro acc a sd g0 g1 g2 g3 g4
      obtain ⟨x,a1,sd1,e1,x0,x1,b1,b2⟩:=byte_ok c hc a g3 (by omega) sd
      have w:K.Eqn (wrap64 (((d+1:Nat):Int) - 1)) (d:Int):=⟨K.w64p d (by omega)⟩
      obtain ⟨l,a',sd',e2,l1,l2,b3,b4⟩:=ih (acc++[x]) a1 sd1 (by omega) (by
        -- only as many as there are
        have:acc.length+(d+1)≤1000000:=g1
        simp only [List.length_append,List.length_cons,List.length_nil]
        omega) (fun y hy=>by
        rcases List.mem_append.1 hy with h|h
        · exact g2 y h
        · simp only [List.mem_singleton] at h;subst h;exact ⟨x0,x1⟩) (by omega) (by omega)
      refine ⟨l,a',sd',?_,by rw [l1];simp;omega,l2,by omega,by omega⟩
      apply K.Ev.succ
      simp only [Fap.l0,if_pos (show ((d+1:Nat):Int) > 0 by omega),e1,Option.bind_some,if_pos (show acc.length<140737488355328 by omega),w.o]
      exact e2
  obtain ⟨l,a',sd',e,l1,l2,b1,b2⟩:=key n [] a sd hn (by simp;omega) (by simp) h0 (by omega)
  exact ⟨l,a',sd',by simp only [Fap.f];exact e,by simpa using l1,l2,b1,b2⟩

theorem drawEncodeWord_ok (c:List Int) (hc:K.Code c):∃ (m:List Nat) (t:Int),Ev (fun k=>Fbo.f k c) (K.il m,t)∧K.Bytes m∧m.length≤23:=by
  obtain ⟨x,a1,sd1,e1,x0,g1,g2⟩:=among_ok c hc 0 (by omega) (by omega) 0 ([0,1,2,5,8,16,17,22,23]:List Int) (by simp) (by simp)
  have hx:0≤x∧x≤23:=by
    simp only [List.mem_cons,List.not_mem_nil,or_false] at x0
    omega
  obtain ⟨n,rfl⟩:=Int.eq_ofNat_of_zero_le hx.1
  obtain ⟨l,a2,sd2,e2,l1,l2,g3,g4⟩:=vector_ok c hc n (by omega) a1 (by omega) (by omega) sd1
  obtain ⟨v,a3,sd3,e3,v0,v1,g5,g6⟩:=pick_ok c hc a2 (by omega) (by omega) sd2 6 (by omega)
  obtain ⟨m,rfl,hm⟩:=K.il_of l2
  rw [K.bn_] at l1
  refine ⟨m,v,?_,hm,by omega⟩
  simp only [Fbo.f,e1,Option.bind_some]
  refine Ev.bind e2 ?_
  simp only [e3,Option.bind_some]
  exact Ev.now _

theorem distDiffs_ev (a b:List Nat) (hab:a.length=b.length) (h24:a.length≤24):Ev (fun k=>Fn.f k (K.il a) (K.il b)) (((K.diffs 0 a b).length:Int),true):=by
  have key:∀ (d n c:Nat),n+d=a.length→c≤n→Ev (fun k=>Fn.l0 k (K.il b) (c:Int) (K.il a) (a.length:Int) (n:Int)) (((c+(K.diffs n (a.drop n) (b.drop n)).length:Nat):Int),true):=by
    intro d
    induction d with
    | zero =>
      intro n c h1 h2
      apply K.Ev.succ
      rw [List.drop_of_length_le (by omega)]
      simp only [Fn.l0,if_neg (show ¬ ((n:Int)<(a.length:Int)) by omega),K.diffs,List.length_nil,Nat.add_zero]
      exact Ev.now _
    | succ d ih =>
      intro n c h1 h2
      have ha:n<a.length:=by omega
      have hb:n<b.length:=by omega
      rw [List.drop_eq_getElem_cons ha,List.drop_eq_getElem_cons hb,K.diffs_cons]
      apply K.Ev.succ
      simp only [Fn.l0,K.bn_,if_pos (show (n:Int)<(a.length:Int) by omega),if_pos (show (0:Int)≤(n:Int) by omega),if_pos (show (n:Int)<(b.length:Int) by omega),K.dd_ ha,K.dd_ hb,K.w64s n (show n<9223372036854775807 by omega)]
      by_cases e:a[n]=b[n]
      · simp only [e,if_true]
        exact ih (n+1) c (by omega) (by omega)
      · simp only [if_neg e,if_neg (show ¬ ((a[n]:Nat):Int)=((b[n]:Nat):Int) by omega),K.w64s c (show c<9223372036854775807 by omega),List.length_cons]
        have:=ih (n+1) (c+1) (by omega) (by omega)
        rw [show c+1+(K.diffs (n+1) (a.drop (n+1)) (b.drop (n+1))).length=c+((K.diffs (n+1) (a.drop (n+1)) (b.drop (n+1))).length+1) by omega] at this
        exact this
  have:=key a.length 0 0 (by omega) (by omega)
  rw [List.drop_zero,List.drop_zero,Nat.zero_add] at this
  simp only [Fn.f,K.bn_,if_pos (show (a.length:Int)=(b.length:Int) by omega),decide_eq_false (show ¬ (a.length:Int) > 24 by omega)]
  apply K.Ev.succ
  simp only [Fn.j0,Bool.false_eq_true,if_false,K.bn_]
  exact this

theorem sameB_self (l:List Int):Faa.f l l=some true:=by simp [Faa.f]
theorem word_ok (c:List Int) (hc:K.Code c) (a:Int) (h0:0≤a) (h1:a≤1000) (sd:Int):∃ (w:List Nat) (t a' sd':Int),Ev (fun k=>Fac.f k c a sd) (K.il w,t,a',sd')∧K.Bytes w∧w.length≤24∧a≤a'∧a'≤100000:=by
  have loop:∀ (n:Nat) (w:List Nat) (t a sd:Int),n≤100→K.Bytes w→0<w.length→w.length≤24→0≤a→a≤10000 - 10 * n→∃ (w':List Nat) (t' a' sd':Int),Ev (fun k=>Fac.l0 k t (K.il w) (n:Int) c a sd) (K.il w',t',a',sd')∧K.Bytes w'∧w'.length≤24∧a≤a'∧a'≤100000:=by
    intro n
    induction n with
    | zero =>
      intro w t a sd _ hw h0 h24 ha0 ha
      obtain ⟨b,a1,sd1,e1,g1,g2⟩:=one_ok c hc a ha0 (by omega) sd 20 (by omega)
      cases b with
      | true =>
        obtain ⟨v,a2,sd2,e2,v0,v1,g3,g4⟩:=pick_ok c hc a1 (by omega) (by omega) sd1 6 (by omega)
        refine ⟨w,v,a2,sd2,?_,hw,h24,by omega,by omega⟩
        apply K.Ev.succ
        simp only [Fac.l0,if_neg (show ¬ (((0:Nat):Int) > 0) by omega),e1,Option.bind_some,if_true,e2]
        exact Ev.now _
      | false =>
        refine ⟨w,t,a1,sd1,?_,hw,h24,by omega,by omega⟩
        apply K.Ev.succ
        simp only [Fac.l0,if_neg (show ¬ (((0:Nat):Int) > 0) by omega),e1,Option.bind_some,Bool.false_eq_true,if_false]
        exact Ev.now _
    | succ n ih =>
      intro w t a sd hn hw h0 h24 ha0 ha
      obtain ⟨v,a1,sd1,e1,v0,v1,g1,g2⟩:=pick_ok c hc a ha0 (by omega) sd (w.length:Int) (by omega)
      obtain ⟨x,a2,sd2,e2,x0,x1,g3,g4⟩:=byte_ok c hc a1 (by omega) (by omega) sd1
      obtain ⟨i,rfl⟩:=Int.eq_ofNat_of_zero_le v0
      obtain ⟨y,rfl⟩:=Int.eq_ofNat_of_zero_le x0
      have hi:i<w.length:=by omega
      have hwi:=hw w[i] (List.getElem_mem hi)
      have hy:y<256:=by omega
      have b2:K.Bytes (w.set i (w[i] ^^^ y)):=by
        intro z hz
        rcases List.mem_or_eq_of_mem_set hz with q|rfl
        · exact hw z q
        · exact K.xlt hwi hy
      obtain ⟨w',t',a',sd',e3,r1,r2,r3,r4⟩:=ih (w.set i (w[i] ^^^ y)) t a2 sd2 (by omega) b2 (by simpa using h0) (by simpa using h24) (by omega) (by omega)
      refine ⟨w',t',a',sd',?_,r1,r2,by omega,r4⟩
      apply K.Ev.succ
      simp only [Fac.l0,if_pos (show ((n+1:Nat):Int) > 0 by omega),K.bn_,e1,Option.bind_some,if_pos (show (0:Int)≤(i:Int) by omega),if_pos (show (i:Int)<(w.length:Int) by omega),e2,K.dd_ hi,K.xor_u8 hwi hy,Int.toNat_natCast,K.w64p n (show n<9223372036854775807 by omega)]
      rw [show (K.il w).set i ((w[i] ^^^ y:Nat):Int)=K.il (w.set i (w[i] ^^^ y)) by simp [K.il,List.map_set]]
      exact e3
  obtain ⟨v,a1,sd1,e1,v0,v1,g1,g2⟩:=pick_ok c hc a h0 (by omega) sd 4 (by omega)
  obtain ⟨u,a2,sd2,e2,u0,u1,g3,g4⟩:=pick_ok c hc a1 (by omega) (by omega) sd1 8 (by omega)
  obtain ⟨i,rfl⟩:=Int.eq_ofNat_of_zero_le v0
  obtain ⟨j,rfl⟩:=Int.eq_ofNat_of_zero_le u0
  have wi:K.Eqn (wrap64 (1+(i:Int))) ((i+1:Nat):Int):=⟨by rw [K.w64 (by omega) (by omega)];omega⟩
  have wj:K.Eqn (wrap64 (1+(j:Int))) ((j+1:Nat):Int):=⟨by rw [K.w64 (by omega) (by omega)];omega⟩
  have wk:K.Eqn (wrap64 (((i+1:Nat):Int)+2)) ((i+3:Nat):Int):=⟨by rw [K.w64 (by omega) (by omega)];omega⟩
  obtain ⟨l,a3,sd3,e3,l1,l2,g5,g6⟩:=vector_ok c hc (j+1) (by omega) a2 (by omega) (by omega) sd2
  obtain ⟨m,rfl,hm⟩:=K.il_of l2
  rw [K.bn_] at l1
  have hfit:EncFits m.length ((i+1:Nat):Int):=⟨by omega,by omega,by omega,by omega⟩
  have e4:=(encode_yes m hm (i+1) hfit).1
  obtain ⟨p,a4,sd4,e5,p0,p1,g7,g8⟩:=pick_ok c hc a3 (by omega) (by omega) sd3 ((i+3:Nat):Int) (by omega)
  obtain ⟨n,rfl⟩:=Int.eq_ofNat_of_zero_le p0
  have hel:=K.enc_length (g:=genW (i+1)) (t:=i+1) m
  obtain ⟨w',t',a',sd',e6,r1,r2,r3,r4⟩:=loop n (K.enc (genW (i+1)) (i+1) m) ((i+1:Nat):Int) a4 sd4 (by omega) (K.enc_bytes hm) (by omega) (by omega) (by omega) (by omega)
  refine ⟨w',t',a',sd',?_,r1,r2,by omega,r4⟩
  simp only [Fac.f,e1,Option.bind_some,e2,wi.o,wj.o,wk.o]
  refine Ev.bind e3 ?_
  refine Ev.bind e4 ?_
  simp only [e5,Option.bind_some]
  exact e6
theorem drawSyndromesOf_ok (c:List Int) (hc:K.Code c):∃ (w:List Nat) (t:Int),Ev (fun k=>Fbp.f k c) (K.il w,t)∧K.Bytes w∧w.length≤24:=by
  obtain ⟨w,t,a',sd',e,r1,r2,_,_⟩:=word_ok c hc 0 (by omega) (by omega) 0
  refine ⟨w,t,?_,r1,r2⟩
  simp only [Fbp.f]
  exact Ev.bind e (Ev.now _)
theorem isWordI_ev (w:List Nat) (hl:w.length≤24) (hb:K.Bytes w) (n:Nat) (h1:1≤n) (h4:n≤4):Ev (fun k=>Fad.f k (K.il w) (n:Int)) ((K.synd w n).all (· == 0)):=by
  obtain ⟨v,v1,v2⟩:=Max_zero (K.synd w n) (by rw [K.co_];omega) (by rw [K.co_];omega)
  simp only [Fad.f]
  refine Ev.bind (syndI_ev w hl hb n h4) ?_
  refine Ev.bind v1 ?_
  simp only [v2]
  exact Ev.now _
theorem isWordOf_ev (w:List Nat) (hl:w.length≤24) (hb:K.Bytes w) (n:Nat) (h1:1≤n) (h4:n≤4) (hs:Fah.f (K.il w) (n:Int)=some true):Ev (fun k=>Faz.f k (K.il w) (n:Int)) ((K.synd w n).all (· == 0),true):=by
  simp only [Faz.f,hs,Option.bind_some,if_true]
  exact Ev.bind (isWordI_ev w hl hb n h1 h4) (Ev.now _)

theorem long_yes (w:List Nat) (n:Nat) (h1:1≤n) (h4:n≤4) (hl:2 * n+1≤w.length) (h24:w.length≤24):Fah.f (K.il w) (n:Int)=some true∧Fbe.f (K.il w) (n:Int)=some true:=by
  have q:Fp.f (n:Int) 1 4=some true:=by unfold Fp.f;rw [if_pos (by omega)];simp;omega
  have q':Fal.f (n:Int) 1 4=some true:=q
  have w2:K.Eqn (wrap64 (2 * (n:Int))) ((2 * n:Nat):Int):=⟨by rw [K.w64 (by omega) (by omega)];omega⟩
  have w3:K.Eqn (wrap64 (((2 * n:Nat):Int)+1)) ((2 * n+1:Nat):Int):=⟨by rw [K.w64 (by omega) (by omega)];omega⟩
  have p:Fp.f (w.length:Int) ((2 * n+1:Nat):Int) 24=some true:=by unfold Fp.f;rw [if_pos (by omega)];simp;omega
  have p':Fal.f (w.length:Int) ((2 * n+1:Nat):Int) 24=some true:=p
  constructor
  · simp only [Fah.f,Faf.f,q,Option.bind_some,if_true,w2.o,w3.o,K.bn_,p]
  · simp only [Fbe.f,Fav.f,q',Option.bind_some,if_true,w2.o,w3.o,K.bn_,p']
theorem correct_both (u:List Nat) (hu:K.Bytes u) (hl:u.length≤1048576) (t:Int):(Ev (fun k=>Fc.f k (K.il u) t) (([]:List Int),0,false)∧Ev (fun k=>Fa.f k (K.il u) t) (([]:List Int),0,false))∨∃ n:Nat,t=(n:Int)∧1≤n∧n≤4∧2 * n+1≤u.length∧u.length≤24∧Ev (fun k=>Fc.f k (K.il u) t) (corRes (K.cor u n))∧Ev (fun k=>Fa.f k (K.il u) t) (corRes (K.cor u n)):=by
  obtain ⟨b,q1,q2,q3⟩:=fits_eq (K.il u).length (by rw [K.bn_];exact hl) (K.il u) rfl t
  cases b with
  | false =>
    left
    constructor
    · simp only [Fc.f,q1,Option.bind_some,Bool.false_eq_true,if_false];exact Ev.now _
    · simp only [Fa.f,q2,Option.bind_some,Bool.false_eq_true,if_false];exact Ev.now _
  | true =>
    right
    obtain ⟨t0,t1,t2,t3⟩:=q3 rfl
    obtain ⟨n,rfl⟩:=Int.eq_ofNat_of_zero_le (show 0≤t by omega)
    rw [K.bn_] at t2 t3
    exact ⟨n,rfl,by omega,by omega,by omega,by omega,specCor_ev u n (by omega) (by omega) (by omega) hu q1,implCor_ev u n (by omega) (by omega) (by omega) hu q2⟩
theorem corrected_j4 (c:List Int) (hc:K.Code c):Ev (fun k=>laws_FnCorrected.j4 k c) true:=by
  obtain ⟨u,t,e1,hu,h24⟩:=drawSyndromesOf_ok c hc
  have e2:Ev (fun k=>Fbq.f k c) (K.il u,t):=by
    simp only [Fbq.f]
    exact Ev.bind e1 (Ev.now _)
  apply K.Ev.succ
  simp only [laws_FnCorrected.j4]
  refine Ev.bind e2 ?_
  rcases correct_both u hu (by omega) t with ⟨s1,s2⟩|⟨n,rfl,n1,n4,hlo,_,s1,s2⟩
  · refine Ev.bind s2 ?_
    refine Ev.bind s1 ?_
    simp only [bne_self_eq_false,Bool.false_eq_true,if_false,if_true,sameB_self,Option.bind_some,Bool.not_true]
    apply K.Ev.succ
    simp only [laws_FnCorrected.j5,Bool.false_eq_true,if_false]
    exact Ev.now _
  · refine Ev.bind s2 ?_
    refine Ev.bind s1 ?_
    simp only [bne_self_eq_false,Bool.false_eq_true,if_false,if_true,sameB_self,Option.bind_some,Bool.not_true]
    apply K.Ev.succ
    cases e:K.cor u n with
    | none =>
      simp only [corRes,laws_FnCorrected.j5,Bool.false_eq_true,if_false]
      exact Ev.now _
    | some p =>
      obtain ⟨c1,c2,c3,c4,c5⟩:=K.cor_tells hu h24 (out:=p.1) (n:=p.2) e
      have hlong:=(long_yes p.1 n n1 n4 (by omega) (by omega)).1
      simp only [corRes,laws_FnCorrected.j5,Bool.false_eq_true,if_false,if_true]
      refine Ev.bind (isWordOf_ev p.1 (by omega) c2 n n1 n4 hlong) ?_
      refine Ev.bind (distDiffs_ev u p.1 c1.symm h24) ?_
      simp only [c3,c5,if_true]
      exact K.Ev.const (congrArg some (decide_eq_true (show ((p.2:Nat):Int)≤(n:Int) by omega)))
theorem diffs_more:∀ (x w:List Nat) (i k e:Nat),k<x.length→x.length=w.length→x.getD k 0=w.getD k 0→e≠0→(K.diffs i (x.set k (x.getD k 0 ^^^ e)) w).length=(K.diffs i x w).length+1
  | [],_,_,_,_,h,_,_,_=>by simp at h
  | _ :: _,[],_,_,_,_,h,_,_=>by simp at h
  | a :: u,b :: v,i,0,e,h,hl,hab,he=>by
    have hab':a=b:=by simpa using hab
    show (K.diffs i ((a ^^^ e) :: u) (b :: v)).length=_
    have hne:¬ a ^^^ e=b:=by
      intro q
      have:a ^^^ (a ^^^ e)=a ^^^ a:=by rw [q,← hab']
      rw [← Nat.xor_assoc,Nat.xor_self,Nat.zero_xor] at this
      exact he this
    rw [K.diffs_cons,K.diffs_cons,if_neg hne,if_pos hab',List.length_cons]
  | a :: u,b :: v,i,k+1,e,h,hl,hab,he=>by
    have ih:=diffs_more u v (i+1) k e (by simpa using h) (by simpa using hl) (by simpa using hab) he
    show (K.diffs i (a :: u.set k (u.getD k 0 ^^^ e)) (b :: v)).length=_
    rw [K.diffs_cons,K.diffs_cons]
    by_cases q:a=b
    · rw [if_pos q,if_pos q];exact ih
    · rw [if_neg q,if_neg q,List.length_cons,List.length_cons,ih]
theorem corrected_loop (more:List Nat) (hmore:K.Bytes more) (c:List Int) (hc:K.Code c) (hcm:c=K.il more) (hml:more.length≤1048576) (w:List Nat) (hw:K.Bytes w) (n:Nat) (h1:1≤n) (h4:n≤4) (hlo:2 * n+1≤w.length) (h24:w.length≤24) (h0:(K.synd w n).all (· == 0)=true) :
    ∀ (d i:Nat) (x:List Nat),more.length≤i+d→i≤more.length+1→x.length=w.length→K.Bytes x→(K.diffs 0 x w).length≤n→Ev (fun k=>laws_FnCorrected.l0 k c (n:Int) (K.il w) (K.il x) (((K.diffs 0 x w).length:Nat):Int) (i:Int)) true:=by
  have fin:∀ (i:Nat) (x:List Nat),x.length=w.length→K.Bytes x→(K.diffs 0 x w).length≤n→Ev (fun k=>laws_FnCorrected.j3 k c (n:Int) (K.il w) (K.il x) (((K.diffs 0 x w).length:Nat):Int) (i:Int) false) true:=by
    intro i x hx hxb hd
    have hcor:=K.corrected (t:=n) hx (by omega) (by omega) hxb hw h0 hd
    have e1:=implCor_ev x n h1 h4 (by omega) hxb (long_yes x n h1 h4 (by omega) (by omega)).1
    rw [hcor] at e1
    apply K.Ev.succ
    simp only [laws_FnCorrected.j3,Bool.false_eq_true,if_false]
    refine Ev.bind e1 ?_
    refine Ev.bind (distDiffs_ev x w hx (by omega)) ?_
    simp only [corRes,if_true,sameB_self,Option.bind_some]
    exact corrected_j4 c hc
  intro d
  induction d with
  | zero =>
    intro i x hi _ hx hxb hd
    have wi:K.Eqn (wrap64 ((i:Int)+1)) ((i+1:Nat):Int):=⟨by rw [K.w64 (by omega) (by omega)];omega⟩
    have hcl:c.length=more.length:=by rw [hcm,K.bn_]
    apply K.Ev.succ
    simp only [laws_FnCorrected.l0,wi.o,hcl,if_neg (show ¬ ((i+1:Nat):Int)<(more.length:Int) by omega)]
    exact fin i x hx hxb hd
  | succ d ih =>
    intro i x hi hi2 hx hxb hd
    have wi:K.Eqn (wrap64 ((i:Int)+1)) ((i+1:Nat):Int):=⟨by rw [K.w64 (by omega) (by omega)];omega⟩
    have wi2:K.Eqn (wrap64 ((i:Int)+2)) ((i+2:Nat):Int):=⟨by rw [K.w64 (by omega) (by omega)];omega⟩
    have hcl:c.length=more.length:=by rw [hcm,K.bn_]
    apply K.Ev.succ
    by_cases q:i+1<more.length
    case neg =>
      simp only [laws_FnCorrected.l0,wi.o,hcl,if_neg (show ¬ ((i+1:Nat):Int)<(more.length:Int) by omega)]
      exact fin i x hx hxb hd
    simp only [laws_FnCorrected.l0,wi.o,hcl,if_pos (show ((i+1:Nat):Int)<(more.length:Int) by omega)]
    by_cases qd:(K.diffs 0 x w).length<n
    case neg =>
      rw [decide_eq_false (show ¬ (((K.diffs 0 x w).length:Nat):Int)<(n:Int) by omega)]
      exact fin i x hx hxb hd
    rw [decide_eq_true (show (((K.diffs 0 x w).length:Nat):Int)<(n:Int) by omega)]
    have hi0:i<more.length:=by omega
    have r0:rd c (i:Int)=((more[i]:Nat):Int):=by rw [hcm];exact K.dd_ hi0
    have r1:rd c ((i+1:Nat):Int)=((more[i+1]:Nat):Int):=by rw [hcm];exact K.dd_ q
    have b0:=hmore more[i] (List.getElem_mem hi0)
    have b1:=hmore more[i+1] (List.getElem_mem q)
    have wm:K.Eqn (wrap64 ((more[i]:Nat):Int)) ((more[i]:Nat):Int):=⟨K.w64 (by omega) (by omega)⟩
    have hmod:K.Eqn (Int.tmod ((more[i]:Nat):Int) (x.length:Int)) ((more[i] % x.length:Nat):Int):=⟨by rw [Int.tmod_eq_emod_of_nonneg (by omega)];omega⟩
    have hk:more[i] % x.length<x.length:=Nat.mod_lt _ (by omega)
    generalize more[i] % x.length=p at hmod hk
    have hkw:p<w.length:=by omega
    apply K.Ev.succ
    simp only [laws_FnCorrected.j3,if_true,if_pos (show (0:Int)≤(i:Int) by omega),hcl,if_pos (show (i:Int)<(more.length:Int) by omega),K.bn_,if_neg (show ¬ (x.length:Int)=0 by omega),r0,wm.o,hmod.o,if_pos (show (0:Int)≤(p:Int) by omega),if_pos (show (p:Int)<(x.length:Int) by omega),if_pos (show (p:Int)<(w.length:Int) by omega),K.dd_ hk,K.dd_ hkw,wi.o,wi2.o,r1,if_pos (show (0:Int)≤((i+1:Nat):Int) by omega),if_pos (show ((i+1:Nat):Int)<(more.length:Int) by omega)]
    by_cases e1:x[p]=w[p]
    case neg =>
      simp only [if_neg (show ¬ ((x[p]:Nat):Int)=((w[p]:Nat):Int) by omega)]
      exact ih (i+2) x (by omega) (by omega) hx hxb hd
    simp only [if_pos (show ((x[p]:Nat):Int)=((w[p]:Nat):Int) by omega)]
    by_cases e2:more[i+1]=0
    · simp only [if_pos (show ((more[i+1]:Nat):Int)=0 by omega)]
      exact ih (i+2) x (by omega) (by omega) hx hxb hd
    have gx:x.getD p 0=x[p]:=by simp [hk]
    have gw:w.getD p 0=w[p]:=by simp [hkw]
    have hxp:=hxb x[p] (List.getElem_mem hk)
    have b2:K.Bytes (x.set p (x[p] ^^^ more[i+1])):=by
      intro y hy
      rcases List.mem_or_eq_of_mem_set hy with z|rfl
      · exact hxb y z
      · exact K.xlt hxp b1
    have dm:=diffs_more x w 0 p more[i+1] hk hx (by rw [gx,gw];exact e1) e2
    rw [gx] at dm
    have:=ih (i+2) (x.set p (x[p] ^^^ more[i+1])) (by omega) (by omega) (by simpa using hx) b2 (by omega)
    rw [dm] at this
    simp only [if_neg (show ¬ ((more[i+1]:Nat):Int)=0 by omega),K.xor_u8 hxp b1,Int.toNat_natCast,K.w64s (K.diffs 0 x w).length (show (K.diffs 0 x w).length<9223372036854775807 by omega)]
    rw [show (K.il x).set p ((x[p] ^^^ more[i+1]:Nat):Int)=K.il (x.set p (x[p] ^^^ more[i+1])) by simp [K.il,List.map_set]]
    exact this
theorem corrected_j1 (l1:List Int) (hc1:K.Code l1) (more:List Nat) (hme:l1=K.il more) (hmore:K.Bytes more) (hml:more.length≤1048576) (w:List Nat) (hb:K.Bytes w) (n:Nat) (n1:1≤n) (n4:n≤4) (lo:2 * n+1≤w.length) (hi:w.length≤24) (h0:(K.synd w n).all (· == 0)=true):Ev (fun k=>laws_FnCorrected.j1 k l1 (n:Int) (K.il w) false) true:=by
  have hz:([]:List Int).length+(K.il w).length<140737488355328:=by rw [List.length_nil,K.bn_];omega
  apply K.Ev.succ
  simp only [laws_FnCorrected.j1,Bool.false_eq_true,if_false,Option.bind_some,if_pos hz,List.nil_append]
  have:=corrected_loop more hmore l1 hc1 hme hml w hb n n1 n4 lo hi h0 more.length 0 w (by omega) (by omega) rfl hb (by rw [K.diffs_self];exact Nat.zero_le _)
  rw [K.diffs_self] at this
  exact this
theorem corrected_data (u data:List Nat) (hb:K.Bytes u) (n:Nat) (n1:1≤n) (n4:n≤4) (lo:2 * n+1≤u.length) (hi:u.length≤24) (h0:(K.synd u n).all (· == 0)=true) (hdrop:u.drop (2 * n)=data):Ev (fun k=>Fbm.f k (K.il u) (n:Int)) (K.il data,true):=by
  have w2:K.Eqn (wrap64 (2 * (n:Int))) ((2 * n:Nat):Int):=⟨by rw [K.w64 (by omega) (by omega)];omega⟩
  have hlong:=(long_yes u n n1 n4 lo hi).1
  have hdl:data.length≤24:=by rw [← hdrop,List.length_drop];omega
  have hcl:=clone_eq (K.il data) (by rw [K.bn_];omega)
  have c1:(0:Int)≤((2 * n:Nat):Int):=by omega
  have c2:((2 * n:Nat):Int)≤((K.il u).length:Int):=by rw [K.bn_];omega
  have hd2:(K.il u).drop (((2 * n:Nat):Int)).toNat=K.il data:=by rw [Int.toNat_natCast,K.il_drop,hdrop]
  have hw:=isWordI_ev u hi hb n n1 n4
  rw [h0] at hw
  obtain ⟨k0,hk⟩:=hw
  refine ⟨k0,fun k hle=>?_⟩
  have hk':=hk k hle
  dsimp only at hk' ⊢
  unfold Fbm.f
  rw [hlong,Option.bind_some,if_pos rfl,hk',Option.bind_some,if_pos rfl,w2.o,if_pos c1,if_pos c2,hd2,hcl]
  rfl
theorem corrected_gen (data:List Nat) (hd:K.Bytes data) (n:Nat) (hf:EncFits data.length (n:Int)):Ev (fun k=>Fbn.f k (n:Int)) (K.il (genW n),true):=by
  have f1:=hf.1
  have f2:=hf.2.1
  have f3:=hf.2.2.1
  have f4:=hf.2.2.2
  have le1:=K.enc_length (g:=genW n) (t:=n) data
  have hb1:=K.enc_bytes (g:=genW n) (t:=n) hd
  have hw1':=enc_whole data hd n (by omega) (by omega)
  have hdrop:=K.enc_drop (g:=genW n) (t:=n) data
  obtain ⟨⟨g0,_⟩,_,g3⟩:=gen_full n (by omega) (by omega)
  have w2:K.Eqn (wrap64 (2 * (n:Int))) ((2 * n:Nat):Int):=⟨by rw [K.w64 (by omega) (by omega)];omega⟩
  have w3:K.Eqn (wrap64 (((2 * n:Nat):Int)+1)) ((2 * n+1:Nat):Int):=⟨by rw [K.w64 (by omega) (by omega)];omega⟩
  have hlong:=(long_yes (K.enc (genW n) n data) n (by omega) (by omega) (by omega) (by omega)).1
  have hcount:Faf.f (n:Int)=some true:=by
    have q:Fp.f (n:Int) 1 4=some true:=by unfold Fp.f;rw [if_pos (by omega)];simp;omega
    simp only [Faf.f,q,Option.bind_some]
  simp only [Fbn.f,hcount,Option.bind_some,if_true]
  exact Ev.bind g3 (Ev.now _)
theorem corrected_j0 (l1:List Int) (hc1:K.Code l1) (more:List Nat) (hme:l1=K.il more) (hmore:K.Bytes more) (hml:more.length≤1048576) (data:List Nat) (hd:K.Bytes data) (n:Nat) (hf:EncFits data.length (n:Int)):Ev (fun k=>laws_FnCorrected.j0 k l1 (K.il data) (n:Int) (K.il (K.enc (genW n) n data)) true false) true:=by
  have f1:=hf.1
  have f2:=hf.2.1
  have f3:=hf.2.2.1
  have f4:=hf.2.2.2
  have le1:=K.enc_length (g:=genW n) (t:=n) data
  have hb1:=K.enc_bytes (g:=genW n) (t:=n) hd
  have hw1':=enc_whole data hd n (by omega) (by omega)
  have hdrop:=K.enc_drop (g:=genW n) (t:=n) data
  obtain ⟨⟨g0,_⟩,_,g3⟩:=gen_full n (by omega) (by omega)
  have w2:K.Eqn (wrap64 (2 * (n:Int))) ((2 * n:Nat):Int):=⟨by rw [K.w64 (by omega) (by omega)];omega⟩
  have w3:K.Eqn (wrap64 (((2 * n:Nat):Int)+1)) ((2 * n+1:Nat):Int):=⟨by rw [K.w64 (by omega) (by omega)];omega⟩
  have hlong:=(long_yes (K.enc (genW n) n data) n (by omega) (by omega) (by omega) (by omega)).1
  have hcount:Faf.f (n:Int)=some true:=by
    have q:Fp.f (n:Int) 1 4=some true:=by unfold Fp.f;rw [if_pos (by omega)];simp;omega
    simp only [Faf.f,q,Option.bind_some]
  apply K.Ev.succ
  simp only [laws_FnCorrected.j0,Bool.false_eq_true,if_false,if_true]
  refine Ev.bind (isWordOf_ev _ (by omega) hb1 n (by omega) (by omega) hlong) ?_
  refine Ev.bind (corrected_data _ data hb1 n (by omega) (by omega) (by omega) (by omega) hw1' hdrop) ?_
  refine Ev.bind (corrected_gen data hd n hf) ?_
  simp only [hw1',if_true,sameB_self,Option.bind_some,w2.o,w3.o,K.bn_,g0,bne_self_eq_false]
  exact corrected_j1 l1 hc1 more hme hmore hml (K.enc (genW n) n data) hb1 n (by omega) (by omega) (by omega) (by omega) hw1'
theorem FnCorrected:laws_FnCorrected.Pure:=by
  intro l0 l1 _ hl0 hw0 _ hl1 hw1
  refine Ev.rounds (?_:Ev (fun k=>laws_FnCorrected.f k l0 l1) true)
  unfold laws_FnCorrected.f
  have ws:wrap64 ((l0.length:Int)+(l1.length:Int))=(l0.length:Int)+(l1.length:Int):=K.w64 (by omega) (by omega)
  rw [ws]
  by_cases h:(l0.length:Int)+(l1.length:Int) > 1048576
  · simp only [if_pos h];exact Ev.now _
  simp only [if_neg h]
  have hx0:∀ x∈l0,0≤x∧x≤255:=fun x h=>K.b_u8 (hw0 x h)
  have hx1:∀ x∈l1,0≤x∧x≤255:=fun x h=>K.b_u8 (hw1 x h)
  have hc0:K.Code l0:=⟨by omega,hx0⟩
  have hc1:K.Code l1:=⟨by omega,hx1⟩
  obtain ⟨more,hme,hmore⟩:=K.il_of hx1
  have hml : more.length ≤ 1048576 := by have : l1.length = more.length := by rw [hme, K.bn_]
                                         omega
  obtain ⟨data,t,e1,hd,hdl⟩:=drawEncodeWord_ok l0 hc0
  refine Ev.bind e1 ?_
  by_cases hf:EncFits data.length t
  · obtain ⟨n,rfl⟩:=Int.eq_ofNat_of_zero_le (show 0≤t by have:=hf.1;omega)
    obtain ⟨e2,e3⟩:=encode_yes data hd n hf
    refine Ev.bind e3 ?_
    refine Ev.bind e2 ?_
    simp only [bne_self_eq_false,Bool.false_eq_true,if_false,sameB_self,Option.bind_some,Bool.not_true]
    exact corrected_j0 l1 hc1 more hme hmore hml data hd n hf
  · obtain ⟨e2,e3⟩:=encode_no data (by omega) t hf
    refine Ev.bind e3 ?_
    refine Ev.bind e2 ?_
    simp only [bne_self_eq_false,Bool.false_eq_true,if_false,sameB_self,Option.bind_some,Bool.not_true]
    apply K.Ev.succ
    simp only [laws_FnCorrected.j0,Bool.false_eq_true,if_false]
    exact corrected_j4 l1 hc1

end Go.Proofs.Ytbloniemhkfnlaa.Pure
