/- A law's functions as plain Lean functions, each with the walk that shows that the code computes it: written by this session's program wip/tools/ppmake.py. -/
import Derived.Test.YtbloniemhkfnlaaKZ
import Derived.Test.YtbloniemhkfnlaaPFnCorrectedx0
import Derived.Test.YtbloniemhkfnlaaPFnCorrectedx2
import Derived.Test.YtbloniemhkfnlaaPFnCorrectedx5
namespace Go.Proofs.Ytbloniemhkfnlaa.PFnCorrected
open Go.RowKit Go.Proofs.YtbloniemhkfnlaaW.PrintWords Go.Proofs.YtbloniemhkfnlaaW.PrintLast Go.Proofs.YtbloniemhkfnlaaW.PrintMore
attribute [local go_sem] cw_ cy_ cK_ cL_ ci_ ch_ cx_ cv_   -- for this text's walks alone
set_option linter.unusedVariables false
set_option linter.unusedSimpArgs false

/-! ### spec_l8Syndromes: function 41 -/
def Fy.l0:Nat→List Int→Int→List Int→Int→Option (List Int)
 | 0,_,_,_,_=>none
 | k+1,x0,x1,x5,x6=>if x6≤(wrap64 (2 * x1)) then ((Fk.f k 3 x6).bind fun t235=>((Fau.f k x0 t235).bind fun t236=>(if x5.length<140737488355328 then (Fy.l0 k x0 x1 (x5++[t236]) (wrap64 (x6+1))) else (none)))) else (some x5)
def Fy.f (k:Nat) (l0:List Int) (a1:Int):Option (List Int):=Fy.l0 k l0 a1 ([]:List Int) 1
set_option maxHeartbeats 8000000 in
set_option maxRecDepth 100000 in
theorem Fy.calls (k:Nat) (A0:Option Addr) (c0:Nat) (l0:List Int) (a1:Int) (r:List Int) (w:World) (hr0:Kd.C (Kd.int .u8) w A0 l0.length l0) (hc0:l0.length≤c0) (h:Fy.f k l0 a1=some r) :
  Calls Try.prog 41 #[.slice A0 l0.length c0,.int .i64 a1] w fun e w'=>∃ v0_:Value,e = .returned (v0_)∧Kd.R (Kd.int .u8) 5 w' w.heap.size (fun _=>True) v0_ r∧Below w.heap.size w w':=by
 have HR0:=am hr0;have HC0:=am hc0;clear hr0 hc0;have HB:=am (Below.refl w.heap.size w);have H:(Fy.l0 k l0 a1 ([]:List Int) 1)=some r:=h;clear h;have H':=am H;clear H
 go_enter Try.func41,Try.ntmps41
 go_wp2
 go_loopg [5,6] k (fun kq v5 v6 w'=>∃ (x5_1:List Int) (x6_1:Int),v6 = .int .i64 x6_1∧ba_ (Fy.l0 kq l0 a1 x5_1 x6_1=some r)∧ba_ (kq≤k)∧ba_ (Kd.R (Kd.int .u8) 5 w' w.heap.size (fun _=>True) v5 x5_1)∧ba_ (Below w.heap.size w w'))
 case atStart=>exact ⟨(([]:List Int)),(1),rfl,H',⟨Nat.le_refl _⟩,⟨by first|apply Kd.di_|apply Kd.N_nil|apply Kd.V_nil|apply Kd.Q_nil|apply Kd.S_nil⟩,⟨zB HB.o⟩⟩
 case round =>
  clear H';obtain ⟨x5_1,x6_1,rfl,HA,HK1,HO_5,HB⟩:=hrel
  cases gk with
  | zero=>exact absurd HA.o (by simp [Fy.l0])
  | succ k1 =>
   have H:=HA.o;clear HA
   simp only [Fy.l0] at H
   by_cases c3:x6_1≤(wrap64 (2 * a1))
   ·rw [if_pos c3] at H;have c3b0:=decide_eq_true c3;clear c3;obtain ⟨t235,A4,H⟩:=bi_ H;obtain ⟨t236,A5,H⟩:=bi_ H
    obtain ⟨c6,H⟩:=it_ H;have LMc6:=am c6;clear c6;obtain ⟨y237,hy237⟩:∃ y_:List Int,y_=(x5_1++[t236]):=⟨_,rfl⟩
    replace H:(Fy.l0 k1 l0 a1 y237 (wrap64 (x6_1+1)))=some r:=by first|(rw [hy237];exact H)|(have H2_:=(Option.bind_some _ _).symm.trans H;first|exact H2_|(rw [hy237];exact H2_))|exact H
    have Ny237:=am hy237;clear hy237;have H':=am H;clear H
    go_wp2_with (first|((with_reducible refine bf_ (f:=54) rfl ?_);refine goL_ (some 16) Try.func54 #[.int .u8 3,.int .i64 x6_1] ?_;(with_reducible refine (Fk.calls k1 3 x6_1 t235 _ A4.o).mono ?_);rintro e w' ⟨rfl,⟨nd,rfl⟩⟩;refine ⟨_,rfl,?_⟩)|((with_reducible refine bf_ (f:=52) rfl ?_);refine goL_ (some 17) Try.func52 #[.slice A0 l0.length c0,.int .u8 t235] ?_;(with_reducible refine (Fau.calls k1 _ _ l0 t235 t236 _ ?side1 ?side2 A5.o).mono ?_);(case side1=>exact zC (Kd.bH_ HR0.o HB.o));(case side2=>exact HC0.o);rintro e w' ⟨rfl,⟨nd,rfl⟩⟩;refine ⟨_,rfl,?_⟩)|((with_reducible refine bE_ (b:=.append) (xs:=#[.tmp 13,.tmp 18]) rfl ?_);at_builtin;refine Kd.cY_ (Kd.int .u8) (w0:=w) w.heap.size rfl (.tmp 13) (.tmp 18) 22 5 (.int .u8 0) 1 rfl Try.underlying22 info5 rfl (by decide) (by omega) u5 x5_1 t236 [.int .u8 t236] (fun _=>True) (fun _=>False) rfl rfl ?aP (fun _ hk=>hk.elim) ?aF ?aO ?aB ?aS ?aL ?_;(case aP=>exact rfl);(case aB=>exact (zB HB.o));(case aF=>exact (fun _ _=>trivial));(case aO=>exact (zR HO_5.o));(case aS=>exact (zs_ HB.o));(case aL=>have:=LMc6.o;omega);intro v238 w7 ho hb hg hat;rw [← Ny237.o] at ho;replace HB:=am (hb);have HO239:=am (ho);(try clear HO_5);clear ho hb hg hat))
    go_roundg k1
    case measure=>have:=HK1.o;omega
    case rel=>exact ⟨(y237),(wrap64 (x6_1+1)),rfl,H',⟨by have:=HK1.o;omega⟩,⟨zR HO239.o⟩,⟨zB HB.o⟩⟩
   ·rw [if_neg c3] at H;have c3b0:=decide_eq_false c3;clear c3;obtain rfl:=Option.some.inj H
    go_wp2
    go_ret
    exact ⟨_,rfl,zR HO_5.o,zB HB.o⟩

/-! ### spec_l8Zero: function 44 -/
def Fak.l0:Nat→List Int→Int→Int→Option (Bool)
 | 0,_,_,_=>none
 | k+1,x5,x6,x7=>if x7<x6 then (if 0≤x7 then (if x7<(x5.length:Int) then (if (rd x5 x7)=0 then (Fak.l0 k x5 x6 (wrap64 (x7+1))) else (some false)) else (none)) else (none)) else (some true)
def Fak.f (k:Nat) (l0:List Int):Option (Bool):=Fak.l0 k l0 (l0.length:Int) 0
set_option maxHeartbeats 8000000 in
set_option maxRecDepth 100000 in
theorem Fak.calls (k:Nat) (A0:Option Addr) (c0:Nat) (l0:List Int) (r:Bool) (w:World) (hr0:Kd.C (Kd.int .u8) w A0 l0.length l0) (hc0:l0.length≤c0) (h:Fak.f k l0=some r) :
  Calls Try.prog 44 #[.slice A0 l0.length c0] w fun e w'=>e = .returned (.bool r)∧bp_ w w':=by
 have HR0:=am hr0;have HC0:=am hc0;clear hr0 hc0;have H:(Fak.l0 k l0 (l0.length:Int) 0)=some r:=h;clear h;have H':=am H;clear H
 go_enter Try.func44,Try.ntmps44
 go_wp2
 go_loopg [7] k (fun kq v7 w'=>∃ (x7_1:Int),v7 = .int .i64 x7_1∧ba_ (Fak.l0 kq l0 (l0.length:Int) x7_1=some r)∧ba_ (kq≤k)∧bp_ w w')
 case atStart=>exact ⟨(0),rfl,H',⟨Nat.le_refl _⟩,by repeat (first|exact bp_.refl _|apply bp_.step)⟩
 case round =>
  clear H';obtain ⟨x7_1,rfl,HA,HK1,⟨m1,rfl⟩⟩:=hrel
  cases gk with
  | zero=>exact absurd HA.o (by simp [Fak.l0])
  | succ k1 =>
   have H:=HA.o;clear HA
   simp only [Fak.l0] at H
   by_cases c2:x7_1<(l0.length:Int)
   ·rw [if_pos c2] at H;have c2b0:=decide_eq_true c2;clear c2
    obtain ⟨c3,H⟩:=it_ H;have c3b0:=decide_eq_true c3;clear c3
    obtain ⟨c4,H⟩:=it_ H;have c4b0:=decide_eq_true c4;clear c4
    by_cases c5:(rd l0 x7_1)=0
    ·rw [if_pos c5] at H;have c5b0:((rd l0 x7_1) == 0)=true:=beq_iff_eq.mpr c5;have c5b1:((rd l0 x7_1) != 0)=false:=bne_eq_false_iff_eq.mpr c5;clear c5;have H':=am H;clear H;have p240:0≤(x7_1:Int):=od_;have q240:x7_1<(l0.length:Int):=od_;obtain ⟨ad240,e240,hx240_0⟩:=Kd.bK_ HR0.o x7_1 p240 q240;cases e240;replace p240:=eq_true p240;replace q240:=eq_true q240
     go_wp2
     go_roundg k1
     case measure=>have:=HK1.o;omega
     case rel=>exact ⟨(wrap64 (x7_1+1)),rfl,H',⟨by have:=HK1.o;omega⟩,by repeat (first|exact bp_.refl _|apply bp_.step)⟩
    ·rw [if_neg c5] at H;have c5b0:((rd l0 x7_1) == 0)=false:=beq_eq_false_iff_ne.mpr c5;have c5b1:((rd l0 x7_1) != 0)=true:=bne_iff_ne.mpr c5;obtain rfl:=Option.some.inj H;have p240:0≤(x7_1:Int):=od_;have q240:x7_1<(l0.length:Int):=od_;obtain ⟨ad240,e240,hx240_0⟩:=Kd.bK_ HR0.o x7_1 p240 q240;cases e240;replace p240:=eq_true p240;replace q240:=eq_true q240
     go_wp2
     go_ret
     exact ⟨by first|rfl|(simp;done)|(simp [*];done),by repeat (first|exact bp_.refl _|apply bp_.step)⟩
   ·rw [if_neg c2] at H;have c2b0:=decide_eq_false c2;clear c2;obtain rfl:=Option.some.inj H
    go_wp2
    go_ret
    exact ⟨by first|rfl|(simp;done)|(simp [*];done),by repeat (first|exact bp_.refl _|apply bp_.step)⟩

/-! ### spec_l1Inverse: function 53 -/
def Fbj.f (k:Nat) (a0:Int):Option (Int):=if a0=0 then (some 0) else ((Fk.f k a0 254).bind fun t241=>(some t241))
set_option maxHeartbeats 8000000 in
set_option maxRecDepth 100000 in
theorem Fbj.calls (k:Nat) (a0:Int) (r:Int) (w:World) (h:Fbj.f k a0=some r) :
  Calls Try.prog 53 #[.int .u8 a0] w fun e w'=>e = .returned (.int .u8 r)∧bp_ w w':=by
 have H:(if a0=0 then (some 0) else ((Fk.f k a0 254).bind fun t241=>(some t241)))=some r:=h;clear h
 by_cases c2:a0=0
 ·rw [if_pos c2] at H;have c2b0:(a0 == 0)=true:=beq_iff_eq.mpr c2;have c2b1:(a0 != 0)=false:=bne_eq_false_iff_eq.mpr c2;clear c2;obtain rfl:=Option.some.inj H
  go_enter Try.func53,Try.ntmps53
  go_wp2
  go_ret
  exact ⟨by first|rfl|(simp;done)|(simp [*];done),by repeat (first|exact bp_.refl _|apply bp_.step)⟩
 ·rw [if_neg c2] at H;have c2b0:(a0 == 0)=false:=beq_eq_false_iff_ne.mpr c2;have c2b1:(a0 != 0)=true:=bne_iff_ne.mpr c2;obtain ⟨t241,A3,H⟩:=bi_ H;obtain rfl:=Option.some.inj H
  go_enter Try.func53,Try.ntmps53
  go_wp2_with (first|((with_reducible refine bf_ (f:=54) rfl ?_);refine goL_ (some 6) Try.func54 #[.int .u8 a0,.int .i64 254] ?_;(with_reducible refine (Fk.calls k a0 254 t241 _ A3.o).mono ?_);rintro e w' ⟨rfl,⟨nd,rfl⟩⟩;refine ⟨_,rfl,?_⟩))
  go_ret
  exact ⟨by first|rfl|(simp;done)|(simp [*];done),by repeat (first|exact bp_.refl _|apply bp_.step)⟩

/-! ### spec_l2Own: function 84 -/
def Fr.l0:Nat→List (List Int)→Int→Int→List (List Int)→Option ((List (List Int)))
 | 0,_,_,_,_=>none
 | k+1,x8,x9,x10,xaa=>if x10<x9 then (if 0≤x10 then (if x10<(x8.length:Int) then ((some (([]:List Int):List Int)).bind fun y246=>(if y246.length+(rd_L1 x8 x10).length<140737488355328 then (if xaa.length<5864062014805 then (Fr.l0 k x8 x9 (wrap64 (x10+1)) (xaa++[(y246++(rd_L1 x8 x10))])) else (none)) else (none))) else (none)) else (none)) else (some xaa)
def Fr.f (k:Nat) (l0_0:List (List Int)):Option ((List (List Int))):=Fr.l0 k l0_0 (l0_0.length:Int) 0 ([]:List (List Int))
def Fr.T5:Bool × List (List Nat × List Nat):=(true,[([],[]),([0],[0]),([],[]),([],[]),([2,3],[2,3]),([4],[4]),([1,5,4],[1,5]),([0,1,2,3,4,5,6],[]),([7,6,6,0,1,2,3,4,5,6],[6,7])])
def Fr.B5:List Nat:=[0,1,0,0,12,28,63,127,255]
theorem Fr.tab5:rtab .any (opsOf Try.f84 5)=Fr.T5:=by kernel_rfl
theorem Fr.bits5:waitsOk Fr.T5.2 Fr.B5=true:=by kernel_rfl
set_option maxHeartbeats 8000000 in
set_option maxRecDepth 100000 in
theorem Fr.calls (k:Nat) (A0_0:Option Addr) (c0_0:Nat) (l0_0:List (List Int)) (r:List (List Int)) (w:World) (hr0_0:Kd.C (Kd.slice 5 (Kd.int .u8)) w A0_0 l0_0.length l0_0) (hc0_0:l0_0.length≤c0_0) (h:Fr.f k l0_0=some r) :
  Calls Try.prog 84 #[.agg #[.slice A0_0 l0_0.length c0_0]] w fun e w'=>∃ v0_:Value,e = .returned (.agg #[v0_])∧Kd.S (Kd.slice 5 (Kd.int .u8)) 22 w' w.heap.size (fun _=>True) v0_ r∧Below w.heap.size w w':=by
 have hu52:=Try.underlying52;have HR0_0:=am hr0_0;have HC0_0:=am hc0_0;clear hr0_0 hc0_0;have HB:=am (Below.refl w.heap.size w);have H:(Fr.l0 k l0_0 (l0_0.length:Int) 0 ([]:List (List Int)))=some r:=h;clear h;have H':=am H;clear H
 go_enter Try.func84,Try.ntmps84
 go_wp2_with (first|((with_reducible refine bB_ (N:=1) rfl ?_);refine bU_ ?hg (N:=1) ?hd (cs:=#[.slice A0_0 l0_0.length c0_0]) (t:=52) ?hr ?_;(case hd=>rfl);(case hg=>rfl);(case hr=>first|(go_simp;done)|(go_simp;rfl));intro gb242 hg w2 hbox hb;have BK242:=am (hbox);have GW242:=am ((gw_ hg HB.o:w.heap.size≤gb242));have GE242:=am ((gw_ hg HB.o:w.heap.size≤gb242));replace HB:=am (bh_ (zB HB.o) hb);clear hb hbox hg)|((with_reducible refine bB_ (N:=2) rfl ?_);refine bU_ ?hg (N:=2) ?hd (cs:=#[.slice none 0 0]) (t:=52) ?hr ?_;(case hd=>rfl);(case hg=>rfl);(case hr=>first|(go_simp;done)|(go_simp;rfl));intro gb243 hg w3 hbox hb;have BK243:=am (hbox);have GW243:=am ((gw_ hg HB.o:w.heap.size≤gb243));have GE243:=am ((gw_ hg HB.o:w.heap.size≤gb243));replace HB:=am (bh_ (zB HB.o) hb);have NB242_243:=am ((by rw [hg];exact Nat.ne_of_lt (bw_ (zK BK242.o)):gb242≠gb243));have NB243_242:=am ((by rw [hg];exact Nat.ne_of_gt (bw_ (zK BK242.o)):gb243≠gb242));replace BK242:=am (bm_ (zK BK242.o) hb);clear hb hbox hg)|((with_reducible refine bB_ (N:=3) rfl ?_);refine bU_ ?hg (N:=3) ?hd (cs:=#[.slice none 0 0]) (t:=52) ?hr ?_;(case hd=>rfl);(case hg=>rfl);(case hr=>first|(go_simp;done)|(go_simp;rfl));intro gb244 hg w4 hbox hb;have BK244:=am (hbox);have GW244:=am ((gw_ hg HB.o:w.heap.size≤gb244));have GE244:=am ((gw_ hg HB.o:w.heap.size≤gb244));replace HB:=am (bh_ (zB HB.o) hb);have NB242_244:=am ((by rw [hg];exact Nat.ne_of_lt (bw_ (zK BK242.o)):gb242≠gb244));have NB244_242:=am ((by rw [hg];exact Nat.ne_of_gt (bw_ (zK BK242.o)):gb244≠gb242));replace BK242:=am (bm_ (zK BK242.o) hb);have NB243_244:=am ((by rw [hg];exact Nat.ne_of_lt (bw_ (zK BK243.o)):gb243≠gb244));have NB244_243:=am ((by rw [hg];exact Nat.ne_of_gt (bw_ (zK BK243.o)):gb244≠gb243));replace BK243:=am (bm_ (zK BK243.o) hb);clear hb hbox hg;have hnb5:=NB244_242.o;have hnc5:=NB242_244.o;have hnb6:=NB244_243.o;have hnc6:=NB243_244.o;have hcz7_0:w4.cell? ⟨gb244,0,none⟩=some (.slice none 0 0):=(bo_ BK244.o 0).trans rfl;have hfz7_0:=bs_ BK244.o 0;have hnb8:=NB242_243.o;have hnc8:=NB243_242.o;have hcz9_0:w4.cell? ⟨gb242,0,none⟩=some (.slice A0_0 l0_0.length c0_0):=(bo_ BK242.o 0).trans rfl;have hfz9_0:=bs_ BK242.o 0))
 go_loopg [10] k (fun kq v10 w'=>∃ (x10_1:Int) (xaa_1:List (List Int)) (uaa:Value),v10 = .int .i64 x10_1∧ba_ (Fr.l0 kq l0_0 (l0_0.length:Int) x10_1 xaa_1=some r)∧ba_ (kq≤k)∧ba_ (Kd.S (Kd.slice 5 (Kd.int .u8)) 22 w' w.heap.size (fun _=>True) uaa xaa_1)∧ba_ (w'.heap[gb242]? = some (.cells #[(.slice A0_0 l0_0.length c0_0)] 52 (0,0)))∧ba_ (w'.heap[gb243]? = some (.cells #[(.slice none 0 0)] 52 (0,0)))∧ba_ (w'.heap[gb244]? = some (.cells #[uaa] 52 (0,0)))∧ba_ (Below w.heap.size w w'))
 case atStart=>exact ⟨(0),(([]:List (List Int))),(.slice none 0 0),rf_,H',⟨Nat.le_refl _⟩,⟨by first|exact Kd.S_nil _ _ _ _ _|exact Kd.N_nil _ _ _ _ _|exact Kd.V_nil _ _ _ _ _|exact Kd.Q_nil _ _ _ _ _|exact Kd.di_ _ _ _ _ _⟩,⟨by (with_reducible repeat (first|apply bd_|apply bb_|apply bc_));refine bF_ ?_ NB242_244.o _;(with_reducible repeat (first|apply bd_|apply bb_|apply bc_));exact BK242.o⟩,⟨by (with_reducible repeat (first|apply bd_|apply bb_|apply bc_));refine bF_ ?_ NB243_244.o _;(with_reducible repeat (first|apply bd_|apply bb_|apply bc_));exact BK243.o⟩,⟨by (with_reducible repeat (first|apply bd_|apply bb_|apply bc_));refine cQ_ (cs:=#[.slice none 0 0]) ?_ 0 _ rfl;(with_reducible repeat (first|apply bd_|apply bb_|apply bc_));exact BK244.o⟩,⟨by repeat (first|(with_reducible first|exact HB.o|apply bk_|apply be_|apply bg_|refine bl_ ?_ GE242.o|refine bl_ ?_ GE243.o|refine bl_ ?_ GE244.o)|exact HB.o)⟩⟩
 case round =>
  clear H';(try clear hfz7_0);(try clear hfz9_0);obtain ⟨x10_1,xaa_1,uaa,rfl,HA,HK1,HO_aa,BK242,BK243,BK244,HB⟩:=hrel
  cases gk with
  | zero=>exact absurd HA.o (by simp [Fr.l0])
  | succ k1 =>
   have H:=HA.o;clear HA
   simp only [Fr.l0] at H
   by_cases c10:x10_1<(l0_0.length:Int)
   ·rw [if_pos c10] at H;have c10b0:=decide_eq_true c10;clear c10
    obtain ⟨c11,H⟩:=it_ H;have c11b0:=decide_eq_true c11;clear c11
    obtain ⟨c12,H⟩:=it_ H;have c12b0:=decide_eq_true c12;clear c12;obtain ⟨y246,hy246⟩:∃ y_:List Int,y_=(([]:List Int)):=⟨_,rfl⟩
    replace H:(if y246.length+(rd_L1 l0_0 x10_1).length<140737488355328 then (if xaa_1.length<5864062014805 then (Fr.l0 k1 l0_0 (l0_0.length:Int) (wrap64 (x10_1+1)) (xaa_1++[(y246++(rd_L1 l0_0 x10_1))])) else (none)) else (none))=some r:=by first|(rw [hy246];exact H)|(have H2_:=(Option.bind_some _ _).symm.trans H;first|exact H2_|(rw [hy246];exact H2_))|exact H
    have Ny246:=am hy246;clear hy246
    obtain ⟨c13,H⟩:=it_ H;have LMc13:=am c13;clear c13;obtain ⟨y249,hy249⟩:∃ y_:List Int,y_=(y246++(rd_L1 l0_0 x10_1)):=⟨_,rfl⟩
    replace H:(if xaa_1.length<5864062014805 then (Fr.l0 k1 l0_0 (l0_0.length:Int) (wrap64 (x10_1+1)) (xaa_1++[y249])) else (none))=some r:=by first|(rw [hy249];exact H)|(have H2_:=(Option.bind_some _ _).symm.trans H;first|exact H2_|(rw [hy249];exact H2_))|exact H
    have Ny249:=am hy249;clear hy249
    obtain ⟨c14,H⟩:=it_ H;have LMc14:=am c14;clear c14;obtain ⟨y252,hy252⟩:∃ y_:List (List Int),y_=(xaa_1++[y249]):=⟨_,rfl⟩
    replace H:(Fr.l0 k1 l0_0 (l0_0.length:Int) (wrap64 (x10_1+1)) y252)=some r:=by first|(rw [hy252];exact H)|(have H2_:=(Option.bind_some _ _).symm.trans H;first|exact H2_|(rw [hy252];exact H2_))|exact H
    have Ny252:=am hy252;clear hy252;have H':=am H;clear H;have p245:0≤(x10_1:Int):=od_;have q245:x10_1<(l0_0.length:Int):=od_;obtain ⟨ad245,A245_0,c245_0,e245,hx245_0,hl245_0,hi245_0⟩:=at_L1 HR0_0.o x10_1 p245 q245;cases e245;replace hx245_0:=(HB.o.cell (World.block_lt_of_cell? w _ hx245_0)).trans hx245_0;have HR245_0:=am hi245_0;have HC245_0:=am hl245_0;clear hi245_0 hl245_0;replace p245:=eq_true p245;replace q245:=eq_true q245
    try go_wp2
    replace HO_aa:=am (Kd.S_drew HO_aa.o);replace BK242:=am (bb_ BK242.o);replace BK243:=am (bb_ BK243.o);replace BK244:=am (bb_ BK244.o);replace HB:=am (bg_ HB.o)
    refine cS_ (n:=9) (S:=fun w'=>w'.cell? ⟨gb244,0,none⟩=some (uaa)) (ds:=[8]) #[false,false,false,false,false,false,false,false,false] (by kernel_rfl) rfl rfl ((bo_ BK244.o 0).trans rfl) (fun hHeld=>?_);refine cc_ Fr.tab5 Fr.bits5 (fun HT_ HW_=>?_)
    generalize wr.drew=w15 at HO_aa BK242 BK243 BK244 HB hHeld ⊢
    refine pu_ (i:=0) (some 14) #[true,false,false,false,false,false,false,false,false] HT_ ?_
    refine pu_ (i:=3) (some 17) #[true,false,false,true,false,false,false,false,false] HT_ ?_
    refine ta_ (i:=1) (some 15) #[true,true,false,true,false,false,false,false,false] HT_ HW_ hHeld ?_
    refine one_ (i:=2) (N:=some 16) #[true,true,true,true,false,false,false,false,false] rfl rfl (bZ_ HT_.o (by kernel_rfl)) (by decide) (fun K hK=>?_)
    refine Kd.R_lit_step (Kd.int .u8) _ 5 ?hg (N:=16) ?hd (xs:=([]:List Int)) (inner:=[]) (ok:=fun _=>True) (okp:=fun _=>True) ?hr ?hp (fun _ hk=>hk) trivial (Below.refl _ _) (Nat.le_refl _) (by simp) ?_;(case hd=>rfl);(case hg=>rfl);(case hr=>first|(go_simp;done)|(go_simp;rfl));(case hp=>exact (Reps.none _ _))
    intro v247 w16 ho17 hb hg_ hnew_;clear hg_ hnew_
    (first|rw [← Ny246.o] at ho17|(simp only [Int.reduceToNat] at ho17;rw [← Ny246.o] at ho17))
    replace HO_aa:=am (Kd.cZ_ (zS HO_aa.o) (Kd.bt_ ho17) hb)
    have HO248:=am (Kd.bx_ ho17 (zs_ HB.o))
    replace BK242:=am (bm_ (zK BK242.o) hb)
    replace BK243:=am (bm_ (zK BK243.o) hb)
    replace BK244:=am (bm_ (zK BK244.o) hb)
    replace HB:=am (bh_ (zB HB.o) hb);clear hb ho17
    refine hK.out _ _ ((bo_ BK244.o 0).trans rfl) (fun hHeld=>?_)
    clear hK K
    refine cp_ (a':=?_) ?_ ?_
    rotate_left
    ·show Act.put _ (some 16) _=_
     simp only [Act.put,List.setIfInBounds_toArray,List.set_cons_zero,List.set_cons_succ,bI_,bL_];rfl
    refine one_ (i:=4) (N:=some 18) #[true,true,true,true,true,false,false,false,false] rfl rfl (bZ_ HT_.o (by kernel_rfl)) (by decide) (fun K hK=>?_)
    refine Kd.R_append_rows_step (Kd.int .u8) (w0:=w) w.heap.size (by rfl) (.tmp 16) (.tmp 17) 22 5 (.int .u8 0) 1 rfl Try.underlying22 info5 rfl (by decide) (by omega) v247 y246 (rd_L1 l0_0 x10_1) _ _ _ (fun _=>True) (fun _=>False) rfl rfl ?aO ?aR (fun _ _ h=>h) (fun _ h=>h.elim) ?aF ?aB ?aS ?aL ?_
    (case aR=>exact zC (Kd.bH_ HR245_0.o HB.o))
    (case aB=>exact (zB HB.o))
    (case aF=>exact (fun _ _=>trivial))
    (case aO=>exact (zR HO248.o))
    (case aS=>exact (zs_ HB.o))
    (case aL=>have:=LMc13.o;omega)
    intro v250 w18 ho hb hg hat;rw [← Ny249.o] at ho
    replace HO_aa:=am (Kd.S_after (ok:=(fun _=>True)) (zS HO_aa.o) hg hat)
    replace BK242:=am (ce_ (zK BK242.o) hg (Kd.R_ne HO248.o BK242.o (by decide)))
    replace BK243:=am (ce_ (zK BK243.o) hg (Kd.R_ne HO248.o BK243.o (by decide)))
    replace BK244:=am (ce_ (zK BK244.o) hg (Kd.R_ne HO248.o BK244.o (by decide)))
    replace HB:=am (hb);have HO251:=am (ho);(try clear HO248);clear ho hb hg hat;obtain ⟨Ao20,co20,eo20⟩:=Kd.bv_ HO251.o
    (first|subst eo20|(injection eo20 with f1_ f2_ f3_;have f4_:=f1_.symm;have f5_:=f3_.symm;clear f1_ f2_ f3_;subst f4_;subst f5_))
    refine hK.out _ _ ((bo_ BK244.o 0).trans rfl) (fun hHeld=>?_)
    clear hK K
    refine cp_ (a':=?_) ?_ ?_
    rotate_left
    ·show Act.put _ (some 18) _=_
     simp only [Act.put,List.setIfInBounds_toArray,List.set_cons_zero,List.set_cons_succ,bI_,bL_];rfl
    refine one_ (i:=5) (N:=some 19) #[true,true,true,true,true,true,false,false,false] rfl rfl (bZ_ HT_.o (by kernel_rfl)) (by decide) (fun K hK=>?_)
    refine value_ (w1:=?_) (v:=?_) (by rfl) rfl ?_ ?_
    rotate_left 2
    ·go_simp
     constructor
     ·rfl
     ·rfl
    refine hK.out _ _ ((bo_ (bc_ BK244.o _) 0).trans rfl) (fun hHeld=>?_)
    clear hK K
    refine cp_ (a':=?_) ?_ ?_
    rotate_left
    ·show Act.put _ (some 19) _=_
     simp only [Act.put,List.setIfInBounds_toArray,List.set_cons_zero,List.set_cons_succ,bI_,bL_];rfl
    refine one_ (i:=6) (N:=some 20) #[true,true,true,true,true,true,true,false,false] rfl rfl (bZ_ HT_.o (by kernel_rfl)) (by decide) (fun K hK=>?_)
    refine Kd.S_append_step (Kd.slice 5 (Kd.int .u8)) (w0:=w) w.heap.size (by rfl) (.tmp 15) (.tmp 19) 50 22 (.slice none 0 0) 24 rfl Try.underlying50 info22 rfl (by decide) (by omega) uaa xaa_1 y249 [.slice Ao20 y249.length co20] (fun _=>True) (fun k_=>some k_=(.slice Ao20 y249.length co20:Value).ownBlock) rfl rfl ?aP (fun k_ hk_=>((Kd.bq_ (ok':=fun k_=>((fun _=>True)) k_∧some k_≠(uaa:Value).ownBlock) (Kd.cj_ (HO251.o) (Kd.dp_ HO_aa.o) (by decide)) (fun k_ hk=>⟨trivial,hk.2⟩))).1 k_ hk_.symm) ?aF ?aO ?aB ?aS ?aL ?_
    (case aP=>exact Kd.M_row (Kd.bq_ (Kd.R_tight rfl (Kd.bq_ (ok':=fun k_=>((fun _=>True)) k_∧some k_≠(uaa:Value).ownBlock) (Kd.cj_ (HO251.o) (Kd.dp_ HO_aa.o) (by decide)) (fun k_ hk=>⟨trivial,hk.2⟩))) (fun _ h_=>h_)))
    (case aB=>exact (zB HB.o))
    (case aF=>exact (fun _ _=>trivial))
    (case aO=>exact (zS (Kd.cH_ HO_aa.o (fun k_ hk=>⟨trivial,fun e_=>hk.2 e_⟩))))
    (case aS=>exact (zs_ HB.o))
    (case aL=>have:=LMc14.o;omega)
    intro v253 w19 ho hb hg hat;rw [← Ny252.o] at ho
    replace BK242:=am (ce_ (zK BK242.o) hg (Kd.S_ne HO_aa.o BK242.o (by decide)))
    replace BK243:=am (ce_ (zK BK243.o) hg (Kd.S_ne HO_aa.o BK243.o (by decide)))
    replace BK244:=am (ce_ (zK BK244.o) hg (Kd.S_ne HO_aa.o BK244.o (by decide)))
    replace HB:=am (hb);have HO254:=am (ho);(try clear HO_aa);(try clear HO251);clear ho hb hg hat;obtain ⟨Ao21,co21,eo21⟩:=Kd.cP_ HO254.o
    (first|subst eo21|(injection eo21 with f1_ f2_ f3_;have f4_:=f1_.symm;have f5_:=f3_.symm;clear f1_ f2_ f3_;subst f4_;subst f5_))
    refine hK.out _ _ ((bo_ BK244.o 0).trans rfl) (fun hHeld=>?_)
    clear hK K
    refine cp_ (a':=?_) ?_ ?_
    rotate_left
    ·show Act.put _ (some 20) _=_
     simp only [Act.put,List.setIfInBounds_toArray,List.set_cons_zero,List.set_cons_succ,bI_,bL_];rfl
    refine pu_ (i:=7) (some 21) #[true,true,true,true,true,true,true,true,false] HT_ ?_
    refine last_ (i:=8) (N:=none) #[true,true,true,true,true,true,true,true,true] rfl rfl (bZ_ HT_.o (by kernel_rfl)) (by decide) (fun K hK=>?_)
    have hs22:w19.cell? ⟨gb244,0,none⟩=some (uaa):=(bo_ BK244.o 0).trans rfl;have hfs22:=bs_ BK244.o 0;have hns22_0:=NB242_244.o;have hns22_1:=NB243_244.o;have hms22_0:=NB244_242.o;have hms22_1:=NB244_243.o
    refine skip_ (w1:=?_) (by rfl) rfl ?_ ?_
    rotate_left
    ·go_simp;rfl
    refine hK.out _ _ ?_
    clear hK K
    refine done_ (cD_ HT_.o (by kernel_rfl)) ?_
    try go_wp2
    go_roundg k1
    case measure=>have:=HK1.o;omega
    case rel=>exact ⟨(wrap64 (x10_1+1)),(y252),(.slice Ao21 y252.length co21),rf_,H',⟨by have:=HK1.o;omega⟩,⟨zS (Kd.cH_ (Kd.S_far (p:=⟨gb244,0,none⟩) (Kd.S_types HO254.o BK244.o (by decide)) (fun _ hk=>hk.2) (.slice Ao21 y252.length co21)) (fun _ hk=>trivial))⟩,⟨by (with_reducible repeat (first|apply bd_|apply bb_|apply bc_));refine bF_ ?_ NB242_244.o _;(with_reducible repeat (first|apply bd_|apply bb_|apply bc_));exact BK242.o⟩,⟨by (with_reducible repeat (first|apply bd_|apply bb_|apply bc_));refine bF_ ?_ NB243_244.o _;(with_reducible repeat (first|apply bd_|apply bb_|apply bc_));exact BK243.o⟩,⟨by (with_reducible repeat (first|apply bd_|apply bb_|apply bc_));refine cQ_ (cs:=#[uaa]) ?_ 0 _ rfl;(with_reducible repeat (first|apply bd_|apply bb_|apply bc_));exact BK244.o⟩,⟨by repeat (first|(with_reducible first|exact HB.o|apply bk_|apply be_|apply bg_|refine bl_ ?_ GE242.o|refine bl_ ?_ GE243.o|refine bl_ ?_ GE244.o)|exact HB.o)⟩⟩
   ·rw [if_neg c10] at H;have c10b0:=decide_eq_false c10;clear c10;obtain rfl:=Option.some.inj H;have hnb23:=NB244_242.o;have hnc23:=NB242_244.o;have hnb24:=NB244_243.o;have hnc24:=NB243_244.o;have hcz25_0:wr.cell? ⟨gb244,0,none⟩=some (uaa):=(bo_ BK244.o 0).trans rfl;have hfz25_0:=bs_ BK244.o 0;obtain ⟨Ao26,co26,eo26⟩:=Kd.cP_ HO_aa.o
    subst eo26
    have hnb27:=NB243_242.o;have hnc27:=NB242_243.o;have hcz28_0:wr.cell? ⟨gb243,0,none⟩=some (.slice none 0 0):=(bo_ BK243.o 0).trans rfl;have hfz28_0:=bs_ BK243.o 0
    go_wp2
    refine bodyPost_ret (results_cell_row rfl _ _ gb243 52 #[.slice Ao26 xaa_1.length co26] (0,0) _ rfl (by (with_reducible repeat (first|apply bd_|apply bb_|apply bc_));refine cQ_ (cs:=#[.slice none 0 0]) ?_ 0 _ rfl;(with_reducible repeat (first|apply bd_|apply bb_|apply bc_));exact BK243.o) Try.underlying52 rfl (by kernel_rfl)) rfl ?_
    exact ⟨_,by first|rfl|(simp [errW_none,errW_some] <;> rfl)|(simp [*,errW_none,errW_some] <;> rfl),zS (Kd.cH_ (Kd.S_far (p:=⟨gb243,0,none⟩) (Kd.S_types HO_aa.o BK243.o (by decide)) (fun _ hk=>hk.2) (.slice Ao26 xaa_1.length co26)) (fun _ hk=>trivial)),by repeat (first|(with_reducible first|exact HB.o|apply bk_|apply be_|apply bg_|refine bl_ ?_ GE242.o|refine bl_ ?_ GE243.o|refine bl_ ?_ GE244.o)|exact HB.o)⟩

/-! ### spec_l1Scale: function 85 -/
def Fu.l0:Nat→Int→List Int→List Int→Int→Int→Option (List Int)
 | 0,_,_,_,_,_=>none
 | k+1,x0,x5,x8,x9,x10=>if x10<x9 then (if 0≤x10 then (if x10<(x8.length:Int) then ((Fi.f k x0 (rd x8 x10)).bind fun t256=>(if x5.length<140737488355328 then (Fu.l0 k x0 (x5++[t256]) x8 x9 (wrap64 (x10+1))) else (none))) else (none)) else (none)) else (some x5)
def Fu.f (k:Nat) (a0:Int) (l1:List Int):Option (List Int):=Fu.l0 k a0 ([]:List Int) l1 (l1.length:Int) 0
set_option maxHeartbeats 8000000 in
set_option maxRecDepth 100000 in
theorem Fu.calls (k:Nat) (a0:Int) (A1:Option Addr) (c1:Nat) (l1:List Int) (r:List Int) (w:World) (hr1:Kd.C (Kd.int .u8) w A1 l1.length l1) (hc1:l1.length≤c1) (h:Fu.f k a0 l1=some r) :
  Calls Try.prog 85 #[.int .u8 a0,.slice A1 l1.length c1] w fun e w'=>∃ v0_:Value,e = .returned (v0_)∧Kd.R (Kd.int .u8) 5 w' w.heap.size (fun _=>True) v0_ r∧Below w.heap.size w w':=by
 have HR1:=am hr1;have HC1:=am hc1;clear hr1 hc1;have HB:=am (Below.refl w.heap.size w);have H:(Fu.l0 k a0 ([]:List Int) l1 (l1.length:Int) 0)=some r:=h;clear h;have H':=am H;clear H
 go_enter Try.func85,Try.ntmps85
 go_wp2
 go_loopg [5,10] k (fun kq v5 v10 w'=>∃ (x5_1:List Int) (x10_1:Int),v10 = .int .i64 x10_1∧ba_ (Fu.l0 kq a0 x5_1 l1 (l1.length:Int) x10_1=some r)∧ba_ (kq≤k)∧ba_ (Kd.R (Kd.int .u8) 5 w' w.heap.size (fun _=>True) v5 x5_1)∧ba_ (Below w.heap.size w w'))
 case atStart=>exact ⟨(([]:List Int)),(0),rfl,H',⟨Nat.le_refl _⟩,⟨by first|apply Kd.di_|apply Kd.N_nil|apply Kd.V_nil|apply Kd.Q_nil|apply Kd.S_nil⟩,⟨zB HB.o⟩⟩
 case round =>
  clear H';obtain ⟨x5_1,x10_1,rfl,HA,HK1,HO_5,HB⟩:=hrel
  cases gk with
  | zero=>exact absurd HA.o (by simp [Fu.l0])
  | succ k1 =>
   have H:=HA.o;clear HA
   simp only [Fu.l0] at H
   by_cases c3:x10_1<(l1.length:Int)
   ·rw [if_pos c3] at H;have c3b0:=decide_eq_true c3;clear c3
    obtain ⟨c4,H⟩:=it_ H;have c4b0:=decide_eq_true c4;clear c4
    obtain ⟨c5,H⟩:=it_ H;have c5b0:=decide_eq_true c5;clear c5;obtain ⟨t256,A6,H⟩:=bi_ H
    obtain ⟨c7,H⟩:=it_ H;have LMc7:=am c7;clear c7;obtain ⟨y257,hy257⟩:∃ y_:List Int,y_=(x5_1++[t256]):=⟨_,rfl⟩
    replace H:(Fu.l0 k1 a0 y257 l1 (l1.length:Int) (wrap64 (x10_1+1)))=some r:=by first|(rw [hy257];exact H)|(have H2_:=(Option.bind_some _ _).symm.trans H;first|exact H2_|(rw [hy257];exact H2_))|exact H
    have Ny257:=am hy257;clear hy257;have H':=am H;clear H;have p255:0≤(x10_1:Int):=od_;have q255:x10_1<(l1.length:Int):=od_;obtain ⟨ad255,e255,hx255_0⟩:=Kd.bK_ HR1.o x10_1 p255 q255;cases e255;replace hx255_0:=(HB.o.cell (World.block_lt_of_cell? w _ hx255_0)).trans hx255_0;replace p255:=eq_true p255;replace q255:=eq_true q255
    go_wp2_with (first|((with_reducible refine bf_ (f:=72) rfl ?_);refine goL_ (some 17) Try.func72 #[.int .u8 a0,.int .u8 (rd l1 x10_1)] ?_;(with_reducible refine (Fi.calls k1 a0 (rd l1 x10_1) t256 _ A6.o).mono ?_);rintro e w' ⟨rfl,⟨nd,rfl⟩⟩;refine ⟨_,rfl,?_⟩)|((with_reducible refine bE_ (b:=.append) (xs:=#[.tmp 14,.tmp 18]) rfl ?_);at_builtin;refine Kd.cY_ (Kd.int .u8) (w0:=w) w.heap.size rfl (.tmp 14) (.tmp 18) 22 5 (.int .u8 0) 1 rfl Try.underlying22 info5 rfl (by decide) (by omega) u5 x5_1 t256 [.int .u8 t256] (fun _=>True) (fun _=>False) rfl rfl ?aP (fun _ hk=>hk.elim) ?aF ?aO ?aB ?aS ?aL ?_;(case aP=>exact rfl);(case aB=>exact (zB HB.o));(case aF=>exact (fun _ _=>trivial));(case aO=>exact (zR HO_5.o));(case aS=>exact (zs_ HB.o));(case aL=>have:=LMc7.o;omega);intro v258 w8 ho hb hg hat;rw [← Ny257.o] at ho;replace HB:=am (hb);have HO259:=am (ho);(try clear HO_5);clear ho hb hg hat))
    go_roundg k1
    case measure=>have:=HK1.o;omega
    case rel=>exact ⟨(y257),(wrap64 (x10_1+1)),rfl,H',⟨by have:=HK1.o;omega⟩,⟨zR HO259.o⟩,⟨zB HB.o⟩⟩
   ·rw [if_neg c3] at H;have c3b0:=decide_eq_false c3;clear c3;obtain rfl:=Option.some.inj H
    go_wp2
    go_ret
    exact ⟨_,rfl,zR HO_5.o,zB HB.o⟩

end Go.Proofs.Ytbloniemhkfnlaa.PFnCorrected
