/- A law's functions as plain Lean functions, each with the walk that shows that the code computes it: written by this session's program wip/tools/ppmake.py. -/
import Derived.Test.YtbloniemhkfnlaaKZ
import Derived.Test.YtbloniemhkfnlaaPFnCorrectedx0
import Derived.Test.YtbloniemhkfnlaaPFnCorrectedx10
namespace Go.Proofs.Ytbloniemhkfnlaa.PFnCorrected
open Go.RowKit Go.Proofs.YtbloniemhkfnlaaW.PrintWords Go.Proofs.YtbloniemhkfnlaaW.PrintLast Go.Proofs.YtbloniemhkfnlaaW.PrintMore
attribute [local go_sem] cw_ cy_ cK_ cL_ ci_ ch_ cx_ cv_   -- for this text's walks alone
set_option linter.unusedVariables false
set_option linter.unusedSimpArgs false

/-! ### spec_l2Apply: function 56 -/
def Fai.l0:Nat→List Int→List Int→List (List Int)→Int→Int→Option (List Int)
 | 0,_,_,_,_,_=>none
 | k+1,x1,x5,x9,x10,x11=>if x11<x10 then (if 0≤x11 then (if x11<(x9.length:Int) then ((Fbc.f k (rd_L1 x9 x11) x1).bind fun t288=>(if x5.length<140737488355328 then (Fai.l0 k x1 (x5++[t288]) x9 x10 (wrap64 (x11+1))) else (none))) else (none)) else (none)) else (some x5)
def Fai.f (k:Nat) (l0_0:List (List Int)) (l1:List Int):Option (List Int):=Fai.l0 k l1 ([]:List Int) l0_0 (l0_0.length:Int) 0
set_option maxHeartbeats 8000000 in
set_option maxRecDepth 100000 in
theorem Fai.calls (k:Nat) (A0_0:Option Addr) (c0_0:Nat) (l0_0:List (List Int)) (A1:Option Addr) (c1:Nat) (l1:List Int) (r:List Int) (w:World) (hr0_0:Kd.C (Kd.slice 5 (Kd.int .u8)) w A0_0 l0_0.length l0_0) (hc0_0:l0_0.length≤c0_0) (hr1:Kd.C (Kd.int .u8) w A1 l1.length l1) (hc1:l1.length≤c1) (h:Fai.f k l0_0 l1=some r) :
  Calls Try.prog 56 #[.agg #[.slice A0_0 l0_0.length c0_0],.slice A1 l1.length c1] w fun e w'=>∃ v0_:Value,e = .returned (v0_)∧Kd.R (Kd.int .u8) 5 w' w.heap.size (fun _=>True) v0_ r∧Below w.heap.size w w':=by
 have hu52:=Try.underlying52;have HR0_0:=am hr0_0;have HC0_0:=am hc0_0;clear hr0_0 hc0_0;have HR1:=am hr1;have HC1:=am hc1;clear hr1 hc1;have HB:=am (Below.refl w.heap.size w);have H:(Fai.l0 k l1 ([]:List Int) l0_0 (l0_0.length:Int) 0)=some r:=h;clear h;have H':=am H;clear H
 go_enter Try.func56,Try.ntmps56
 go_wp2_with (first|((with_reducible refine bB_ (N:=2) rfl ?_);refine bU_ ?hg (N:=2) ?hd (cs:=#[.slice A0_0 l0_0.length c0_0]) (t:=52) ?hr ?_;(case hd=>rfl);(case hg=>rfl);(case hr=>first|(go_simp;done)|(go_simp;rfl));intro gb286 hg w3 hbox hb;have BK286:=am (hbox);have GW286:=am ((gw_ hg HB.o:w.heap.size≤gb286));have GE286:=am ((gw_ hg HB.o:w.heap.size≤gb286));replace HB:=am (bh_ (zB HB.o) hb);clear hb hbox hg;have hcz4_0:w3.cell? ⟨gb286,0,none⟩=some (.slice A0_0 l0_0.length c0_0):=(bo_ BK286.o 0).trans rfl;have hfz4_0:=bs_ BK286.o 0))
 go_loopg [5,11] k (fun kq v5 v11 w'=>∃ (x5_1:List Int) (x11_1:Int),v11 = .int .i64 x11_1∧ba_ (Fai.l0 kq l1 x5_1 l0_0 (l0_0.length:Int) x11_1=some r)∧ba_ (kq≤k)∧ba_ (Kd.R (Kd.int .u8) 5 w' w.heap.size (fun _=>True) v5 x5_1)∧ba_ (w'.heap[gb286]? = some (.cells #[(.slice A0_0 l0_0.length c0_0)] 52 (0,0)))∧ba_ (Below w.heap.size w w'))
 case atStart=>exact ⟨(([]:List Int)),(0),rfl,H',⟨Nat.le_refl _⟩,⟨by first|apply Kd.di_|apply Kd.N_nil|apply Kd.V_nil|apply Kd.Q_nil|apply Kd.S_nil⟩,⟨zK BK286.o⟩,⟨zB HB.o⟩⟩
 case round =>
  clear H';(try clear hfz4_0);obtain ⟨x5_1,x11_1,rfl,HA,HK1,HO_5,BK286,HB⟩:=hrel
  cases gk with
  | zero=>exact absurd HA.o (by simp [Fai.l0])
  | succ k1 =>
   have H:=HA.o;clear HA
   simp only [Fai.l0] at H
   by_cases c5:x11_1<(l0_0.length:Int)
   ·rw [if_pos c5] at H;have c5b0:=decide_eq_true c5;clear c5
    obtain ⟨c6,H⟩:=it_ H;have c6b0:=decide_eq_true c6;clear c6
    obtain ⟨c7,H⟩:=it_ H;have c7b0:=decide_eq_true c7;clear c7;obtain ⟨t288,A8,H⟩:=bi_ H
    obtain ⟨c9,H⟩:=it_ H;have LMc9:=am c9;clear c9;obtain ⟨y289,hy289⟩:∃ y_:List Int,y_=(x5_1++[t288]):=⟨_,rfl⟩
    replace H:(Fai.l0 k1 l1 y289 l0_0 (l0_0.length:Int) (wrap64 (x11_1+1)))=some r:=by first|(rw [hy289];exact H)|(have H2_:=(Option.bind_some _ _).symm.trans H;first|exact H2_|(rw [hy289];exact H2_))|exact H
    have Ny289:=am hy289;clear hy289;have H':=am H;clear H;have p287:0≤(x11_1:Int):=od_;have q287:x11_1<(l0_0.length:Int):=od_;obtain ⟨ad287,A287_0,c287_0,e287,hx287_0,hl287_0,hi287_0⟩:=at_L1 HR0_0.o x11_1 p287 q287;cases e287;replace hx287_0:=(HB.o.cell (World.block_lt_of_cell? w _ hx287_0)).trans hx287_0;have HR287_0:=am hi287_0;have HC287_0:=am hl287_0;clear hi287_0 hl287_0;replace p287:=eq_true p287;replace q287:=eq_true q287
    go_wp2_with (first|((with_reducible refine bf_ (f:=78) rfl ?_);refine goL_ (some 18) Try.func78 #[.slice A287_0 (rd_L1 l0_0 x11_1).length c287_0,.slice A1 l1.length c1] ?_;(with_reducible refine (Fbc.calls k1 _ _ (rd_L1 l0_0 x11_1) _ _ l1 t288 _ ?side1 ?side2 ?side3 ?side4 A8.o).mono ?_);(case side1=>exact zC (Kd.bH_ HR287_0.o HB.o));(case side2=>exact HC287_0.o);(case side3=>exact zC (Kd.bH_ HR1.o HB.o));(case side4=>exact HC1.o);rintro e w' ⟨rfl,⟨nd,rfl⟩⟩;refine ⟨_,rfl,?_⟩)|((with_reducible refine bE_ (b:=.append) (xs:=#[.tmp 15,.tmp 19]) rfl ?_);at_builtin;refine Kd.cY_ (Kd.int .u8) (w0:=w) w.heap.size rfl (.tmp 15) (.tmp 19) 22 5 (.int .u8 0) 1 rfl Try.underlying22 info5 rfl (by decide) (by omega) u5 x5_1 t288 [.int .u8 t288] (fun _=>True) (fun _=>False) rfl rfl ?aP (fun _ hk=>hk.elim) ?aF ?aO ?aB ?aS ?aL ?_;(case aP=>exact rfl);(case aB=>exact (zB HB.o));(case aF=>exact (fun _ _=>trivial));(case aO=>exact (zR HO_5.o));(case aS=>exact (zs_ HB.o));(case aL=>have:=LMc9.o;omega);intro v290 w10 ho hb hg hat;rw [← Ny289.o] at ho;replace BK286:=am (ce_ (zK BK286.o) hg (Kd.R_ne HO_5.o BK286.o (by decide)));replace HB:=am (hb);have HO291:=am (ho);(try clear HO_5);clear ho hb hg hat))
    go_roundg k1
    case measure=>have:=HK1.o;omega
    case rel=>exact ⟨(y289),(wrap64 (x11_1+1)),rfl,H',⟨by have:=HK1.o;omega⟩,⟨zR HO291.o⟩,⟨zK BK286.o⟩,⟨zB HB.o⟩⟩
   ·rw [if_neg c5] at H;have c5b0:=decide_eq_false c5;clear c5;obtain rfl:=Option.some.inj H
    go_wp2
    go_ret
    exact ⟨_,rfl,zR HO_5.o,zB HB.o⟩

/-! ### spec_l8Hankel: function 73 -/
def Fz.l0:Nat→List Int→Int→Int→List (List Int)→Option ((List (List Int)))
 | 0,_,_,_,_=>none
 | k+1,x0,x1,x6,xaa=>if x6<x1 then ((some (([]:List Int):List Int)).bind fun y294=>(if 0≤x6 then (if x6≤(wrap64 (x6+x1)) then (if (wrap64 (x6+x1))≤(x0.length:Int) then (if y294.length+((x0.take ((wrap64 (x6+x1)):Int).toNat).drop (x6:Int).toNat).length<140737488355328 then (if xaa.length<5864062014805 then (Fz.l0 k x0 x1 (wrap64 (x6+1)) (xaa++[(y294++((x0.take ((wrap64 (x6+x1)):Int).toNat).drop (x6:Int).toNat))])) else (none)) else (none)) else (none)) else (none)) else (none))) else (some xaa)
def Fz.f (k:Nat) (l0:List Int) (a1:Int):Option ((List (List Int))):=Fz.l0 k l0 a1 0 ([]:List (List Int))
def Fz.T5:Bool × List (List Nat × List Nat):=(true,[([],[]),([0],[0]),([],[]),([],[]),([],[]),([],[]),([],[]),([5,6],[5,6]),([3,4,7],[3,4,7]),([2,8],[2,8]),([9],[9]),([1,10,9],[1,10]),([0,1,2,3,4,5,6,7,8,9,10,11],[]),([12,11,11,0,1,2,3,4,5,6,7,8,9,10,11],[11,12])])
def Fz.B5:List Nat:=[0,1,0,0,0,0,0,96,248,508,1020,2047,4095,8191]
theorem Fz.tab5:rtab .any (opsOf Try.f73 5)=Fz.T5:=by kernel_rfl
theorem Fz.bits5:waitsOk Fz.T5.2 Fz.B5=true:=by kernel_rfl
set_option maxHeartbeats 8000000 in
set_option maxRecDepth 100000 in
theorem Fz.calls (k:Nat) (A0:Option Addr) (c0:Nat) (l0:List Int) (a1:Int) (r:List (List Int)) (w:World) (hr0:Kd.C (Kd.int .u8) w A0 l0.length l0) (hc0:l0.length≤c0) (h:Fz.f k l0 a1=some r) :
  Calls Try.prog 73 #[.slice A0 l0.length c0,.int .i64 a1] w fun e w'=>∃ v0_:Value,e = .returned (.agg #[v0_])∧Kd.S (Kd.slice 5 (Kd.int .u8)) 22 w' w.heap.size (fun _=>True) v0_ r∧Below w.heap.size w w':=by
 have hu52:=Try.underlying52;have HR0:=am hr0;have HC0:=am hc0;clear hr0 hc0;have HB:=am (Below.refl w.heap.size w);have H:(Fz.l0 k l0 a1 0 ([]:List (List Int)))=some r:=h;clear h;have H':=am H;clear H
 go_enter Try.func73,Try.ntmps73
 go_wp2_with (first|((with_reducible refine bB_ (N:=4) rfl ?_);refine bU_ ?hg (N:=4) ?hd (cs:=#[.slice none 0 0]) (t:=52) ?hr ?_;(case hd=>rfl);(case hg=>rfl);(case hr=>first|(go_simp;done)|(go_simp;rfl));intro gb292 hg w3 hbox hb;have BK292:=am (hbox);have GW292:=am ((gw_ hg HB.o:w.heap.size≤gb292));have GE292:=am ((gw_ hg HB.o:w.heap.size≤gb292));replace HB:=am (bh_ (zB HB.o) hb);clear hb hbox hg)|((with_reducible refine bB_ (N:=5) rfl ?_);refine bU_ ?hg (N:=5) ?hd (cs:=#[.slice none 0 0]) (t:=52) ?hr ?_;(case hd=>rfl);(case hg=>rfl);(case hr=>first|(go_simp;done)|(go_simp;rfl));intro gb293 hg w4 hbox hb;have BK293:=am (hbox);have GW293:=am ((gw_ hg HB.o:w.heap.size≤gb293));have GE293:=am ((gw_ hg HB.o:w.heap.size≤gb293));replace HB:=am (bh_ (zB HB.o) hb);have NB292_293:=am ((by rw [hg];exact Nat.ne_of_lt (bw_ (zK BK292.o)):gb292≠gb293));have NB293_292:=am ((by rw [hg];exact Nat.ne_of_gt (bw_ (zK BK292.o)):gb293≠gb292));replace BK292:=am (bm_ (zK BK292.o) hb);clear hb hbox hg;have hnb5:=NB293_292.o;have hnc5:=NB292_293.o;have hcz6_0:w4.cell? ⟨gb293,0,none⟩=some (.slice none 0 0):=(bo_ BK293.o 0).trans rfl;have hfz6_0:=bs_ BK293.o 0))
 go_loopg [6] k (fun kq v6 w'=>∃ (x6_1:Int) (xaa_1:List (List Int)) (uaa:Value),v6 = .int .i64 x6_1∧ba_ (Fz.l0 kq l0 a1 x6_1 xaa_1=some r)∧ba_ (kq≤k)∧ba_ (Kd.S (Kd.slice 5 (Kd.int .u8)) 22 w' w.heap.size (fun _=>True) uaa xaa_1)∧ba_ (w'.heap[gb292]? = some (.cells #[(.slice none 0 0)] 52 (0,0)))∧ba_ (w'.heap[gb293]? = some (.cells #[uaa] 52 (0,0)))∧ba_ (Below w.heap.size w w'))
 case atStart=>exact ⟨(0),(([]:List (List Int))),(.slice none 0 0),rf_,H',⟨Nat.le_refl _⟩,⟨by first|exact Kd.S_nil _ _ _ _ _|exact Kd.N_nil _ _ _ _ _|exact Kd.V_nil _ _ _ _ _|exact Kd.Q_nil _ _ _ _ _|exact Kd.di_ _ _ _ _ _⟩,⟨by (with_reducible repeat (first|apply bd_|apply bb_|apply bc_));refine bF_ ?_ NB292_293.o _;(with_reducible repeat (first|apply bd_|apply bb_|apply bc_));exact BK292.o⟩,⟨by (with_reducible repeat (first|apply bd_|apply bb_|apply bc_));refine cQ_ (cs:=#[.slice none 0 0]) ?_ 0 _ rfl;(with_reducible repeat (first|apply bd_|apply bb_|apply bc_));exact BK293.o⟩,⟨by repeat (first|(with_reducible first|exact HB.o|apply bk_|apply be_|apply bg_|refine bl_ ?_ GE292.o|refine bl_ ?_ GE293.o)|exact HB.o)⟩⟩
 case round =>
  clear H';(try clear hfz6_0);obtain ⟨x6_1,xaa_1,uaa,rfl,HA,HK1,HO_aa,BK292,BK293,HB⟩:=hrel
  cases gk with
  | zero=>exact absurd HA.o (by simp [Fz.l0])
  | succ k1 =>
   have H:=HA.o;clear HA
   simp only [Fz.l0] at H
   by_cases c7:x6_1<a1
   ·rw [if_pos c7] at H;have c7b0:=decide_eq_true c7;clear c7;obtain ⟨y294,hy294⟩:∃ y_:List Int,y_=(([]:List Int)):=⟨_,rfl⟩
    replace H:(if 0≤x6_1 then (if x6_1≤(wrap64 (x6_1+a1)) then (if (wrap64 (x6_1+a1))≤(l0.length:Int) then (if y294.length+((l0.take ((wrap64 (x6_1+a1)):Int).toNat).drop (x6_1:Int).toNat).length<140737488355328 then (if xaa_1.length<5864062014805 then (Fz.l0 k1 l0 a1 (wrap64 (x6_1+1)) (xaa_1++[(y294++((l0.take ((wrap64 (x6_1+a1)):Int).toNat).drop (x6_1:Int).toNat))])) else (none)) else (none)) else (none)) else (none)) else (none))=some r:=by first|(rw [hy294];exact H)|(have H2_:=(Option.bind_some _ _).symm.trans H;first|exact H2_|(rw [hy294];exact H2_))|exact H
    have Ny294:=am hy294;clear hy294
    obtain ⟨c8,H⟩:=it_ H;have c8b0:=eq_true c8;have c8b1:=decide_eq_true c8;clear c8
    obtain ⟨c9,H⟩:=it_ H;have c9b0:=eq_true c9;have c9b1:=decide_eq_true c9
    obtain ⟨c10,H⟩:=it_ H;have c10b0:=eq_true c10;have c10b1:=decide_eq_true c10
    obtain ⟨c11,H⟩:=it_ H;have LMc11:=am c11;clear c11;obtain ⟨y298,hy298⟩:∃ y_:List Int,y_=(y294++((l0.take ((wrap64 (x6_1+a1)):Int).toNat).drop (x6_1:Int).toNat)):=⟨_,rfl⟩
    replace H:(if xaa_1.length<5864062014805 then (Fz.l0 k1 l0 a1 (wrap64 (x6_1+1)) (xaa_1++[y298])) else (none))=some r:=by first|(rw [hy298];exact H)|(have H2_:=(Option.bind_some _ _).symm.trans H;first|exact H2_|(rw [hy298];exact H2_))|exact H
    have Ny298:=am hy298;clear hy298
    obtain ⟨c12,H⟩:=it_ H;have LMc12:=am c12;clear c12;obtain ⟨y301,hy301⟩:∃ y_:List (List Int),y_=(xaa_1++[y298]):=⟨_,rfl⟩
    replace H:(Fz.l0 k1 l0 a1 (wrap64 (x6_1+1)) y301)=some r:=by first|(rw [hy301];exact H)|(have H2_:=(Option.bind_some _ _).symm.trans H;first|exact H2_|(rw [hy301];exact H2_))|exact H
    have Ny301:=am hy301;clear hy301;have H':=am H;clear H
    try go_wp2
    replace HO_aa:=am (Kd.S_drew HO_aa.o);replace BK292:=am (bb_ BK292.o);replace BK293:=am (bb_ BK293.o);replace HB:=am (bg_ HB.o);obtain ⟨i014,hi014,_,hsz14,_⟩:=info_parts info5;obtain ⟨A14,hcut14,hA14,hC14⟩:=print_mid_of (P:=Try.prog) (Value.int .u8) 0 22 5 .i64 .i64 Try.underlying22 hi014 hsz14 A0 c0 l0 x6_1 (wrap64 (x6_1+a1)) (od_) (by first|omega|exact od_) (od_) HC0.o;have HR297:=am (Kd.C_of_reads (h1:=fun _=>rfl) (hA14 _ (Kd.reads_of_C HR0.o)));have HC297:=am hC14;clear hA14 hC14 hi014 hsz14
    refine cS_ (n:=14) (S:=fun w'=>w'.cell? ⟨gb293,0,none⟩=some (uaa)) (ds:=[13]) #[false,false,false,false,false,false,false,false,false,false,false,false,false,false] (by kernel_rfl) rfl rfl ((bo_ BK293.o 0).trans rfl) (fun hHeld=>?_);refine cc_ Fz.tab5 Fz.bits5 (fun HT_ HW_=>?_)
    generalize wr.drew=w13 at HO_aa BK292 BK293 HB HR297 hHeld ⊢
    refine pu_ (i:=0) (some 13) #[true,false,false,false,false,false,false,false,false,false,false,false,false,false] HT_ ?_
    refine pu_ (i:=3) (some 16) #[true,false,false,true,false,false,false,false,false,false,false,false,false,false] HT_ ?_
    refine pu_ (i:=4) (some 17) #[true,false,false,true,true,false,false,false,false,false,false,false,false,false] HT_ ?_
    refine pu_ (i:=5) (some 18) #[true,false,false,true,true,true,false,false,false,false,false,false,false,false] HT_ ?_
    refine pu_ (i:=6) (some 19) #[true,false,false,true,true,true,true,false,false,false,false,false,false,false] HT_ ?_
    refine pu_ (i:=7) (some 20) #[true,false,false,true,true,true,true,true,false,false,false,false,false,false] HT_ ?_
    refine pu_ (i:=8) (some 21) #[true,false,false,true,true,true,true,true,true,false,false,false,false,false] HT_ ?_
    refine ta_ (i:=1) (some 14) #[true,true,false,true,true,true,true,true,true,false,false,false,false,false] HT_ HW_ hHeld ?_
    refine one_ (i:=2) (N:=some 15) #[true,true,true,true,true,true,true,true,true,false,false,false,false,false] rfl rfl (bZ_ HT_.o (by kernel_rfl)) (by decide) (fun K hK=>?_)
    refine Kd.R_lit_step (Kd.int .u8) _ 5 ?hg (N:=15) ?hd (xs:=([]:List Int)) (inner:=[]) (ok:=fun _=>True) (okp:=fun _=>True) ?hr ?hp (fun _ hk=>hk) trivial (Below.refl _ _) (Nat.le_refl _) (by simp) ?_;(case hd=>rfl);(case hg=>rfl);(case hr=>first|(go_simp;done)|(go_simp;rfl));(case hp=>exact (Reps.none _ _))
    intro v295 w15 ho16 hb hg_ hnew_;clear hg_ hnew_
    (first|rw [← Ny294.o] at ho16|(simp only [Int.reduceToNat] at ho16;rw [← Ny294.o] at ho16))
    replace HO_aa:=am (Kd.cZ_ (zS HO_aa.o) (Kd.bt_ ho16) hb)
    have HO296:=am (Kd.bx_ ho16 (zs_ HB.o))
    replace BK292:=am (bm_ (zK BK292.o) hb)
    replace BK293:=am (bm_ (zK BK293.o) hb)
    replace HB:=am (bh_ (zB HB.o) hb);clear hb ho16
    refine hK.out _ _ ((bo_ BK293.o 0).trans rfl) (fun hHeld=>?_)
    clear hK K
    refine cp_ (a':=?_) ?_ ?_
    rotate_left
    ·show Act.put _ (some 15) _=_
     simp only [Act.put,List.setIfInBounds_toArray,List.set_cons_zero,List.set_cons_succ,bI_,bL_];rfl
    refine one_ (i:=9) (N:=some 22) #[true,true,true,true,true,true,true,true,true,true,false,false,false,false] rfl rfl (bZ_ HT_.o (by kernel_rfl)) (by decide) (fun K hK=>?_)
    refine Kd.R_append_rows_step (Kd.int .u8) (w0:=w) w.heap.size (by rfl) (.tmp 15) (.tmp 21) 22 5 (.int .u8 0) 1 rfl Try.underlying22 info5 rfl (by decide) (by omega) v295 y294 ((l0.take ((wrap64 (x6_1+a1)):Int).toNat).drop (x6_1:Int).toNat) _ _ _ (fun _=>True) (fun _=>False) rfl rfl ?aO ?aR (fun _ _ h=>h) (fun _ h=>h.elim) ?aF ?aB ?aS ?aL ?_
    (case aR=>first|(have hlq_:=(show ((l0.take ((wrap64 (x6_1+a1)):Int).toNat).drop (x6_1:Int).toNat).length=((wrap64 (x6_1+a1)).toNat - x6_1.toNat) from (by rw [List.length_drop,List.length_take];have h_:((wrap64 (x6_1+a1)):Int)≤(l0.length:Int):=od_;omega));have hX_:=(Kd.bH_ HR297.o HB.o);rw [hlq_] at hX_;exact hX_)|(rw [← show ((l0.take ((wrap64 (x6_1+a1)):Int).toNat).drop (x6_1:Int).toNat).length=((wrap64 (x6_1+a1)).toNat - x6_1.toNat) from (by rw [List.length_drop,List.length_take];have h_:((wrap64 (x6_1+a1)):Int)≤(l0.length:Int):=od_;omega)];repeat (first|exact (Kd.bH_ HR297.o HB.o)|(with_reducible refine Kd.cJ_ ?_ _)|(with_reducible refine Kd.cI_ ?_ _)|(with_reducible refine Kd.cW_ ?_)))|(repeat (first|exact (Kd.bH_ HR297.o HB.o)|(with_reducible refine Kd.cJ_ ?_ _)|(with_reducible refine Kd.cI_ ?_ _)|(with_reducible refine Kd.cW_ ?_))))
    (case aB=>exact (zB HB.o))
    (case aF=>exact (fun _ _=>trivial))
    (case aO=>exact (zR HO296.o))
    (case aS=>exact (zs_ HB.o))
    (case aL=>have:=LMc11.o;have hlx_:=(show ((l0.take ((wrap64 (x6_1+a1)):Int).toNat).drop (x6_1:Int).toNat).length=((wrap64 (x6_1+a1)).toNat - x6_1.toNat) from (by rw [List.length_drop,List.length_take];have h_:((wrap64 (x6_1+a1)):Int)≤(l0.length:Int):=od_;omega));omega)
    intro v299 w17 ho hb hg hat;rw [← Ny298.o] at ho
    replace HO_aa:=am (Kd.S_after (ok:=(fun _=>True)) (zS HO_aa.o) hg hat)
    replace BK292:=am (ce_ (zK BK292.o) hg (Kd.R_ne HO296.o BK292.o (by decide)))
    replace BK293:=am (ce_ (zK BK293.o) hg (Kd.R_ne HO296.o BK293.o (by decide)))
    replace HB:=am (hb);have HO300:=am (ho);(try clear HO296);clear ho hb hg hat;obtain ⟨Ao19,co19,eo19⟩:=Kd.bv_ HO300.o
    (first|subst eo19|(injection eo19 with f1_ f2_ f3_;have f4_:=f1_.symm;have f5_:=f3_.symm;clear f1_ f2_ f3_;subst f4_;subst f5_))
    refine hK.out _ _ ((bo_ BK293.o 0).trans rfl) (fun hHeld=>?_)
    clear hK K
    refine cp_ (a':=?_) ?_ ?_
    rotate_left
    ·show Act.put _ (some 22) _=_
     simp only [Act.put,List.setIfInBounds_toArray,List.set_cons_zero,List.set_cons_succ,bI_,bL_];rfl
    refine one_ (i:=10) (N:=some 23) #[true,true,true,true,true,true,true,true,true,true,true,false,false,false] rfl rfl (bZ_ HT_.o (by kernel_rfl)) (by decide) (fun K hK=>?_)
    refine value_ (w1:=?_) (v:=?_) (by rfl) rfl ?_ ?_
    rotate_left 2
    ·go_simp
     constructor
     ·rfl
     ·rfl
    refine hK.out _ _ ((bo_ (bc_ BK293.o _) 0).trans rfl) (fun hHeld=>?_)
    clear hK K
    refine cp_ (a':=?_) ?_ ?_
    rotate_left
    ·show Act.put _ (some 23) _=_
     simp only [Act.put,List.setIfInBounds_toArray,List.set_cons_zero,List.set_cons_succ,bI_,bL_];rfl
    refine one_ (i:=11) (N:=some 24) #[true,true,true,true,true,true,true,true,true,true,true,true,false,false] rfl rfl (bZ_ HT_.o (by kernel_rfl)) (by decide) (fun K hK=>?_)
    refine Kd.S_append_step (Kd.slice 5 (Kd.int .u8)) (w0:=w) w.heap.size (by rfl) (.tmp 14) (.tmp 23) 50 22 (.slice none 0 0) 24 rfl Try.underlying50 info22 rfl (by decide) (by omega) uaa xaa_1 y298 [.slice Ao19 y298.length co19] (fun _=>True) (fun k_=>some k_=(.slice Ao19 y298.length co19:Value).ownBlock) rfl rfl ?aP (fun k_ hk_=>((Kd.bq_ (ok':=fun k_=>((fun _=>True)) k_∧some k_≠(uaa:Value).ownBlock) (Kd.cj_ (HO300.o) (Kd.dp_ HO_aa.o) (by decide)) (fun k_ hk=>⟨trivial,hk.2⟩))).1 k_ hk_.symm) ?aF ?aO ?aB ?aS ?aL ?_
    (case aP=>exact Kd.M_row (Kd.bq_ (Kd.R_tight rfl (Kd.bq_ (ok':=fun k_=>((fun _=>True)) k_∧some k_≠(uaa:Value).ownBlock) (Kd.cj_ (HO300.o) (Kd.dp_ HO_aa.o) (by decide)) (fun k_ hk=>⟨trivial,hk.2⟩))) (fun _ h_=>h_)))
    (case aB=>exact (zB HB.o))
    (case aF=>exact (fun _ _=>trivial))
    (case aO=>exact (zS (Kd.cH_ HO_aa.o (fun k_ hk=>⟨trivial,fun e_=>hk.2 e_⟩))))
    (case aS=>exact (zs_ HB.o))
    (case aL=>have:=LMc12.o;omega)
    intro v302 w18 ho hb hg hat;rw [← Ny301.o] at ho
    replace BK292:=am (ce_ (zK BK292.o) hg (Kd.S_ne HO_aa.o BK292.o (by decide)))
    replace BK293:=am (ce_ (zK BK293.o) hg (Kd.S_ne HO_aa.o BK293.o (by decide)))
    replace HB:=am (hb);have HO303:=am (ho);(try clear HO_aa);(try clear HO300);clear ho hb hg hat;obtain ⟨Ao20,co20,eo20⟩:=Kd.cP_ HO303.o
    (first|subst eo20|(injection eo20 with f1_ f2_ f3_;have f4_:=f1_.symm;have f5_:=f3_.symm;clear f1_ f2_ f3_;subst f4_;subst f5_))
    refine hK.out _ _ ((bo_ BK293.o 0).trans rfl) (fun hHeld=>?_)
    clear hK K
    refine cp_ (a':=?_) ?_ ?_
    rotate_left
    ·show Act.put _ (some 24) _=_
     simp only [Act.put,List.setIfInBounds_toArray,List.set_cons_zero,List.set_cons_succ,bI_,bL_];rfl
    refine pu_ (i:=12) (some 25) #[true,true,true,true,true,true,true,true,true,true,true,true,true,false] HT_ ?_
    refine last_ (i:=13) (N:=none) #[true,true,true,true,true,true,true,true,true,true,true,true,true,true] rfl rfl (bZ_ HT_.o (by kernel_rfl)) (by decide) (fun K hK=>?_)
    have hs21:w18.cell? ⟨gb293,0,none⟩=some (uaa):=(bo_ BK293.o 0).trans rfl;have hfs21:=bs_ BK293.o 0;have hns21_0:=NB292_293.o;have hms21_0:=NB293_292.o
    refine skip_ (w1:=?_) (by rfl) rfl ?_ ?_
    rotate_left
    ·go_simp;rfl
    refine hK.out _ _ ?_
    clear hK K
    refine done_ (cD_ HT_.o (by kernel_rfl)) ?_
    try go_wp2
    go_roundg k1
    case measure=>have:=HK1.o;omega
    case rel=>exact ⟨(wrap64 (x6_1+1)),(y301),(.slice Ao20 y301.length co20),rf_,H',⟨by have:=HK1.o;omega⟩,⟨zS (Kd.cH_ (Kd.S_far (p:=⟨gb293,0,none⟩) (Kd.S_types HO303.o BK293.o (by decide)) (fun _ hk=>hk.2) (.slice Ao20 y301.length co20)) (fun _ hk=>trivial))⟩,⟨by (with_reducible repeat (first|apply bd_|apply bb_|apply bc_));refine bF_ ?_ NB292_293.o _;(with_reducible repeat (first|apply bd_|apply bb_|apply bc_));exact BK292.o⟩,⟨by (with_reducible repeat (first|apply bd_|apply bb_|apply bc_));refine cQ_ (cs:=#[uaa]) ?_ 0 _ rfl;(with_reducible repeat (first|apply bd_|apply bb_|apply bc_));exact BK293.o⟩,⟨by repeat (first|(with_reducible first|exact HB.o|apply bk_|apply be_|apply bg_|refine bl_ ?_ GE292.o|refine bl_ ?_ GE293.o)|exact HB.o)⟩⟩
   ·rw [if_neg c7] at H;have c7b0:=decide_eq_false c7;clear c7;obtain rfl:=Option.some.inj H;have hnb22:=NB293_292.o;have hnc22:=NB292_293.o;have hcz23_0:wr.cell? ⟨gb293,0,none⟩=some (uaa):=(bo_ BK293.o 0).trans rfl;have hfz23_0:=bs_ BK293.o 0;obtain ⟨Ao24,co24,eo24⟩:=Kd.cP_ HO_aa.o
    subst eo24
    have hcz25_0:wr.cell? ⟨gb292,0,none⟩=some (.slice none 0 0):=(bo_ BK292.o 0).trans rfl;have hfz25_0:=bs_ BK292.o 0
    go_wp2
    refine bodyPost_ret (results_cell_row rfl _ _ gb292 52 #[.slice Ao24 xaa_1.length co24] (0,0) _ rfl (by (with_reducible repeat (first|apply bd_|apply bb_|apply bc_));refine cQ_ (cs:=#[.slice none 0 0]) ?_ 0 _ rfl;(with_reducible repeat (first|apply bd_|apply bb_|apply bc_));exact BK292.o) Try.underlying52 rfl (by kernel_rfl)) rfl ?_
    exact ⟨_,by first|rfl|(simp [errW_none,errW_some] <;> rfl)|(simp [*,errW_none,errW_some] <;> rfl),zS (Kd.cH_ (Kd.S_far (p:=⟨gb292,0,none⟩) (Kd.S_types HO_aa.o BK292.o (by decide)) (fun _ hk=>hk.2) (.slice Ao24 xaa_1.length co24)) (fun _ hk=>trivial)),by repeat (first|(with_reducible first|exact HB.o|apply bk_|apply be_|apply bg_|refine bl_ ?_ GE292.o|refine bl_ ?_ GE293.o)|exact HB.o)⟩

/-! ### spec_l8Locator: function 50 -/
mutual
def Fl.l0:Nat→List Int→Int→Option (List Int)
 | 0,_,_=>none
 | k+1,x0,x3=>if x3 > 0 then ((Fz.f k x0 x3).bind fun t307=>((Fat.f k t307).bind fun bt310=>(if bt310.2=true then (if 0≤x3 then (if x3≤(wrap64 (2 * x3)) then (if (wrap64 (2 * x3))≤(x0.length:Int) then ((Fai.f k bt310.1 ((x0.take ((wrap64 (2 * x3)):Int).toNat).drop (x3:Int).toNat)).bind fun t316=>(Fl.l1 k t316 (([1]:List Int)) (wrap64 (x3 - 1)))) else (none)) else (none)) else (none)) else (Fl.l0 k x0 (wrap64 (x3 - 1)))))) else (some (([1]:List Int)))
def Fl.l1:Nat→List Int→List Int→Int→Option (List Int)
 | 0,_,_,_=>none
 | k+1,x6,x7,x8=>if x8 ≥ 0 then (if 0≤x8 then (if x8<(x6.length:Int) then (if x7.length<140737488355328 then (Fl.l1 k x6 (x7++[rd x6 x8]) (wrap64 (x8 - 1))) else (none)) else (none)) else (none)) else (some x7)
end
def Fl.f (k:Nat) (l0:List Int):Option (List Int):=Fl.l0 k l0 (wrap64 ((l0.length:Int) / 2))
def Fl.T6:Bool × List (List Nat × List Nat):=(true,[([],[]),([],[]),([],[]),([],[]),([3],[3]),([1,2,4],[1,2,4]),([0,5],[0,5]),([6,6,0,1,2,3,4,5,6],[6])])
def Fl.B6:List Nat:=[0,0,0,0,8,30,63,127]
theorem Fl.tab6:rtab .any (opsOf Try.f50 6)=Fl.T6:=by kernel_rfl
theorem Fl.bits6:waitsOk Fl.T6.2 Fl.B6=true:=by kernel_rfl
set_option maxHeartbeats 8000000 in
set_option maxRecDepth 100000 in
theorem Fl.calls (k:Nat) (A0:Option Addr) (c0:Nat) (l0:List Int) (r:List Int) (w:World) (hr0:Kd.C (Kd.int .u8) w A0 l0.length l0) (hc0:l0.length≤c0) (h:Fl.f k l0=some r) :
  Calls Try.prog 50 #[.slice A0 l0.length c0] w fun e w'=>∃ v0_:Value,e = .returned (v0_)∧Kd.R (Kd.int .u8) 5 w' w.heap.size (fun _=>True) v0_ r∧Below w.heap.size w w':=by
 have hu52:=Try.underlying52;have HR0:=am hr0;have HC0:=am hc0;clear hr0 hc0;have HB:=am (Below.refl w.heap.size w);have H:(Fl.l0 k l0 (wrap64 ((l0.length:Int) / 2)))=some r:=h;clear h;have H':=am H;clear H
 go_enter Try.func50,Try.ntmps50
 go_wp2
 go_loopg [3] k (fun kq v3 w'=>∃ (x3_1:Int),v3 = .int .i64 x3_1∧ba_ (Fl.l0 kq l0 x3_1=some r)∧ba_ (kq≤k)∧ba_ (Below w.heap.size w w'))
 case atStart=>exact ⟨(wrap64 ((l0.length:Int) / 2)),rfl,H',⟨Nat.le_refl _⟩,⟨zB HB.o⟩⟩
 case round =>
  clear H';obtain ⟨x3_1,rfl,HA,HK1,HB⟩:=hrel
  cases gk with
  | zero=>exact absurd HA.o (by simp [Fl.l0])
  | succ k1 =>
   have H:=HA.o;clear HA
   simp only [Fl.l0] at H
   by_cases c2:x3_1 > 0
   ·rw [if_pos c2] at H;have c2b0:decide (0<x3_1)=true:=decide_eq_true c2;clear c2;obtain ⟨t307,A3,H⟩:=bi_ H;obtain ⟨⟨t310,t313⟩,A4,H⟩:=bi_ H;dsimp only at H
    by_cases c5:t313=true
    ·subst c5
     have H1:(if 0≤x3_1 then (if x3_1≤(wrap64 (2 * x3_1)) then (if (wrap64 (2 * x3_1))≤(l0.length:Int) then ((Fai.f k1 t310 ((l0.take ((wrap64 (2 * x3_1)):Int).toNat).drop (x3_1:Int).toNat)).bind fun t316=>(Fl.l1 k1 t316 (([1]:List Int)) (wrap64 (x3_1 - 1)))) else (none)) else (none)) else (none))=some r:=by rw [if_pos rfl] at H;exact H
     clear H;have H:=H1;clear H1
     obtain ⟨c6,H⟩:=it_ H;have c6b0:=eq_true c6;have c6b1:=decide_eq_true c6;clear c6
     obtain ⟨c7,H⟩:=it_ H;have c7b0:=eq_true c7;have c7b1:=decide_eq_true c7;clear c7
     obtain ⟨c8,H⟩:=it_ H;have c8b0:=eq_true c8;have c8b1:=decide_eq_true c8;clear c8;obtain ⟨t316,A9,H⟩:=bi_ H;obtain ⟨y319,hy319⟩:∃ y_:List Int,y_=(([1]:List Int)):=⟨_,rfl⟩
     replace H:(Fl.l1 k1 t316 y319 (wrap64 (x3_1 - 1)))=some r:=by first|(rw [hy319];exact H)|(have H2_:=(Option.bind_some _ _).symm.trans H;first|exact H2_|(rw [hy319];exact H2_))|exact H
     have Ny319:=am hy319;clear hy319;have H':=am H;clear H
     try go_wp2_with (first|((with_reducible refine bf_ (f:=73) rfl ?_);refine goL_ (some 19) Try.func73 #[.slice A0 l0.length c0,.int .i64 x3_1] ?_;(with_reducible refine (Fz.calls k1 _ _ l0 x3_1 t307 _ ?side1 ?side2 A3.o).mono ?_);(case side1=>exact zC (Kd.bH_ HR0.o HB.o));(case side2=>exact HC0.o);rintro e w10 ⟨v308,rfl,ho0,hb⟩;refine ⟨_,rfl,?_⟩;have HO309:=am (Kd.S_lower ho0 (zs_ HB.o));replace HB:=am (bh_ (zB HB.o) hb);(try clear hb);(try clear ho0);obtain ⟨Ao11,co11,eo11⟩:=Kd.cP_ HO309.o;subst eo11)|((with_reducible refine bf_ (f:=55) rfl ?_);refine goL_ (some 20) Try.func55 #[.agg #[.slice Ao11 t307.length co11]] ?_;(with_reducible refine (Fat.calls k1 _ _ t307 t310 true _ ?side1 ?side2 A4.o).mono ?_);(case side1=>exact zC ((Kd.cl_ HO309.o).2.2));(case side2=>exact (Kd.cl_ HO309.o).2.1);rintro e w12 ⟨v311,rfl,ho0,hb⟩;refine ⟨_,rfl,?_⟩;have HO312:=am (Kd.dw_ (Kd.bJ_ (ok':=fun k_=>some k_≠(.slice Ao11 t307.length co11:Value).ownBlock) (Kd.dx_ ho0) (fun k_ hk0_=>have hk_:=And.intro trivial hk0_;(Kd.fresh' (Kd.S_lt (zS HO309.o)) k_ hk_.2.1))) (zs_ HB.o));replace HO309:=am (Kd.cC_ (zS HO309.o) hb);replace HB:=am (bh_ (zB HB.o) hb);(try clear hb);(try clear ho0))|((with_reducible refine bB_ (N:=4) rfl ?_);refine bU_ ?hg (N:=4) ?hd (cs:=#[.slice none 0 0]) (t:=52) ?hr ?_;(case hd=>rfl);(case hg=>rfl);(case hr=>first|(go_simp;done)|(go_simp;rfl));intro gb314 hg w13 hbox hb;replace HO309:=am (Kd.cC_ (zS HO309.o) hb);replace HO312:=am (Kd.V_below (Kd.dl_ (zV HO312.o) gb314 (Nat.le_of_eq hg.symm)) hb);have BK314:=am (hbox);have GW314:=am ((gw_ hg HB.o:w.heap.size≤gb314));have GE314:=am ((gw_ hg HB.o:w.heap.size≤gb314));replace HB:=am (bh_ (zB HB.o) hb);clear hb hbox hg;obtain ⟨Ao14,co14,eo14⟩:=Kd.V_slice HO312.o;subst eo14;have hcz15_0:w13.cell? ⟨gb314,0,none⟩=some (.slice none 0 0):=(bo_ BK314.o 0).trans rfl;have hfz15_0:=bs_ BK314.o 0))
     have n0_:ba_ (Kd.S (Kd.slice 5 (Kd.int .u8)) 22 (w13.setCell ⟨gb314,0,none⟩ (.slice Ao14 t310.length co14)) w.heap.size (fun _=>True) (.slice Ao11 t307.length co11) t307):=⟨zS (Kd.cH_ (Kd.S_far (p:=⟨gb314,0,none⟩) (Kd.S_types HO309.o BK314.o (by decide)) (fun _ hk=>hk.2) (.slice Ao14 t310.length co14)) (fun _ hk=>trivial))⟩
     have n1_:ba_ (Kd.V (Kd.slice 5 (Kd.int .u8)) 22 (w13.setCell ⟨gb314,0,none⟩ (.slice Ao14 t310.length co14)) w.heap.size (fun k_=>some k_≠(.slice Ao11 t307.length co11:Value).ownBlock∧k_≠gb314) (.slice Ao14 t310.length co14) t310):=⟨zV (Kd.bJ_ (Kd.V_far (p:=⟨gb314,0,none⟩) (Kd.bJ_ HO312.o (fun k_ hk=>(⟨hk,hk.2⟩:_∧k_≠gb314))) (fun _ hk=>hk.2) (.slice Ao14 t310.length co14)) (fun _ hk=>⟨hk.1.1,hk.1.2⟩))⟩
     have n2_:ba_ ((w13.setCell ⟨gb314,0,none⟩ (.slice Ao14 t310.length co14)).heap[gb314]? = some (.cells #[.slice Ao14 t310.length co14] 52 (0,0))):=⟨by (with_reducible repeat (first|apply bd_|apply bb_|apply bc_));refine cQ_ (cs:=#[.slice none 0 0]) ?_ 0 _ rfl;(with_reducible repeat (first|apply bd_|apply bb_|apply bc_));exact BK314.o⟩
     have n3_:ba_ (Below w.heap.size w (w13.setCell ⟨gb314,0,none⟩ (.slice Ao14 t310.length co14))):=⟨by repeat (first|(with_reducible first|exact HB.o|apply bk_|apply be_|apply bg_|refine bl_ ?_ GE314.o)|exact HB.o)⟩;(try clear HO309);(try clear HO312);(try clear BK314);(try clear HB);generalize (w13.setCell ⟨gb314,0,none⟩ (.slice Ao14 t310.length co14))=w16 at n0_ n1_ n2_ n3_ ⊢;have HO309:=n0_;have HO312:=n1_;have BK314:=n2_;have HB:=n3_;clear n0_ n1_ n2_ n3_;replace HO309:=am (Kd.S_drew HO309.o);replace HO312:=am (Kd.dg_ HO312.o);replace BK314:=am (bb_ BK314.o);replace HB:=am (bg_ HB.o);obtain ⟨i018,hi018,_,hsz18,_⟩:=info_parts info5;obtain ⟨A18,hcut18,hA18,hC18⟩:=print_mid_of (P:=Try.prog) (Value.int .u8) 0 22 5 .i64 .i64 Try.underlying22 hi018 hsz18 A0 c0 l0 x3_1 (wrap64 (2 * x3_1)) (od_) (by first|omega|exact od_) (od_) HC0.o;have HR315:=am (Kd.C_of_reads (h1:=fun _=>rfl) (hA18 _ (Kd.reads_of_C HR0.o)));have HC315:=am hC18;clear hA18 hC18 hi018 hsz18
     refine cS_ (n:=8) (S:=fun w'=>w'.cell? ⟨gb314,0,none⟩=some (.slice Ao14 t310.length co14)) (ds:=[]) #[false,false,false,false,false,false,false,false] (by kernel_rfl) rfl rfl ((bo_ BK314.o 0).trans rfl) (fun hHeld=>?_);refine cc_ Fl.tab6 Fl.bits6 (fun HT_ HW_=>?_)
     generalize w16.drew=w17 at HO309 HO312 BK314 HB HR315 hHeld ⊢
     refine pu_ (i:=1) (some 26) #[false,true,false,false,false,false,false,false] HT_ ?_
     refine pu_ (i:=2) (some 27) #[false,true,true,false,false,false,false,false] HT_ ?_
     refine pu_ (i:=3) (some 28) #[false,true,true,true,false,false,false,false] HT_ ?_
     refine pu_ (i:=4) (some 29) #[false,true,true,true,true,false,false,false] HT_ ?_
     refine pu_ (i:=5) (some 30) #[false,true,true,true,true,true,false,false] HT_ ?_
     refine ta_ (i:=0) (some 25) #[true,true,true,true,true,true,false,false] HT_ HW_ hHeld ?_
     refine one_ (i:=6) (N:=some 31) #[true,true,true,true,true,true,true,false] rfl rfl (bZ_ HT_.o (by kernel_rfl)) (by decide) (fun K hK=>?_)
     refine goes_ Try.func56 (by kernel_rfl) rfl #[.agg #[.slice Ao14 t310.length co14],.slice A18 ((l0.take ((wrap64 (2 * x3_1)):Int).toNat).drop (x3_1:Int).toNat).length (c0 - x3_1.toNat)] (by rfl) rfl rfl (by (try simp only [List.map_toArray,List.map_cons,List.map_nil]);first|done|(rw [show ((l0.take ((wrap64 (2 * x3_1)):Int).toNat).drop (x3_1:Int).toNat).length=((wrap64 (2 * x3_1)).toNat - x3_1.toNat) from (by rw [List.length_drop,List.length_take];have h_:((wrap64 (2 * x3_1)):Int)≤(l0.length:Int):=od_;omega)] <;> rfl)|rfl|(simp only [List.length_drop,List.length_take];rfl)) ?_
     with_reducible refine (Fai.calls k1 _ _ t310 _ _ ((l0.take ((wrap64 (2 * x3_1)):Int).toNat).drop (x3_1:Int).toNat) t316 _ ?side1 ?side2 ?side3 ?side4 A9.o).mono ?_
     (case side1=>exact zC ((Kd.df_ HO312.o).2.2))
     (case side2=>exact (Kd.df_ HO312.o).2.1)
     (case side3=>exact zC (Kd.bH_ HR315.o HB.o))
     (case side4=>exact HC315.o)
     rintro e w19 ⟨v317,rfl,ho0,hb⟩
     refine ⟨_,rfl,?_⟩
     replace HO309:=am (Kd.cZ_ (zS HO309.o) (Kd.bt_ ho0) hb)
     replace HO312:=am (Kd.bT_ (zV HO312.o) (Kd.bt_ ho0) hb)
     have HO318:=am (Kd.bx_ ho0 (zs_ HB.o))
     replace BK314:=am (bm_ (zK BK314.o) hb)
     replace HB:=am (bh_ (zB HB.o) hb);(try clear hb);(try clear ho0)
     refine hK.out _ _ ((bo_ BK314.o 0).trans rfl) (fun hHeld=>?_)
     clear hK K
     refine cp_ (a':=?_) ?_ ?_
     rotate_left
     ·show Act.put _ (some 31) _=_
      simp only [Act.put,List.setIfInBounds_toArray,List.set_cons_zero,List.set_cons_succ,bI_,bL_];rfl
     refine pu_ (i:=7) (some 6) #[true,true,true,true,true,true,true,true] HT_ ?_
     refine done_ (cD_ HT_.o (by kernel_rfl)) ?_
     try go_wp2_with (first|((with_reducible refine bB_ (N:=32) rfl ?_);refine Kd.R_lit (Kd.int .u8) _ 5 ?hg (N:=32) ?hd (xs:=([1]:List Int)) (inner:=[.int .u8 1]) (ok:=fun _=>True) (okp:=fun _=>True) ?hr ?hp (fun _ hk=>hk) trivial (Below.refl _ _) (Nat.le_refl _) (by simp) ?_;(case hd=>rfl);(case hg=>rfl);(case hr=>first|(go_simp;done)|(go_simp;rfl));(case hp=>exact (Reps.one (show Kd.M (Kd.int .u8) _ _ _ 1 [.int .u8 1] from rfl) (Reps.none _ _)));intro v320 w20 ho21 hb hg_ hnew_;clear hg_ hnew_;(first|rw [← Ny319.o] at ho21|(simp only [Int.reduceToNat] at ho21;rw [← Ny319.o] at ho21));replace HO309:=am (Kd.cZ_ (zS HO309.o) (Kd.bt_ ho21) hb);replace HO312:=am (Kd.bT_ (zV HO312.o) (Kd.bt_ ho21) hb);have HO321:=am (Kd.bx_ (Kd.bX_ ho21 (Kd.R_lt (zR HO318.o))) (zs_ HB.o));replace HO318:=am (Kd.bC_ (zR HO318.o) (Kd.bt_ ho21) hb);replace BK314:=am (bm_ (zK BK314.o) hb);replace HB:=am (bh_ (zB HB.o) hb);clear hb ho21))
     go_loopg [7,8] k1 (fun kq v7 v8 w'=>∃ (x7_2:List Int) (x8_2:Int),v8 = .int .i64 x8_2∧ba_ (Fl.l1 kq t316 x7_2 x8_2=some r)∧ba_ (kq≤k1)∧ba_ (Kd.R (Kd.int .u8) 5 w' w.heap.size (fun k_=>some k_≠(v7:Value).ownBlock) v317 t316)∧ba_ (Kd.R (Kd.int .u8) 5 w' w.heap.size (fun k_=>some k_≠(v317:Value).ownBlock) v7 x7_2)∧ba_ (Kd.V (Kd.slice 5 (Kd.int .u8)) 22 w' w.heap.size (fun k_=>some k_≠(v317:Value).ownBlock∧some k_≠(v7:Value).ownBlock∧k_≠gb314) (.slice Ao14 t310.length co14) t310)∧ba_ (w'.heap[gb314]? = some (.cells #[(.slice Ao14 t310.length co14)] 52 (0,0)))∧ba_ (Below w.heap.size w w'))
     case atStart=>exact ⟨(y319),(wrap64 (x3_1 - 1)),rfl,H',⟨Nat.le_refl _⟩,⟨zR (Kd.bq_ HO318.o (fun _ hk=>hk.2))⟩,⟨zR (Kd.bq_ HO321.o (fun _ hk=>hk.2))⟩,⟨zV (Kd.bJ_ HO312.o (fun _ hk=>⟨hk.1.2,⟨hk.2,hk.1.1.2⟩⟩))⟩,⟨zK BK314.o⟩,⟨zB HB.o⟩⟩
     case round =>
      clear H';(try clear hfz15_0);obtain ⟨x7_2,x8_2,rfl,HA,HK2,HO_6,HO_7,HO_bb,BK314,HB⟩:=hrel
      cases gk with
      | zero=>exact absurd HA.o (by simp [Fl.l1])
      | succ k2 =>
       have H:=HA.o;clear HA
       simp only [Fl.l1] at H
       by_cases c22:x8_2 ≥ 0
       ·rw [if_pos c22] at H;have c22b0:decide (0≤x8_2)=true:=decide_eq_true c22;clear c22
        obtain ⟨c23,H⟩:=it_ H;have c23b0:=decide_eq_true c23;clear c23
        obtain ⟨c24,H⟩:=it_ H;have c24b0:=decide_eq_true c24;clear c24
        obtain ⟨c25,H⟩:=it_ H;have LMc25:=am c25;clear c25;obtain ⟨y323,hy323⟩:∃ y_:List Int,y_=(x7_2++[rd t316 x8_2]):=⟨_,rfl⟩
        replace H:(Fl.l1 k2 t316 y323 (wrap64 (x8_2 - 1)))=some r:=by first|(rw [hy323];exact H)|(have H2_:=(Option.bind_some _ _).symm.trans H;first|exact H2_|(rw [hy323];exact H2_))|exact H
        have Ny323:=am hy323;clear hy323;have H':=am H;clear H;obtain ⟨Ao26,co26,eo26⟩:=Kd.bv_ HO_6.o
        subst eo26
        have p322:0≤(x8_2:Int):=od_;have q322:x8_2<(t316.length:Int):=od_;obtain ⟨ad322,e322,hx322_0⟩:=Kd.bK_ (Kd.bj_ HO_6.o).2.2 x8_2 p322 q322;cases e322;replace p322:=eq_true p322;replace q322:=eq_true q322
        go_wp2_with (first|((with_reducible refine bE_ (b:=.append) (xs:=#[.tmp 39,.tmp 44]) rfl ?_);at_builtin;refine Kd.cY_ (Kd.int .u8) (w0:=w) w.heap.size rfl (.tmp 39) (.tmp 44) 22 5 (.int .u8 0) 1 rfl Try.underlying22 info5 rfl (by decide) (by omega) u7 x7_2 (rd t316 x8_2) [.int .u8 (rd t316 x8_2)] (fun k_=>some k_≠(.slice (some ad322) t316.length co26:Value).ownBlock) (fun _=>False) rfl rfl ?aP (fun _ hk=>hk.elim) ?aF ?aO ?aB ?aS ?aL ?_;(case aP=>exact rfl);(case aB=>exact (zB HB.o));(case aF=>exact (fun k_ hk=>Kd.fresh' (Kd.R_lt (zR HO_6.o)) k_ hk));(case aO=>exact (zR HO_7.o));(case aS=>exact (zs_ HB.o));(case aL=>have:=LMc25.o;omega);intro v324 w27 ho hb hg hat;rw [← Ny323.o] at ho;replace HO_6:=am (Kd.dy_ (ok:=(fun _=>True)) (zR (Kd.bq_ HO_6.o (fun _ hk=>⟨trivial,hk⟩))) hg hat);replace HO_bb:=am (Kd.V_afterv (ok:=(fun k_=>some k_≠(.slice (some ad322) t316.length co26:Value).ownBlock∧k_≠gb314)) (zV (Kd.bJ_ HO_bb.o (fun _ hk=>⟨⟨hk.1,hk.2.2⟩,hk.2.1⟩))) hg hat);replace BK314:=am (ce_ (zK BK314.o) hg (Kd.R_ne HO_7.o BK314.o (by decide)));replace HB:=am (hb);have HO325:=am (ho);(try clear HO_7);clear ho hb hg hat))
        go_roundg k2
        case measure=>have:=HK1.o;have:=HK2.o;omega
        case rel=>exact ⟨(y323),(wrap64 (x8_2 - 1)),rfl,H',⟨by have:=HK1.o;have:=HK2.o;omega⟩,⟨zR (Kd.bq_ HO_6.o (fun _ hk=>hk.2))⟩,⟨zR HO325.o⟩,⟨zV (Kd.bJ_ HO_bb.o (fun _ hk=>⟨hk.1.1,⟨hk.2,hk.1.2⟩⟩))⟩,⟨zK BK314.o⟩,⟨zB HB.o⟩⟩
       ·rw [if_neg c22] at H;have c22b0:decide (0≤x8_2)=false:=decide_eq_false c22;clear c22;obtain rfl:=Option.some.inj H
        go_wp2
        go_ret
        exact ⟨_,rfl,zR (Kd.bq_ HO_7.o (fun _ hk=>trivial)),zB HB.o⟩
    ·replace c5:=Bool.eq_false_iff.mpr c5
     subst c5
     have H1:(Fl.l0 k1 l0 (wrap64 (x3_1 - 1)))=some r:=by rw [if_neg (show ¬ (false=true) by decide)] at H;exact H
     clear H;have H:=H1;clear H1;have H':=am H;clear H
     go_wp2_with (first|((with_reducible refine bf_ (f:=73) rfl ?_);refine goL_ (some 19) Try.func73 #[.slice A0 l0.length c0,.int .i64 x3_1] ?_;(with_reducible refine (Fz.calls k1 _ _ l0 x3_1 t307 _ ?side1 ?side2 A3.o).mono ?_);(case side1=>exact zC (Kd.bH_ HR0.o HB.o));(case side2=>exact HC0.o);rintro e w28 ⟨v308,rfl,ho0,hb⟩;refine ⟨_,rfl,?_⟩;have HO309:=am (Kd.S_lower ho0 (zs_ HB.o));replace HB:=am (bh_ (zB HB.o) hb);(try clear hb);(try clear ho0);obtain ⟨Ao29,co29,eo29⟩:=Kd.cP_ HO309.o;subst eo29)|((with_reducible refine bf_ (f:=55) rfl ?_);refine goL_ (some 20) Try.func55 #[.agg #[.slice Ao29 t307.length co29]] ?_;(with_reducible refine (Fat.calls k1 _ _ t307 t310 false _ ?side1 ?side2 A4.o).mono ?_);(case side1=>exact zC ((Kd.cl_ HO309.o).2.2));(case side2=>exact (Kd.cl_ HO309.o).2.1);rintro e w30 ⟨v311,rfl,ho0,hb⟩;refine ⟨_,rfl,?_⟩;have HO312:=am (Kd.dw_ (Kd.bJ_ (ok':=fun k_=>some k_≠(.slice Ao29 t307.length co29:Value).ownBlock) (Kd.dx_ ho0) (fun k_ hk0_=>have hk_:=And.intro trivial hk0_;(Kd.fresh' (Kd.S_lt (zS HO309.o)) k_ hk_.2.1))) (zs_ HB.o));replace HO309:=am (Kd.cC_ (zS HO309.o) hb);replace HB:=am (bh_ (zB HB.o) hb);(try clear hb);(try clear ho0))|((with_reducible refine bB_ (N:=4) rfl ?_);refine bU_ ?hg (N:=4) ?hd (cs:=#[.slice none 0 0]) (t:=52) ?hr ?_;(case hd=>rfl);(case hg=>rfl);(case hr=>first|(go_simp;done)|(go_simp;rfl));intro gb314 hg w31 hbox hb;replace HO309:=am (Kd.cC_ (zS HO309.o) hb);replace HO312:=am (Kd.V_below (Kd.dl_ (zV HO312.o) gb314 (Nat.le_of_eq hg.symm)) hb);have BK314:=am (hbox);have GW314:=am ((gw_ hg HB.o:w.heap.size≤gb314));have GE314:=am ((gw_ hg HB.o:w.heap.size≤gb314));replace HB:=am (bh_ (zB HB.o) hb);clear hb hbox hg;obtain ⟨Ao32,co32,eo32⟩:=Kd.V_slice HO312.o;subst eo32;have hcz33_0:w31.cell? ⟨gb314,0,none⟩=some (.slice none 0 0):=(bo_ BK314.o 0).trans rfl;have hfz33_0:=bs_ BK314.o 0))
     go_roundg k1
     case measure=>have:=HK1.o;omega
     case rel=>exact ⟨(wrap64 (x3_1 - 1)),rf_,H',⟨by have:=HK1.o;omega⟩,⟨by repeat (first|(with_reducible first|exact HB.o|apply bk_|apply be_|apply bg_|refine bl_ ?_ GE314.o)|exact HB.o)⟩⟩
   ·rw [if_neg c2] at H;have c2b0:decide (0<x3_1)=false:=decide_eq_false c2;clear c2;(try rw [Option.bind_some] at H);generalize hy304:(([1]:List Int))=y304 at H;have Ny304:=am hy304.symm;clear hy304;obtain rfl:=Option.some.inj H
    go_wp2_with (first|((with_reducible refine bB_ (N:=47) rfl ?_);refine Kd.R_lit (Kd.int .u8) _ 5 ?hg (N:=47) ?hd (xs:=([1]:List Int)) (inner:=[.int .u8 1]) (ok:=fun _=>True) (okp:=fun _=>True) ?hr ?hp (fun _ hk=>hk) trivial (Below.refl _ _) (Nat.le_refl _) (by simp) ?_;(case hd=>rfl);(case hg=>rfl);(case hr=>first|(go_simp;done)|(go_simp;rfl));(case hp=>exact (Reps.one (show Kd.M (Kd.int .u8) _ _ _ 1 [.int .u8 1] from rfl) (Reps.none _ _)));intro v305 w34 ho35 hb hg_ hnew_;clear hg_ hnew_;(first|rw [← Ny304.o] at ho35|(simp only [Int.reduceToNat] at ho35;rw [← Ny304.o] at ho35));have HO306:=am (Kd.bx_ ho35 (zs_ HB.o));replace HB:=am (bh_ (zB HB.o) hb);clear hb ho35))
    go_ret
    exact ⟨_,rfl,zR HO306.o,zB HB.o⟩

end Go.Proofs.Ytbloniemhkfnlaa.PFnCorrected
