/- A law's functions as plain Lean functions, each with the walk that shows that the code computes it: written by this session's program wip/tools/ppmake.py. -/
import Derived.Test.YtbloniemhkfnlaaKZ
import Derived.Test.YtbloniemhkfnlaaPFnCorrectedx0
import Derived.Test.YtbloniemhkfnlaaPFnCorrectedx13
import Derived.Test.YtbloniemhkfnlaaPFnCorrectedx15
namespace Go.Proofs.Ytbloniemhkfnlaa.PFnCorrected
open Go.RowKit Go.Proofs.YtbloniemhkfnlaaW.PrintWords Go.Proofs.YtbloniemhkfnlaaW.PrintLast Go.Proofs.YtbloniemhkfnlaaW.PrintMore
attribute [local go_sem] cw_ cy_ cK_ cL_ ci_ ch_ cx_ cv_   -- for this text's walks alone
set_option linter.unusedVariables false
set_option linter.unusedSimpArgs false

/-! ### slices_Reverse_byte_byte: function 75 -/
def Fae.l0:Nat→List Int→Int→Int→Option (List Int)
 | 0,_,_,_=>none
 | k+1,x0,x2,x3=>if x2<x3 then (if 0≤x3 then (if x3<(x0.length:Int) then (if 0≤x2 then (if x2<(x0.length:Int) then (Fae.l0 k ((x0.set (x2:Int).toNat (rd x0 x3)).set (x3:Int).toNat (rd x0 x2)) (wrap64 (x2+1)) (wrap64 (x3 - 1))) else (none)) else (none)) else (none)) else (none)) else (some x0)
def Fae.f (k:Nat) (l0:List Int):Option (List Int):=Fae.l0 k l0 0 (wrap64 ((l0.length:Int) - 1))
def Fae.T3:Bool × List (List Nat × List Nat):=(true,[([],[]),([],[]),([],[]),([],[]),([],[]),([],[]),([4,5],[4,5]),([6],[6]),([],[]),([],[]),([8,9],[8,9]),([10],[10]),([0,1,0,1,4,5,6,7,11],[0,1]),([12,7,0,1,4,5,6,7,11],[7,12]),([2,3,0,1,2,3,4,5,6,7,8,9,10,11,12,13],[2,3]),([14,11,13,0,1,2,3,4,5,6,7,8,9,10,11,12,13],[11,14])])
def Fae.B3:List Nat:=[0,0,0,0,0,0,48,112,0,0,768,1792,4083,8179,16383,32767]
theorem Fae.tab3:rtab .any (opsOf Try.f75 3)=Fae.T3:=by kernel_rfl
theorem Fae.bits3:waitsOk Fae.T3.2 Fae.B3=true:=by kernel_rfl
set_option maxHeartbeats 8000000 in
set_option maxRecDepth 100000 in
theorem Fae.calls (k:Nat) (P0_:Nat→Prop) (u9000_:Value) (l0:List Int) (r:List Int) (w0 w:World) (hB:Below w0.heap.size w0 w) (ho0:Kd.R (Kd.int .u8) 5 w w0.heap.size P0_ u9000_ l0) (h:Fae.f k l0=some r) :
  Calls Try.prog 75 #[u9000_] w fun e w'=>e = .returned (.tuple #[])∧Kd.R (Kd.int .u8) 5 w' w0.heap.size (fun k_=>(P0_ k_∨w.heap.size≤k_)) u9000_ r∧Below w0.heap.size w0 w'∧Kept w w' (fun k_=>P0_ k_):=by
 have HO0:=am (show Kd.R (Kd.int .u8) 5 w w0.heap.size (fun k_=>(P0_ k_∨w.heap.size≤k_)) u9000_ l0 from Kd.bq_ ho0 (fun k_ hk=>(.inl hk)));have HK:=am (Kept.refl w (fun k_=>P0_ k_));have HW0:=am hB.size;have HB:=am hB;clear hB;have H:(Fae.l0 k l0 0 (wrap64 ((l0.length:Int) - 1)))=some r:=h;clear h;have H':=am H;clear H;obtain ⟨Ao2,co2,eo2⟩:=Kd.bv_ HO0.o
 subst eo2
 go_enter Try.func75,Try.ntmps75
 go_wp2
 go_loopg [2,3] k (fun kq v2 v3 w'=>∃ (x0_1:List Int) (x2_1:Int) (x3_1:Int),v2 = .int .i64 x2_1∧v3 = .int .i64 x3_1∧ba_ (Fae.l0 kq x0_1 x2_1 x3_1=some r)∧ba_ (kq≤k)∧ba_ (Kd.R (Kd.int .u8) 5 w' w0.heap.size (fun k_=>(P0_ k_∨w.heap.size≤k_)) (.slice Ao2 l0.length co2) x0_1)∧ba_ (Kept w w' (fun k_=>P0_ k_))∧ba_ (Below w0.heap.size w0 w'))
 case atStart=>exact ⟨(l0),(0),(wrap64 ((l0.length:Int) - 1)),rfl,rfl,H',⟨Nat.le_refl _⟩,⟨zR HO0.o⟩,⟨by repeat (first|(with_reducible first|exact HK.o|apply Kept.alloc|apply Kept.drewN|apply Kept.drew)|exact HK.o)⟩,⟨zB HB.o⟩⟩
 case round =>
  clear H';obtain ⟨x0_1,x2_1,x3_1,rfl,rfl,HA,HK1,HO_0,HK,HB⟩:=hrel;have hl0_1:=(Kd.bj_ HO_0.o).1;rw [hl0_1] at HO_0
  (try simp only [hl0_1])
  cases gk with
  | zero=>exact absurd HA.o (by simp [Fae.l0])
  | succ k1 =>
   have H:=HA.o;clear HA
   simp only [Fae.l0] at H
   by_cases c3:x2_1<x3_1
   ·rw [if_pos c3] at H;have c3b0:=decide_eq_true c3;clear c3
    obtain ⟨c4,H⟩:=it_ H;have c4b0:=decide_eq_true c4;clear c4
    obtain ⟨c5,H⟩:=it_ H;have c5b0:=decide_eq_true c5
    try simp only [hl0_1] at c5b0
    clear c5
    obtain ⟨c6,H⟩:=it_ H;have c6b0:=decide_eq_true c6;clear c6
    obtain ⟨c7,H⟩:=it_ H;have c7b0:=decide_eq_true c7
    try simp only [hl0_1] at c7b0
    clear c7;(try rw [Option.bind_some] at H);generalize hy426:(x0_1.set (x2_1:Int).toNat (rd x0_1 x3_1))=y426 at H;have Ny426:=am hy426.symm;clear hy426;obtain ⟨y427,hy427⟩:∃ y_:List Int,y_=(y426.set (x3_1:Int).toNat (rd x0_1 x2_1)):=⟨_,rfl⟩
    replace H:(Fae.l0 k1 y427 (wrap64 (x2_1+1)) (wrap64 (x3_1 - 1)))=some r:=by first|(rw [hy427];exact H)|(have H2_:=(Option.bind_some _ _).symm.trans H;first|exact H2_|(rw [hy427];exact H2_))|exact H
    have Ny427:=am hy427;clear hy427;have H':=am H;clear H
    try go_wp2
    replace HO_0:=am (Kd.bP_ HO_0.o);replace HK:=am (Kept.drew HK.o);replace HB:=am (bg_ HB.o);have p424:0≤(x3_1:Int):=od_;have q424:x3_1<(x0_1.length:Int):=od_;obtain ⟨ad424,e424,hx424_0⟩:=Kd.bK_ (Kd.bj_ HO_0.o).2.2 x3_1 p424 q424;cases e424;replace p424:=eq_true p424;replace q424:=eq_true q424;have p425:0≤(x2_1:Int):=od_;have q425:x2_1<(x0_1.length:Int):=od_;obtain ⟨ad425,e425,hx425_0⟩:=Kd.bK_ (Kd.bj_ HO_0.o).2.2 x2_1 p425 q425;obtain rfl:ad424=ad425:=(by injection e425);replace p425:=eq_true p425;replace q425:=eq_true q425;have p8:0≤(x2_1:Int):=od_;have q8:(x2_1:Int)<((x0_1.length:Int):Int):=od_;obtain ⟨go8,co8,eo8,gb8,gl8,cl8,HG8⟩:=Kd.R_form HO_0.o (by omega)
    (first|cases eo8|(injection eo8 with ea_ en_ ec_;(first|subst ea_|(injection ea_ with ea_;subst ea_));subst ec_;clear en_))
    have GB8:=am gb8;have GG8:=am HG8;clear gb8 gl8 HG8;have HMgo8:=am (show (P0_ go8∨w.heap.size≤go8) from (HO_0.o.1 _ rfl))
    (first|simp only [add_plain] at hx424_0|skip)
    (first|simp only [add_plain] at hx425_0|skip)
    obtain ⟨hx8_0,hf8_0⟩:=Kd.R_celln 0 HO_0.o (x2_1:Int) p8 q8;replace p8:=eq_true p8;replace q8:=eq_true q8;have HP11:=Kd.R_putn HO_0.o (x2_1:Int) (rd x0_1 x3_1);rw [← Ny426.o] at HP11;have HQ11:=am HP11;clear HP11;have p9:0≤(x3_1:Int):=od_;have q9:(x3_1:Int)<((x0_1.length:Int):Int):=od_;obtain ⟨hx9_0,hf9_0⟩:=Kd.R_celln 0 HQ11.o (x3_1:Int) p9 q9;replace p9:=eq_true p9;replace q9:=eq_true q9;have HP12:=Kd.R_putn HQ11.o (x3_1:Int) (rd x0_1 x2_1);rw [← Ny427.o] at HP12;have HQ12:=am HP12;clear HP12
    refine cS_ (n:=16) (S:=fun w'=>w'.cell? ⟨go8,(x3_1).toNat,none⟩=some (.int .u8 (rd x0_1 x3_1))∧w'.cell? ⟨go8,(x2_1).toNat,none⟩=some (.int .u8 (rd x0_1 x2_1))) (ds:=[13,15]) #[false,false,false,false,false,false,false,false,false,false,false,false,false,false,false,false] (by kernel_rfl) rfl rfl ⟨hx424_0,hx425_0⟩ (fun hHeld=>?_);refine cc_ Fae.tab3 Fae.bits3 (fun HT_ HW_=>?_)
    generalize wr.drew=w10 at HO_0 HK HB GG8 HQ11 HQ12 hf8_0 hf9_0 hx424_0 hx425_0 hx8_0 hx9_0 hHeld ⊢
    refine pu_ (i:=0) (some 14) #[true,false,false,false,false,false,false,false,false,false,false,false,false,false,false,false] HT_ ?_
    refine pu_ (i:=1) (some 15) #[true,true,false,false,false,false,false,false,false,false,false,false,false,false,false,false] HT_ ?_
    refine pu_ (i:=2) (some 16) #[true,true,true,false,false,false,false,false,false,false,false,false,false,false,false,false] HT_ ?_
    refine pu_ (i:=3) (some 17) #[true,true,true,true,false,false,false,false,false,false,false,false,false,false,false,false] HT_ ?_
    refine pu_ (i:=4) (some 18) #[true,true,true,true,true,false,false,false,false,false,false,false,false,false,false,false] HT_ ?_
    refine pu_ (i:=5) (some 19) #[true,true,true,true,true,true,false,false,false,false,false,false,false,false,false,false] HT_ ?_
    refine pu_ (i:=6) (some 20) #[true,true,true,true,true,true,true,false,false,false,false,false,false,false,false,false] HT_ ?_
    refine pu_ (i:=8) (some 22) #[true,true,true,true,true,true,true,false,true,false,false,false,false,false,false,false] HT_ ?_
    refine pu_ (i:=9) (some 23) #[true,true,true,true,true,true,true,false,true,true,false,false,false,false,false,false] HT_ ?_
    refine pu_ (i:=10) (some 24) #[true,true,true,true,true,true,true,false,true,true,true,false,false,false,false,false] HT_ ?_
    refine ta_ (i:=7) (some 21) #[true,true,true,true,true,true,true,true,true,true,true,false,false,false,false,false] HT_ HW_ hHeld ?_
    refine ta_ (i:=11) (some 25) #[true,true,true,true,true,true,true,true,true,true,true,true,false,false,false,false] HT_ HW_ hHeld ?_
    refine pu_ (i:=12) (some 26) #[true,true,true,true,true,true,true,true,true,true,true,true,true,false,false,false] HT_ ?_
    refine last_ (i:=13) (N:=none) #[true,true,true,true,true,true,true,true,true,true,true,true,true,true,false,false] rfl rfl (bZ_ HT_.o (by kernel_rfl)) (by decide) (fun K hK=>?_)
    refine skip_ (w1:=?_) (by rfl) rfl ?_ ?_
    rotate_left
    ·go_simp;rfl
    refine hK.out _ _ ?_
    clear hK K
    refine pu_ (i:=14) (some 27) #[true,true,true,true,true,true,true,true,true,true,true,true,true,true,true,false] HT_ ?_
    refine last_ (i:=15) (N:=none) #[true,true,true,true,true,true,true,true,true,true,true,true,true,true,true,true] rfl rfl (bZ_ HT_.o (by kernel_rfl)) (by decide) (fun K hK=>?_)
    refine skip_ (w1:=?_) (by rfl) rfl ?_ ?_
    rotate_left
    ·go_simp;rfl
    refine hK.out _ _ ?_
    clear hK K
    refine done_ (cD_ HT_.o (by kernel_rfl)) ?_
    try go_wp2
    (try simp only [← hl0_1])
    go_roundg k1
    case measure=>have:=HK1.o;omega
    case rel=>exact ⟨(y427),(wrap64 (x2_1+1)),(wrap64 (x3_1 - 1)),rf_,rf_,H',⟨by have:=HK1.o;omega⟩,⟨by (try simp only [hl0_1]);(with_reducible repeat (first|apply Kd.bW_|apply Kd.bV_|apply Kd.bP_));exact HQ12.o⟩,⟨by repeat (first|(with_reducible first|exact HK.o|apply Kept.alloc|apply Kept.drewN|apply Kept.drew|refine Kept.setCell ?_ HMgo8.o _|refine Kept.setCell ?_ HMgo8.o _)|exact HK.o)⟩,⟨by repeat (first|(with_reducible first|exact HB.o|apply bk_|apply be_|apply bg_|refine bl_ ?_ GB8.o|refine bl_ ?_ GB8.o)|exact HB.o)⟩⟩
   ·rw [if_neg c3] at H;have c3b0:=decide_eq_false c3;clear c3;obtain rfl:=Option.some.inj H
    go_wp2
    first|go_end0|((try simp only [Exit.inBlock,Exit.then]);refine bodyPost_ret (results_none rfl _ _ _) rfl ?_)
    exact ⟨rfl,(by first|exact (zR HO_0.o)|(simp only [hl0_1];exact (zR HO_0.o))),zB HB.o,by repeat (first|(with_reducible first|exact HK.o|apply Kept.alloc|apply Kept.drewN|apply Kept.drew)|exact HK.o)⟩

/-! ### impl_locator: function 51 -/
/-- The number at the sum of two places. -/
def Fbd.at_ (s:List Int) (i k:Int):Option Int:=if 0≤wrap64 (i+k) then (if wrap64 (i+k)<(s.length:Int) then some (rd s (wrap64 (i+k))) else none) else none
def Fbd.f (k:Nat) (a0 a1:Int) (s:List Int):Option (List (List Int)):=Fs.f (Fbd.at_ s) k a0 a1
set_option maxHeartbeats 4000000 in
set_option maxRecDepth 100000 in
theorem Fbd.asks (B:Nat) (A0:Option Addr) (c0:Nat) (s:List Int) (w:World) (hb:w.cell? ⟨B,0,none⟩=some (.slice A0 s.length c0)) (hr:Kd.C (Kd.int .u8) w A0 s.length s) (i j b:Int) (h:Fbd.at_ s i j=some b) :
  Calls Try.prog 74 #[.int .i64 i,.int .i64 j,.pointer (some ⟨B,0,none⟩)] w fun e w'=>e = .returned (.int .u8 b)∧bp_ w w':=by
 unfold Fbd.at_ at h
 by_cases h0:0≤wrap64 (i+j)
 ·rw [if_pos h0] at h
  by_cases h1:wrap64 (i+j)<(s.length:Int)
  ·rw [if_pos h1] at h;obtain rfl:=Option.some.inj h;obtain ⟨ad,e1,hx⟩:=Kd.bK_ hr _ h0 h1;cases e1;obtain ⟨x,hwx⟩:∃ x,wrap64 (i+j)=x:=⟨_,rfl⟩;have hwi:IntKind.i64.wrap (i+j)=x:=(bI_ _).trans hwx;rw [hwx] at h0 h1 hx ⊢;replace h0:=eq_true h0;replace h1:=eq_true h1;clear hr h hwx
   go_enter Try.func74,Try.ntmps74
   go_wp2
   first
    | (go_ret;exact ⟨rfl,bp_.refl _⟩)
    | (go_quiet (fail);go_wp2;go_ret;exact ⟨rfl,(bp_.refl _).step _⟩)
  ·rw [if_neg h1] at h;cases h
 ·rw [if_neg h0] at h;cases h
theorem Fbd.calls (k:Nat) (a0 a1:Int) (A0:Option Addr) (c0:Nat) (s:List Int) (r:List (List Int)) (w:World) (B:Nat) (hb:w.cell? ⟨B,0,none⟩=some (.slice A0 s.length c0)) (hr:Kd.C (Kd.int .u8) w A0 s.length s) (h:Fbd.f k a0 a1 s=some r) :
  Calls Try.prog 60 #[.int .i64 a0,.int .i64 a1,.func (.func 74) #[] #[.pointer (some ⟨B,0,none⟩)]] w fun e w'=>∃ v0_:Value,e = .returned (v0_)∧Kd.S (Kd.slice 5 (Kd.int .u8)) 22 w' w.heap.size (fun _=>True) v0_ r∧Below w.heap.size w w':=by
 refine Fs.calls (Fbd.at_ s) 74 #[.pointer (some ⟨B,0,none⟩)] (enters_of Try.func74 (by kernel_rfl) rfl) k a0 a1 r w (fun W i j b hW hq=>?_) h
 exact Fbd.asks B A0 c0 s W ((hW.cell (World.block_lt_of_cell? w _ hb)).trans hb) (Kd.bH_ hr hW) i j b hq
def Far.l0:Nat→List Int→Int→Option (List Int)
 | 0,_,_=>none
 | k+1,x1,x3=>if x3 > 0 then ((Fbd.f k x3 x3 x1).bind fun t271=>(if 0≤x3 then (if x3≤(wrap64 (2 * x3)) then (if (wrap64 (2 * x3))≤(x1.length:Int) then ((Fag.f k t271 ((x1.take ((wrap64 (2 * x3)):Int).toNat).drop (x3:Int).toNat)).bind fun bt275=>(if bt275.2=true then ((Fae.f k bt275.1).bind fun t279=>((some (([1]:List Int):List Int)).bind fun y280=>(if y280.length+t279.length<140737488355328 then (some (y280++t279)) else (none)))) else (Far.l0 k x1 (wrap64 (x3 - 1))))) else (none)) else (none)) else (none))) else (some (([1]:List Int)))
def Far.f (k:Nat) (l0:List Int):Option (List Int):=Far.l0 k l0 (wrap64 ((l0.length:Int) / 2))
set_option maxHeartbeats 8000000 in
set_option maxRecDepth 100000 in
theorem Far.calls (k:Nat) (A0:Option Addr) (c0:Nat) (l0:List Int) (r:List Int) (w0_:World) (hr0:Kd.C (Kd.int .u8) w0_ A0 l0.length l0) (hc0:l0.length≤c0) (h:Far.f k l0=some r) :
  Calls Try.prog 51 #[.slice A0 l0.length c0] w0_ fun e w'=>∃ v0_:Value,e = .returned (v0_)∧Kd.R (Kd.int .u8) 5 w' w0_.heap.size (fun _=>True) v0_ r∧Below w0_.heap.size w0_ w':=by
 have HR0:=am hr0;have HC0:=am hc0;clear hr0 hc0;have HB0_:=am (Below.refl w0_.heap.size w0_);have H:(Far.l0 k l0 (wrap64 ((l0.length:Int) / 2)))=some r:=h;clear h;have H':=am H;clear H
 go_enter Try.func51,Try.ntmps51
 go_upto_region 1 with (first|((with_reducible refine bB_ (N:=1) rfl ?_);refine bU_ ?hg (N:=1) ?hd (cs:=#[.slice A0 l0.length c0]) (t:=22) ?hr ?_;(case hd=>rfl);(case hg=>rfl);(case hr=>first|(go_simp;done)|(go_simp;rfl));intro g0_ hg w hbox hb;have nb_:=am (bh_ (zB HB0_.o) hb);clear HB0_;have HB0_:=nb_;clear nb_;have BX0_:=am hbox;clear hb hbox hg))
 have HBX0_:ba_ (w.cell? ⟨g0_,0,none⟩=some (.slice A0 l0.length c0)):=⟨(bo_ BX0_.o 0).trans rfl⟩;have HB:=am (Below.refl w.heap.size w);have nr_:=am (Kd.bH_ HR0.o HB0_.o);clear HR0;have HR0:=nr_;clear nr_;have hz0_:=HBX0_.o
 go_wp2
 clear hz0_
 go_loopg [3] k (fun kq v3 w'=>∃ (x3_1:Int),v3 = .int .i64 x3_1∧ba_ (Far.l0 kq l0 x3_1=some r)∧ba_ (kq≤k)∧ba_ (Below w.heap.size w w'))
 case atStart=>exact ⟨(wrap64 ((l0.length:Int) / 2)),rfl,H',⟨Nat.le_refl _⟩,⟨zB HB.o⟩⟩
 case round =>
  clear H';obtain ⟨x3_1,rfl,HA,HK1,HB⟩:=hrel
  cases gk with
  | zero=>exact absurd HA.o (by simp [Far.l0])
  | succ k1 =>
   have H:=HA.o;clear HA
   simp only [Far.l0] at H
   by_cases c2:x3_1 > 0
   ·rw [if_pos c2] at H;have c2b0:decide (0<x3_1)=true:=decide_eq_true c2;clear c2;obtain ⟨t271,A3,H⟩:=bi_ H
    obtain ⟨c4,H⟩:=it_ H;have c4b0:=eq_true c4;have c4b1:=decide_eq_true c4;clear c4
    obtain ⟨c5,H⟩:=it_ H;have c5b0:=eq_true c5;have c5b1:=decide_eq_true c5;clear c5
    obtain ⟨c6,H⟩:=it_ H;have c6b0:=eq_true c6;have c6b1:=decide_eq_true c6;clear c6;obtain ⟨⟨t275,t276⟩,A7,H⟩:=bi_ H;dsimp only at H
    by_cases c8:t276=true
    ·subst c8
     have H1:((Fae.f k1 t275).bind fun t279=>((some (([1]:List Int):List Int)).bind fun y280=>(if y280.length+t279.length<140737488355328 then (some (y280++t279)) else (none))))=some r:=by rw [if_pos rfl] at H;exact H
     clear H;have H:=H1;clear H1;obtain ⟨t279,A9,H⟩:=bi_ H;(try rw [Option.bind_some] at H);generalize hy280:(([1]:List Int))=y280 at H;have Ny280:=am hy280.symm;clear hy280
     obtain ⟨c10,H⟩:=it_ H;have LMc10:=am c10;clear c10;obtain ⟨y283,hy283⟩:∃ y_:List Int,y_=(y280++t279):=⟨_,rfl⟩
     replace H:(some y283)=some r:=by first|(rw [hy283];exact H)|(have H2_:=(Option.bind_some _ _).symm.trans H;first|exact H2_|(rw [hy283];exact H2_))|exact H
     have Ny283:=am hy283;clear hy283;obtain rfl:=Option.some.inj H;have hz0_:=(HB.o.cell (World.block_lt_of_cell? w _ HBX0_.o)).trans HBX0_.o
     go_wp2_with (first|((with_reducible refine bf_ (f:=60) rfl ?_);refine goL_ (some 17) Try.func60 #[.int .i64 x3_1,.int .i64 x3_1,.func (.func 74) #[] #[.pointer (some ⟨g0_,0,none⟩)]] ?_;(with_reducible refine (Fbd.calls k1 x3_1 x3_1 A0 c0 l0 t271 _ g0_ (by first|exact hz0_|simpa using hz0_) ?side1 A3.o).mono ?_);(case side1=>exact zC (Kd.bH_ HR0.o HB.o));rintro e w11 ⟨v272,rfl,ho0,hb⟩;refine ⟨_,rfl,?_⟩;have n0_:=am (Kd.S_lower ho0 (zs_ HB.o));have n1_:=am (bh_ (zB HB.o) hb);clear HB;have HO273:=n0_;have HB:=n1_;have hz0_:=(HB.o.cell (World.block_lt_of_cell? w _ HBX0_.o)).trans HBX0_.o;clear n0_ n1_;(try clear hb);(try clear ho0);obtain ⟨i012,hi012,_,hsz12,_⟩:=info_parts info5;obtain ⟨A12,hcut12,hA12,hC12⟩:=print_mid_of (P:=Try.prog) (Value.int .u8) 0 22 5 .i64 .i64 Try.underlying22 hi012 hsz12 A0 c0 l0 x3_1 (wrap64 (2 * x3_1)) (od_) (by first|omega|exact od_) (od_) HC0.o;have HR274:=am (Kd.C_of_reads (h1:=fun _=>rfl) (hA12 _ (Kd.reads_of_C HR0.o)));have HC274:=am hC12;clear hA12 hC12 hi012 hsz12;obtain ⟨Ao13,co13,eo13⟩:=Kd.cP_ HO273.o;subst eo13)|((with_reducible refine bf_ (f:=62) rfl ?_);refine goesL_ (some 25) rfl rfl Try.func62 (by kernel_rfl) rfl #[.slice Ao13 t271.length co13,.slice A12 ((l0.take ((wrap64 (2 * x3_1)):Int).toNat).drop (x3_1:Int).toNat).length (c0 - x3_1.toNat)] rfl (by (try simp only [List.map_toArray,List.map_cons,List.map_nil]);first|done|(rw [show ((l0.take ((wrap64 (2 * x3_1)):Int).toNat).drop (x3_1:Int).toNat).length=((wrap64 (2 * x3_1)).toNat - x3_1.toNat) from (by rw [List.length_drop,List.length_take];have h_:((wrap64 (2 * x3_1)):Int)≤(l0.length:Int):=od_;omega)] <;> rfl)|rfl|(simp only [List.length_drop,List.length_take];rfl)) ?_;(with_reducible refine (Fag.calls k1 _ _ t271 _ _ ((l0.take ((wrap64 (2 * x3_1)):Int).toNat).drop (x3_1:Int).toNat) t275 true _ ?side1 ?side2 ?side3 ?side4 A7.o).mono ?_);(case side1=>exact zC ((Kd.cl_ HO273.o).2.2));(case side2=>exact (Kd.cl_ HO273.o).2.1);(case side3=>exact zC (Kd.bH_ HR274.o HB.o));(case side4=>exact HC274.o);rintro e w14 ⟨v277,rfl,ho0,hb⟩;refine ⟨_,rfl,?_⟩;have n0_:=am (Kd.cZ_ (zS HO273.o) (Kd.bt_ ho0) hb);have n1_:=am (Kd.bx_ ho0 (zs_ HB.o));have n2_:=am (bh_ (zB HB.o) hb);clear HO273;clear HB;have HO273:=n0_;have HO278:=n1_;have HB:=n2_;have hz0_:=(HB.o.cell (World.block_lt_of_cell? w _ HBX0_.o)).trans HBX0_.o;clear n0_ n1_ n2_;(try clear hb);(try clear ho0);obtain ⟨Ao15,co15,eo15⟩:=Kd.bv_ HO278.o;subst eo15)|((with_reducible refine bf_ (f:=75) rfl ?_);refine goL_ (some 30) Try.func75 #[.slice Ao15 t275.length co15] ?_;(with_reducible refine (Fae.calls k1 (fun k_=>some k_=(.slice Ao15 t275.length co15:Value).ownBlock) (.slice Ao15 t275.length co15) t275 t279 w _ ?side1 ?side2 A9.o).mono ?_);(case side1=>repeat (first|(with_reducible first|exact HB.o|apply bk_|apply be_|apply bg_)|exact HB.o));(case side2=>exact Kd.R_tight rfl HO278.o);rintro e w16 ⟨rfl,hy0,hb,hkp⟩;refine ⟨_,rfl,?_⟩;have n0_:=am (Kd.cH_ (ok':=fun k_=>some k_≠(.slice Ao15 t275.length co15:Value).ownBlock) (Kd.S_keptB (HO273.o) hkp (fun k_ hk_ hs_=>(hk_.2) hs_)) (fun k_ hk_=>hk_.1.2));have n1_:=am (Kd.R_reok rfl hy0 (fun k_ e_=>HO278.o.1 k_ e_));have n2_:=am (hb);clear HO273;clear HO278;clear HB;have HO273:=n0_;have HO278:=n1_;have HB:=n2_;have hz0_:=(HB.o.cell (World.block_lt_of_cell? w _ HBX0_.o)).trans HBX0_.o;clear n0_ n1_ n2_;(try clear hb);(try clear hkp);(try clear hy0))|((with_reducible refine bB_ (N:=31) rfl ?_);refine Kd.R_lit (Kd.int .u8) _ 5 ?hg (N:=31) ?hd (xs:=([1]:List Int)) (inner:=[.int .u8 1]) (ok:=fun _=>True) (okp:=fun _=>True) ?hr ?hp (fun _ hk=>hk) trivial (Below.refl _ _) (Nat.le_refl _) (by simp) ?_;(case hd=>rfl);(case hg=>rfl);(case hr=>first|(go_simp;done)|(go_simp;rfl));(case hp=>exact (Reps.one (show Kd.M (Kd.int .u8) _ _ _ 1 [.int .u8 1] from rfl) (Reps.none _ _)));intro v281 w17 ho18 hb hg_ hnew_;clear hg_ hnew_;(first|rw [← Ny280.o] at ho18|(simp only [Int.reduceToNat] at ho18;rw [← Ny280.o] at ho18));have n0_:=am (Kd.cZ_ (zS HO273.o) (Kd.bt_ ho18) hb);have n1_:=am (Kd.bC_ (zR HO278.o) (Kd.bt_ ho18) hb);have n2_:=am (Kd.bx_ (Kd.bX_ ho18 (Kd.R_lt (zR HO278.o))) (zs_ HB.o));have n3_:=am (bh_ (zB HB.o) hb);clear HO273;clear HO278;clear HB;have HO273:=n0_;have HO278:=n1_;have HO282:=n2_;have HB:=n3_;have hz0_:=(HB.o.cell (World.block_lt_of_cell? w _ HBX0_.o)).trans HBX0_.o;clear n0_ n1_ n2_ n3_;clear hb ho18)|((with_reducible refine bE_ (b:=.append) (xs:=#[.tmp 31,.tmp 32]) rfl ?_);at_builtin;refine Kd.cm_ (Kd.int .u8) (w0:=w) w.heap.size rfl (.tmp 31) (.tmp 32) 22 5 (.int .u8 0) 1 rfl Try.underlying22 info5 rfl (by decide) (by omega) v281 y280 t279 _ _ _ (fun k_=>some k_≠(.slice Ao15 t275.length co15:Value).ownBlock) (fun _=>False) rfl rfl ?aO ?aR (fun _ _ h=>h) (fun _ h=>h.elim) ?aF ?aB ?aS ?aL ?_;(case aR=>rw [show t275.length=t279.length from (Kd.bj_ HO278.o).1];repeat (first|exact (Kd.bj_ HO278.o).2.2|(with_reducible refine Kd.cJ_ ?_ _)|(with_reducible refine Kd.cI_ ?_ _)|(with_reducible refine Kd.cW_ ?_)));(case aB=>exact (zB HB.o));(case aF=>exact (fun k_ hk=>Kd.fresh' (Kd.R_lt (zR HO278.o)) k_ hk));(case aO=>exact (zR (Kd.bq_ HO282.o (fun _ hk=>hk.2))));(case aS=>exact (zs_ HB.o));(case aL=>have:=LMc10.o;have hlx_:=(Kd.bj_ HO278.o).1;omega);intro v284 w19 ho hb hg hat;rw [← Ny283.o] at ho;have n0_:=am (Kd.S_after (ok:=(fun k_=>some k_≠(.slice Ao15 t275.length co15:Value).ownBlock)) (zS HO273.o) hg hat);have n1_:=am (Kd.dy_ (ok:=(fun _=>True)) (zR HO278.o) hg hat);have n2_:=am (hb);have n3_:=am (ho);clear HO273;clear HO278;clear HB;clear HO282;have HO273:=n0_;have HO278:=n1_;have HB:=n2_;have hz0_:=(HB.o.cell (World.block_lt_of_cell? w _ HBX0_.o)).trans HBX0_.o;have HO285:=n3_;clear n0_ n1_ n2_ n3_;clear ho hb hg hat))
     go_ret
     exact ⟨_,rfl,zR (Kd.bx_ (Kd.bq_ HO285.o (fun _ hk=>trivial)) HB0_.o.size),by refine bh_ HB0_.o ?_;repeat (first|(with_reducible first|exact HB.o|apply bk_|apply be_|apply bg_)|exact HB.o)⟩
    ·replace c8:=Bool.eq_false_iff.mpr c8
     subst c8
     have H1:(Far.l0 k1 l0 (wrap64 (x3_1 - 1)))=some r:=by rw [if_neg (show ¬ (false=true) by decide)] at H;exact H
     clear H;have H:=H1;clear H1;have H':=am H;clear H;have hz0_:=(HB.o.cell (World.block_lt_of_cell? w _ HBX0_.o)).trans HBX0_.o
     go_wp2_with (first|((with_reducible refine bf_ (f:=60) rfl ?_);refine goL_ (some 17) Try.func60 #[.int .i64 x3_1,.int .i64 x3_1,.func (.func 74) #[] #[.pointer (some ⟨g0_,0,none⟩)]] ?_;(with_reducible refine (Fbd.calls k1 x3_1 x3_1 A0 c0 l0 t271 _ g0_ (by first|exact hz0_|simpa using hz0_) ?side1 A3.o).mono ?_);(case side1=>exact zC (Kd.bH_ HR0.o HB.o));rintro e w20 ⟨v272,rfl,ho0,hb⟩;refine ⟨_,rfl,?_⟩;have n0_:=am (Kd.S_lower ho0 (zs_ HB.o));have n1_:=am (bh_ (zB HB.o) hb);clear HB;have HO273:=n0_;have HB:=n1_;have hz0_:=(HB.o.cell (World.block_lt_of_cell? w _ HBX0_.o)).trans HBX0_.o;clear n0_ n1_;(try clear hb);(try clear ho0);obtain ⟨i021,hi021,_,hsz21,_⟩:=info_parts info5;obtain ⟨A21,hcut21,hA21,hC21⟩:=print_mid_of (P:=Try.prog) (Value.int .u8) 0 22 5 .i64 .i64 Try.underlying22 hi021 hsz21 A0 c0 l0 x3_1 (wrap64 (2 * x3_1)) (od_) (by first|omega|exact od_) (od_) HC0.o;have HR274:=am (Kd.C_of_reads (h1:=fun _=>rfl) (hA21 _ (Kd.reads_of_C HR0.o)));have HC274:=am hC21;clear hA21 hC21 hi021 hsz21;obtain ⟨Ao22,co22,eo22⟩:=Kd.cP_ HO273.o;subst eo22)|((with_reducible refine bf_ (f:=62) rfl ?_);refine goesL_ (some 25) rfl rfl Try.func62 (by kernel_rfl) rfl #[.slice Ao22 t271.length co22,.slice A21 ((l0.take ((wrap64 (2 * x3_1)):Int).toNat).drop (x3_1:Int).toNat).length (c0 - x3_1.toNat)] rfl (by (try simp only [List.map_toArray,List.map_cons,List.map_nil]);first|done|(rw [show ((l0.take ((wrap64 (2 * x3_1)):Int).toNat).drop (x3_1:Int).toNat).length=((wrap64 (2 * x3_1)).toNat - x3_1.toNat) from (by rw [List.length_drop,List.length_take];have h_:((wrap64 (2 * x3_1)):Int)≤(l0.length:Int):=od_;omega)] <;> rfl)|rfl|(simp only [List.length_drop,List.length_take];rfl)) ?_;(with_reducible refine (Fag.calls k1 _ _ t271 _ _ ((l0.take ((wrap64 (2 * x3_1)):Int).toNat).drop (x3_1:Int).toNat) t275 false _ ?side1 ?side2 ?side3 ?side4 A7.o).mono ?_);(case side1=>exact zC ((Kd.cl_ HO273.o).2.2));(case side2=>exact (Kd.cl_ HO273.o).2.1);(case side3=>exact zC (Kd.bH_ HR274.o HB.o));(case side4=>exact HC274.o);rintro e w23 ⟨v277,rfl,ho0,hb⟩;refine ⟨_,rfl,?_⟩;have n0_:=am (Kd.cZ_ (zS HO273.o) (Kd.bt_ ho0) hb);have n1_:=am (Kd.bx_ ho0 (zs_ HB.o));have n2_:=am (bh_ (zB HB.o) hb);clear HO273;clear HB;have HO273:=n0_;have HO278:=n1_;have HB:=n2_;have hz0_:=(HB.o.cell (World.block_lt_of_cell? w _ HBX0_.o)).trans HBX0_.o;clear n0_ n1_ n2_;(try clear hb);(try clear ho0)))
     go_roundg k1
     case measure=>have:=HK1.o;omega
     case rel=>exact ⟨(wrap64 (x3_1 - 1)),rfl,H',⟨by have:=HK1.o;omega⟩,⟨zB HB.o⟩⟩
   ·rw [if_neg c2] at H;have c2b0:decide (0<x3_1)=false:=decide_eq_false c2;clear c2;(try rw [Option.bind_some] at H);generalize hy268:(([1]:List Int))=y268 at H;have Ny268:=am hy268.symm;clear hy268;obtain rfl:=Option.some.inj H;have hz0_:=(HB.o.cell (World.block_lt_of_cell? w _ HBX0_.o)).trans HBX0_.o
    go_wp2_with (first|((with_reducible refine bB_ (N:=34) rfl ?_);refine Kd.R_lit (Kd.int .u8) _ 5 ?hg (N:=34) ?hd (xs:=([1]:List Int)) (inner:=[.int .u8 1]) (ok:=fun _=>True) (okp:=fun _=>True) ?hr ?hp (fun _ hk=>hk) trivial (Below.refl _ _) (Nat.le_refl _) (by simp) ?_;(case hd=>rfl);(case hg=>rfl);(case hr=>first|(go_simp;done)|(go_simp;rfl));(case hp=>exact (Reps.one (show Kd.M (Kd.int .u8) _ _ _ 1 [.int .u8 1] from rfl) (Reps.none _ _)));intro v269 w24 ho25 hb hg_ hnew_;clear hg_ hnew_;(first|rw [← Ny268.o] at ho25|(simp only [Int.reduceToNat] at ho25;rw [← Ny268.o] at ho25));have n0_:=am (Kd.bx_ ho25 (zs_ HB.o));have n1_:=am (bh_ (zB HB.o) hb);clear HB;have HO270:=n0_;have HB:=n1_;have hz0_:=(HB.o.cell (World.block_lt_of_cell? w _ HBX0_.o)).trans HBX0_.o;clear n0_ n1_;clear hb ho25))
    go_ret
    exact ⟨_,rfl,zR (Kd.bx_ (HO270.o) HB0_.o.size),by refine bh_ HB0_.o ?_;repeat (first|(with_reducible first|exact HB.o|apply bk_|apply be_|apply bg_)|exact HB.o)⟩



/-! ### slices_Index_byte_byte: function 81 -/
def Fao.l0:Nat→List Int→Int→Int→Int→Option (Int)
 | 0,_,_,_,_=>none
 | k+1,x0,x1,x7,x8=>if x8<x7 then (if 0≤x8 then (if x8<(x0.length:Int) then (if x1=(rd x0 x8) then (some x8) else (Fao.l0 k x0 x1 x7 (wrap64 (x8+1)))) else (none)) else (none)) else (some (-1))
def Fao.f (k:Nat) (l0:List Int) (a1:Int):Option (Int):=Fao.l0 k l0 a1 (l0.length:Int) 0
set_option maxHeartbeats 8000000 in
set_option maxRecDepth 100000 in
theorem Fao.calls (k:Nat) (A0:Option Addr) (c0:Nat) (l0:List Int) (a1:Int) (r:Int) (w:World) (hr0:Kd.C (Kd.int .u8) w A0 l0.length l0) (hc0:l0.length≤c0) (h:Fao.f k l0 a1=some r) :
  Calls Try.prog 81 #[.slice A0 l0.length c0,.int .u8 a1] w fun e w'=>e = .returned (.int .i64 r)∧bp_ w w':=by
 have HR0:=am hr0;have HC0:=am hc0;clear hr0 hc0;have H:(Fao.l0 k l0 a1 (l0.length:Int) 0)=some r:=h;clear h;have H':=am H;clear H
 go_enter Try.func81,Try.ntmps81
 go_wp2
 go_loopg [8] k (fun kq v8 w'=>∃ (x8_1:Int),v8 = .int .i64 x8_1∧ba_ (Fao.l0 kq l0 a1 (l0.length:Int) x8_1=some r)∧ba_ (kq≤k)∧bp_ w w')
 case atStart=>exact ⟨(0),rfl,H',⟨Nat.le_refl _⟩,by repeat (first|exact bp_.refl _|apply bp_.step)⟩
 case round =>
  clear H';obtain ⟨x8_1,rfl,HA,HK1,⟨m1,rfl⟩⟩:=hrel
  cases gk with
  | zero=>exact absurd HA.o (by simp [Fao.l0])
  | succ k1 =>
   have H:=HA.o;clear HA
   simp only [Fao.l0] at H
   by_cases c3:x8_1<(l0.length:Int)
   ·rw [if_pos c3] at H;have c3b0:=decide_eq_true c3;clear c3
    obtain ⟨c4,H⟩:=it_ H;have c4b0:=decide_eq_true c4;clear c4
    obtain ⟨c5,H⟩:=it_ H;have c5b0:=decide_eq_true c5;clear c5
    by_cases c6:a1=(rd l0 x8_1)
    ·rw [if_pos c6] at H;have c6b0:(a1 == (rd l0 x8_1))=true:=beq_iff_eq.mpr c6;have c6b1:(a1 != (rd l0 x8_1))=false:=bne_eq_false_iff_eq.mpr c6;clear c6;obtain rfl:=Option.some.inj H;have p428:0≤(x8_1:Int):=od_;have q428:x8_1<(l0.length:Int):=od_;obtain ⟨ad428,e428,hx428_0⟩:=Kd.bK_ HR0.o x8_1 p428 q428;cases e428;replace p428:=eq_true p428;replace q428:=eq_true q428
     go_wp2
     go_ret
     exact ⟨by first|rfl|(simp;done)|(simp [*];done),by repeat (first|exact bp_.refl _|apply bp_.step)⟩
    ·rw [if_neg c6] at H;have c6b0:(a1 == (rd l0 x8_1))=false:=beq_eq_false_iff_ne.mpr c6;have c6b1:(a1 != (rd l0 x8_1))=true:=bne_iff_ne.mpr c6;have H':=am H;clear H;have p428:0≤(x8_1:Int):=od_;have q428:x8_1<(l0.length:Int):=od_;obtain ⟨ad428,e428,hx428_0⟩:=Kd.bK_ HR0.o x8_1 p428 q428;cases e428;replace p428:=eq_true p428;replace q428:=eq_true q428
     go_wp2
     go_roundg k1
     case measure=>have:=HK1.o;omega
     case rel=>exact ⟨(wrap64 (x8_1+1)),rfl,H',⟨by have:=HK1.o;omega⟩,by repeat (first|exact bp_.refl _|apply bp_.step)⟩
   ·rw [if_neg c3] at H;have c3b0:=decide_eq_false c3;clear c3;obtain rfl:=Option.some.inj H
    go_wp2
    go_ret
    exact ⟨by first|rfl|(simp;done)|(simp [*];done),by repeat (first|exact bp_.refl _|apply bp_.step)⟩

/-! ### slices_Contains_byte_byte: function 63 -/
def Fbl.f (k:Nat) (l0:List Int) (a1:Int):Option (Bool):=(Fao.f k l0 a1).bind fun t429=>(some (decide (t429 ≥ 0)))
set_option maxHeartbeats 8000000 in
set_option maxRecDepth 100000 in
theorem Fbl.calls (k:Nat) (A0:Option Addr) (c0:Nat) (l0:List Int) (a1:Int) (r:Bool) (w:World) (hr0:Kd.C (Kd.int .u8) w A0 l0.length l0) (hc0:l0.length≤c0) (h:Fbl.f k l0 a1=some r) :
  Calls Try.prog 63 #[.slice A0 l0.length c0,.int .u8 a1] w fun e w'=>e = .returned (.bool r)∧bp_ w w':=by
 have HR0:=am hr0;have HC0:=am hc0;clear hr0 hc0;have H:((Fao.f k l0 a1).bind fun t429=>(some (decide (t429 ≥ 0))))=some r:=h;clear h;obtain ⟨t429,A3,H⟩:=bi_ H;obtain rfl:=Option.some.inj H
 go_enter Try.func63,Try.ntmps63
 go_wp2_with (first|((with_reducible refine bf_ (f:=81) rfl ?_);refine goL_ (some 7) Try.func81 #[.slice A0 l0.length c0,.int .u8 a1] ?_;(with_reducible refine (Fao.calls k _ _ l0 a1 t429 _ ?side1 ?side2 A3.o).mono ?_);(case side1=>exact zC HR0.o);(case side2=>exact HC0.o);rintro e w' ⟨rfl,⟨nd,rfl⟩⟩;refine ⟨_,rfl,?_⟩))
 go_ret
 exact ⟨by first|rfl|(simp;done)|(simp [*];done),by repeat (first|exact bp_.refl _|apply bp_.step)⟩

end Go.Proofs.Ytbloniemhkfnlaa.PFnCorrected
