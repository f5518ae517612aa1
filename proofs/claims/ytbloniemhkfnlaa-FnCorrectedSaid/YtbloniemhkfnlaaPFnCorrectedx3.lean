/- A law's functions as plain Lean functions, each with the walk that shows that the code computes it: written by this session's program wip/tools/ppmake.py. -/
import Derived.Test.YtbloniemhkfnlaaKZ
import Derived.Test.YtbloniemhkfnlaaPFnCorrectedx0
import Derived.Test.YtbloniemhkfnlaaPFnCorrectedx2
namespace Go.Proofs.Ytbloniemhkfnlaa.PFnCorrected
open Go.RowKit Go.Proofs.YtbloniemhkfnlaaW.PrintWords Go.Proofs.YtbloniemhkfnlaaW.PrintLast Go.Proofs.YtbloniemhkfnlaaW.PrintMore
attribute [local go_sem] cw_ cy_ cK_ cL_ ci_ ch_ cx_ cv_   -- for this text's walks alone
set_option linter.unusedVariables false
set_option linter.unusedSimpArgs false

/-! ### spec_l8Mul: function 70 -/
mutual
def Fe.j0:Nat→List Int→List Int→Bool→Option (List Int)
 | 0,_,_,_=>none
 | k+1,x0,x1,x17=>if x17=true then (some ([]:List Int)) else (if 0≤(wrap64 ((wrap64 ((x0.length:Int)+(x1.length:Int))) - 1)) then (if (wrap64 ((wrap64 ((x0.length:Int)+(x1.length:Int))) - 1):Int).toNat≤281474976710656 then (Fe.l0 k x1 (List.replicate (wrap64 ((wrap64 ((x0.length:Int)+(x1.length:Int))) - 1):Int).toNat 0) x0 (x0.length:Int) 0) else (none)) else (none))
def Fe.l0:Nat→List Int→List Int→List Int→Int→Int→Option (List Int)
 | 0,_,_,_,_,_=>none
 | k+1,x1,x5,x25,x26,x27=>if x27<x26 then (if 0≤x27 then (if x27<(x25.length:Int) then (Fe.l1 k x1 x5 x27 (rd x25 x27) x25 x26 x27 x1 (x1.length:Int) 0) else (none)) else (none)) else (some x5)
def Fe.l1:Nat→List Int→List Int→Int→Int→List Int→Int→Int→List Int→Int→Int→Option (List Int)
 | 0,_,_,_,_,_,_,_,_,_,_=>none
 | k+1,x1,x5,x6,x7,x25,x26,x27,x32,x33,x34=>if x34<x33 then (if 0≤x34 then (if x34<(x32.length:Int) then (if 0≤(wrap64 (x6+x34)) then (if (wrap64 (x6+x34))<(x5.length:Int) then ((Fi.f k x7 (rd x32 x34)).bind fun t151=>(Fe.l1 k x1 (x5.set ((wrap64 (x6+x34)):Int).toNat (Go.bits .xor .u8 (rd x5 (wrap64 (x6+x34))) t151)) x6 x7 x25 x26 x27 x32 x33 (wrap64 (x34+1)))) else (none)) else (none)) else (none)) else (none)) else (Fe.l0 k x1 x5 x25 x26 (wrap64 (x27+1)))
end
def Fe.f (k:Nat) (l0:List Int) (l1:List Int):Option (List Int):=if (l0.length:Int)=0 then (Fe.j0 k l0 l1 true) else (Fe.j0 k l0 l1 ((l1.length:Int) == 0))
theorem Fe.mono_l:∀ k,(∀ y0 y1 y2,LeO (Fe.j0 k y0 y1 y2) (Fe.j0 (k+1) y0 y1 y2))∧(∀ y0 y1 y2 y3 y4,LeO (Fe.l0 k y0 y1 y2 y3 y4) (Fe.l0 (k+1) y0 y1 y2 y3 y4))∧(∀ y0 y1 y2 y3 y4 y5 y6 y7 y8 y9,LeO (Fe.l1 k y0 y1 y2 y3 y4 y5 y6 y7 y8 y9) (Fe.l1 (k+1) y0 y1 y2 y3 y4 y5 y6 y7 y8 y9))
 | 0=>⟨fun _ _ _ r h=>by simp [Fe.j0] at h,fun _ _ _ _ _ r h=>by simp [Fe.l0] at h,fun _ _ _ _ _ _ _ _ _ _ r h=>by simp [Fe.l1] at h⟩
 | k+1=>by
  obtain ⟨ih0,ih1,ih2⟩:=Fe.mono_l k
  refine ⟨?_,?_,?_⟩
  ·intro y0 y1 y2
   unfold Fe.j0
   repeat' first|apply LeO.refl|apply LeO.none|apply LeO.ite|apply ih0|apply ih1|apply ih2|apply Fi.mono|(refine LeO.bind ?_ (fun _=>?_))
  ·intro y0 y1 y2 y3 y4
   unfold Fe.l0
   repeat' first|apply LeO.refl|apply LeO.none|apply LeO.ite|apply ih0|apply ih1|apply ih2|apply Fi.mono|(refine LeO.bind ?_ (fun _=>?_))
  ·intro y0 y1 y2 y3 y4 y5 y6 y7 y8 y9
   unfold Fe.l1
   repeat' first|apply LeO.refl|apply LeO.none|apply LeO.ite|apply ih0|apply ih1|apply ih2|apply Fi.mono|(refine LeO.bind ?_ (fun _=>?_))
theorem Fe.mono:∀ a0 a1 k,LeO (Fe.f k a0 a1) (Fe.f (k+1) a0 a1):=by
 intro a0 a1 k;obtain ⟨ih0,ih1,ih2⟩:=Fe.mono_l k
 unfold Fe.f
 repeat' first|apply LeO.refl|apply LeO.none|apply LeO.ite|apply ih0|apply ih1|apply ih2|apply Fi.mono|(refine LeO.bind ?_ (fun _=>?_))
def Fe.T10:Bool × List (List Nat × List Nat):=(true,[([],[]),([],[]),([],[]),([1,2],[1,2]),([0,3],[0,3]),([4],[4]),([],[]),([],[]),([6,7],[6,7]),([5,8],[5,8]),([0,3,0,1,2,3,4,5,6,7,8,9],[0,3]),([10,9,8,0,1,2,3,4,5,6,7,8,9],[9,10])])
def Fe.B10:List Nat:=[0,0,0,6,15,31,0,0,192,511,1023,2047]
theorem Fe.tab10:rtab .any (opsOf Try.f70 10)=Fe.T10:=by kernel_rfl
theorem Fe.bits10:waitsOk Fe.T10.2 Fe.B10=true:=by kernel_rfl
set_option maxHeartbeats 8000000 in
set_option maxRecDepth 100000 in
theorem Fe.calls (k:Nat) (A0:Option Addr) (c0:Nat) (l0:List Int) (A1:Option Addr) (c1:Nat) (l1:List Int) (r:List Int) (w:World) (hr0:Kd.C (Kd.int .u8) w A0 l0.length l0) (hc0:l0.length≤c0) (hr1:Kd.C (Kd.int .u8) w A1 l1.length l1) (hc1:l1.length≤c1) (h:Fe.f k l0 l1=some r) :
  Calls Try.prog 70 #[.slice A0 l0.length c0,.slice A1 l1.length c1] w fun e w'=>∃ v0_:Value,e = .returned (v0_)∧Kd.R (Kd.int .u8) 5 w' w.heap.size (fun _=>True) v0_ r∧Below w.heap.size w w':=by
 have HR0:=am hr0;have HC0:=am hc0;clear hr0 hc0;have HR1:=am hr1;have HC1:=am hc1;clear hr1 hc1;have HB:=am (Below.refl w.heap.size w);have H:(if (l0.length:Int)=0 then (Fe.j0 k l0 l1 true) else (Fe.j0 k l0 l1 ((l1.length:Int) == 0)))=some r:=h;clear h;have HC3:=am H;clear H
 go_enter Try.func70,Try.ntmps70
 go_upto_region 1 with (fail)
 go_cut [17] (fun v17 wc=>∃ (kq:Nat) (x17_2:Bool),v17 = .bool x17_2∧ba_ (Fe.j0 kq l0 l1 x17_2=some r)∧ba_ (kq≤k)∧ba_ (Below w.heap.size w wc))
 case first =>
  have H:=HC3.o;clear HC3
  by_cases c4:(l0.length:Int)=0
  ·rw [if_pos c4] at H;have c4b0:((l0.length:Int) == 0)=true:=beq_iff_eq.mpr c4;have c4b1:((l0.length:Int) != 0)=false:=bne_eq_false_iff_eq.mpr c4;clear c4
   (first|rw [c4b0]|(simp only [bI_,bL_];rw [c4b0])|skip)
   have H':=am H;clear H
   go_wp2
   go_meet
   case rel=>exact ⟨_,(true),rfl,H',⟨by first|omega|exact Nat.le_refl _⟩,⟨zB HB.o⟩⟩
  ·rw [if_neg c4] at H;have c4b0:((l0.length:Int) == 0)=false:=beq_eq_false_iff_ne.mpr c4;have c4b1:((l0.length:Int) != 0)=true:=bne_iff_ne.mpr c4
   have c4b2:¬ (l0=[]):=fun h_=>c4 (by rw [h_];rfl)
   (first|rw [c4b0]|(simp only [bI_,bL_];rw [c4b0])|skip)
   have H':=am H;clear H
   go_wp2
   go_meet
   case rel=>exact ⟨_,(((l1.length:Int) == 0)),rfl,H',⟨by first|omega|exact Nat.le_refl _⟩,⟨zB HB.o⟩⟩
 case rest =>
  clear HC3;obtain ⟨kq,x17_2,rfl,HA,HJ2,HB⟩:=hcut
  cases kq with
  | zero=>exact absurd HA.o (by simp [Fe.j0])
  | succ kj2 =>
   have H:=HA.o;clear HA
   simp only [Fe.j0] at H
   by_cases c5:x17_2=true
   ·subst c5
    have H1:(some ([]:List Int))=some r:=by rw [if_pos rfl] at H;exact H
    clear H;have H:=H1;clear H1;obtain rfl:=Option.some.inj H
    go_wp2
    go_ret
    exact ⟨_,rfl,by first|apply Kd.di_|apply Kd.N_nil|apply Kd.V_nil|apply Kd.Q_nil|apply Kd.S_nil,zB HB.o⟩
   ·replace c5:=Bool.eq_false_iff.mpr c5
    subst c5
    have H1:(if 0≤(wrap64 ((wrap64 ((l0.length:Int)+(l1.length:Int))) - 1)) then (if (wrap64 ((wrap64 ((l0.length:Int)+(l1.length:Int))) - 1):Int).toNat≤281474976710656 then (Fe.l0 kj2 l1 (List.replicate (wrap64 ((wrap64 ((l0.length:Int)+(l1.length:Int))) - 1):Int).toNat 0) l0 (l0.length:Int) 0) else (none)) else (none))=some r:=by rw [if_neg (show ¬ (false=true) by decide)] at H;exact H
    clear H;have H:=H1;clear H1;obtain ⟨ji6,hji6⟩:∃ j_:Int,(wrap64 ((wrap64 ((l0.length:Int)+(l1.length:Int))) - 1))=j_:=⟨_,rfl⟩
    replace H:(if 0≤(ji6) then (if (ji6:Int).toNat≤281474976710656 then (Fe.l0 kj2 l1 (List.replicate (ji6:Int).toNat 0) l0 (l0.length:Int) 0) else (none)) else (none))=some r:=by first|(rw [hji6] at H;exact H)|(simp only [hji6] at H ⊢;exact H)
    have hji6w:(IntKind.i64.wrap ((wrap64 ((l0.length:Int)+(l1.length:Int))) - 1))=ji6:=(bI_ _).trans hji6
    obtain ⟨c7,H⟩:=it_ H;have c7b0:=eq_true c7;have c7b1:=decide_eq_true c7;clear c7
    obtain ⟨c8,H⟩:=it_ H;have c8b0:=eq_true c8;have c8b1:=decide_eq_true c8;clear c8;obtain ⟨y145,hy145⟩:∃ y_:List Int,y_=(List.replicate (ji6:Int).toNat 0):=⟨_,rfl⟩
    replace H:(Fe.l0 kj2 l1 y145 l0 (l0.length:Int) 0)=some r:=by first|(rw [hy145];exact H)|(have H2_:=(Option.bind_some _ _).symm.trans H;first|exact H2_|(rw [hy145];exact H2_))|exact H
    have Ny145:=am hy145;clear hy145;have H':=am H;clear H
    go_wp2_with (first|((with_reducible refine bB_ (N:=24) rfl ?_);(try (refine bM_ (by rfl) ?_;dsimp only));refine Kd.R_make (Kd.int .u8) _ 5 rfl (N:=24) rfl 22 _ _ rfl ji6 rfl rfl Try.underlying22 (.int .u8 0) 1 info5 rfl (by decide) (by omega) 0 (ok:=fun _=>True) (okp:=fun _=>True) rfl (fun _ hk=>hk) trivial (od_) (Nat.le_trans (Nat.mul_le_mul_right _ (od_:ji6.toNat≤281474976710656)) (by omega)) (Below.refl _ _) (Nat.le_refl _) ?_;intro v146 w9 ho10 hb hg_ hnew_;clear hg_ hnew_;(first|rw [← Ny145.o] at ho10|(simp only [Int.reduceToNat] at ho10;rw [← Ny145.o] at ho10));have HO147:=am (Kd.bx_ ho10 (zs_ HB.o));replace HB:=am (bh_ (zB HB.o) hb);clear hb ho10))
    go_loopg [27] kj2 (fun kq v27 w'=>∃ (x5_2:List Int) (x27_2:Int),v27 = .int .i64 x27_2∧ba_ (Fe.l0 kq l1 x5_2 l0 (l0.length:Int) x27_2=some r)∧ba_ (kq≤kj2)∧ba_ (Kd.R (Kd.int .u8) 5 w' w.heap.size (fun _=>True) v146 x5_2)∧ba_ (Below w.heap.size w w'))
    case atStart=>exact ⟨(y145),(0),rfl,H',⟨Nat.le_refl _⟩,⟨zR HO147.o⟩,⟨zB HB.o⟩⟩
    case round =>
     clear H';obtain ⟨x5_2,x27_2,rfl,HA,HK2,HO_5,HB⟩:=hrel
     cases gk with
     | zero=>exact absurd HA.o (by simp [Fe.l0])
     | succ k2 =>
      have H:=HA.o;clear HA
      simp only [Fe.l0] at H
      by_cases c11:x27_2<(l0.length:Int)
      ·rw [if_pos c11] at H;have c11b0:=decide_eq_true c11;clear c11
       obtain ⟨c12,H⟩:=it_ H;have c12b0:=decide_eq_true c12;clear c12
       obtain ⟨c13,H⟩:=it_ H;have c13b0:=decide_eq_true c13;clear c13;have H':=am H;clear H;have p148:0≤(x27_2:Int):=od_;have q148:x27_2<(l0.length:Int):=od_;obtain ⟨ad148,e148,hx148_0⟩:=Kd.bK_ HR0.o x27_2 p148 q148;cases e148;replace hx148_0:=(HB.o.cell (World.block_lt_of_cell? w _ hx148_0)).trans hx148_0;replace p148:=eq_true p148;replace q148:=eq_true q148
       go_wp2
       go_loopg [34] k2 (fun kq v34 w'=>∃ (x5_3:List Int) (x34_3:Int),v34 = .int .i64 x34_3∧ba_ (Fe.l1 kq l1 x5_3 x27_2 (rd l0 x27_2) l0 (l0.length:Int) x27_2 l1 (l1.length:Int) x34_3=some r)∧ba_ (kq≤k2)∧ba_ (Kd.R (Kd.int .u8) 5 w' w.heap.size (fun _=>True) v146 x5_3)∧ba_ (Below w.heap.size w w'))
       case atStart=>exact ⟨(x5_2),(0),rfl,H',⟨Nat.le_refl _⟩,⟨zR HO_5.o⟩,⟨zB HB.o⟩⟩
       case round =>
        clear H';obtain ⟨x5_3,x34_3,rfl,HA,HK3,HO_5,HB⟩:=hrel
        cases gk with
        | zero=>exact absurd HA.o (by simp [Fe.l1])
        | succ k3 =>
         have H:=HA.o;clear HA
         simp only [Fe.l1] at H
         by_cases c14:x34_3<(l1.length:Int)
         ·rw [if_pos c14] at H;have c14b0:=decide_eq_true c14;clear c14
          obtain ⟨c15,H⟩:=it_ H;have c15b0:=decide_eq_true c15;clear c15
          obtain ⟨c16,H⟩:=it_ H;have c16b0:=decide_eq_true c16;clear c16;obtain ⟨ji17,hji17⟩:∃ j_:Int,(wrap64 (x27_2+x34_3))=j_:=⟨_,rfl⟩
          replace H:(if 0≤(ji17) then (if (ji17)<(x5_3.length:Int) then ((Fi.f k3 (rd l0 x27_2) (rd l1 x34_3)).bind fun t151=>(Fe.l1 k3 l1 (x5_3.set ((ji17):Int).toNat (Go.bits .xor .u8 (rd x5_3 (ji17)) t151)) x27_2 (rd l0 x27_2) l0 (l0.length:Int) x27_2 l1 (l1.length:Int) (wrap64 (x34_3+1)))) else (none)) else (none))=some r:=by first|(rw [hji17] at H;exact H)|(simp only [hji17] at H ⊢;exact H)
          have hji17w:(IntKind.i64.wrap (x27_2+x34_3))=ji17:=(bI_ _).trans hji17
          try simp only [hji6] at hji17
          try simp only [hji6] at hji17w
          obtain ⟨c18,H⟩:=it_ H;have c18b0:=decide_eq_true c18;clear c18
          obtain ⟨c19,H⟩:=it_ H;have c19b0:=decide_eq_true c19;clear c19;obtain ⟨t151,A20,H⟩:=bi_ H;obtain ⟨y152,hy152⟩:∃ y_:List Int,y_=(x5_3.set ((ji17):Int).toNat (Go.bits .xor .u8 (rd x5_3 (ji17)) t151)):=⟨_,rfl⟩
          replace H:(Fe.l1 k3 l1 y152 x27_2 (rd l0 x27_2) l0 (l0.length:Int) x27_2 l1 (l1.length:Int) (wrap64 (x34_3+1)))=some r:=by first|(rw [hy152];exact H)|(have H2_:=(Option.bind_some _ _).symm.trans H;first|exact H2_|(rw [hy152];exact H2_))|exact H
          have Ny152:=am hy152;clear hy152;have H':=am H;clear H;have p149:0≤(x34_3:Int):=od_;have q149:x34_3<(l1.length:Int):=od_;obtain ⟨ad149,e149,hx149_0⟩:=Kd.bK_ HR1.o x34_3 p149 q149;cases e149;replace hx149_0:=(HB.o.cell (World.block_lt_of_cell? w _ hx149_0)).trans hx149_0;replace p149:=eq_true p149;replace q149:=eq_true q149
          try go_wp2
          replace HO_5:=am (Kd.bP_ HO_5.o);replace HB:=am (bg_ HB.o);obtain ⟨Ao23,co23,eo23⟩:=Kd.bv_ HO_5.o
          (first|subst eo23|(injection eo23 with f1_ f2_ f3_;have f4_:=f1_.symm;have f5_:=f3_.symm;clear f1_ f2_ f3_;subst f4_;subst f5_))
          have p150:0≤((ji17):Int):=od_;have q150:(ji17)<(x5_3.length:Int):=od_;obtain ⟨ad150,e150,hx150_0⟩:=Kd.bK_ (Kd.bj_ HO_5.o).2.2 (ji17) p150 q150;cases e150;replace p150:=eq_true p150;replace q150:=eq_true q150
          refine cS_ (n:=12) (S:=fun w'=>w'.cell? (ad150.add ((ji17)).toNat)=some (.int .u8 (rd x5_3 (ji17)))) (ds:=[11]) #[false,false,false,false,false,false,false,false,false,false,false,false] (by kernel_rfl) rfl rfl (hx150_0) (fun hHeld=>?_);refine cc_ Fe.tab10 Fe.bits10 (fun HT_ HW_=>?_)
          generalize wr.drew=w22 at HO_5 HB hx150_0 hHeld ⊢
          refine pu_ (i:=0) (some 39) #[true,false,false,false,false,false,false,false,false,false,false,false] HT_ ?_
          refine pu_ (i:=1) (some 40) #[true,true,false,false,false,false,false,false,false,false,false,false] HT_ ?_
          refine pu_ (i:=2) (some 41) #[true,true,true,false,false,false,false,false,false,false,false,false] HT_ ?_
          refine pu_ (i:=3) (some 42) #[true,true,true,true,false,false,false,false,false,false,false,false] HT_ ?_
          refine pu_ (i:=4) (some 43) #[true,true,true,true,true,false,false,false,false,false,false,false] HT_ ?_
          refine pu_ (i:=6) (some 45) #[true,true,true,true,true,false,true,false,false,false,false,false] HT_ ?_
          refine pu_ (i:=7) (some 46) #[true,true,true,true,true,false,true,true,false,false,false,false] HT_ ?_
          refine ta_ (i:=5) (some 44) #[true,true,true,true,true,true,true,true,false,false,false,false] HT_ HW_ hHeld ?_
          refine one_ (i:=8) (N:=some 47) #[true,true,true,true,true,true,true,true,true,false,false,false] rfl rfl (bZ_ HT_.o (by kernel_rfl)) (by decide) (fun K hK=>?_)
          refine goR_ Try.func72 #[.int .u8 (rd l0 x27_2),.int .u8 (rd l1 x34_3)] ?_
          with_reducible refine (Fi.calls k3 (rd l0 x27_2) (rd l1 x34_3) t151 _ A20.o).mono ?_
          rintro e w' ⟨rfl,⟨nd,rfl⟩⟩
          refine ⟨_,rfl,?_⟩
          have p21:0≤((ji17):Int):=od_;have q21:((ji17):Int)<((x5_3.length:Int):Int):=od_;obtain ⟨go21,co21,eo21,gb21,gl21,cl21,HG21⟩:=Kd.R_form HO_5.o (by omega)
          (first|cases eo21|(injection eo21 with ea_ en_ ec_;(first|subst ea_|(injection ea_ with ea_;subst ea_));subst ec_;clear en_))
          have GB21:=am gb21;have GG21:=am HG21;clear gb21 gl21 HG21
          (first|simp only [add_plain] at hx150_0|skip)
          obtain ⟨hx21_0,hf21_0⟩:=Kd.R_celln 0 HO_5.o ((ji17):Int) p21 q21;replace p21:=eq_true p21;replace q21:=eq_true q21;have HP24:=Kd.R_putn HO_5.o ((ji17):Int) (Go.bits .xor .u8 (rd x5_3 (ji17)) t151);rw [← Ny152.o] at HP24;have HQ24:=am HP24;clear HP24
          refine hK.out _ _ (hHeld) (fun hHeld=>?_)
          clear hK K
          refine cp_ (a':=?_) ?_ ?_
          rotate_left
          ·show Act.put _ (some 47) _=_
           simp only [Act.put,List.setIfInBounds_toArray,List.set_cons_zero,List.set_cons_succ,bI_,bL_];rfl
          refine pu_ (i:=9) (some 48) #[true,true,true,true,true,true,true,true,true,true,false,false] HT_ ?_
          refine pu_ (i:=10) (some 49) #[true,true,true,true,true,true,true,true,true,true,true,false] HT_ ?_
          refine last_ (i:=11) (N:=none) #[true,true,true,true,true,true,true,true,true,true,true,true] rfl rfl (bZ_ HT_.o (by kernel_rfl)) (by decide) (fun K hK=>?_)
          refine skip_ (w1:=?_) (by rfl) rfl ?_ ?_
          rotate_left
          ·go_simp;rfl
          refine hK.out _ _ ?_
          clear hK K
          refine done_ (cD_ HT_.o (by kernel_rfl)) ?_
          try go_wp2
          first|go_roundg k3|(try rw [show (⟨go21,(x27_2).toNat,none⟩:Addr)=(⟨go21,0,none⟩:Addr).add (x27_2).toNat from by simp [Addr.add]];go_roundg k3)
          case measure=>have:=HJ2.o;have:=HK2.o;have:=HK3.o;omega
          case rel=>exact ⟨(y152),(wrap64 (x34_3+1)),(by first|rfl|(simp;done)|(simp [*];done)),(by first|exact H'|(have H2_:=H';simp only [hji6,hji17] at H2_ ⊢;exact H2_)),⟨by have:=HJ2.o;have:=HK2.o;have:=HK3.o;omega⟩,⟨by (with_reducible repeat (first|apply Kd.bW_|apply Kd.bV_|apply Kd.bP_));exact HQ24.o⟩,⟨by repeat (first|(with_reducible first|exact HB.o|apply bk_|apply be_|apply bg_|refine bl_ ?_ GB21.o)|exact HB.o)⟩⟩
         ·rw [if_neg c14] at H;have c14b0:=decide_eq_false c14;clear c14;have H':=am H;clear H
          go_wp2
          go_roundg k3
          case measure=>have:=HJ2.o;have:=HK2.o;have:=HK3.o;omega
          case rel=>exact ⟨(x5_3),(wrap64 (x27_2+1)),rfl,(by first|exact H'|(have H2_:=H';simp only [hji6] at H2_ ⊢;exact H2_)),⟨by have:=HJ2.o;have:=HK2.o;have:=HK3.o;omega⟩,⟨zR HO_5.o⟩,⟨zB HB.o⟩⟩
      ·rw [if_neg c11] at H;have c11b0:=decide_eq_false c11;clear c11;obtain rfl:=Option.some.inj H
       go_wp2
       go_ret
       exact ⟨_,by first|rfl|(simp [errW_none,errW_some] <;> rfl)|(simp only [← hji6];first|rfl|(simp [errW_none,errW_some] <;> rfl))|(simp [*,errW_none,errW_some] <;> rfl),zR HO_5.o,zB HB.o⟩

/-! ### spec_l8Generator: function 37 -/
def Fw.l0:Nat→Int→List Int→Int→Option (List Int)
 | 0,_,_,_=>none
 | k+1,x0,x3,x4=>if x4≤(wrap64 (2 * x0)) then ((Fk.f k 3 x4).bind fun t156=>((Fe.f k x3 (([t156,1]:List Int))).bind fun t160=>(Fw.l0 k x0 t160 (wrap64 (x4+1))))) else (some x3)
def Fw.f (k:Nat) (a0:Int):Option (List Int):=Fw.l0 k a0 (([1]:List Int)) 1
theorem Fw.mono_l:∀ k,(∀ y0 y1 y2,LeO (Fw.l0 k y0 y1 y2) (Fw.l0 (k+1) y0 y1 y2))
 | 0=>fun _ _ _ r h=>by simp [Fw.l0] at h
 | k+1=>by
  have ih0:=Fw.mono_l k
  ·intro y0 y1 y2
   unfold Fw.l0
   repeat' first
   | (with_reducible exact ih0 _ _ _)
   | (with_reducible exact Fk.mono _ _ _)
   | (with_reducible exact Fe.mono _ _ _)
   | (with_reducible exact LeO.refl _)
   | (with_reducible exact LeO.none _)
   | (with_reducible refine LeO.ite ?_ ?_)
   | (with_reducible refine LeO.bind ?_ (fun _=>?_))
   | exact ih0 _ _ _
   | exact Fk.mono _ _ _
   | exact Fe.mono _ _ _
   | exact LeO.none _
   | refine LeO.ite ?_ ?_
   | refine LeO.bind ?_ (fun _=>?_)
theorem Fw.mono:∀ a0 k,LeO (Fw.f k a0) (Fw.f (k+1) a0):=by
 intro a0 k;have ih0:=Fw.mono_l k
 unfold Fw.f
 repeat' first|apply LeO.refl|apply LeO.none|apply LeO.ite|apply ih0|apply Fk.mono|apply Fe.mono|(refine LeO.bind ?_ (fun _=>?_))
set_option maxHeartbeats 8000000 in
set_option maxRecDepth 100000 in
theorem Fw.calls (k:Nat) (a0:Int) (r:List Int) (w:World) (h:Fw.f k a0=some r) :
  Calls Try.prog 37 #[.int .i64 a0] w fun e w'=>∃ v0_:Value,e = .returned (v0_)∧Kd.R (Kd.int .u8) 5 w' w.heap.size (fun _=>True) v0_ r∧Below w.heap.size w w':=by
 have HB:=am (Below.refl w.heap.size w);have H:(Fw.l0 k a0 (([1]:List Int)) 1)=some r:=h;clear h;(try rw [Option.bind_some] at H);generalize hy153:(([1]:List Int))=y153 at H;have Ny153:=am hy153.symm;clear hy153;have H':=am H;clear H
 go_enter Try.func37,Try.ntmps37
 go_wp2_with (first|((with_reducible refine bB_ (N:=5) rfl ?_);refine Kd.R_lit (Kd.int .u8) _ 5 ?hg (N:=5) ?hd (xs:=([1]:List Int)) (inner:=[.int .u8 1]) (ok:=fun _=>True) (okp:=fun _=>True) ?hr ?hp (fun _ hk=>hk) trivial (Below.refl _ _) (Nat.le_refl _) (by simp) ?_;(case hd=>rfl);(case hg=>rfl);(case hr=>first|(go_simp;done)|(go_simp;rfl));(case hp=>exact (Reps.one (show Kd.M (Kd.int .u8) _ _ _ 1 [.int .u8 1] from rfl) (Reps.none _ _)));intro v154 w2 ho3 hb hg_ hnew_;clear hg_ hnew_;(first|rw [← Ny153.o] at ho3|(simp only [Int.reduceToNat] at ho3;rw [← Ny153.o] at ho3));have HO155:=am (Kd.bx_ ho3 (zs_ HB.o));replace HB:=am (bh_ (zB HB.o) hb);clear hb ho3))
 go_loopg [3,4] k (fun kq v3 v4 w'=>∃ (x3_1:List Int) (x4_1:Int),v4 = .int .i64 x4_1∧ba_ (Fw.l0 kq a0 x3_1 x4_1=some r)∧ba_ (kq≤k)∧ba_ (Kd.R (Kd.int .u8) 5 w' w.heap.size (fun _=>True) v3 x3_1)∧ba_ (Below w.heap.size w w'))
 case atStart=>exact ⟨(y153),(1),rfl,H',⟨Nat.le_refl _⟩,⟨zR HO155.o⟩,⟨zB HB.o⟩⟩
 case round =>
  clear H';obtain ⟨x3_1,x4_1,rfl,HA,HK1,HO_3,HB⟩:=hrel
  cases gk with
  | zero=>exact absurd HA.o (by simp [Fw.l0])
  | succ k1 =>
   have H:=HA.o;clear HA
   simp only [Fw.l0] at H
   by_cases c4:x4_1≤(wrap64 (2 * a0))
   ·rw [if_pos c4] at H;have c4b0:decide (x4_1≤(wrap64 (2 * a0)))=true:=decide_eq_true c4;clear c4;obtain ⟨t156,A5,H⟩:=bi_ H;(try rw [Option.bind_some] at H);generalize hy157:(([t156,1]:List Int))=y157 at H;have Ny157:=am hy157.symm;clear hy157;obtain ⟨t160,A6,H⟩:=bi_ H;have H':=am H;clear H
    go_wp2_with (first|((with_reducible refine bf_ (f:=54) rfl ?_);refine goL_ (some 14) Try.func54 #[.int .u8 3,.int .i64 x4_1] ?_;(with_reducible refine (Fk.calls k1 3 x4_1 t156 _ A5.o).mono ?_);rintro e w' ⟨rfl,⟨nd,rfl⟩⟩;refine ⟨_,rfl,?_⟩)|((with_reducible refine bB_ (N:=15) rfl ?_);refine Kd.R_lit (Kd.int .u8) _ 5 ?hg (N:=15) ?hd (xs:=([t156,1]:List Int)) (inner:=[.int .u8 t156,.int .u8 1]) (ok:=fun _=>True) (okp:=fun _=>True) ?hr ?hp (fun _ hk=>hk) trivial (Below.refl _ _) (Nat.le_refl _) (by simp) ?_;(case hd=>rfl);(case hg=>rfl);(case hr=>first|(go_simp;done)|(go_simp;rfl));(case hp=>exact (Reps.one (show Kd.M (Kd.int .u8) _ _ _ t156 [.int .u8 t156] from rfl) (Reps.one (show Kd.M (Kd.int .u8) _ _ _ 1 [.int .u8 1] from rfl) (Reps.none _ _))));intro v158 w7 ho8 hb hg_ hnew_;clear hg_ hnew_;(first|rw [← Ny157.o] at ho8|(simp only [Int.reduceToNat] at ho8;rw [← Ny157.o] at ho8));have HO159:=am (Kd.bx_ (Kd.bX_ ho8 (Kd.R_lt (zR HO_3.o))) (zs_ HB.o));replace HO_3:=am (Kd.bC_ (zR HO_3.o) (Kd.bt_ ho8) hb);replace HB:=am (bh_ (zB HB.o) hb);clear hb ho8;obtain ⟨Ao9,co9,eo9⟩:=Kd.bv_ HO_3.o;subst eo9;obtain ⟨Ao10,co10,eo10⟩:=Kd.bv_ HO159.o;subst eo10)|((with_reducible refine bf_ (f:=70) rfl ?_);refine goL_ (some 16) Try.func70 #[.slice Ao9 x3_1.length co9,.slice Ao10 y157.length co10] ?_;(with_reducible refine (Fe.calls k1 _ _ x3_1 _ _ y157 t160 _ ?side1 ?side2 ?side3 ?side4 A6.o).mono ?_);(case side1=>exact zC ((Kd.bj_ HO_3.o).2.2));(case side2=>exact (Kd.bj_ HO_3.o).2.1);(case side3=>exact zC ((Kd.bj_ HO159.o).2.2));(case side4=>exact (Kd.bj_ HO159.o).2.1);rintro e w11 ⟨v161,rfl,ho0,hb⟩;refine ⟨_,rfl,?_⟩;have HO162:=am (Kd.bx_ (Kd.bX_ (Kd.bX_ ho0 (Kd.R_lt (zR HO_3.o))) (Kd.R_lt (zR HO159.o))) (zs_ HB.o));replace HO_3:=am (Kd.bC_ (zR HO_3.o) (Kd.bt_ ho0) hb);replace HO159:=am (Kd.bC_ (zR HO159.o) (Kd.bt_ ho0) hb);replace HB:=am (bh_ (zB HB.o) hb);(try clear hb);(try clear ho0)))
    go_roundg k1
    case measure=>have:=HK1.o;omega
    case rel=>exact ⟨(t160),(wrap64 (x4_1+1)),rfl,H',⟨by have:=HK1.o;omega⟩,⟨zR (Kd.bq_ HO162.o (fun _ hk=>trivial))⟩,⟨zB HB.o⟩⟩
   ·rw [if_neg c4] at H;have c4b0:=decide_eq_false c4;clear c4;obtain rfl:=Option.some.inj H
    go_wp2
    go_ret
    exact ⟨_,rfl,zR HO_3.o,zB HB.o⟩

end Go.Proofs.Ytbloniemhkfnlaa.PFnCorrected
