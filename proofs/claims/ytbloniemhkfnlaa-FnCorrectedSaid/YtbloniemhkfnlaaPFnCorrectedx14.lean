/- A law's functions as plain Lean functions, each with the walk that shows that the code computes it: written by this session's program wip/tools/ppmake.py. -/
import Derived.Test.YtbloniemhkfnlaaKZ
import Derived.Test.YtbloniemhkfnlaaPFnCorrectedx0
import Derived.Test.YtbloniemhkfnlaaPFnCorrectedx13
namespace Go.Proofs.Ytbloniemhkfnlaa.PFnCorrected
open Go.RowKit Go.Proofs.YtbloniemhkfnlaaW.PrintWords Go.Proofs.YtbloniemhkfnlaaW.PrintLast Go.Proofs.YtbloniemhkfnlaaW.PrintMore
attribute [local go_sem] cw_ cy_ cK_ cL_ ci_ ch_ cx_ cv_   -- for this text's walks alone
set_option linter.unusedVariables false
set_option linter.unusedSimpArgs false

/-! ### impl_eliminate: function 89 -/
mutual
def Fd.l0:Nat→List (List Int)→Int→Int→Int→Option (List (List Int) × Int)
 | 0,_,_,_,_=>none
 | k+1,x0,x1,x5,x6=>if x6<x1 then (Fd.j1 k x0 x1 x5 x6 (decide (x5<(x0.length:Int)))) else (Fd.j1 k x0 x1 x5 x6 false)
def Fd.j1:Nat→List (List Int)→Int→Int→Int→Bool→Option (List (List Int) × Int)
 | 0,_,_,_,_,_=>none
 | k+1,x0,x1,x5,x6,x18=>if x18=true then ((Fax.f x0 x5 x6).bind fun t141=>(if t141<0 then (Fd.l0 k x0 x1 x5 (wrap64 (x6+1))) else (if 0≤(wrap64 (x5+t141)) then (if (wrap64 (x5+t141))<(x0.length:Int) then (if 0≤x5 then (if x5<(x0.length:Int) then ((some ((x0.set (x5:Int).toNat (rd_L1 x0 (wrap64 (x5+t141)))).set ((wrap64 (x5+t141)):Int).toNat (rd_L1 x0 x5):List (List Int))).bind fun y143=>(if 0≤x6 then (if x6<((rd_L1 y143 x5).length:Int) then ((Fbg.f k (rd (rd_L1 y143 x5) x6)).bind fun t146=>((Fam.f k t146 (rd_L1 y143 x5)).bind fun t148=>(Fd.l1 k (y143.set (x5:Int).toNat t148) x1 x5 x6 (x0.length:Int) 0))) else (none)) else (none))) else (none)) else (none)) else (none)) else (none)))) else (some (x0,x5))
def Fd.l1:Nat→List (List Int)→Int→Int→Int→Int→Int→Option (List (List Int) × Int)
 | 0,_,_,_,_,_,_=>none
 | k+1,x0,x1,x5,x6,x63,x64=>if x64<x63 then (if 0≤x64 then (if x64<(x0.length:Int) then (if x64=x5 then (Fd.l1 k x0 x1 x5 x6 x63 (wrap64 (x64+1))) else (if 0≤x6 then (if x6<((rd_L1 x0 x64).length:Int) then (if (rd (rd_L1 x0 x64) x6)=0 then (Fd.l1 k x0 x1 x5 x6 x63 (wrap64 (x64+1))) else (if 0≤x5 then (if x5<(x0.length:Int) then ((Fam.f k (rd (rd_L1 x0 x64) x6) (rd_L1 x0 x5)).bind fun t156=>((Fay.f k (rd_L1 x0 x64) t156).bind fun t159=>(Fd.l1 k (x0.set (x64:Int).toNat t159) x1 x5 x6 x63 (wrap64 (x64+1))))) else (none)) else (none))) else (none)) else (none))) else (none)) else (none)) else (Fd.l0 k x0 x1 (wrap64 (x5+1)) (wrap64 (x6+1)))
end
def Fd.f (k:Nat) (l0:List (List Int)) (a1:Int):Option (List (List Int) × Int):=Fd.l0 k l0 a1 0 0
def Fd.T8:Bool × List (List Nat × List Nat):=(true,[([],[]),([],[]),([],[]),([],[]),([2,3],[2,3]),([4],[4]),([],[]),([5,6],[5,6]),([7],[7]),([8],[8]),([],[]),([],[]),([10,11],[10,11]),([12],[12]),([9,13,9],[9,13]),([0,1,0,1,2,3,4,5,6,7,8,9,10,11,12,13,14],[0,1]),([15,14,14,0,1,2,3,4,5,6,7,8,9,10,11,12,13,14],[14,15])])
def Fd.B8:List Nat:=[0,0,0,0,12,28,0,124,252,508,0,0,3072,7168,16380,32767,65535]
theorem Fd.tab8:rtab .any (opsOf Try.f89 8)=Fd.T8:=by kernel_rfl
theorem Fd.bits8:waitsOk Fd.T8.2 Fd.B8=true:=by kernel_rfl
def Fd.T13:Bool × List (List Nat × List Nat):=(true,[([],[]),([],[]),([],[]),([],[]),([],[]),([3,4],[3,4]),([5],[5]),([],[]),([],[]),([7,8],[7,8]),([9],[9]),([6,10],[6,10]),([2,11,11],[2,11]),([0,1,0,1,2,3,4,5,6,7,8,9,10,11,12],[0,1]),([13,12,12,0,1,2,3,4,5,6,7,8,9,10,11,12],[12,13])])
def Fd.B13:List Nat:=[0,0,0,0,0,24,56,0,0,384,896,2040,4092,8191,16383]
theorem Fd.tab13:rtab .any (opsOf Try.f89 13)=Fd.T13:=by kernel_rfl
theorem Fd.bits13:waitsOk Fd.T13.2 Fd.B13=true:=by kernel_rfl
theorem elimK {w:World} {g:Nat} {x:Int} (h:w.heap[g]? = some (.cells #[.int .i64 x] 3 (0,0))):w.cell? ⟨g,0,none⟩=some (.int .i64 x):=(bo_ h 0).trans rfl
theorem elimSet {w:World} {g:Nat} {x:Int} (h:w.heap[g]? = some (.cells #[.int .i64 x] 3 (0,0))) (y:Int):(w.setCell ⟨g,0,none⟩ (.int .i64 y)).heap[g]? = some (.cells #[.int .i64 y] 3 (0,0)):=blk_set h 0 _
set_option maxHeartbeats 8000000 in
set_option maxRecDepth 100000 in
theorem Fd.calls (k:Nat) (v139:Value) (l0:List (List Int)) (a1:Int) (r1:Int) (r2:List (List Int)) (w ws:World) (hB:Below w.heap.size w ws) (ho:Kd.N (Kd.slice 5 (Kd.int .u8)) 22 ws w.heap.size (fun _=>True) v139 l0) (h:Fd.f k l0 a1=some (r2,r1)) :
  Calls Try.prog 89 #[v139,.int .i64 a1] ws fun e w'=>e = .returned (.int .i64 r1)∧Kd.N (Kd.slice 5 (Kd.int .u8)) 22 w' w.heap.size (fun _=>True) v139 r2∧Below w.heap.size w w':=by
 have HB:=am hB;have HO_0:=am ho;clear hB ho;have H':=am (show Fd.l0 k l0 a1 0 0=some (r2,r1) from h);clear h
 go_enter Try.func89,Try.ntmps89
 go_wp2_with (first|((with_reducible refine bB_ (N:=6) rfl ?_);(try (refine bM_ (by rfl) ?_;dsimp only));refine bU_ ?hg (N:=6) ?hd (cs:=#[.int .i64 0]) (t:=3) ?hr ?_;(case hd=>rfl);(case hg=>rfl);(case hr=>first|(go_simp;done)|(go_simp;rfl));intro gb137 hg w5 hbox hb;have n0_:=am (Kd.bR_ (Kd.N_below (Kd.N_elderB HO_0.o gb137 (Nat.le_of_eq hg.symm)) hb) (fun _ hk=>hk.2):Kd.N _ _ _ _ (fun k_=>k_≠gb137) _ _);have n1_:=am (show w.heap.size≤gb137 from by rw [hg];exact bN_ HB.o);have n2_:=am (bh_ HB.o hb);have n3_:=am hbox;clear HO_0 HB;have HO_0:=n0_;have GE137:=n1_;have HB:=n2_;have BK137:=n3_;clear n0_ n1_ n2_ n3_;clear hb hbox hg;have hkz_:=elimK BK137.o;have hfz_:=bs_ BK137.o 0))
 go_loopg [5,6] k (fun kq v5 v6 w'=>∃ (x0_1:List (List Int)) (x5_1:Int) (x6_1:Int) (gb137:Nat),v5 = .int .i64 x5_1∧v6 = .pointer (some ⟨gb137,0,none⟩)∧ba_ (Fd.l0 kq x0_1 a1 x5_1 x6_1=some (r2,r1))∧ba_ (kq≤k)∧ba_ (Kd.N (Kd.slice 5 (Kd.int .u8)) 22 w' w.heap.size (fun k_=>k_≠gb137) v139 x0_1)∧ba_ (w'.heap[gb137]? = some (.cells #[(.int .i64 x6_1)] 3 (0,0)))∧ba_ (w.heap.size≤gb137)∧ba_ (Below w.heap.size w w'))
 case atStart=>exact ⟨l0,0,0,gb137,rfl,rfl,H',⟨Nat.le_refl _⟩,⟨Kd.N_far (p:=⟨gb137,0,none⟩) HO_0.o (fun _ hk=>hk) _⟩,⟨elimSet BK137.o _⟩,GE137,⟨bl_ HB.o GE137.o⟩⟩
 case round =>
  clear H';(try clear hkz_);(try clear hfz_);clear HO_0 GE137 HB BK137;obtain ⟨x0_1,x5_1,x6_1,gb137,rfl,rfl,HA,HK1,HO_0,BK137,GE137,HB⟩:=hrel
  cases gk with
  | zero=>exact absurd HA.o (by simp [Fd.l0])
  | succ k1 =>
   have H:=HA.o;clear HA
   simp only [Fd.l0] at H
   have HC7:=am H;clear H;have hkz_:=elimK BK137.o
   go_upto_region 3 with (fail)
   go_cut [18] (fun v18 wc=>∃ (kq:Nat) (x18_6:Bool),v18 = .bool x18_6∧ba_ (Fd.j1 kq x0_1 a1 x5_1 x6_1 x18_6=some (r2,r1))∧ba_ (kq≤k1)∧ba_ (Kd.N (Kd.slice 5 (Kd.int .u8)) 22 wc w.heap.size (fun k_=>k_≠gb137) v139 x0_1)∧ba_ (wc.heap[gb137]? = some (.cells #[(.int .i64 x6_1)] 3 (0,0)))∧ba_ (Below w.heap.size w wc))
   case first =>
    have H:=HC7.o;clear HC7
    by_cases c8:x6_1<a1
    ·rw [if_pos c8] at H;have c8b0:=decide_eq_true c8;clear c8
     (first|rw [c8b0]|(simp only [bI_,bL_];rw [c8b0])|skip)
     have H':=am H;clear H;obtain ⟨Ao9,co9,eo9⟩:=Kd.cR_ HO_0.o
     subst eo9
     (try clear hkz_);have hkz_:=elimK BK137.o
     go_wp2
     go_meet
     case rel=>exact ⟨_,(decide (x5_1<(x0_1.length:Int))),rfl,H',⟨by have:=HK1.o;first|omega|exact Nat.le_refl _⟩,⟨zN HO_0.o⟩,⟨zK BK137.o⟩,⟨zB HB.o⟩⟩
    ·rw [if_neg c8] at H;have c8b0:=decide_eq_false c8;clear c8
     (first|rw [c8b0]|(simp only [bI_,bL_];rw [c8b0])|skip)
     have H':=am H;clear H;(try clear hkz_);have hkz_:=elimK BK137.o
     go_wp2
     go_meet
     case rel=>exact ⟨_,(false),rfl,H',⟨by have:=HK1.o;first|omega|exact Nat.le_refl _⟩,⟨zN HO_0.o⟩,⟨zK BK137.o⟩,⟨zB HB.o⟩⟩
   case rest =>
    clear HC7;obtain ⟨kq,x18_6,rfl,HA,HJ6,HO_0,BK137,HB⟩:=hcut
    cases kq with
    | zero=>exact absurd HA.o (by simp [Fd.j1])
    | succ kj6 =>
     have H:=HA.o;clear HA
     simp only [Fd.j1] at H
     by_cases c10:x18_6=true
     ·subst c10
      have H1:((Fax.f x0_1 x5_1 x6_1).bind fun t141=>(if t141<0 then (Fd.l0 kj6 x0_1 a1 x5_1 (wrap64 (x6_1+1))) else (if 0≤(wrap64 (x5_1+t141)) then (if (wrap64 (x5_1+t141))<(x0_1.length:Int) then (if 0≤x5_1 then (if x5_1<(x0_1.length:Int) then ((some ((x0_1.set (x5_1:Int).toNat (rd_L1 x0_1 (wrap64 (x5_1+t141)))).set ((wrap64 (x5_1+t141)):Int).toNat (rd_L1 x0_1 x5_1):List (List Int))).bind fun y143=>(if 0≤x6_1 then (if x6_1<((rd_L1 y143 x5_1).length:Int) then ((Fbg.f kj6 (rd (rd_L1 y143 x5_1) x6_1)).bind fun t146=>((Fam.f kj6 t146 (rd_L1 y143 x5_1)).bind fun t148=>(Fd.l1 kj6 (y143.set (x5_1:Int).toNat t148) a1 x5_1 x6_1 (x0_1.length:Int) 0))) else (none)) else (none))) else (none)) else (none)) else (none)) else (none))))=some (r2,r1):=by rw [if_pos rfl] at H;exact H
      clear H;have H:=H1;clear H1;obtain ⟨t141,A11,H⟩:=bi_ H
      by_cases c12:t141<0
      ·rw [if_pos c12] at H;have c12b0:=decide_eq_true c12;clear c12;have H':=am H;clear H;obtain ⟨Ao13,co13,eo13⟩:=Kd.cR_ HO_0.o
       subst eo13
       obtain ⟨i013,hi013,_,hsz13,_⟩:=info_parts info22;have q13:(x5_1:Int)≤((x0_1.length:Int):Int):=(Fax.opens A11.o).2.1;have q013:(0:Int)≤(x5_1:Int):=(Fax.opens A11.o).1;have hidx_:=am (Fax.opens A11.o).2.2;have hroom13:x0_1.length≤co13:=(Kd.bu_ HO_0.o).2.1;have hC13:Kd.C (Kd.slice 5 (Kd.int .u8)) _ Ao13 x0_1.length x0_1:=(Kd.bu_ HO_0.o).2.2;have hcut13:=cut_from (P:=Try.prog) 50 22 .i64 Try.underlying50 hi013 1 hsz13 Ao13 x0_1.length co13 x5_1 q013 q13;have hr13:=Kd.C_drop (m:=(x5_1:Int).toNat) (c:=co13) hC13 (by omega) hroom13;obtain ⟨Aq13,hAq13⟩:∃ A1,A1=(if co13=(x5_1:Int).toNat then Ao13 else (Ao13:Option Addr).map (·.add ((x5_1:Int).toNat * 1))):=⟨_,rfl⟩;obtain ⟨cq13,hcq13⟩:∃ c1,c1=co13 - (x5_1:Int).toNat:=⟨_,rfl⟩;obtain ⟨yq13,hyq13⟩:∃ y_,y_=x0_1.drop (x5_1:Int).toNat:=⟨_,rfl⟩;have hy13:yq13.length=x0_1.length - (x5_1:Int).toNat:=(by rw [hyq13,List.length_drop]);rw [← hyq13] at hr13;rw [← hyq13] at hidx_;replace hr13:Kd.C (Kd.slice 5 (Kd.int .u8)) _ Aq13 yq13.length yq13:=(by rw [hAq13];exact hr13)
       rw [← hy13,← hAq13,← hcq13] at hcut13;have HRq_:=am hr13;have HYq_:=am hyq13;clear hr13 hC13 hroom13 hi013 hsz13 hcq13 hAq13 hy13 hyq13;replace q13:=eq_true q13;replace q013:=eq_true q013;have hkz_:=elimK BK137.o
       go_wp2_with (first|((with_reducible refine bf_ (f:=90) rfl ?_);refine goL_ (some 25) Try.func90 #[.slice Aq13 yq13.length cq13,.func (.func 91) #[] #[.pointer (some ⟨gb137,0,none⟩)]] ?_;(with_reducible refine (Fax.calls _ _ yq13 gb137 x6_1 t141 _ hkz_ HRq_.o hidx_.o).mono ?_);rintro e w' ⟨rfl,⟨nd,rfl⟩⟩;refine ⟨_,rfl,?_⟩;have n0_:=am (Kd.cA_ HO_0.o nd);have n1_:=am (bd_ BK137.o nd);have n2_:=am (be_ HB.o nd);clear HO_0 BK137 HB HRq_ hkz_;have HO_0:=n0_;have BK137:=n1_;have HB:=n2_;clear n0_ n1_ n2_;generalize wc.drewN nd=wc at HO_0 BK137 HB ⊢;have hkz_:=elimK BK137.o)|((with_reducible refine bB_ (N:=6) rfl ?_);(try (refine bM_ (by rfl) ?_;dsimp only));refine bU_ ?hg (N:=6) ?hd (cs:=#[.int .i64 0]) (t:=3) ?hr ?_;(case hd=>rfl);(case hg=>rfl);(case hr=>first|(go_simp;done)|(go_simp;rfl));intro gb138 hg w5 hbox hb;have n0_:=am (Kd.bR_ (Kd.N_below (Kd.N_elderB HO_0.o gb138 (Nat.le_of_eq hg.symm)) hb) (fun _ hk=>hk.2):Kd.N _ _ _ _ (fun k_=>k_≠gb138) _ _);have n1_:=am (show w.heap.size≤gb138 from by rw [hg];exact bN_ HB.o);have n2_:=am (bh_ HB.o hb);have n3_:=am hbox;clear HO_0 HB;have HO_0:=n0_;have GE138:=n1_;have HB:=n2_;have BK138:=n3_;clear n0_ n1_ n2_ n3_;clear hb hbox hg;have hkz_:=elimK BK138.o;have hfz_:=bs_ BK138.o 0))
       go_roundg kj6
       case measure=>have:=HK1.o;have:=HJ6.o;omega
       case rel=>exact ⟨x0_1,x5_1,(wrap64 (x6_1+1)),gb138,rfl,rfl,H',⟨by have:=HK1.o;have:=HJ6.o;omega⟩,⟨Kd.N_far (p:=⟨gb138,0,none⟩) (Kd.N_far (p:=⟨gb138,0,none⟩) HO_0.o (fun _ hk=>hk) _) (fun _ hk=>hk) _⟩,⟨elimSet (elimSet BK138.o _) _⟩,GE138,⟨bl_ (bl_ HB.o GE138.o) GE138.o⟩⟩
      ·rw [if_neg c12] at H;have c12b0:=decide_eq_false c12;clear c12;obtain ⟨ji14,hji14⟩:∃ j_:Int,(wrap64 (x5_1+t141))=j_:=⟨_,rfl⟩
       replace H:(if 0≤(ji14) then (if (ji14)<(x0_1.length:Int) then (if 0≤x5_1 then (if x5_1<(x0_1.length:Int) then ((some ((x0_1.set (x5_1:Int).toNat (rd_L1 x0_1 (ji14))).set ((ji14):Int).toNat (rd_L1 x0_1 x5_1):List (List Int))).bind fun y143=>(if 0≤x6_1 then (if x6_1<((rd_L1 y143 x5_1).length:Int) then ((Fbg.f kj6 (rd (rd_L1 y143 x5_1) x6_1)).bind fun t146=>((Fam.f kj6 t146 (rd_L1 y143 x5_1)).bind fun t148=>(Fd.l1 kj6 (y143.set (x5_1:Int).toNat t148) a1 x5_1 x6_1 (x0_1.length:Int) 0))) else (none)) else (none))) else (none)) else (none)) else (none)) else (none))=some (r2,r1):=by first|(rw [hji14] at H;exact H)|(simp only [hji14] at H ⊢;exact H)
       (try rw [hji14] at A11)
       have hji14w:(IntKind.i64.wrap (x5_1+t141))=ji14:=(bI_ _).trans hji14
       obtain ⟨c15,H⟩:=it_ H;have c15b0:=decide_eq_true c15;clear c15
       obtain ⟨c16,H⟩:=it_ H;have c16b0:=decide_eq_true c16;clear c16
       obtain ⟨c17,H⟩:=it_ H;have c17b0:=decide_eq_true c17;clear c17
       obtain ⟨c18,H⟩:=it_ H;have c18b0:=decide_eq_true c18;clear c18;obtain ⟨y143,hy143⟩:∃ y_:List (List Int),y_=((x0_1.set (x5_1:Int).toNat (rd_L1 x0_1 (ji14))).set ((ji14):Int).toNat (rd_L1 x0_1 x5_1)):=⟨_,rfl⟩
       replace H:(if 0≤x6_1 then (if x6_1<((rd_L1 y143 x5_1).length:Int) then ((Fbg.f kj6 (rd (rd_L1 y143 x5_1) x6_1)).bind fun t146=>((Fam.f kj6 t146 (rd_L1 y143 x5_1)).bind fun t148=>(Fd.l1 kj6 (y143.set (x5_1:Int).toNat t148) a1 x5_1 x6_1 (x0_1.length:Int) 0))) else (none)) else (none))=some (r2,r1):=by first|(rw [hy143];exact H)|(have H2_:=(Option.bind_some _ _).symm.trans H;first|exact H2_|(rw [hy143];exact H2_))|exact H
       have Ny143:=am hy143;clear hy143
       obtain ⟨c20,H⟩:=it_ H;have c20b0:=decide_eq_true c20;clear c20
       obtain ⟨c21,H⟩:=it_ H;have c21b0:=decide_eq_true c21;clear c21;obtain ⟨t146,A22,H⟩:=bi_ H;obtain ⟨t148,A23,H⟩:=bi_ H;obtain ⟨y151,hy151⟩:∃ y_:List (List Int),y_=(y143.set (x5_1:Int).toNat t148):=⟨_,rfl⟩
       replace H:(Fd.l1 kj6 y151 a1 x5_1 x6_1 (x0_1.length:Int) 0)=some (r2,r1):=by first|(rw [hy151];exact H)|(have H2_:=(Option.bind_some _ _).symm.trans H;first|exact H2_|(rw [hy151];exact H2_))|exact H
       have Ny151:=am hy151;clear hy151;have H':=am H;clear H;obtain ⟨Ao25,co25,eo25⟩:=Kd.cR_ HO_0.o
       subst eo25
       obtain ⟨i025,hi025,_,hsz25,_⟩:=info_parts info22;have q25:(x5_1:Int)≤((x0_1.length:Int):Int):=(Fax.opens A11.o).2.1;have q025:(0:Int)≤(x5_1:Int):=(Fax.opens A11.o).1;have hidx_:=am (Fax.opens A11.o).2.2;have hroom25:x0_1.length≤co25:=(Kd.bu_ HO_0.o).2.1;have hC25:Kd.C (Kd.slice 5 (Kd.int .u8)) _ Ao25 x0_1.length x0_1:=(Kd.bu_ HO_0.o).2.2;have hcut25:=cut_from (P:=Try.prog) 50 22 .i64 Try.underlying50 hi025 1 hsz25 Ao25 x0_1.length co25 x5_1 q025 q25;have hr25:=Kd.C_drop (m:=(x5_1:Int).toNat) (c:=co25) hC25 (by omega) hroom25;obtain ⟨Aq25,hAq25⟩:∃ A1,A1=(if co25=(x5_1:Int).toNat then Ao25 else (Ao25:Option Addr).map (·.add ((x5_1:Int).toNat * 1))):=⟨_,rfl⟩;obtain ⟨cq25,hcq25⟩:∃ c1,c1=co25 - (x5_1:Int).toNat:=⟨_,rfl⟩;obtain ⟨yq25,hyq25⟩:∃ y_,y_=x0_1.drop (x5_1:Int).toNat:=⟨_,rfl⟩;have hy25:yq25.length=x0_1.length - (x5_1:Int).toNat:=(by rw [hyq25,List.length_drop]);rw [← hyq25] at hr25;rw [← hyq25] at hidx_;replace hr25:Kd.C (Kd.slice 5 (Kd.int .u8)) _ Aq25 yq25.length yq25:=(by rw [hAq25];exact hr25)
       rw [← hy25,← hAq25,← hcq25] at hcut25;have HRq_:=am hr25;have HYq_:=am hyq25;clear hr25 hC25 hroom25 hi025 hsz25 hcq25 hAq25 hy25 hyq25;replace q25:=eq_true q25;replace q025:=eq_true q025;have hkz_:=elimK BK137.o
       go_upto_region 7 with (first|((with_reducible refine bf_ (f:=90) rfl ?_);refine goL_ (some 25) Try.func90 #[.slice Aq25 yq25.length cq25,.func (.func 91) #[] #[.pointer (some ⟨gb137,0,none⟩)]] ?_;(with_reducible refine (Fax.calls _ _ yq25 gb137 x6_1 t141 _ hkz_ HRq_.o hidx_.o).mono ?_);rintro e w' ⟨rfl,⟨nd,rfl⟩⟩;refine ⟨_,rfl,?_⟩;have n0_:=am (Kd.cA_ HO_0.o nd);have n1_:=am (bd_ BK137.o nd);have n2_:=am (be_ HB.o nd);clear HO_0 BK137 HB HRq_ hkz_;have HO_0:=n0_;have BK137:=n1_;have HB:=n2_;clear n0_ n1_ n2_;generalize wc.drewN nd=wc at HO_0 BK137 HB ⊢;have hkz_:=elimK BK137.o))
       replace HO_0:=am (Kd.cn_ HO_0.o);replace BK137:=am (bb_ BK137.o);replace HB:=am (bg_ HB.o);have p142:0≤((ji14):Int):=od_;have q142:(ji14)<(x0_1.length:Int):=od_;obtain ⟨ad142,A142_0,c142_0,e142,hx142_0,hl142_0,hi142_0⟩:=at_L1 (Kd.bu_ HO_0.o).2.2 (ji14) p142 q142;cases e142;obtain ⟨ce142,hce142,hMe142,hcc142⟩:=Kd.N_get HO_0.o [] (ji14) p142 (by first|exact q142|exact od_|(have e_:=(Kd.bu_ HO_0.o).1;omega))
       obtain ⟨ua142_0,uc142_0,rfl,ul142_0,ge142_0⟩:=Kd.br_ hMe142;have hv142_0:=hcc142 0 _ rfl;rw [Nat.add_zero,show ((Kd.slice 5 (Kd.int .u8))).sz=1 from rfl,Nat.mul_one] at hv142_0;replace hv142_0:=Option.some.inj (hv142_0.symm.trans hx142_0)
       injection hv142_0 with hva_ hvn_ hvc_
       rw [hva_] at ge142_0;rw [hvc_] at ul142_0;have HL142_0:=am (show Kd.V (Kd.int .u8) 5 _ w.heap.size _ _ (rd_L1 x0_1 (ji14)) from Kd.V_mk ul142_0 ge142_0);clear hva_ hvn_ hvc_ ge142_0 ul142_0;clear hcc142 hce142;have HR142_0:=am hi142_0;have HC142_0:=am hl142_0;clear hi142_0 hl142_0;replace p142:=eq_true p142;replace q142:=eq_true q142;have p19:0≤(x5_1:Int):=od_;have q19:(x5_1:Int)<((x0_1.length:Int):Int):=od_;obtain ⟨go19,co19,eo19,gb19,gl19,cl19,HG19⟩:=Kd.N_form HO_0.o (by omega)
       (first|cases eo19|(injection eo19 with ea_ en_ ec_;(first|subst ea_|(injection ea_ with ea_;subst ea_));subst ec_;clear en_))
       have GB19:=am gb19;have GG19:=am HG19;clear gb19 gl19 HG19
       (first|simp only [add_plain] at hx142_0|skip)
       obtain ⟨ce19,hcl19,hM19,hcc19,hfr19⟩:=Kd.dk_ HO_0.o [] (x5_1:Int) p19 q19;obtain ⟨ua19_0,uc19_0,rfl,ul19_0,ge19_0⟩:=Kd.br_ hM19;have hx19_0:=hcc19 0 _ rfl;have hf19_0:=hfr19 0
       (try simp only [show ((Kd.slice 5 (Kd.int .u8))).sz=1 from rfl,Nat.mul_one,Nat.add_zero] at hx19_0)
       (try simp only [show ((Kd.slice 5 (Kd.int .u8))).sz=1 from rfl,Nat.mul_one,Nat.add_zero] at hf19_0)
       clear hcl19 hcc19 hfr19 hM19;replace p19:=eq_true p19;replace q19:=eq_true q19;have HX27:=am (show Kd.N (Kd.slice 5 (Kd.int .u8)) 22 _ w.heap.size (fun k_=>k_≠gb137) (.slice (some ⟨go19,0,none⟩) x0_1.length co25) x0_1 from (Kd.bR_ (HO_0.o) (fun k_ hk=>hk)));obtain ⟨ce27,hcl27,hM27,hcc27,hfr27⟩:=Kd.dk_ HX27.o [] (x5_1:Int) (od_) (by have h_:(x5_1:Int)<((x0_1.length:Int):Int):=od_;first|exact h_|(have e_:=(Kd.bu_ HO_0.o).1;omega)|simpa using h_)
       obtain ⟨ua27_0,uc27_0,rfl,ul27_0,ge27_0⟩:=Kd.br_ hM27;have HP27:=(Kd.N_seg HX27.o (x5_1:Int) (od_) (by have h_:(x5_1:Int)<((x0_1.length:Int):Int):=od_;first|exact h_|(have e_:=(Kd.bu_ HO_0.o).1;omega)|simpa using h_) (seg:=[.slice A142_0 (rd_L1 x0_1 (ji14)).length c142_0]) (j:=0) hcl27 hcc27 (show 1≤1 from by decide) (x':=rd_L1 x0_1 (ji14)) (Kd.FK_slice_mk (Kd.df_ (Kd.bJ_ (ok':=(fun k_=>((fun k_=>k_≠gb137)) k_∧k_≠go19)) (HL142_0.o) (fun k_ hk=>⟨hk.1,fun e_=>(hk.2) (by rw [e_];rfl)⟩))).2.1 (Kd.V_F (Kd.bJ_ (ok':=(fun k_=>((fun k_=>k_≠gb137)) k_∧k_≠go19)) (HL142_0.o) (fun k_ hk=>⟨hk.1,fun e_=>(hk.2) (by rw [e_];rfl)⟩)))) (fun _ hk=>hk)).1
       (try simp only [show ((Kd.slice 5 (Kd.int .u8))).sz=1 from rfl,Nat.mul_one,Nat.add_zero] at HP27)
       have ul19b_:(rd_L1 x0_1 x5_1).length≤uc19_0:=ul19_0;have ge19b_:=ge19_0;have pj_:0≤(ji14:Int):=(od_);have qj_:(ji14:Int)<((x0_1.length:Int):Int):=(od_);obtain ⟨ce28,hcl28,hM28,hcc28,hfr28⟩:=Kd.dk_ HP27 [] (ji14:Int) pj_ qj_;obtain ⟨ua28_0,uc28_0,rfl,ul28_0,ge28_0⟩:=Kd.br_ hM28;have hx28_0:=hcc28 0 _ rfl;have hf28_0:=hfr28 0
       (try simp only [show ((Kd.slice 5 (Kd.int .u8))).sz=1 from rfl,Nat.mul_one,Nat.add_zero] at hx28_0)
       (try simp only [show ((Kd.slice 5 (Kd.int .u8))).sz=1 from rfl,Nat.mul_one,Nat.add_zero] at hf28_0)
       obtain ⟨ce29,hcl29,hM29,hcc29,hfr29⟩:=Kd.dk_ HX27.o [] (ji14:Int) pj_ qj_;have hf29_0:=hfr29 0
       (try simp only [show ((Kd.slice 5 (Kd.int .u8))).sz=1 from rfl,Nat.mul_one,Nat.add_zero] at hf29_0)
       clear hcl29 hM29 hcc29 hfr29;have HP28:=(Kd.N_seg HP27 (ji14:Int) pj_ qj_ (seg:=[.slice ua19_0 (rd_L1 x0_1 x5_1).length uc19_0]) (j:=0) hcl28 hcc28 (show 1≤1 from by decide) (x':=rd_L1 x0_1 x5_1) (Kd.FK_slice_mk ul19b_ (Kd.F_far (p:=⟨go19,(x5_1:Int).toNat,none⟩) (ok:=fun k_=>k_≠gb137∧k_≠go19) ge19b_ (fun _ hk=>hk.2) (.slice A142_0 (rd_L1 x0_1 (ji14)).length c142_0))) (fun _ hk=>hk)).1
       (try simp only [show ((Kd.slice 5 (Kd.int .u8))).sz=1 from rfl,Nat.mul_one,Nat.add_zero] at HP28)
       rw [← Ny143.o] at HP28;have HQ28:=am HP28;clear hcl27 hcc27 hfr27 hM27 HP27 hcl28 hcc28 hfr28 hM28 HP28 pj_ qj_ ul19b_ ge19b_
       refine cS_ (n:=20) (S:=fun w'=>w'.cell? ⟨go19,((ji14)).toNat,none⟩=some (.slice A142_0 (rd_L1 x0_1 (ji14)).length c142_0)∧w'.cell? ⟨go19,(x5_1).toNat,none⟩=some (.slice ua19_0 (rd_L1 x0_1 x5_1).length uc19_0)) (ds:=[17,19]) #[false,false,false,false,false,false,false,false,false,false,false,false,false,false,false,false,false,false,false,false] (by kernel_rfl) rfl rfl ⟨hx142_0,hx19_0⟩ (fun hHeld=>?_)
       generalize wc.drew=w26 at HO_0 BK137 HB GG19 HL142_0 HQ28 HR142_0 hf19_0 hx142_0 hx19_0 hx28_0 hf28_0 hf29_0 hHeld ⊢;have hx28b_:(w26.setCell ⟨go19,(x5_1:Int).toNat,none⟩ (.slice A142_0 (rd_L1 x0_1 (ji14)).length c142_0)).cell? ⟨go19,(ji14:Int).toNat,none⟩=some _:=hx28_0;clear hx28_0 hf28_0
       refine ds_ (i:=0) (N:=some 28) (v:=?_) (a':=?_) #[true,false,false,false,false,false,false,false,false,false,false,false,false,false,false,false,false,false,false,false] rfl rfl (by kernel_rfl) (fun _ _ _ h=>h) (Or.inl ⟨by rfl,?_⟩) ?_ ?_
       rotate_left
       ·intro w';go_simp;with_reducible rfl
       rotate_left
       ·simp only [Act.put,List.setIfInBounds_toArray,List.set_cons_zero,List.set_cons_succ,bI_,bL_];rfl
       refine ds_ (i:=1) (N:=some 29) (v:=?_) (a':=?_) #[true,true,false,false,false,false,false,false,false,false,false,false,false,false,false,false,false,false,false,false] rfl rfl (by kernel_rfl) (fun _ _ _ h=>h) (Or.inl ⟨by rfl,?_⟩) ?_ ?_
       rotate_left
       ·intro w';go_simp;with_reducible rfl
       rotate_left
       ·simp only [Act.put,List.setIfInBounds_toArray,List.set_cons_zero,List.set_cons_succ,bI_,bL_];rfl
       refine ds_ (i:=2) (N:=some 30) (v:=?_) (a':=?_) #[true,true,true,false,false,false,false,false,false,false,false,false,false,false,false,false,false,false,false,false] rfl rfl (by kernel_rfl) (fun _ _ _ h=>h) (Or.inl ⟨by rfl,?_⟩) ?_ ?_
       rotate_left
       ·intro w';go_simp;with_reducible rfl
       rotate_left
       ·simp only [Act.put,List.setIfInBounds_toArray,List.set_cons_zero,List.set_cons_succ,bI_,bL_];rfl
       refine ds_ (i:=3) (N:=some 31) (v:=?_) (a':=?_) #[true,true,true,true,false,false,false,false,false,false,false,false,false,false,false,false,false,false,false,false] rfl rfl (by kernel_rfl) (fun _ _ _ h=>h) (Or.inl ⟨by rfl,?_⟩) ?_ ?_
       rotate_left
       ·intro w';go_simp;with_reducible rfl
       rotate_left
       ·simp only [Act.put,List.setIfInBounds_toArray,List.set_cons_zero,List.set_cons_succ,bI_,bL_];rfl
       refine ds_ (i:=4) (N:=some 32) (v:=?_) (a':=?_) #[true,true,true,true,true,false,false,false,false,false,false,false,false,false,false,false,false,false,false,false] rfl rfl (by kernel_rfl) (fun _ _ _ h=>h) (Or.inl ⟨by rfl,?_⟩) ?_ ?_
       rotate_left
       ·intro w';go_simp;with_reducible rfl
       rotate_left
       ·simp only [Act.put,List.setIfInBounds_toArray,List.set_cons_zero,List.set_cons_succ,bI_,bL_];rfl
       refine ds_ (i:=5) (N:=some 33) (v:=?_) (a':=?_) #[true,true,true,true,true,true,false,false,false,false,false,false,false,false,false,false,false,false,false,false] rfl rfl (by kernel_rfl) (fun _ _ _ h=>h) (Or.inl ⟨by rfl,?_⟩) ?_ ?_
       rotate_left
       ·intro w';go_simp;with_reducible rfl
       rotate_left
       ·simp only [Act.put,List.setIfInBounds_toArray,List.set_cons_zero,List.set_cons_succ,bI_,bL_];rfl
       refine ds_ (i:=6) (N:=some 34) (v:=?_) (a':=?_) #[true,true,true,true,true,true,true,false,false,false,false,false,false,false,false,false,false,false,false,false] rfl rfl (by kernel_rfl) (fun _ _ _ h=>h) (Or.inl ⟨by rfl,?_⟩) ?_ ?_
       rotate_left
       ·intro w';go_simp;with_reducible rfl
       rotate_left
       ·simp only [Act.put,List.setIfInBounds_toArray,List.set_cons_zero,List.set_cons_succ,bI_,bL_];rfl
       refine ds_ (i:=7) (N:=some 35) (v:=?_) (a':=?_) #[true,true,true,true,true,true,true,true,false,false,false,false,false,false,false,false,false,false,false,false] rfl rfl (by kernel_rfl) (fun _ _ _ h=>h) (Or.inl ⟨by rfl,?_⟩) ?_ ?_
       rotate_left
       ·intro w';go_simp;with_reducible rfl
       rotate_left
       ·simp only [Act.put,List.setIfInBounds_toArray,List.set_cons_zero,List.set_cons_succ,bI_,bL_];rfl
       refine ds_ (i:=8) (N:=some 36) (v:=?_) (a':=?_) #[true,true,true,true,true,true,true,true,true,false,false,false,false,false,false,false,false,false,false,false] rfl rfl (by kernel_rfl) (fun _ _ _ h=>h) (Or.inl ⟨by rfl,?_⟩) ?_ ?_
       rotate_left
       ·intro w';go_simp;with_reducible rfl
       rotate_left
       ·simp only [Act.put,List.setIfInBounds_toArray,List.set_cons_zero,List.set_cons_succ,bI_,bL_];rfl
       refine ds_ (i:=9) (N:=some 37) (v:=?_) (a':=?_) #[true,true,true,true,true,true,true,true,true,true,false,false,false,false,false,false,false,false,false,false] rfl rfl (by kernel_rfl) (fun _ _ _ h=>h) (Or.inl ⟨by rfl,?_⟩) ?_ ?_
       rotate_left
       ·intro w';go_simp;with_reducible rfl
       rotate_left
       ·simp only [Act.put,List.setIfInBounds_toArray,List.set_cons_zero,List.set_cons_succ,bI_,bL_];rfl
       refine ds_ (i:=10) (N:=some 38) (v:=?_) (a':=?_) #[true,true,true,true,true,true,true,true,true,true,true,false,false,false,false,false,false,false,false,false] rfl rfl (by kernel_rfl) (fun _ _ _ h=>h) (Or.inl ⟨by rfl,?_⟩) ?_ ?_
       rotate_left
       ·intro w';go_simp;with_reducible rfl
       rotate_left
       ·simp only [Act.put,List.setIfInBounds_toArray,List.set_cons_zero,List.set_cons_succ,bI_,bL_];rfl
       refine ds_ (i:=12) (N:=some 40) (v:=?_) (a':=?_) #[true,true,true,true,true,true,true,true,true,true,true,false,true,false,false,false,false,false,false,false] rfl rfl (by kernel_rfl) (fun _ _ _ h=>h) (Or.inl ⟨by rfl,?_⟩) ?_ ?_
       rotate_left
       ·intro w';go_simp;with_reducible rfl
       rotate_left
       ·simp only [Act.put,List.setIfInBounds_toArray,List.set_cons_zero,List.set_cons_succ,bI_,bL_];rfl
       refine ds_ (i:=13) (N:=some 41) (v:=?_) (a':=?_) #[true,true,true,true,true,true,true,true,true,true,true,false,true,true,false,false,false,false,false,false] rfl rfl (by kernel_rfl) (fun _ _ _ h=>h) (Or.inl ⟨by rfl,?_⟩) ?_ ?_
       rotate_left
       ·intro w';go_simp;with_reducible rfl
       rotate_left
       ·simp only [Act.put,List.setIfInBounds_toArray,List.set_cons_zero,List.set_cons_succ,bI_,bL_];rfl
       refine ds_ (i:=14) (N:=some 42) (v:=?_) (a':=?_) #[true,true,true,true,true,true,true,true,true,true,true,false,true,true,true,false,false,false,false,false] rfl rfl (by kernel_rfl) (fun _ _ _ h=>h) (Or.inl ⟨by rfl,?_⟩) ?_ ?_
       rotate_left
       ·intro w';go_simp;with_reducible rfl
       rotate_left
       ·simp only [Act.put,List.setIfInBounds_toArray,List.set_cons_zero,List.set_cons_succ,bI_,bL_];rfl
       refine take_ (i:=11) (N:=some 39) (v:=?_) (a':=?_) #[true,true,true,true,true,true,true,true,true,true,true,true,true,true,true,false,false,false,false,false] rfl rfl (by kernel_rfl) (fun _ _ _ h=>h) (Or.inl ⟨by rfl,?_⟩) hHeld ?_ ?_
       rotate_left
       ·rintro w' ⟨s0,s1⟩;go_simp;with_reducible rfl
       rotate_left
       ·simp only [Act.put,List.setIfInBounds_toArray,List.set_cons_zero,List.set_cons_succ,bI_,bL_];rfl
       refine take_ (i:=15) (N:=some 43) (v:=?_) (a':=?_) #[true,true,true,true,true,true,true,true,true,true,true,true,true,true,true,true,false,false,false,false] rfl rfl (by kernel_rfl) (fun _ _ _ h=>h) (Or.inl ⟨by rfl,?_⟩) hHeld ?_ ?_
       rotate_left
       ·rintro w' ⟨s0,s1⟩;go_simp;with_reducible rfl
       rotate_left
       ·simp only [Act.put,List.setIfInBounds_toArray,List.set_cons_zero,List.set_cons_succ,bI_,bL_];rfl
       refine ds_ (i:=16) (N:=some 44) (v:=?_) (a':=?_) #[true,true,true,true,true,true,true,true,true,true,true,true,true,true,true,true,true,false,false,false] rfl rfl (by kernel_rfl) (fun _ _ _ h=>h) (Or.inl ⟨by rfl,?_⟩) ?_ ?_
       rotate_left
       ·intro w';go_simp;with_reducible rfl
       rotate_left
       ·simp only [Act.put,List.setIfInBounds_toArray,List.set_cons_zero,List.set_cons_succ,bI_,bL_];rfl
       refine last_ (i:=17) (N:=none) #[true,true,true,true,true,true,true,true,true,true,true,true,true,true,true,true,true,true,false,false] rfl rfl (by kernel_rfl) (by decide) (fun K hK=>?_)
       refine skip_ (w1:=?_) (by rfl) rfl ?_ ?_
       rotate_left
       ·go_simp;rfl
       refine hK.out _ _ ?_
       clear hK K
       refine ds_ (i:=18) (N:=some 45) (v:=?_) (a':=?_) #[true,true,true,true,true,true,true,true,true,true,true,true,true,true,true,true,true,true,true,false] rfl rfl (by kernel_rfl) (fun _ _ _ h=>h) (Or.inl ⟨by rfl,?_⟩) ?_ ?_
       rotate_left
       ·intro w';go_simp;with_reducible rfl
       rotate_left
       ·simp only [Act.put,List.setIfInBounds_toArray,List.set_cons_zero,List.set_cons_succ,bI_,bL_];rfl
       refine last_ (i:=19) (N:=none) #[true,true,true,true,true,true,true,true,true,true,true,true,true,true,true,true,true,true,true,true] rfl rfl (by kernel_rfl) (by decide) (fun K hK=>?_)
       refine skip_ (w1:=?_) (by rfl) rfl ?_ ?_
       rotate_left
       ·go_simp;rfl
       refine hK.out _ _ ?_
       clear hK K
       refine done_ (by kernel_rfl) ?_
       go_upto_region 8 with (fail)
       have n0_:ba_ (Kd.N (Kd.slice 5 (Kd.int .u8)) 22 ((w26.setCell ⟨go19,(x5_1:Int).toNat,none⟩ (.slice A142_0 (rd_L1 x0_1 (ji14)).length c142_0)).setCell ⟨go19,(ji14:Int).toNat,none⟩ (.slice ua19_0 (rd_L1 x0_1 x5_1).length uc19_0)) w.heap.size (fun k_=>k_≠gb137) (.slice (some ⟨go19,0,none⟩) x0_1.length co25) y143):=⟨by (with_reducible repeat (first|apply Kd.cE_|apply Kd.cA_|apply Kd.cn_));exact HQ28.o⟩
       have n1_:ba_ (Kd.V (Kd.int .u8) 5 ((w26.setCell ⟨go19,(x5_1:Int).toNat,none⟩ (.slice A142_0 (rd_L1 x0_1 (ji14)).length c142_0)).setCell ⟨go19,(ji14:Int).toNat,none⟩ (.slice ua19_0 (rd_L1 x0_1 x5_1).length uc19_0)) w.heap.size (fun k_=>some k_≠(.slice (some ⟨go19,0,none⟩) x0_1.length co25:Value).ownBlock∧k_≠gb137) (.slice A142_0 (rd_L1 x0_1 (ji14)).length c142_0) (rd_L1 x0_1 (ji14))):=⟨zV (Kd.bJ_ (Kd.V_far (p:=⟨go19,(ji14:Int).toNat,none⟩) (Kd.V_far (p:=⟨go19,(x5_1:Int).toNat,none⟩) (Kd.bJ_ HL142_0.o (fun k_ hk=>(⟨hk,fun e_=>hk.2 (by rw [e_];rfl)⟩:_∧k_≠go19))) (fun _ hk=>hk.2) (.slice A142_0 (rd_L1 x0_1 (ji14)).length c142_0)) (fun _ hk=>hk.2) (.slice ua19_0 (rd_L1 x0_1 x5_1).length uc19_0)) (fun _ hk=>⟨hk.1.2,hk.1.1⟩))⟩
       have n2_:ba_ (((w26.setCell ⟨go19,(x5_1:Int).toNat,none⟩ (.slice A142_0 (rd_L1 x0_1 (ji14)).length c142_0)).setCell ⟨go19,(ji14:Int).toNat,none⟩ (.slice ua19_0 (rd_L1 x0_1 x5_1).length uc19_0)).heap[gb137]? = some (.cells #[.int .i64 x6_1] 3 (0,0))):=⟨by (with_reducible repeat (first|apply bd_|apply bb_|apply bc_));refine bF_ ?_ (by have h_:=Kd.cq_ HX27.o (fun _ hk=>hk);intro e_;exact h_ (by rw [e_];rfl)) _;refine bF_ ?_ (by have h_:=Kd.cq_ HX27.o (fun _ hk=>hk);intro e_;exact h_ (by rw [e_];rfl)) _;(with_reducible repeat (first|apply bd_|apply bb_|apply bc_));exact BK137.o⟩
       have n3_:ba_ (Below w.heap.size w ((w26.setCell ⟨go19,(x5_1:Int).toNat,none⟩ (.slice A142_0 (rd_L1 x0_1 (ji14)).length c142_0)).setCell ⟨go19,(ji14:Int).toNat,none⟩ (.slice ua19_0 (rd_L1 x0_1 x5_1).length uc19_0))):=⟨by repeat (first|(with_reducible first|exact HB.o|apply bk_|apply be_|apply bg_|refine bl_ ?_ GB19.o|refine bl_ ?_ GE137.o)|exact HB.o)⟩;(try clear HO_0);(try clear HL142_0);(try clear BK137);(try clear HB);generalize ((w26.setCell ⟨go19,(x5_1:Int).toNat,none⟩ (.slice A142_0 (rd_L1 x0_1 (ji14)).length c142_0)).setCell ⟨go19,(ji14:Int).toNat,none⟩ (.slice ua19_0 (rd_L1 x0_1 x5_1).length uc19_0))=w28 at n0_ n1_ n2_ n3_ ⊢;have HO_0:=n0_;have HL142_0:=n1_;have BK137:=n2_;have HB:=n3_;clear n0_ n1_ n2_ n3_;replace HO_0:=am (Kd.cn_ HO_0.o);replace HL142_0:=am (Kd.dg_ HL142_0.o);replace BK137:=am (bb_ BK137.o);replace HB:=am (bg_ HB.o);have p144:0≤(x5_1:Int):=od_;have q144:x5_1<(y143.length:Int):=(by have h_:(x5_1:Int)<((x0_1.length:Int):Int):=od_;first|(have e_:=(Kd.bu_ HO_0.o).1;omega)|simpa only [Ny143.o,List.length_set] using h_)
       have ql144:((x5_1:Int)<((x0_1.length:Int):Int))=True:=eq_true (od_);obtain ⟨ad144,A144_0,c144_0,e144,hx144_0,hl144_0,hi144_0⟩:=at_L1 (Kd.bu_ HO_0.o).2.2 x5_1 p144 q144;obtain rfl:(⟨go19,0,none⟩:Addr)=ad144:=(by injection e144);obtain ⟨ce144,hce144,hMe144,hcc144⟩:=Kd.N_get HO_0.o [] x5_1 p144 (by first|exact q144|exact od_|(have e_:=(Kd.bu_ HO_0.o).1;omega))
       obtain ⟨ua144_0,uc144_0,rfl,ul144_0,ge144_0⟩:=Kd.br_ hMe144;have hv144_0:=hcc144 0 _ rfl;rw [Nat.add_zero,show ((Kd.slice 5 (Kd.int .u8))).sz=1 from rfl,Nat.mul_one] at hv144_0;replace hv144_0:=Option.some.inj (hv144_0.symm.trans hx144_0)
       injection hv144_0 with hva_ hvn_ hvc_
       rw [hva_] at ge144_0;rw [hvc_] at ul144_0;have HL144_0:=am (show Kd.V (Kd.int .u8) 5 _ w.heap.size _ _ (rd_L1 y143 x5_1) from Kd.V_mk ul144_0 ge144_0);clear hva_ hvn_ hvc_ ge144_0 ul144_0;clear hcc144 hce144
       (first|simp only [add_plain] at hx144_0|simp only [add_at] at hx144_0|simp only [Addr.add,Nat.zero_add] at hx144_0|skip)
       have HR144_0:=am hi144_0;have HC144_0:=am hl144_0;clear hi144_0 hl144_0;replace p144:=eq_true p144;replace q144:=eq_true q144;have p145:0≤(x6_1:Int):=od_;have q145:x6_1<((rd_L1 y143 x5_1).length:Int):=od_;obtain ⟨ad145,e145,hx145_0⟩:=Kd.bK_ (HR144_0.o) x6_1 p145 q145;cases e145;replace p145:=eq_true p145;replace q145:=eq_true q145;have p147:0≤(x5_1:Int):=od_;have q147:x5_1<(y143.length:Int):=(by have h_:(x5_1:Int)<((x0_1.length:Int):Int):=od_;first|(have e_:=(Kd.bu_ HO_0.o).1;omega)|simpa only [Ny143.o,List.length_set] using h_)
       have ql147:((x5_1:Int)<((x0_1.length:Int):Int))=True:=eq_true (od_);obtain ⟨ad147,A147_0,c147_0,e147,hx147_0,hl147_0,hi147_0⟩:=at_L1 (Kd.bu_ HO_0.o).2.2 x5_1 p147 q147;obtain rfl:(⟨go19,0,none⟩:Addr)=ad147:=(by injection e147);obtain ⟨ce147,hce147,hMe147,hcc147⟩:=Kd.N_get HO_0.o [] x5_1 p147 (by first|exact q147|exact od_|(have e_:=(Kd.bu_ HO_0.o).1;omega))
       obtain ⟨ua147_0,uc147_0,rfl,ul147_0,ge147_0⟩:=Kd.br_ hMe147;have hv147_0:=hcc147 0 _ rfl;rw [Nat.add_zero,show ((Kd.slice 5 (Kd.int .u8))).sz=1 from rfl,Nat.mul_one] at hv147_0;replace hv147_0:=Option.some.inj (hv147_0.symm.trans hx147_0)
       injection hv147_0 with hva_ hvn_ hvc_
       rw [hva_] at ge147_0;rw [hvc_] at ul147_0;have HL147_0:=am (show Kd.V (Kd.int .u8) 5 _ w.heap.size _ _ (rd_L1 y143 x5_1) from Kd.V_mk ul147_0 ge147_0);clear hva_ hvn_ hvc_ ge147_0 ul147_0;clear hcc147 hce147
       (first|simp only [add_plain] at hx147_0|simp only [add_at] at hx147_0|simp only [Addr.add,Nat.zero_add] at hx147_0|skip)
       have HR147_0:=am hi147_0;have HC147_0:=am hl147_0;clear hi147_0 hl147_0;replace p147:=eq_true p147;replace q147:=eq_true q147;have ea_:=Option.some.inj (hx144_0.symm.trans hx147_0)
       injection ea_ with ea_ en_ ec_
       subst ea_
       subst ec_
       clear en_
       refine cS_ (n:=17) (S:=fun w'=>w'.cell? ⟨go19,(x5_1).toNat,none⟩=some (.slice (some ad145) (rd_L1 y143 x5_1).length c144_0)∧w'.cell? (ad145.add (x6_1).toNat)=some (.int .u8 (rd (rd_L1 y143 x5_1) x6_1))∧w'.cell? ⟨go19,(x5_1).toNat,none⟩=some (.slice (some ad145) (rd_L1 y143 x5_1).length c144_0)∧w'.cell? ⟨gb137,0,none⟩=some (.int .i64 x6_1)) (ds:=[16]) #[false,false,false,false,false,false,false,false,false,false,false,false,false,false,false,false,false] (by kernel_rfl) rfl rfl ⟨hx144_0,hx145_0,hx147_0,elimK BK137.o⟩ (fun hHeld=>?_);refine cc_ Fd.tab8 Fd.bits8 (fun HT_ HW_=>?_)
       generalize w28.drew=w30 at HO_0 HL142_0 BK137 HB HL144_0 HL147_0 HR144_0 HR147_0 hx144_0 hx145_0 hx147_0 hHeld ⊢
       refine pu_ (i:=0) (some 46) #[true,false,false,false,false,false,false,false,false,false,false,false,false,false,false,false,false] HT_ ?_
       refine pu_ (i:=1) (some 47) #[true,true,false,false,false,false,false,false,false,false,false,false,false,false,false,false,false] HT_ ?_
       refine pu_ (i:=2) (some 48) #[true,true,true,false,false,false,false,false,false,false,false,false,false,false,false,false,false] HT_ ?_
       refine pu_ (i:=3) (some 49) #[true,true,true,true,false,false,false,false,false,false,false,false,false,false,false,false,false] HT_ ?_
       refine pu_ (i:=4) (some 50) #[true,true,true,true,true,false,false,false,false,false,false,false,false,false,false,false,false] HT_ ?_
       refine ta_ (i:=6) (some 52) #[true,true,true,true,true,false,true,false,false,false,false,false,false,false,false,false,false] HT_ HW_ hHeld ?_
       refine pu_ (i:=10) (some 56) #[true,true,true,true,true,false,true,false,false,false,true,false,false,false,false,false,false] HT_ ?_
       refine pu_ (i:=11) (some 57) #[true,true,true,true,true,false,true,false,false,false,true,true,false,false,false,false,false] HT_ ?_
       refine pu_ (i:=12) (some 58) #[true,true,true,true,true,false,true,false,false,false,true,true,true,false,false,false,false] HT_ ?_
       refine ta_ (i:=5) (some 51) #[true,true,true,true,true,true,true,false,false,false,true,true,true,false,false,false,false] HT_ HW_ hHeld ?_
       refine pu_ (i:=7) (some 53) #[true,true,true,true,true,true,true,true,false,false,true,true,true,false,false,false,false] HT_ ?_
       refine ta_ (i:=8) (some 54) #[true,true,true,true,true,true,true,true,true,false,true,true,true,false,false,false,false] HT_ HW_ hHeld ?_
       refine ta_ (i:=13) (some 59) #[true,true,true,true,true,true,true,true,true,false,true,true,true,true,false,false,false] HT_ HW_ hHeld ?_
       refine one_ (i:=9) (N:=some 55) #[true,true,true,true,true,true,true,true,true,true,true,true,true,true,false,false,false] rfl rfl (bZ_ HT_.o (by kernel_rfl)) (by decide) (fun K hK=>?_)
       refine goR_ Try.func58 #[.int .u8 (rd (rd_L1 y143 x5_1) x6_1)] ?_
       with_reducible refine (Fbg.calls kj6 (rd (rd_L1 y143 x5_1) x6_1) t146 _ A22.o).mono ?_
       rintro e w' ⟨rfl,⟨nd,rfl⟩⟩
       refine ⟨_,rfl,?_⟩
       refine hK.out _ _ ⟨hHeld.1,hHeld.2.1,hHeld.2.2.1,hHeld.2.2.2⟩ (fun hHeld=>?_)
       clear hK K
       refine cp_ (a':=?_) ?_ ?_
       rotate_left
       ·show Act.put _ (some 55) _=_
        simp only [Act.put,List.setIfInBounds_toArray,List.set_cons_zero,List.set_cons_succ,bI_,bL_];rfl
       refine one_ (i:=14) (N:=some 60) #[true,true,true,true,true,true,true,true,true,true,true,true,true,true,true,false,false] rfl rfl (bZ_ HT_.o (by kernel_rfl)) (by decide) (fun K hK=>?_)
       refine goR_ Try.func92 #[.int .u8 t146,.slice (some ad145) (rd_L1 y143 x5_1).length c144_0] ?_
       with_reducible refine (Fam.calls kj6 t146 _ _ (rd_L1 y143 x5_1) t148 _ ?side1 ?side2 A23.o).mono ?_
       (case side1=>exact zC HR147_0.o)
       (case side2=>exact HC147_0.o)
       rintro e w31 ⟨v149,rfl,ho0,hb⟩;have HS0_:=(hb.cell (World.block_lt_of_cell? _ _ (hHeld.1))).trans (hHeld.1);have HS1_:=(hb.cell (World.block_lt_of_cell? _ _ (hHeld.2.1))).trans (hHeld.2.1);have HS2_:=(hb.cell (World.block_lt_of_cell? _ _ (hHeld.2.2.1))).trans (hHeld.2.2.1);have HS3_:=(hb.cell (World.block_lt_of_cell? _ _ (hHeld.2.2.2))).trans (hHeld.2.2.2)
       refine ⟨_,rfl,?_⟩
       replace HO_0:=am (Kd.cz_ (zN HO_0.o) (Kd.bt_ ho0) hb)
       replace HL142_0:=am (Kd.bT_ (zV HL142_0.o) (Kd.bt_ ho0) hb)
       replace HL144_0:=am (Kd.bT_ (zV HL144_0.o) (Kd.bt_ ho0) hb)
       replace HL147_0:=am (Kd.bT_ (zV HL147_0.o) (Kd.bt_ ho0) hb)
       have HO150:=am (Kd.bx_ ho0 (zs_ HB.o));replace BK137:=am (bm_ (zK BK137.o) hb)
       replace HR144_0:=am (Kd.bH_ (zC HR144_0.o) hb);replace HR147_0:=am (Kd.bH_ (zC HR147_0.o) hb);replace HB:=am (bh_ (zB HB.o) hb);obtain ⟨Av149,cv149,ev149⟩:=Kd.bv_ HO150.o
       subst ev149
       (try clear hb);(try clear hb2);(try clear hk);(try clear hi);(try clear ho0);have p24:0≤(x5_1:Int):=od_;have q24:(x5_1:Int)<((x0_1.length:Int):Int):=od_;obtain ⟨ce24,hcl24,hM24,hcc24,hfr24⟩:=Kd.dk_ HO_0.o [] (x5_1:Int) p24 q24;obtain ⟨ua24_0,uc24_0,rfl,ul24_0,ge24_0⟩:=Kd.br_ hM24;have hx24_0:=hcc24 0 _ rfl;have hf24_0:=hfr24 0
       (try simp only [show ((Kd.slice 5 (Kd.int .u8))).sz=1 from rfl,Nat.mul_one,Nat.add_zero] at hx24_0)
       (try simp only [show ((Kd.slice 5 (Kd.int .u8))).sz=1 from rfl,Nat.mul_one,Nat.add_zero] at hf24_0)
       clear hcl24 hcc24 hfr24 hM24;replace p24:=eq_true p24;replace q24:=eq_true q24;have HX32:=am (show Kd.N (Kd.slice 5 (Kd.int .u8)) 22 _ w.heap.size (fun k_=>some k_≠((.slice Av149 t148.length cv149):Value).ownBlock∧k_≠gb137) (.slice (some ⟨go19,0,none⟩) x0_1.length co25) y143 from (Kd.bR_ (HO_0.o) (fun k_ hk=>⟨hk.2,hk.1⟩)));replace HX32:=am (show Kd.N (Kd.slice 5 (Kd.int .u8)) 22 _ w.heap.size (fun k_=>k_≠gb137) (.slice (some ⟨go19,0,none⟩) x0_1.length co25) y143 from Kd.bR_ HX32.o (fun k_ hk=>hk.2));obtain ⟨ce32,hcl32,hM32,hcc32,hfr32⟩:=Kd.dk_ HX32.o [] (x5_1:Int) (od_) (by have h_:(x5_1:Int)<((x0_1.length:Int):Int):=od_;first|exact h_|(have e_:=(Kd.bu_ HO_0.o).1;omega)|simpa using h_)
       obtain ⟨ua32_0,uc32_0,rfl,ul32_0,ge32_0⟩:=Kd.br_ hM32;have HP32:=(Kd.N_seg HX32.o (x5_1:Int) (od_) (by have h_:(x5_1:Int)<((x0_1.length:Int):Int):=od_;first|exact h_|(have e_:=(Kd.bu_ HO_0.o).1;omega)|simpa using h_) (seg:=[(.slice Av149 t148.length cv149)]) (j:=0) hcl32 hcc32 (show 1≤1 from by decide) (x':=t148) (Kd.FK_of_M (Kd.M_row (Kd.bq_ (ok':=(fun k_=>((fun k_=>k_≠gb137)) k_∧k_≠go19)) (Kd.cb_ (Kd.cj_ (HO150.o) (Kd.dv_ HO_0.o) (by decide)) BK137.o (by decide)) (fun k_ hk=>⟨hk.2,fun e_=>(hk.1.2) (by rw [e_];rfl)⟩)))) (fun _ hk=>hk)).1
       (try simp only [show ((Kd.slice 5 (Kd.int .u8))).sz=1 from rfl,Nat.mul_one,Nat.add_zero] at HP32)
       rw [← Ny151.o] at HP32;have HQ32:=am HP32;clear hcl32 hcc32 hfr32 hM32 HP32
       refine hK.out _ _ ⟨HS0_,HS1_,HS2_,HS3_⟩ (fun hHeld=>?_)
       clear hK K
       refine cp_ (a':=?_) ?_ ?_
       rotate_left
       ·show Act.put _ (some 60) _=_
        simp only [Act.put,List.setIfInBounds_toArray,List.set_cons_zero,List.set_cons_succ,bI_,bL_];rfl
       refine pu_ (i:=15) (some 61) #[true,true,true,true,true,true,true,true,true,true,true,true,true,true,true,true,false] HT_ ?_
       refine last_ (i:=16) (N:=none) #[true,true,true,true,true,true,true,true,true,true,true,true,true,true,true,true,true] rfl rfl (bZ_ HT_.o (by kernel_rfl)) (by decide) (fun K hK=>?_)
       refine skip_ (w1:=?_) (by rfl) rfl ?_ ?_
       rotate_left
       ·go_simp;rfl
       refine hK.out _ _ ?_
       clear hK K
       refine done_ (cD_ HT_.o (by kernel_rfl)) ?_
       (try clear hkz_);have hkz_:=elimK BK137.o
       try go_wp2
       go_loopg [64] kj6 (fun kq v64 w'=>∃ (x0_3:List (List Int)) (x64_3:Int),v64 = .int .i64 x64_3∧ba_ (Fd.l1 kq x0_3 a1 x5_1 x6_1 (x0_1.length:Int) x64_3=some (r2,r1))∧ba_ (kq≤kj6)∧ba_ (Kd.N (Kd.slice 5 (Kd.int .u8)) 22 w' w.heap.size (fun k_=>k_≠gb137) (.slice (some ⟨go19,0,none⟩) x0_1.length co25) x0_3)∧ba_ (w'.heap[gb137]? = some (.cells #[(.int .i64 x6_1)] 3 (0,0)))∧ba_ (Below w.heap.size w w'))
       case atStart=>exact ⟨(y151),(0),(by first|rfl|(simp;done)|(simp [*];done)),H',⟨Nat.le_refl _⟩,⟨by (with_reducible repeat (first|apply Kd.cE_|apply Kd.cA_|apply Kd.cn_));exact HQ32.o⟩,⟨by (with_reducible repeat (first|apply bd_|apply bb_|apply bc_));refine bF_ ?_ (by have h_:=Kd.cq_ HX32.o (fun _ hk=>hk);intro e_;exact h_ (by rw [e_];rfl)) _;(with_reducible repeat (first|apply bd_|apply bb_|apply bc_));exact BK137.o⟩,⟨by repeat (first|(with_reducible first|exact HB.o|apply bk_|apply be_|apply bg_|refine bl_ ?_ GB19.o|refine bl_ ?_ GE137.o)|exact HB.o)⟩⟩
       case round =>
        clear H';obtain ⟨x0_3,x64_3,rfl,HA,HK3,HO_0,BK137,HB⟩:=hrel;have hl0_3:=(Kd.bu_ HO_0.o).1;rw [hl0_3] at HO_0
        (try simp only [hl0_3])
        (try simp only [hl0_3] at BK137)
        cases gk with
        | zero=>exact absurd HA.o (by simp [Fd.l1])
        | succ k3 =>
         have H:=HA.o;clear HA
         simp only [Fd.l1] at H
         by_cases c33:x64_3<(x0_1.length:Int)
         ·rw [if_pos c33] at H;have c33b0:=decide_eq_true c33
          try simp only [hl0_3] at c33b0
          clear c33
          obtain ⟨c34,H⟩:=it_ H;have c34b0:=decide_eq_true c34;clear c34
          obtain ⟨c35,H⟩:=it_ H;have c35b0:=decide_eq_true c35
          try simp only [hl0_3] at c35b0
          clear c35
          by_cases c36:x64_3=x5_1
          ·rw [if_pos c36] at H;have c36b0:(x64_3 == x5_1)=true:=beq_iff_eq.mpr c36;have c36b1:(x64_3 != x5_1)=false:=bne_eq_false_iff_eq.mpr c36;clear c36;have H':=am H;clear H;have p152:0≤(x64_3:Int):=od_;have q152:x64_3<(x0_3.length:Int):=od_;obtain ⟨ad152,A152_0,c152_0,e152,hx152_0,hl152_0,hi152_0⟩:=at_L1 (Kd.bu_ HO_0.o).2.2 x64_3 p152 q152;obtain rfl:(⟨go19,0,none⟩:Addr)=ad152:=(by injection e152);obtain ⟨ce152,hce152,hMe152,hcc152⟩:=Kd.N_get HO_0.o [] x64_3 p152 (by first|exact q152|exact od_|(have e_:=(Kd.bu_ HO_0.o).1;omega))
           obtain ⟨ua152_0,uc152_0,rfl,ul152_0,ge152_0⟩:=Kd.br_ hMe152;have hv152_0:=hcc152 0 _ rfl;rw [Nat.add_zero,show ((Kd.slice 5 (Kd.int .u8))).sz=1 from rfl,Nat.mul_one] at hv152_0;replace hv152_0:=Option.some.inj (hv152_0.symm.trans hx152_0)
           injection hv152_0 with hva_ hvn_ hvc_
           rw [hva_] at ge152_0;rw [hvc_] at ul152_0;have HL152_0:=am (show Kd.V (Kd.int .u8) 5 _ w.heap.size _ _ (rd_L1 x0_3 x64_3) from Kd.V_mk ul152_0 ge152_0);clear hva_ hvn_ hvc_ ge152_0 ul152_0;clear hcc152 hce152
           (first|simp only [add_plain] at hx152_0|simp only [add_at] at hx152_0|simp only [Addr.add,Nat.zero_add] at hx152_0|skip)
           have HR152_0:=am hi152_0;have HC152_0:=am hl152_0;clear hi152_0 hl152_0;replace p152:=eq_true p152;replace q152:=eq_true q152;(try clear hkz_);have hkz_:=elimK BK137.o
           go_wp2
           (try simp only [← hl0_3])
           go_roundg k3
           case measure=>have:=HK1.o;have:=HJ6.o;have:=HK3.o;omega
           case rel=>exact ⟨(x0_3),(wrap64 (x64_3+1)),rfl,(by first|exact H'|(have H2_:=H';simp only [hji14] at H2_ ⊢;exact H2_)),⟨by have:=HK1.o;have:=HJ6.o;have:=HK3.o;omega⟩,⟨by (try simp only [hl0_3]);(with_reducible repeat (first|apply Kd.cE_|apply Kd.cA_|apply Kd.cn_));exact HO_0.o⟩,⟨by (try simp only [hl0_3]);(with_reducible repeat (first|apply bd_|apply bb_|apply bc_));exact BK137.o⟩,⟨zB HB.o⟩⟩
          ·rw [if_neg c36] at H;have c36b0:(x64_3 == x5_1)=false:=beq_eq_false_iff_ne.mpr c36;have c36b1:(x64_3 != x5_1)=true:=bne_iff_ne.mpr c36
           obtain ⟨c37,H⟩:=it_ H;have c37b0:=decide_eq_true c37;clear c37
           obtain ⟨c38,H⟩:=it_ H;have c38b0:=decide_eq_true c38
           try simp only [hl0_3] at c38b0
           clear c38
           by_cases c39:(rd (rd_L1 x0_3 x64_3) x6_1)=0
           ·rw [if_pos c39] at H;have c39b0:((rd (rd_L1 x0_3 x64_3) x6_1) == 0)=true:=beq_iff_eq.mpr c39;have c39b1:((rd (rd_L1 x0_3 x64_3) x6_1) != 0)=false:=bne_eq_false_iff_eq.mpr c39;clear c39;have H':=am H;clear H;have p152:0≤(x64_3:Int):=od_;have q152:x64_3<(x0_3.length:Int):=od_;obtain ⟨ad152,A152_0,c152_0,e152,hx152_0,hl152_0,hi152_0⟩:=at_L1 (Kd.bu_ HO_0.o).2.2 x64_3 p152 q152;obtain rfl:(⟨go19,0,none⟩:Addr)=ad152:=(by injection e152);obtain ⟨ce152,hce152,hMe152,hcc152⟩:=Kd.N_get HO_0.o [] x64_3 p152 (by first|exact q152|exact od_|(have e_:=(Kd.bu_ HO_0.o).1;omega))
            obtain ⟨ua152_0,uc152_0,rfl,ul152_0,ge152_0⟩:=Kd.br_ hMe152;have hv152_0:=hcc152 0 _ rfl;rw [Nat.add_zero,show ((Kd.slice 5 (Kd.int .u8))).sz=1 from rfl,Nat.mul_one] at hv152_0;replace hv152_0:=Option.some.inj (hv152_0.symm.trans hx152_0)
            injection hv152_0 with hva_ hvn_ hvc_
            rw [hva_] at ge152_0;rw [hvc_] at ul152_0;have HL152_0:=am (show Kd.V (Kd.int .u8) 5 _ w.heap.size _ _ (rd_L1 x0_3 x64_3) from Kd.V_mk ul152_0 ge152_0);clear hva_ hvn_ hvc_ ge152_0 ul152_0;clear hcc152 hce152
            (first|simp only [add_plain] at hx152_0|simp only [add_at] at hx152_0|simp only [Addr.add,Nat.zero_add] at hx152_0|skip)
            have HR152_0:=am hi152_0;have HC152_0:=am hl152_0;clear hi152_0 hl152_0;replace p152:=eq_true p152;replace q152:=eq_true q152;have p153:0≤(x6_1:Int):=od_;have q153:x6_1<((rd_L1 x0_3 x64_3).length:Int):=od_;obtain ⟨ad153,e153,hx153_0⟩:=Kd.bK_ (HR152_0.o) x6_1 p153 q153;cases e153;replace p153:=eq_true p153;replace q153:=eq_true q153;(try clear hkz_);have hkz_:=elimK BK137.o
            go_wp2
            (try simp only [← hl0_3])
            go_roundg k3
            case measure=>have:=HK1.o;have:=HJ6.o;have:=HK3.o;omega
            case rel=>exact ⟨(x0_3),(wrap64 (x64_3+1)),rfl,(by first|exact H'|(have H2_:=H';simp only [hji14] at H2_ ⊢;exact H2_)),⟨by have:=HK1.o;have:=HJ6.o;have:=HK3.o;omega⟩,⟨by (try simp only [hl0_3]);(with_reducible repeat (first|apply Kd.cE_|apply Kd.cA_|apply Kd.cn_));exact HO_0.o⟩,⟨by (try simp only [hl0_3]);(with_reducible repeat (first|apply bd_|apply bb_|apply bc_));exact BK137.o⟩,⟨zB HB.o⟩⟩
           ·rw [if_neg c39] at H;have c39b0:((rd (rd_L1 x0_3 x64_3) x6_1) == 0)=false:=beq_eq_false_iff_ne.mpr c39;have c39b1:((rd (rd_L1 x0_3 x64_3) x6_1) != 0)=true:=bne_iff_ne.mpr c39
            obtain ⟨c40,H⟩:=it_ H;have c40b0:=decide_eq_true c40;clear c40
            obtain ⟨c41,H⟩:=it_ H;have c41b0:=decide_eq_true c41
            try simp only [hl0_3] at c41b0
            clear c41;obtain ⟨t156,A42,H⟩:=bi_ H;obtain ⟨t159,A43,H⟩:=bi_ H;(try rw [Option.bind_some] at H);generalize hy162:(x0_3.set (x64_3:Int).toNat t159)=y162 at H;have Ny162:=am hy162.symm;clear hy162;have H':=am H;clear H;have p152:0≤(x64_3:Int):=od_;have q152:x64_3<(x0_3.length:Int):=od_;obtain ⟨ad152,A152_0,c152_0,e152,hx152_0,hl152_0,hi152_0⟩:=at_L1 (Kd.bu_ HO_0.o).2.2 x64_3 p152 q152;obtain rfl:(⟨go19,0,none⟩:Addr)=ad152:=(by injection e152);obtain ⟨ce152,hce152,hMe152,hcc152⟩:=Kd.N_get HO_0.o [] x64_3 p152 (by first|exact q152|exact od_|(have e_:=(Kd.bu_ HO_0.o).1;omega))
            obtain ⟨ua152_0,uc152_0,rfl,ul152_0,ge152_0⟩:=Kd.br_ hMe152;have hv152_0:=hcc152 0 _ rfl;rw [Nat.add_zero,show ((Kd.slice 5 (Kd.int .u8))).sz=1 from rfl,Nat.mul_one] at hv152_0;replace hv152_0:=Option.some.inj (hv152_0.symm.trans hx152_0)
            injection hv152_0 with hva_ hvn_ hvc_
            rw [hva_] at ge152_0;rw [hvc_] at ul152_0;have HL152_0:=am (show Kd.V (Kd.int .u8) 5 _ w.heap.size _ _ (rd_L1 x0_3 x64_3) from Kd.V_mk ul152_0 ge152_0);clear hva_ hvn_ hvc_ ge152_0 ul152_0;clear hcc152 hce152
            (first|simp only [add_plain] at hx152_0|simp only [add_at] at hx152_0|simp only [Addr.add,Nat.zero_add] at hx152_0|skip)
            have HR152_0:=am hi152_0;have HC152_0:=am hl152_0;clear hi152_0 hl152_0;replace p152:=eq_true p152;replace q152:=eq_true q152;have p153:0≤(x6_1:Int):=od_;have q153:x6_1<((rd_L1 x0_3 x64_3).length:Int):=od_;obtain ⟨ad153,e153,hx153_0⟩:=Kd.bK_ (HR152_0.o) x6_1 p153 q153;cases e153;replace p153:=eq_true p153;replace q153:=eq_true q153;(try clear hkz_);have hkz_:=elimK BK137.o
            try go_wp2
            replace HO_0:=am (Kd.cn_ HO_0.o);replace HL152_0:=am (Kd.dg_ HL152_0.o);replace BK137:=am (bb_ BK137.o);replace HR152_0:=am (Kd.cW_ HR152_0.o);replace HB:=am (bg_ HB.o);have p154:0≤(x6_1:Int):=od_;have q154:x6_1<((rd_L1 x0_3 x64_3).length:Int):=od_;obtain ⟨ad154,e154,hx154_0⟩:=Kd.bK_ (HR152_0.o) x6_1 p154 q154;obtain rfl:ad153=ad154:=(by injection e154);replace p154:=eq_true p154;replace q154:=eq_true q154;have p155:0≤(x5_1:Int):=od_;have q155:x5_1<(x0_3.length:Int):=od_;obtain ⟨ad155,A155_0,c155_0,e155,hx155_0,hl155_0,hi155_0⟩:=at_L1 (Kd.bu_ HO_0.o).2.2 x5_1 p155 q155;obtain rfl:(⟨go19,0,none⟩:Addr)=ad155:=(by injection e155);obtain ⟨ce155,hce155,hMe155,hcc155⟩:=Kd.N_get HO_0.o [] x5_1 p155 (by first|exact q155|exact od_|(have e_:=(Kd.bu_ HO_0.o).1;omega))
            obtain ⟨ua155_0,uc155_0,rfl,ul155_0,ge155_0⟩:=Kd.br_ hMe155;have hv155_0:=hcc155 0 _ rfl;rw [Nat.add_zero,show ((Kd.slice 5 (Kd.int .u8))).sz=1 from rfl,Nat.mul_one] at hv155_0;replace hv155_0:=Option.some.inj (hv155_0.symm.trans hx155_0)
            injection hv155_0 with hva_ hvn_ hvc_
            rw [hva_] at ge155_0;rw [hvc_] at ul155_0;have HL155_0:=am (show Kd.V (Kd.int .u8) 5 _ w.heap.size _ _ (rd_L1 x0_3 x5_1) from Kd.V_mk ul155_0 ge155_0);clear hva_ hvn_ hvc_ ge155_0 ul155_0;clear hcc155 hce155
            (first|simp only [add_plain] at hx155_0|simp only [add_at] at hx155_0|simp only [Addr.add,Nat.zero_add] at hx155_0|skip)
            have HR155_0:=am hi155_0;have HC155_0:=am hl155_0;clear hi155_0 hl155_0;replace p155:=eq_true p155;replace q155:=eq_true q155
            refine cS_ (n:=15) (S:=fun w'=>w'.cell? (ad153.add (x6_1).toNat)=some (.int .u8 (rd (rd_L1 x0_3 x64_3) x6_1))∧w'.cell? ⟨go19,(x5_1).toNat,none⟩=some (.slice A155_0 (rd_L1 x0_3 x5_1).length c155_0)∧w'.cell? ⟨gb137,0,none⟩=some (.int .i64 x6_1)) (ds:=[14]) #[false,false,false,false,false,false,false,false,false,false,false,false,false,false,false] (by kernel_rfl) rfl rfl ⟨hx154_0,hx155_0,elimK BK137.o⟩ (fun hHeld=>?_);refine cc_ Fd.tab13 Fd.bits13 (fun HT_ HW_=>?_)
            generalize wr.drew=w45 at HO_0 HL152_0 BK137 HR152_0 HB HL155_0 HR155_0 hx154_0 hx155_0 hHeld ⊢
            refine pu_ (i:=0) (some 79) #[true,false,false,false,false,false,false,false,false,false,false,false,false,false,false] HT_ ?_
            refine pu_ (i:=1) (some 80) #[true,true,false,false,false,false,false,false,false,false,false,false,false,false,false] HT_ ?_
            refine pu_ (i:=2) (some 81) #[true,true,true,false,false,false,false,false,false,false,false,false,false,false,false] HT_ ?_
            refine pu_ (i:=3) (some 82) #[true,true,true,true,false,false,false,false,false,false,false,false,false,false,false] HT_ ?_
            refine ta_ (i:=4) (some 83) #[true,true,true,true,true,false,false,false,false,false,false,false,false,false,false] HT_ HW_ hHeld ?_
            refine pu_ (i:=5) (some 84) #[true,true,true,true,true,true,false,false,false,false,false,false,false,false,false] HT_ ?_
            refine pu_ (i:=7) (some 86) #[true,true,true,true,true,true,false,true,false,false,false,false,false,false,false] HT_ ?_
            refine pu_ (i:=8) (some 87) #[true,true,true,true,true,true,false,true,true,false,false,false,false,false,false] HT_ ?_
            refine pu_ (i:=9) (some 88) #[true,true,true,true,true,true,false,true,true,true,false,false,false,false,false] HT_ ?_
            refine ta_ (i:=6) (some 85) #[true,true,true,true,true,true,true,true,true,true,false,false,false,false,false] HT_ HW_ hHeld ?_
            refine ta_ (i:=10) (some 89) #[true,true,true,true,true,true,true,true,true,true,true,false,false,false,false] HT_ HW_ hHeld ?_
            refine one_ (i:=11) (N:=some 90) #[true,true,true,true,true,true,true,true,true,true,true,true,false,false,false] rfl rfl (bZ_ HT_.o (by kernel_rfl)) (by decide) (fun K hK=>?_)
            refine goR_ Try.func92 #[.int .u8 (rd (rd_L1 x0_3 x64_3) x6_1),.slice A155_0 (rd_L1 x0_3 x5_1).length c155_0] ?_
            with_reducible refine (Fam.calls k3 (rd (rd_L1 x0_3 x64_3) x6_1) _ _ (rd_L1 x0_3 x5_1) t156 _ ?side1 ?side2 A42.o).mono ?_
            (case side1=>exact zC HR155_0.o)
            (case side2=>exact HC155_0.o)
            rintro e w46 ⟨v157,rfl,ho0,hb⟩;have HS0_:=(hb.cell (World.block_lt_of_cell? _ _ (hHeld.1))).trans (hHeld.1);have HS1_:=(hb.cell (World.block_lt_of_cell? _ _ (hHeld.2.1))).trans (hHeld.2.1);have HS2_:=(hb.cell (World.block_lt_of_cell? _ _ (hHeld.2.2))).trans (hHeld.2.2)
            refine ⟨_,rfl,?_⟩
            replace HO_0:=am (Kd.cz_ (zN HO_0.o) (Kd.bt_ ho0) hb)
            replace HL152_0:=am (Kd.bT_ (zV HL152_0.o) (Kd.bt_ ho0) hb)
            replace HL155_0:=am (Kd.bT_ (zV HL155_0.o) (Kd.bt_ ho0) hb)
            have HO158:=am (Kd.bx_ ho0 (zs_ HB.o));replace BK137:=am (bm_ (zK BK137.o) hb)
            replace HR152_0:=am (Kd.bH_ (zC HR152_0.o) hb);replace HR155_0:=am (Kd.bH_ (zC HR155_0.o) hb);replace HB:=am (bh_ (zB HB.o) hb);(try clear hb);(try clear ho0);obtain ⟨Ao47,co47,eo47⟩:=Kd.bv_ HO158.o
            (first|subst eo47|(injection eo47 with f1_ f2_ f3_;have f4_:=f1_.symm;have f5_:=f3_.symm;clear f1_ f2_ f3_;subst f4_;subst f5_))
            refine hK.out _ _ ⟨HS0_,HS1_,HS2_⟩ (fun hHeld=>?_)
            clear hK K
            refine cp_ (a':=?_) ?_ ?_
            rotate_left
            ·show Act.put _ (some 90) _=_
             simp only [Act.put,List.setIfInBounds_toArray,List.set_cons_zero,List.set_cons_succ,bI_,bL_];rfl
            refine one_ (i:=12) (N:=some 91) #[true,true,true,true,true,true,true,true,true,true,true,true,true,false,false] rfl rfl (bZ_ HT_.o (by kernel_rfl)) (by decide) (fun K hK=>?_)
            refine goR_ Try.func93 #[.slice (some ad153) (rd_L1 x0_3 x64_3).length c152_0,.slice Ao47 t156.length co47] ?_
            with_reducible refine (Fay.calls k3 _ _ (rd_L1 x0_3 x64_3) _ _ t156 t159 _ ?side1 ?side2 ?side3 ?side4 A43.o).mono ?_
            (case side1=>exact zC HR152_0.o)
            (case side2=>exact HC152_0.o)
            (case side3=>exact zC ((Kd.bj_ HO158.o).2.2))
            (case side4=>exact (Kd.bj_ HO158.o).2.1)
            rintro e w48 ⟨v160,rfl,ho0,hb⟩;have HS0_:=(hb.cell (World.block_lt_of_cell? _ _ (hHeld.1))).trans (hHeld.1);have HS1_:=(hb.cell (World.block_lt_of_cell? _ _ (hHeld.2.1))).trans (hHeld.2.1);have HS2_:=(hb.cell (World.block_lt_of_cell? _ _ (hHeld.2.2))).trans (hHeld.2.2)
            refine ⟨_,rfl,?_⟩
            replace HO_0:=am (Kd.cz_ (zN HO_0.o) (Kd.bt_ ho0) hb)
            replace HL152_0:=am (Kd.bT_ (zV HL152_0.o) (Kd.bt_ ho0) hb)
            replace HL155_0:=am (Kd.bT_ (zV HL155_0.o) (Kd.bt_ ho0) hb)
            have HO161:=am (Kd.bx_ (Kd.bX_ ho0 (Kd.R_lt (zR HO158.o))) (zs_ HB.o))
            replace HO158:=am (Kd.bC_ (zR HO158.o) (Kd.bt_ ho0) hb)
            replace BK137:=am (bm_ (zK BK137.o) hb)
            replace HR152_0:=am (Kd.bH_ (zC HR152_0.o) hb);replace HR155_0:=am (Kd.bH_ (zC HR155_0.o) hb);replace HB:=am (bh_ (zB HB.o) hb);obtain ⟨Av160,cv160,ev160⟩:=Kd.bv_ HO161.o
            subst ev160
            (try clear hb);(try clear hb2);(try clear hk);(try clear hi);(try clear ho0);have p44:0≤(x64_3:Int):=od_;have q44:(x64_3:Int)<((x0_3.length:Int):Int):=od_;obtain ⟨ce44,hcl44,hM44,hcc44,hfr44⟩:=Kd.dk_ HO_0.o [] (x64_3:Int) p44 q44;obtain ⟨ua44_0,uc44_0,rfl,ul44_0,ge44_0⟩:=Kd.br_ hM44;have hx44_0:=hcc44 0 _ rfl;have hf44_0:=hfr44 0
            (try simp only [show ((Kd.slice 5 (Kd.int .u8))).sz=1 from rfl,Nat.mul_one,Nat.add_zero] at hx44_0)
            (try simp only [show ((Kd.slice 5 (Kd.int .u8))).sz=1 from rfl,Nat.mul_one,Nat.add_zero] at hf44_0)
            clear hcl44 hcc44 hfr44 hM44;replace p44:=eq_true p44;replace q44:=eq_true q44;have HX49:=am (show Kd.N (Kd.slice 5 (Kd.int .u8)) 22 _ w.heap.size (fun k_=>some k_≠(.slice Ao47 t156.length co47:Value).ownBlock∧some k_≠((.slice Av160 t159.length cv160):Value).ownBlock∧k_≠gb137) (.slice (some ⟨go19,0,none⟩) x0_3.length co25) x0_3 from (Kd.bR_ (HO_0.o) (fun k_ hk=>⟨hk.1.2,⟨hk.2,hk.1.1⟩⟩)));replace HX49:=am (show Kd.N (Kd.slice 5 (Kd.int .u8)) 22 _ w.heap.size (fun k_=>some k_≠(.slice Ao47 t156.length co47:Value).ownBlock∧k_≠gb137) (.slice (some ⟨go19,0,none⟩) x0_3.length co25) x0_3 from Kd.bR_ HX49.o (fun k_ hk=>⟨hk.1,hk.2.2⟩));obtain ⟨ce49,hcl49,hM49,hcc49,hfr49⟩:=Kd.dk_ HX49.o [] (x64_3:Int) (od_) (by have h_:(x64_3:Int)<((x0_3.length:Int):Int):=od_;first|exact h_|(have e_:=(Kd.bu_ HO_0.o).1;omega)|simpa using h_)
            obtain ⟨ua49_0,uc49_0,rfl,ul49_0,ge49_0⟩:=Kd.br_ hM49;have HP49:=(Kd.N_seg HX49.o (x64_3:Int) (od_) (by have h_:(x64_3:Int)<((x0_3.length:Int):Int):=od_;first|exact h_|(have e_:=(Kd.bu_ HO_0.o).1;omega)|simpa using h_) (seg:=[(.slice Av160 t159.length cv160)]) (j:=0) hcl49 hcc49 (show 1≤1 from by decide) (x':=t159) (Kd.FK_of_M (Kd.M_row (Kd.bq_ (ok':=(fun k_=>((fun k_=>some k_≠(.slice Ao47 t156.length co47:Value).ownBlock∧k_≠gb137)) k_∧k_≠go19)) (Kd.cb_ (Kd.cj_ (HO161.o) (Kd.dv_ HO_0.o) (by decide)) BK137.o (by decide)) (fun k_ hk=>⟨⟨hk.1.1.2,hk.2⟩,fun e_=>(hk.1.2) (by rw [e_];rfl)⟩)))) (fun _ hk=>hk)).1
            (try simp only [show ((Kd.slice 5 (Kd.int .u8))).sz=1 from rfl,Nat.mul_one,Nat.add_zero] at HP49)
            rw [← Ny162.o] at HP49;have HQ49:=am HP49;clear hcl49 hcc49 hfr49 hM49 HP49
            refine hK.out _ _ ⟨HS0_,HS1_,HS2_⟩ (fun hHeld=>?_)
            clear hK K
            refine cp_ (a':=?_) ?_ ?_
            rotate_left
            ·show Act.put _ (some 91) _=_
             simp only [Act.put,List.setIfInBounds_toArray,List.set_cons_zero,List.set_cons_succ,bI_,bL_];rfl
            refine pu_ (i:=13) (some 92) #[true,true,true,true,true,true,true,true,true,true,true,true,true,true,false] HT_ ?_
            refine last_ (i:=14) (N:=none) #[true,true,true,true,true,true,true,true,true,true,true,true,true,true,true] rfl rfl (bZ_ HT_.o (by kernel_rfl)) (by decide) (fun K hK=>?_)
            refine skip_ (w1:=?_) (by rfl) rfl ?_ ?_
            rotate_left
            ·go_simp;rfl
            refine hK.out _ _ ?_
            clear hK K
            refine done_ (cD_ HT_.o (by kernel_rfl)) ?_
            (try clear hkz_);have hkz_:=elimK BK137.o
            try go_wp2
            (try simp only [← hl0_3])
            go_roundg k3
            case measure=>have:=HK1.o;have:=HJ6.o;have:=HK3.o;omega
            case rel=>exact ⟨(y162),(wrap64 (x64_3+1)),rf_,(by first|exact H'|(have H2_:=H';simp only [hji14] at H2_ ⊢;exact H2_)),⟨by have:=HK1.o;have:=HJ6.o;have:=HK3.o;omega⟩,⟨by (try simp only [hl0_3]);(with_reducible repeat (first|apply Kd.cE_|apply Kd.cA_|apply Kd.cn_));exact Kd.bR_ HQ49.o (fun _ hk=>hk.2)⟩,⟨by (try simp only [hl0_3]);(with_reducible repeat (first|apply bd_|apply bb_|apply bc_));refine bF_ ?_ (by have h_:=Kd.cq_ HX49.o (fun _ hk=>hk.2);intro e_;exact h_ (by rw [e_];rfl)) _;(with_reducible repeat (first|apply bd_|apply bb_|apply bc_));exact BK137.o⟩,⟨by repeat (first|(with_reducible first|exact HB.o|apply bk_|apply be_|apply bg_|refine bl_ ?_ GB19.o|refine bl_ ?_ GE137.o)|exact HB.o)⟩⟩
         ·rw [if_neg c33] at H;have c33b0:=decide_eq_false c33
          try simp only [hl0_3] at c33b0
          clear c33;have H':=am H;clear H;(try clear hkz_);have hkz_:=elimK BK137.o
          go_wp2_with (first|((with_reducible refine bB_ (N:=6) rfl ?_);(try (refine bM_ (by rfl) ?_;dsimp only));refine bU_ ?hg (N:=6) ?hd (cs:=#[.int .i64 0]) (t:=3) ?hr ?_;(case hd=>rfl);(case hg=>rfl);(case hr=>first|(go_simp;done)|(go_simp;rfl));intro gb138 hg w5 hbox hb;have n0_:=am (Kd.bR_ (Kd.N_below (Kd.N_elderB HO_0.o gb138 (Nat.le_of_eq hg.symm)) hb) (fun _ hk=>hk.2):Kd.N _ _ _ _ (fun k_=>k_≠gb138) _ _);have n1_:=am (show w.heap.size≤gb138 from by rw [hg];exact bN_ HB.o);have n2_:=am (bh_ HB.o hb);have n3_:=am hbox;clear HO_0 HB;have HO_0:=n0_;have GE138:=n1_;have HB:=n2_;have BK138:=n3_;clear n0_ n1_ n2_ n3_;clear hb hbox hg;have hkz_:=elimK BK138.o;have hfz_:=bs_ BK138.o 0))
          (try simp only [← hl0_3])
          go_roundg k3
          case measure=>have:=HK1.o;have:=HJ6.o;have:=HK3.o;omega
          case rel=>exact ⟨x0_3,(wrap64 (x5_1+1)),(wrap64 (x6_1+1)),gb138,rfl,rfl,H',⟨by have:=HK1.o;have:=HJ6.o;have:=HK3.o;omega⟩,⟨by (try simp only [hl0_3]);exact Kd.N_far (p:=⟨gb138,0,none⟩) (Kd.N_far (p:=⟨gb138,0,none⟩) HO_0.o (fun _ hk=>hk) _) (fun _ hk=>hk) _⟩,⟨elimSet (elimSet BK138.o _) _⟩,GE138,⟨bl_ (bl_ HB.o GE138.o) GE138.o⟩⟩
     ·replace c10:=Bool.eq_false_iff.mpr c10
      subst c10
      have H1:(some (x0_1,x5_1))=some (r2,r1):=by rw [if_neg (show ¬ (false=true) by decide)] at H;exact H
      clear H;have H:=H1;clear H1;obtain ⟨rfl,rfl⟩:=Prod.mk.inj (Option.some.inj H)
      go_wp2
      go_ret
      exact ⟨rfl,Kd.bR_ HO_0.o (fun _ _=>trivial),HB.o⟩


end Go.Proofs.Ytbloniemhkfnlaa.PFnCorrected
