/- A law's functions as plain Lean functions, each with the walk that shows that the code computes it: written by this session's program wip/tools/ppmake.py. -/
import Derived.Test.YtbloniemhkfnlaaKZ
import Derived.Test.YtbloniemhkfnlaaPFnCorrectedx0
namespace Go.Proofs.Ytbloniemhkfnlaa.PFnCorrected
open Go.RowKit Go.Proofs.YtbloniemhkfnlaaW.PrintWords Go.Proofs.YtbloniemhkfnlaaW.PrintLast Go.Proofs.YtbloniemhkfnlaaW.PrintMore
attribute [local go_sem] cw_ cy_ cK_ cL_ ci_ ch_ cx_ cv_   -- for this text's walks alone
set_option linter.unusedVariables false
set_option linter.unusedSimpArgs false

/-! ### spec_l1Add: function 86 -/
def Ft.l0:Nat→List Int→List Int→List Int→Int→Int→Option (List Int)
 | 0,_,_,_,_,_=>none
 | k+1,x0,x1,x5,x8,x9=>if x9<x8 then (if 0≤x9 then (if x9<(x0.length:Int) then (if x9<(x1.length:Int) then (if x5.length<140737488355328 then (Ft.l0 k x0 x1 (x5++[Go.bits .xor .u8 (rd x0 x9) (rd x1 x9)]) x8 (wrap64 (x9+1))) else (none)) else (none)) else (none)) else (none)) else (some x5)
def Ft.f (k:Nat) (l0:List Int) (l1:List Int):Option (List Int):=Ft.l0 k l0 l1 ([]:List Int) (l0.length:Int) 0
def Ft.T5:Bool × List (List Nat × List Nat):=(true,[([],[]),([],[]),([],[]),([1,2],[1,2]),([3],[3]),([],[]),([],[]),([5,6],[5,6]),([7],[7]),([4,8],[4,8]),([9],[9]),([0,10],[0,10]),([11,11,0,1,2,3,4,5,6,7,8,9,10,11],[0,11])])
def Ft.B5:List Nat:=[0,0,0,6,14,0,0,96,224,510,1022,2047,4095]
theorem Ft.tab5:rtab .any (opsOf Try.f86 5)=Ft.T5:=by kernel_rfl
theorem Ft.bits5:waitsOk Ft.T5.2 Ft.B5=true:=by kernel_rfl
set_option maxHeartbeats 8000000 in
set_option maxRecDepth 100000 in
theorem Ft.calls (k:Nat) (A0:Option Addr) (c0:Nat) (l0:List Int) (A1:Option Addr) (c1:Nat) (l1:List Int) (r:List Int) (w:World) (hr0:Kd.C (Kd.int .u8) w A0 l0.length l0) (hc0:l0.length≤c0) (hr1:Kd.C (Kd.int .u8) w A1 l1.length l1) (hc1:l1.length≤c1) (h:Ft.f k l0 l1=some r) :
  Calls Try.prog 86 #[.slice A0 l0.length c0,.slice A1 l1.length c1] w fun e w'=>∃ v0_:Value,e = .returned (v0_)∧Kd.R (Kd.int .u8) 5 w' w.heap.size (fun _=>True) v0_ r∧Below w.heap.size w w':=by
 have HR0:=am hr0;have HC0:=am hc0;clear hr0 hc0;have HR1:=am hr1;have HC1:=am hc1;clear hr1 hc1;have HB:=am (Below.refl w.heap.size w);have H:(Ft.l0 k l0 l1 ([]:List Int) (l0.length:Int) 0)=some r:=h;clear h;have H':=am H;clear H
 go_enter Try.func86,Try.ntmps86
 go_wp2
 go_loopg [5,9] k (fun kq v5 v9 w'=>∃ (x5_1:List Int) (x9_1:Int),v9 = .int .i64 x9_1∧ba_ (Ft.l0 kq l0 l1 x5_1 (l0.length:Int) x9_1=some r)∧ba_ (kq≤k)∧ba_ (Kd.R (Kd.int .u8) 5 w' w.heap.size (fun _=>True) v5 x5_1)∧ba_ (Below w.heap.size w w'))
 case atStart=>exact ⟨(([]:List Int)),(0),rfl,H',⟨Nat.le_refl _⟩,⟨by first|apply Kd.di_|apply Kd.N_nil|apply Kd.V_nil|apply Kd.Q_nil|apply Kd.S_nil⟩,⟨zB HB.o⟩⟩
 case round =>
  clear H';obtain ⟨x5_1,x9_1,rfl,HA,HK1,HO_5,HB⟩:=hrel
  cases gk with
  | zero=>exact absurd HA.o (by simp [Ft.l0])
  | succ k1 =>
   have H:=HA.o;clear HA
   simp only [Ft.l0] at H
   by_cases c3:x9_1<(l0.length:Int)
   ·rw [if_pos c3] at H;have c3b0:=decide_eq_true c3;clear c3
    obtain ⟨c4,H⟩:=it_ H;have c4b0:=decide_eq_true c4;clear c4
    obtain ⟨c5,H⟩:=it_ H;have c5b0:=decide_eq_true c5;clear c5
    obtain ⟨c6,H⟩:=it_ H;have c6b0:=decide_eq_true c6;clear c6
    obtain ⟨c7,H⟩:=it_ H;have LMc7:=am c7;clear c7;obtain ⟨y262,hy262⟩:∃ y_:List Int,y_=(x5_1++[Go.bits .xor .u8 (rd l0 x9_1) (rd l1 x9_1)]):=⟨_,rfl⟩
    replace H:(Ft.l0 k1 l0 l1 y262 (l0.length:Int) (wrap64 (x9_1+1)))=some r:=by first|(rw [hy262];exact H)|(have H2_:=(Option.bind_some _ _).symm.trans H;first|exact H2_|(rw [hy262];exact H2_))|exact H
    have Ny262:=am hy262;clear hy262;have H':=am H;clear H
    try go_wp2
    replace HO_5:=am (Kd.bP_ HO_5.o);replace HB:=am (bg_ HB.o);have p260:0≤(x9_1:Int):=od_;have q260:x9_1<(l0.length:Int):=od_;obtain ⟨ad260,e260,hx260_0⟩:=Kd.bK_ HR0.o x9_1 p260 q260;have hw260_0:=hx260_0;cases e260;replace hx260_0:=(HB.o.cell (World.block_lt_of_cell? w _ hx260_0)).trans hx260_0;replace p260:=eq_true p260;replace q260:=eq_true q260;have p261:0≤(x9_1:Int):=od_;have q261:x9_1<(l1.length:Int):=od_;obtain ⟨ad261,e261,hx261_0⟩:=Kd.bK_ HR1.o x9_1 p261 q261;have hw261_0:=hx261_0;cases e261;replace hx261_0:=(HB.o.cell (World.block_lt_of_cell? w _ hx261_0)).trans hx261_0;replace p261:=eq_true p261;replace q261:=eq_true q261
    refine cS_ (n:=13) (S:=fun w'=>w'.cell? (ad260.add (x9_1).toNat)=some (.int .u8 (rd l0 x9_1))∧w'.cell? (ad261.add (x9_1).toNat)=some (.int .u8 (rd l1 x9_1))) (ds:=[]) #[false,false,false,false,false,false,false,false,false,false,false,false,false] (by kernel_rfl) rfl rfl ⟨((HB.o.cell (World.block_lt_of_cell? w _ hw260_0)).trans hw260_0),((HB.o.cell (World.block_lt_of_cell? w _ hw261_0)).trans hw261_0)⟩ (fun hHeld=>?_);refine cc_ Ft.tab5 Ft.bits5 (fun HT_ HW_=>?_)
    generalize wr.drew=w8 at HO_5 HB hx260_0 hx261_0 hHeld ⊢
    refine pu_ (i:=0) (some 12) #[true,false,false,false,false,false,false,false,false,false,false,false,false] HT_ ?_
    refine pu_ (i:=1) (some 13) #[true,true,false,false,false,false,false,false,false,false,false,false,false] HT_ ?_
    refine pu_ (i:=2) (some 14) #[true,true,true,false,false,false,false,false,false,false,false,false,false] HT_ ?_
    refine pu_ (i:=3) (some 15) #[true,true,true,true,false,false,false,false,false,false,false,false,false] HT_ ?_
    refine pu_ (i:=5) (some 17) #[true,true,true,true,false,true,false,false,false,false,false,false,false] HT_ ?_
    refine pu_ (i:=6) (some 18) #[true,true,true,true,false,true,true,false,false,false,false,false,false] HT_ ?_
    refine pu_ (i:=7) (some 19) #[true,true,true,true,false,true,true,true,false,false,false,false,false] HT_ ?_
    refine ta_ (i:=4) (some 16) #[true,true,true,true,true,true,true,true,false,false,false,false,false] HT_ HW_ hHeld ?_
    refine ta_ (i:=8) (some 20) #[true,true,true,true,true,true,true,true,true,false,false,false,false] HT_ HW_ hHeld ?_
    refine pu_ (i:=9) (some 21) #[true,true,true,true,true,true,true,true,true,true,false,false,false] HT_ ?_
    refine one_ (i:=10) (N:=some 22) #[true,true,true,true,true,true,true,true,true,true,true,false,false] rfl rfl (bZ_ HT_.o (by kernel_rfl)) (by decide) (fun K hK=>?_)
    refine value_ (w1:=?_) (v:=?_) (by rfl) rfl ?_ ?_
    rotate_left 2
    ·go_simp
     constructor
     ·rfl
     ·rfl
    refine hK.out _ _ ⟨(World.cell?_alloc_lt _ _ _ (World.block_lt_of_cell? _ _ (((HB.o.cell (World.block_lt_of_cell? w _ hw260_0)).trans hw260_0)))).trans (((HB.o.cell (World.block_lt_of_cell? w _ hw260_0)).trans hw260_0)),(World.cell?_alloc_lt _ _ _ (World.block_lt_of_cell? _ _ (((HB.o.cell (World.block_lt_of_cell? w _ hw261_0)).trans hw261_0)))).trans (((HB.o.cell (World.block_lt_of_cell? w _ hw261_0)).trans hw261_0))⟩ (fun hHeld=>?_)
    clear hK K
    refine cp_ (a':=?_) ?_ ?_
    rotate_left
    ·show Act.put _ (some 22) _=_
     simp only [Act.put,List.setIfInBounds_toArray,List.set_cons_zero,List.set_cons_succ,bI_,bL_];rfl
    refine one_ (i:=11) (N:=some 23) #[true,true,true,true,true,true,true,true,true,true,true,true,false] rfl rfl (bZ_ HT_.o (by kernel_rfl)) (by decide) (fun K hK=>?_)
    refine Kd.R_append_step (Kd.int .u8) (w0:=w) w.heap.size (by rfl) (.tmp 12) (.tmp 22) 22 5 (.int .u8 0) 1 rfl Try.underlying22 info5 rfl (by decide) (by omega) u5 x5_1 (Go.bits .xor .u8 (rd l0 x9_1) (rd l1 x9_1)) [.int .u8 (Go.bits .xor .u8 (rd l0 x9_1) (rd l1 x9_1))] (fun _=>True) (fun _=>False) rfl rfl ?aP (fun _ hk=>hk.elim) ?aF ?aO ?aB ?aS ?aL ?_
    (case aP=>exact rfl)
    (case aB=>exact (zB HB.o))
    (case aF=>exact (fun _ _=>trivial))
    (case aO=>exact (zR HO_5.o))
    (case aS=>exact (zs_ HB.o))
    (case aL=>have:=LMc7.o;omega)
    intro v263 w9 ho hb hg hat;rw [← Ny262.o] at ho;replace HB:=am (hb);have HO264:=am (ho);(try clear HO_5);clear ho hb hg hat
    refine hK.out _ _ ⟨((HB.o.cell (World.block_lt_of_cell? w _ hw260_0)).trans hw260_0),((HB.o.cell (World.block_lt_of_cell? w _ hw261_0)).trans hw261_0)⟩ (fun hHeld=>?_)
    clear hK K
    refine cp_ (a':=?_) ?_ ?_
    rotate_left
    ·show Act.put _ (some 23) _=_
     simp only [Act.put,List.setIfInBounds_toArray,List.set_cons_zero,List.set_cons_succ,bI_,bL_];rfl
    refine pu_ (i:=12) (some 5) #[true,true,true,true,true,true,true,true,true,true,true,true,true] HT_ ?_
    refine done_ (cD_ HT_.o (by kernel_rfl)) ?_
    try go_wp2
    go_roundg k1
    case measure=>have:=HK1.o;omega
    case rel=>exact ⟨(y262),(wrap64 (x9_1+1)),rfl,H',⟨by have:=HK1.o;omega⟩,⟨zR HO264.o⟩,⟨zB HB.o⟩⟩
   ·rw [if_neg c3] at H;have c3b0:=decide_eq_false c3;clear c3;obtain rfl:=Option.some.inj H
    go_wp2
    go_ret
    exact ⟨_,rfl,zR HO_5.o,zB HB.o⟩

end Go.Proofs.Ytbloniemhkfnlaa.PFnCorrected
