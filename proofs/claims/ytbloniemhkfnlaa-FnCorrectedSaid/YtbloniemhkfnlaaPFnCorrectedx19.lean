/- A law's functions as plain Lean functions, each with the walk that shows that the code computes it: written by this session's program wip/tools/ppmake.py. -/
import Derived.Test.YtbloniemhkfnlaaKZ
import Derived.Test.YtbloniemhkfnlaaPFnCorrectedx0
import Derived.Test.YtbloniemhkfnlaaPFnCorrectedx4
import Derived.Test.YtbloniemhkfnlaaPFnCorrectedx18
namespace Go.Proofs.Ytbloniemhkfnlaa.PFnCorrected
open Go.RowKit Go.Proofs.YtbloniemhkfnlaaW.PrintWords Go.Proofs.YtbloniemhkfnlaaW.PrintLast Go.Proofs.YtbloniemhkfnlaaW.PrintMore
attribute [local go_sem] cw_ cy_ cK_ cL_ ci_ ch_ cx_ cv_   -- for this text's walks alone
set_option linter.unusedVariables false
set_option linter.unusedSimpArgs false

/-! ### spec_l1Cur_word: function 67 -/
def Fac.l0:Nat→Int→List Int→Int→List Int→Int→Int→Option (List Int × Int × Int × Int)
 | 0,_,_,_,_,_,_=>none
 | k+1,x4,x5,x7,x1000,x1001,x1002=>if x7 > 0 then ((Fq.f x1000 x1001 x1002 (x5.length:Int)).bind fun bt497=>(if 0≤bt497.1 then (if bt497.1<(x5.length:Int) then ((Fbk.f x1000 bt497.2.1 bt497.2.2).bind fun bt501=>(Fac.l0 k x4 (x5.set (bt497.1:Int).toNat (Go.bits .xor .u8 (rd x5 bt497.1) bt501.1)) (wrap64 (x7 - 1)) x1000 bt501.2.1 bt501.2.2)) else (none)) else (none))) else ((Fbi.f x1000 x1001 x1002 20).bind fun bt505=>(if bt505.1=true then ((Fq.f x1000 bt505.2.1 bt505.2.2 6).bind fun bt508=>(some (x5,bt508.1,bt508.2.1,bt508.2.2))) else (some (x5,x4,bt505.2.1,bt505.2.2))))
def Fac.f (k:Nat) (s0_0:List Int) (s0_1:Int) (s0_2:Int):Option (List Int × Int × Int × Int):=(Fq.f s0_0 s0_1 s0_2 4).bind fun bt479=>((Fq.f s0_0 bt479.2.1 bt479.2.2 8).bind fun bt482=>((Fap.f k s0_0 bt482.2.1 bt482.2.2 (wrap64 (1+bt482.1))).bind fun bt485=>((Fv.f k bt485.1 (wrap64 (1+bt479.1))).bind fun bt490=>((Fq.f s0_0 bt485.2.1 bt485.2.2 (wrap64 ((wrap64 (1+bt479.1))+2))).bind fun bt494=>(Fac.l0 k (wrap64 (1+bt479.1)) bt490.1 bt494.1 s0_0 bt494.2.1 bt494.2.2)))))
def Fac.T6:Bool × List (List Nat × List Nat):=(true,[([],[]),([],[]),([],[]),([2],[2]),([1,3],[1,3]),([0,4],[0,4]),([5],[5]),([],[]),([7,4],[7]),([6,8],[6,8]),([0,4,0,1,2,3,4,5,6,7,8,9],[0,4]),([10,9,8,0,1,2,3,4,5,6,7,8,9],[9,10])])
def Fac.B6:List Nat:=[0,0,0,4,14,31,63,0,158,511,1023,2047]
theorem Fac.tab6:rtab .any (opsOf Try.f67 6)=Fac.T6:=by kernel_rfl
theorem Fac.bits6:waitsOk Fac.T6.2 Fac.B6=true:=by kernel_rfl
set_option maxHeartbeats 8000000 in
set_option maxRecDepth 100000 in
theorem Fac.calls (k:Nat) (g:Nat) (s0_0:List Int) (s0_1:Int) (s0_2:Int) (r1:List Int) (r2:Int) (r3:Int) (r4:Int) (w0 w:World) (hI:IsS63 w0 w g s0_0 s0_1 s0_2) (hB:Below w0.heap.size w0 w) (h:Fac.f k s0_0 s0_1 s0_2=some (r1,r2,r3,r4)) :
  Calls Try.prog 67 #[.pointer (some ⟨g,0,none⟩)] w fun e w'=>∃ v0_:Value,e = .returned (.tuple #[v0_,.int .i64 r2])∧Kd.R (Kd.int .u8) 5 w' w.heap.size (fun _=>True) v0_ r1∧IsS63 w0 w' g s0_0 r3 r4∧Below w0.heap.size w0 w'∧KeepBut w w' g none:=by
 have HI0:=am hI;have HK:=am (KeepBut.refl w g none);have HL:=am hB.size;clear hI;have HW0:=am hB.size;have HB:=am hB;clear hB;have H:((Fq.f s0_0 s0_1 s0_2 4).bind fun bt479=>((Fq.f s0_0 bt479.2.1 bt479.2.2 8).bind fun bt482=>((Fap.f k s0_0 bt482.2.1 bt482.2.2 (wrap64 (1+bt482.1))).bind fun bt485=>((Fv.f k bt485.1 (wrap64 (1+bt479.1))).bind fun bt490=>((Fq.f s0_0 bt485.2.1 bt485.2.2 (wrap64 ((wrap64 (1+bt479.1))+2))).bind fun bt494=>(Fac.l0 k (wrap64 (1+bt479.1)) bt490.1 bt494.1 s0_0 bt494.2.1 bt494.2.2))))))=some (r1,r2,r3,r4):=h;clear h;obtain ⟨⟨t479,t480,t481⟩,A2,H⟩:=bi_ H;dsimp only at H;obtain ⟨⟨t482,t483,t484⟩,A3,H⟩:=bi_ H;dsimp only at H;obtain ⟨⟨t485,t488,t489⟩,A4,H⟩:=bi_ H;dsimp only at H;obtain ⟨⟨t490,t491⟩,A5,H⟩:=bi_ H;dsimp only at H;obtain ⟨⟨t494,t495,t496⟩,A6,H⟩:=bi_ H;dsimp only at H;have H':=am H;clear H
 go_enter Try.func67,Try.ntmps67
 go_wp2_with (first|((with_reducible refine bf_ (f:=66) rfl ?_);refine goL_ (some 9) Try.func66 #[.pointer (some ⟨g,0,none⟩),.int .i64 4] ?_;(with_reducible refine (Fq.calls g s0_0 s0_1 s0_2 4 t479 t480 t481 w0 _ ?side1 ?side2 A2.o).mono ?_);(case side1=>repeat (first|(with_reducible first|exact HI0.o|apply IsS63.alloc|apply IsS63.drewN|apply IsS63.drew|apply IsS63.set_1|apply IsS63.set_2)|exact HI0.o));(case side2=>repeat (first|(with_reducible first|exact HB.o|apply bk_|apply be_|apply bg_|refine bl_ ?_ (IsS63.ge HI0.o))|exact HB.o));rintro e w7 ⟨rfl,hi,hb,hk⟩;refine ⟨_,rfl,?_⟩;replace HK:=am (KeepBut.trans (by repeat (first|(with_reducible first|exact HK.o|apply KeepBut.set_|apply bA_|apply bG_|apply bz_)|exact HK.o)) hk (.inl rfl));replace HB:=am (hb);replace HI0:=am (hi);(try clear hb);(try clear hb2);(try clear hk);(try clear hi))|((with_reducible refine bf_ (f:=66) rfl ?_);refine goL_ (some 14) Try.func66 #[.pointer (some ⟨g,0,none⟩),.int .i64 8] ?_;(with_reducible refine (Fq.calls g s0_0 t480 t481 8 t482 t483 t484 w0 _ ?side1 ?side2 A3.o).mono ?_);(case side1=>repeat (first|(with_reducible first|exact HI0.o|apply IsS63.alloc|apply IsS63.drewN|apply IsS63.drew|apply IsS63.set_1|apply IsS63.set_2)|exact HI0.o));(case side2=>repeat (first|(with_reducible first|exact HB.o|apply bk_|apply be_|apply bg_|refine bl_ ?_ (IsS63.ge HI0.o))|exact HB.o));rintro e w8 ⟨rfl,hi,hb,hk⟩;refine ⟨_,rfl,?_⟩;replace HK:=am (KeepBut.trans (by repeat (first|(with_reducible first|exact HK.o|apply KeepBut.set_|apply bA_|apply bG_|apply bz_)|exact HK.o)) hk (.inl rfl));replace HB:=am (hb);replace HI0:=am (hi);(try clear hb);(try clear hb2);(try clear hk);(try clear hi))|((with_reducible refine bf_ (f:=64) rfl ?_);refine goL_ (some 16) Try.func64 #[.pointer (some ⟨g,0,none⟩),.int .i64 (wrap64 (1+t482))] ?_;(with_reducible refine (Fap.calls k g s0_0 t483 t484 (wrap64 (1+t482)) t485 t488 t489 w0 _ ?side1 ?side2 A4.o).mono ?_);(case side1=>repeat (first|(with_reducible first|exact HI0.o|apply IsS63.alloc|apply IsS63.drewN|apply IsS63.drew|apply IsS63.set_1|apply IsS63.set_2)|exact HI0.o));(case side2=>repeat (first|(with_reducible first|exact HB.o|apply bk_|apply be_|apply bg_|refine bl_ ?_ (IsS63.ge HI0.o))|exact HB.o));rintro e w9 ⟨v486,rfl,ho0,hi,hb,hk⟩;refine ⟨_,rfl,?_⟩;have HO487:=am (Kd.bx_ ho0 (keep_size (w:=w) (g:=g) (row:=none) (by repeat (first|(with_reducible first|exact HK.o|apply KeepBut.set_|apply bA_|apply bG_|apply bz_)|exact HK.o))));replace HK:=am (KeepBut.trans (by repeat (first|(with_reducible first|exact HK.o|apply KeepBut.set_|apply bA_|apply bG_|apply bz_)|exact HK.o)) hk (.inl rfl));replace HB:=am (hb);replace HI0:=am (hi);(try clear hb);(try clear ho0);obtain ⟨Ao10,co10,eo10⟩:=Kd.bv_ HO487.o;subst eo10)|((with_reducible refine bf_ (f:=22) rfl ?_);refine goL_ (some 18) Try.func22 #[.slice Ao10 t485.length co10,.int .i64 (wrap64 (1+t479))] ?_;(with_reducible refine (Fv.calls k _ _ t485 (wrap64 (1+t479)) t490 t491 _ ?side1 ?side2 A5.o).mono ?_);(case side1=>exact zC ((Kd.bj_ HO487.o).2.2));(case side2=>exact (Kd.bj_ HO487.o).2.1);rintro e w11 ⟨v492,rfl,ho0,hb⟩;refine ⟨_,rfl,?_⟩;have HO493:=am (Kd.bx_ (Kd.bX_ ho0 (Kd.R_lt (zR HO487.o))) (keep_size (w:=w) (g:=g) (row:=none) (by repeat (first|(with_reducible first|exact HK.o|apply KeepBut.set_|apply bA_|apply bG_|apply bz_)|exact HK.o))));replace HO487:=am (Kd.bC_ (zR HO487.o) (Kd.bt_ ho0) hb);replace HI0:=am (IsS63.below (by repeat (first|(with_reducible first|exact HI0.o|apply IsS63.alloc|apply IsS63.drewN|apply IsS63.drew|apply IsS63.set_1|apply IsS63.set_2)|exact HI0.o)) hb);replace HK:=am (KeepBut.trans (by repeat (first|(with_reducible first|exact HK.o|apply KeepBut.set_|apply bA_|apply bG_|apply bz_)|exact HK.o)) (KeepBut.of_below hb g none) (.inl rfl));replace HB:=am (bh_ (zB HB.o) hb);(try clear hb);(try clear ho0))|((with_reducible refine bf_ (f:=66) rfl ?_);refine goL_ (some 24) Try.func66 #[.pointer (some ⟨g,0,none⟩),.int .i64 (wrap64 ((wrap64 (1+t479))+2))] ?_;(with_reducible refine (Fq.calls g s0_0 t488 t489 (wrap64 ((wrap64 (1+t479))+2)) t494 t495 t496 w0 _ ?side1 ?side2 A6.o).mono ?_);(case side1=>repeat (first|(with_reducible first|exact HI0.o|apply IsS63.alloc|apply IsS63.drewN|apply IsS63.drew|apply IsS63.set_1|apply IsS63.set_2)|exact HI0.o));(case side2=>repeat (first|(with_reducible first|exact HB.o|apply bk_|apply be_|apply bg_|refine bl_ ?_ (IsS63.ge HI0.o))|exact HB.o));rintro e w12 ⟨rfl,hi,hb,hk⟩;refine ⟨_,rfl,?_⟩;replace HO487:=am (Kd.bq_ (Kd.R_keep (IsS63.apart (show IsS63 w0 _ g s0_0 t488 t489 from by repeat (first|(with_reducible first|exact HI0.o|apply IsS63.alloc|apply IsS63.drewN|apply IsS63.drew|apply IsS63.set_1|apply IsS63.set_2)|exact HI0.o)) (zR HO487.o) (by decide)) hk (fun _ h=>h.2)) (fun _ h=>h.1));replace HO493:=am (Kd.bq_ (Kd.R_keep (IsS63.apart (show IsS63 w0 _ g s0_0 t488 t489 from by repeat (first|(with_reducible first|exact HI0.o|apply IsS63.alloc|apply IsS63.drewN|apply IsS63.drew|apply IsS63.set_1|apply IsS63.set_2)|exact HI0.o)) (zR HO493.o) (by decide)) hk (fun _ h=>h.2)) (fun _ h=>h.1));replace HK:=am (KeepBut.trans (by repeat (first|(with_reducible first|exact HK.o|apply KeepBut.set_|apply bA_|apply bG_|apply bz_)|exact HK.o)) hk (.inl rfl));replace HB:=am (hb);replace HI0:=am (hi);(try clear hb);(try clear hb2);(try clear hk);(try clear hi)))
 go_loopg [7] k (fun kq v7 w'=>∃ (x5_1:List Int) (x7_1:Int) (x1001_1:Int) (x1002_1:Int),v7 = .int .i64 x7_1∧ba_ (Fac.l0 kq (wrap64 (1+t479)) x5_1 x7_1 s0_0 x1001_1 x1002_1=some (r1,r2,r3,r4))∧ba_ (kq≤k)∧ba_ (Kd.R (Kd.int .u8) 5 w' w.heap.size (fun _=>True) v492 x5_1)∧ba_ (IsS63 w0 w' g s0_0 x1001_1 x1002_1)∧ba_ (KeepBut w w' g none)∧ba_ (Below w0.heap.size w0 w'))
 case atStart=>exact ⟨(t490),(t494),(t495),(t496),rfl,H',⟨Nat.le_refl _⟩,⟨zR (Kd.bq_ HO493.o (fun _ hk=>trivial))⟩,⟨by repeat (first|(with_reducible first|exact HI0.o|apply IsS63.alloc|apply IsS63.drewN|apply IsS63.drew|apply IsS63.set_1|apply IsS63.set_2)|exact HI0.o)⟩,⟨by repeat (first|(with_reducible first|exact HK.o|apply KeepBut.set_|apply bA_|apply bG_|apply bz_)|exact HK.o)⟩,⟨zB HB.o⟩⟩
 case round =>
  clear H';obtain ⟨x5_1,x7_1,x1001_1,x1002_1,rfl,HA,HK1,HO_5,HI0,HK,HB⟩:=hrel
  cases gk with
  | zero=>exact absurd HA.o (by simp [Fac.l0])
  | succ k1 =>
   have H:=HA.o;clear HA
   simp only [Fac.l0] at H
   by_cases c13:x7_1 > 0
   ·rw [if_pos c13] at H;have c13b0:decide (0<x7_1)=true:=decide_eq_true c13;clear c13;obtain ⟨⟨t497,t498,t499⟩,A14,H⟩:=bi_ H;dsimp only at H
    obtain ⟨c15,H⟩:=it_ H;have c15b0:=decide_eq_true c15;clear c15
    obtain ⟨c16,H⟩:=it_ H;have c16b0:=decide_eq_true c16;clear c16;obtain ⟨⟨t501,t502,t503⟩,A17,H⟩:=bi_ H;dsimp only at H;obtain ⟨y504,hy504⟩:∃ y_:List Int,y_=(x5_1.set (t497:Int).toNat (Go.bits .xor .u8 (rd x5_1 t497) t501)):=⟨_,rfl⟩
    replace H:(Fac.l0 k1 (wrap64 (1+t479)) y504 (wrap64 (x7_1 - 1)) s0_0 t502 t503)=some (r1,r2,r3,r4):=by first|(rw [hy504];exact H)|(have H2_:=(Option.bind_some _ _).symm.trans H;first|exact H2_|(rw [hy504];exact H2_))|exact H
    have Ny504:=am hy504;clear hy504;have H':=am H;clear H
    try go_wp2
    replace HO_5:=am (Kd.bP_ HO_5.o);replace HI0:=am (IsS63.drew HI0.o);replace HK:=am (bG_ HK.o);replace HB:=am (bg_ HB.o);obtain ⟨Ao20,co20,eo20⟩:=Kd.bv_ HO_5.o
    (first|subst eo20|(injection eo20 with f1_ f2_ f3_;have f4_:=f1_.symm;have f5_:=f3_.symm;clear f1_ f2_ f3_;subst f4_;subst f5_))
    have p500:0≤(t497:Int):=od_;have q500:t497<(x5_1.length:Int):=od_;obtain ⟨ad500,e500,hx500_0⟩:=Kd.bK_ (Kd.bj_ HO_5.o).2.2 t497 p500 q500;cases e500;replace p500:=eq_true p500;replace q500:=eq_true q500
    refine cS_ (n:=12) (S:=fun w'=>w'.cell? (ad500.add (t497).toNat)=some (.int .u8 (rd x5_1 t497))) (ds:=[11]) #[false,false,false,false,false,false,false,false,false,false,false,false] (by kernel_rfl) rfl rfl (hx500_0) (fun hHeld=>?_);refine cc_ Fac.tab6 Fac.bits6 (fun HT_ HW_=>?_)
    generalize wr.drew=w19 at HO_5 HI0 HK HB hx500_0 hHeld ⊢
    refine pu_ (i:=0) (some 29) #[true,false,false,false,false,false,false,false,false,false,false,false] HT_ ?_
    refine pu_ (i:=1) (some 30) #[true,true,false,false,false,false,false,false,false,false,false,false] HT_ ?_
    refine pu_ (i:=2) (some 31) #[true,true,true,false,false,false,false,false,false,false,false,false] HT_ ?_
    refine pu_ (i:=3) (some 32) #[true,true,true,true,false,false,false,false,false,false,false,false] HT_ ?_
    refine pu_ (i:=7) (some 36) #[true,true,true,true,false,false,false,true,false,false,false,false] HT_ ?_
    refine one_ (i:=4) (N:=some 33) #[true,true,true,true,true,false,false,true,false,false,false,false] rfl rfl (bZ_ HT_.o (by kernel_rfl)) (by decide) (fun K hK=>?_)
    refine goR_ Try.func66 #[.pointer (some ⟨g,0,none⟩),.int .i64 (x5_1.length:Int)] ?_
    with_reducible refine (Fq.calls g s0_0 x1001_1 x1002_1 (x5_1.length:Int) t497 t498 t499 w0 _ ?side1 ?side2 A14.o).mono ?_
    (case side1=>repeat (first|(with_reducible first|exact HI0.o|apply IsS63.alloc|apply IsS63.drewN|apply IsS63.drew|apply IsS63.set_1|apply IsS63.set_2)|exact HI0.o))
    (case side2=>repeat (first|(with_reducible first|exact HB.o|apply bk_|apply be_|apply bg_|refine bl_ ?_ (IsS63.ge HI0.o))|exact HB.o))
    rintro e w21 ⟨rfl,hi,hb,hk⟩
    have HS0_:=keep_cell hk (hHeld) (by first|(rw [add_block];exact Kd.own_blk (IsS63.own_ne HI0.o HO_5.o (by decide)))|(show (Addr.add _ _).block≠_;rw [add_block];exact Kd.own_blk (IsS63.own_ne HI0.o HO_5.o (by decide)))|exact Kd.own_blk (IsS63.own_ne HI0.o HO_5.o (by decide)))
    refine ⟨_,rfl,?_⟩
    replace HO_5:=am (Kd.bq_ (Kd.R_keep (IsS63.apart (show IsS63 w0 _ g s0_0 x1001_1 x1002_1 from by repeat (first|(with_reducible first|exact HI0.o|apply IsS63.alloc|apply IsS63.drewN|apply IsS63.drew|apply IsS63.set_1|apply IsS63.set_2)|exact HI0.o)) (zR HO_5.o) (by decide)) hk (fun _ h=>h.2)) (fun _ h=>h.1))
    replace HK:=am (KeepBut.trans (by repeat (first|(with_reducible first|exact HK.o|apply KeepBut.set_|apply bA_|apply bG_|apply bz_)|exact HK.o)) hk (.inl rfl));replace HB:=am (hb);replace HI0:=am (hi);(try clear hb);(try clear hb2);(try clear hk);(try clear hi)
    refine hK.out _ _ (HS0_) (fun hHeld=>?_)
    clear hK K
    refine cp_ (a':=?_) ?_ ?_
    rotate_left
    ·show Act.put _ (some 33) _=_
     simp only [Act.put,List.setIfInBounds_toArray,List.set_cons_zero,List.set_cons_succ,bI_,bL_];rfl
    refine pu_ (i:=5) (some 34) #[true,true,true,true,true,true,false,true,false,false,false,false] HT_ ?_
    refine ta_ (i:=6) (some 35) #[true,true,true,true,true,true,true,true,false,false,false,false] HT_ HW_ hHeld ?_
    refine one_ (i:=8) (N:=some 37) #[true,true,true,true,true,true,true,true,true,false,false,false] rfl rfl (bZ_ HT_.o (by kernel_rfl)) (by decide) (fun K hK=>?_)
    refine goR_ Try.func82 #[.pointer (some ⟨g,0,none⟩)] ?_
    with_reducible refine (Fbk.calls g s0_0 t498 t499 t501 t502 t503 w0 _ ?side1 ?side2 A17.o).mono ?_
    (case side1=>repeat (first|(with_reducible first|exact HI0.o|apply IsS63.alloc|apply IsS63.drewN|apply IsS63.drew|apply IsS63.set_1|apply IsS63.set_2)|exact HI0.o))
    (case side2=>repeat (first|(with_reducible first|exact HB.o|apply bk_|apply be_|apply bg_|refine bl_ ?_ (IsS63.ge HI0.o))|exact HB.o))
    rintro e w22 ⟨rfl,hi,hb,hk⟩
    have HS0_:=keep_cell hk (hHeld) (by first|(rw [add_block];exact Kd.own_blk (IsS63.own_ne HI0.o HO_5.o (by decide)))|(show (Addr.add _ _).block≠_;rw [add_block];exact Kd.own_blk (IsS63.own_ne HI0.o HO_5.o (by decide)))|exact Kd.own_blk (IsS63.own_ne HI0.o HO_5.o (by decide)))
    refine ⟨_,rfl,?_⟩
    replace HO_5:=am (Kd.bq_ (Kd.R_keep (IsS63.apart (show IsS63 w0 _ g s0_0 t498 t499 from by repeat (first|(with_reducible first|exact HI0.o|apply IsS63.alloc|apply IsS63.drewN|apply IsS63.drew|apply IsS63.set_1|apply IsS63.set_2)|exact HI0.o)) (zR HO_5.o) (by decide)) hk (fun _ h=>h.2)) (fun _ h=>h.1))
    replace HK:=am (KeepBut.trans (by repeat (first|(with_reducible first|exact HK.o|apply KeepBut.set_|apply bA_|apply bG_|apply bz_)|exact HK.o)) hk (.inl rfl));replace HB:=am (hb);replace HI0:=am (hi);(try clear hb);(try clear hb2);(try clear hk);(try clear hi);have p18:0≤(t497:Int):=od_;have q18:(t497:Int)<((x5_1.length:Int):Int):=od_;obtain ⟨go18,co18,eo18,gb18,gl18,cl18,HG18⟩:=Kd.R_form HO_5.o (by omega)
    (first|cases eo18|(injection eo18 with ea_ en_ ec_;(first|subst ea_|(injection ea_ with ea_;subst ea_));subst ec_;clear en_))
    have GB18:=am gb18;have GG18:=am HG18;clear gb18 gl18 HG18
    (first|simp only [add_plain] at hx500_0|skip)
    obtain ⟨hx18_0,hf18_0⟩:=Kd.R_celln 0 HO_5.o (t497:Int) p18 q18;replace p18:=eq_true p18;replace q18:=eq_true q18
    have HN0_go18:=am (show g≠go18 from by have h_:=IsS63.own_ne HI0.o HO_5.o (by decide);intro e_;exact h_ (by rw [e_];rfl))
    have HP23:=Kd.R_putn HO_5.o (t497:Int) (Go.bits .xor .u8 (rd x5_1 t497) t501);rw [← Ny504.o] at HP23;have HQ23:=am HP23;clear HP23
    refine hK.out _ _ (HS0_) (fun hHeld=>?_)
    clear hK K
    refine cp_ (a':=?_) ?_ ?_
    rotate_left
    ·show Act.put _ (some 37) _=_
     simp only [Act.put,List.setIfInBounds_toArray,List.set_cons_zero,List.set_cons_succ,bI_,bL_];rfl
    refine pu_ (i:=9) (some 38) #[true,true,true,true,true,true,true,true,true,true,false,false] HT_ ?_
    refine pu_ (i:=10) (some 39) #[true,true,true,true,true,true,true,true,true,true,true,false] HT_ ?_
    refine last_ (i:=11) (N:=none) #[true,true,true,true,true,true,true,true,true,true,true,true] rfl rfl (bZ_ HT_.o (by kernel_rfl)) (by decide) (fun K hK=>?_)
    refine skip_ (w1:=?_) (by rfl) rfl ?_ ?_
    rotate_left
    ·go_simp;rfl
    refine hK.out _ _ ?_
    clear hK K
    refine done_ (cD_ HT_.o (by kernel_rfl)) ?_
    try go_wp2
    go_roundg k1
    case measure=>have:=HK1.o;omega
    case rel=>exact ⟨(y504),(wrap64 (x7_1 - 1)),(t502),(t503),rf_,H',⟨by have:=HK1.o;omega⟩,⟨zR HQ23.o⟩,⟨by repeat (first|(with_reducible first|exact HI0.o|apply IsS63.alloc|apply IsS63.drewN|apply IsS63.drew|apply IsS63.set_1|apply IsS63.set_2|refine IsS63.far ?_ HN0_go18.o _)|exact HI0.o)⟩,⟨by repeat (first|(with_reducible first|exact HK.o|apply KeepBut.set_|apply bA_|apply bG_|apply bz_|refine keep_far ?_ GB18.o _)|exact HK.o)⟩,⟨by repeat (first|(with_reducible first|exact HB.o|apply bk_|apply be_|apply bg_|refine bl_ ?_ (Nat.le_trans HL.o GB18.o)|refine bl_ ?_ (IsS63.ge HI0.o))|exact HB.o)⟩⟩
   ·rw [if_neg c13] at H;have c13b0:decide (0<x7_1)=false:=decide_eq_false c13;clear c13;obtain ⟨⟨t505,t506,t507⟩,A24,H⟩:=bi_ H;dsimp only at H
    by_cases c25:t505=true
    ·subst c25
     have H1:((Fq.f s0_0 t506 t507 6).bind fun bt508=>(some (x5_1,bt508.1,bt508.2.1,bt508.2.2)))=some (r1,r2,r3,r4):=by rw [if_pos rfl] at H;exact H
     clear H;have H:=H1;clear H1;obtain ⟨⟨t508,t509,t510⟩,A26,H⟩:=bi_ H;dsimp only at H
     simp only [Option.some.injEq,Prod.mk.injEq] at H
     obtain ⟨rfl,rfl,rfl,rfl⟩:=H
     go_wp2_with (first|((with_reducible refine bf_ (f:=68) rfl ?_);refine goL_ (some 41) Try.func68 #[.pointer (some ⟨g,0,none⟩),.int .i64 20] ?_;(with_reducible refine (Fbi.calls g s0_0 x1001_1 x1002_1 20 true t506 t507 w0 _ ?side1 ?side2 A24.o).mono ?_);(case side1=>repeat (first|(with_reducible first|exact HI0.o|apply IsS63.alloc|apply IsS63.drewN|apply IsS63.drew|apply IsS63.set_1|apply IsS63.set_2)|exact HI0.o));(case side2=>repeat (first|(with_reducible first|exact HB.o|apply bk_|apply be_|apply bg_|refine bl_ ?_ (IsS63.ge HI0.o))|exact HB.o));rintro e w27 ⟨rfl,hi,hb,hk⟩;refine ⟨_,rfl,?_⟩;replace HO_5:=am (Kd.bq_ (Kd.R_keep (IsS63.apart (show IsS63 w0 _ g s0_0 x1001_1 x1002_1 from by repeat (first|(with_reducible first|exact HI0.o|apply IsS63.alloc|apply IsS63.drewN|apply IsS63.drew|apply IsS63.set_1|apply IsS63.set_2)|exact HI0.o)) (zR HO_5.o) (by decide)) hk (fun _ h=>h.2)) (fun _ h=>h.1));replace HK:=am (KeepBut.trans (by repeat (first|(with_reducible first|exact HK.o|apply KeepBut.set_|apply bA_|apply bG_|apply bz_)|exact HK.o)) hk (.inl rfl));replace HB:=am (hb);replace HI0:=am (hi);(try clear hb);(try clear hb2);(try clear hk);(try clear hi))|((with_reducible refine bf_ (f:=66) rfl ?_);refine goL_ (some 43) Try.func66 #[.pointer (some ⟨g,0,none⟩),.int .i64 6] ?_;(with_reducible refine (Fq.calls g s0_0 t506 t507 6 t508 t509 t510 w0 _ ?side1 ?side2 A26.o).mono ?_);(case side1=>repeat (first|(with_reducible first|exact HI0.o|apply IsS63.alloc|apply IsS63.drewN|apply IsS63.drew|apply IsS63.set_1|apply IsS63.set_2)|exact HI0.o));(case side2=>repeat (first|(with_reducible first|exact HB.o|apply bk_|apply be_|apply bg_|refine bl_ ?_ (IsS63.ge HI0.o))|exact HB.o));rintro e w28 ⟨rfl,hi,hb,hk⟩;refine ⟨_,rfl,?_⟩;replace HO_5:=am (Kd.bq_ (Kd.R_keep (IsS63.apart (show IsS63 w0 _ g s0_0 t506 t507 from by repeat (first|(with_reducible first|exact HI0.o|apply IsS63.alloc|apply IsS63.drewN|apply IsS63.drew|apply IsS63.set_1|apply IsS63.set_2)|exact HI0.o)) (zR HO_5.o) (by decide)) hk (fun _ h=>h.2)) (fun _ h=>h.1));replace HK:=am (KeepBut.trans (by repeat (first|(with_reducible first|exact HK.o|apply KeepBut.set_|apply bA_|apply bG_|apply bz_)|exact HK.o)) hk (.inl rfl));replace HB:=am (hb);replace HI0:=am (hi);(try clear hb);(try clear hb2);(try clear hk);(try clear hi)))
     go_ret2
     exact ⟨_,rfl,zR HO_5.o,by repeat (first|(with_reducible first|exact HI0.o|apply IsS63.alloc|apply IsS63.drewN|apply IsS63.drew|apply IsS63.set_1|apply IsS63.set_2)|exact HI0.o),zB HB.o,by repeat (first|(with_reducible first|exact HK.o|apply KeepBut.set_|apply bA_|apply bG_|apply bz_)|exact HK.o)⟩
    ·replace c25:=Bool.eq_false_iff.mpr c25
     subst c25
     have H1:(some (x5_1,(wrap64 (1+t479)),t506,t507))=some (r1,r2,r3,r4):=by rw [if_neg (show ¬ (false=true) by decide)] at H;exact H
     clear H;have H:=H1;clear H1
     simp only [Option.some.injEq,Prod.mk.injEq] at H
     obtain ⟨rfl,rfl,rfl,rfl⟩:=H
     go_wp2_with (first|((with_reducible refine bf_ (f:=68) rfl ?_);refine goL_ (some 41) Try.func68 #[.pointer (some ⟨g,0,none⟩),.int .i64 20] ?_;(with_reducible refine (Fbi.calls g s0_0 x1001_1 x1002_1 20 false t506 t507 w0 _ ?side1 ?side2 A24.o).mono ?_);(case side1=>repeat (first|(with_reducible first|exact HI0.o|apply IsS63.alloc|apply IsS63.drewN|apply IsS63.drew|apply IsS63.set_1|apply IsS63.set_2)|exact HI0.o));(case side2=>repeat (first|(with_reducible first|exact HB.o|apply bk_|apply be_|apply bg_|refine bl_ ?_ (IsS63.ge HI0.o))|exact HB.o));rintro e w29 ⟨rfl,hi,hb,hk⟩;refine ⟨_,rfl,?_⟩;replace HO_5:=am (Kd.bq_ (Kd.R_keep (IsS63.apart (show IsS63 w0 _ g s0_0 x1001_1 x1002_1 from by repeat (first|(with_reducible first|exact HI0.o|apply IsS63.alloc|apply IsS63.drewN|apply IsS63.drew|apply IsS63.set_1|apply IsS63.set_2)|exact HI0.o)) (zR HO_5.o) (by decide)) hk (fun _ h=>h.2)) (fun _ h=>h.1));replace HK:=am (KeepBut.trans (by repeat (first|(with_reducible first|exact HK.o|apply KeepBut.set_|apply bA_|apply bG_|apply bz_)|exact HK.o)) hk (.inl rfl));replace HB:=am (hb);replace HI0:=am (hi);(try clear hb);(try clear hb2);(try clear hk);(try clear hi)))
     go_ret2
     exact ⟨_,rfl,zR HO_5.o,by repeat (first|(with_reducible first|exact HI0.o|apply IsS63.alloc|apply IsS63.drewN|apply IsS63.drew|apply IsS63.set_1|apply IsS63.set_2)|exact HI0.o),zB HB.o,by repeat (first|(with_reducible first|exact HK.o|apply KeepBut.set_|apply bA_|apply bG_|apply bz_)|exact HK.o)⟩

/-! ### spec_DrawSyndromesOf: function 33 -/
def Fbp.f (k:Nat) (l0:List Int):Option (List Int × Int):=(Fac.f k l0 0 0).bind fun bt512=>(some (bt512.1,bt512.2.1))
set_option maxHeartbeats 8000000 in
set_option maxRecDepth 100000 in
theorem Fbp.calls (k:Nat) (A0:Option Addr) (c0:Nat) (l0:List Int) (r1:List Int) (r2:Int) (w:World) (hr0:Kd.C (Kd.int .u8) w A0 l0.length l0) (hc0:l0.length≤c0) (h:Fbp.f k l0=some (r1,r2)) :
  Calls Try.prog 33 #[.slice A0 l0.length c0] w fun e w'=>∃ v0_:Value,e = .returned (.tuple #[v0_,.int .i64 r2])∧Kd.R (Kd.int .u8) 5 w' w.heap.size (fun _=>True) v0_ r1∧Below w.heap.size w w':=by
 have hu63:=Try.underlying63;have HR0:=am hr0;have HC0:=am hc0;clear hr0 hc0;have HB:=am (Below.refl w.heap.size w);have H:((Fac.f k l0 0 0).bind fun bt512=>(some (bt512.1,bt512.2.1)))=some (r1,r2):=h;clear h;obtain ⟨⟨t512,t515,t516,t517⟩,A2,H⟩:=bi_ H;dsimp only at H
 simp only [Option.some.injEq,Prod.mk.injEq] at H
 obtain ⟨rfl,rfl⟩:=H
 go_enter Try.func33,Try.ntmps33
 go_wp2_with (first|((with_reducible refine bB_ (N:=7) rfl ?_);refine bU_ ?hg (N:=7) ?hd (cs:=#[.slice A0 l0.length c0,.int .i64 0,.int .u64 0]) (t:=63) ?hr ?_;(case hd=>rfl);(case hg=>rfl);(case hr=>first|(go_simp;done)|(go_simp;rfl));intro gb511 hg w3 hbox hb;have HI511:=am ((show IsS63 w w3 gb511 l0 0 0 from ⟨_,_,hbox,(gw_ hg HB.o:w.heap.size≤gb511),HR0.o⟩));replace HB:=am (bh_ (zB HB.o) hb);clear hb hbox hg)|((with_reducible refine bf_ (f:=67) rfl ?_);refine goL_ (some 9) Try.func67 #[.pointer (some ⟨gb511,0,none⟩)] ?_;(with_reducible refine (Fac.calls k gb511 l0 0 0 t512 t515 t516 t517 w _ ?side1 ?side2 A2.o).mono ?_);(case side1=>repeat (first|(with_reducible first|exact HI511.o|apply IsS63.alloc|apply IsS63.drewN|apply IsS63.drew|apply IsS63.set_1|apply IsS63.set_2)|exact HI511.o));(case side2=>repeat (first|(with_reducible first|exact HB.o|apply bk_|apply be_|apply bg_|refine bl_ ?_ (IsS63.ge HI511.o))|exact HB.o));rintro e w4 ⟨v513,rfl,ho0,hi,hb,hk⟩;refine ⟨_,rfl,?_⟩;have HO514:=am (Kd.bx_ ho0 (zs_ HB.o));replace HB:=am (hb);replace HI511:=am (hi);(try clear hb);(try clear ho0)))
 go_ret2
 exact ⟨_,rfl,zR HO514.o,zB HB.o⟩

/-! ### spec_DrawCorrectWord: function 35 -/
def Fbq.f (k:Nat) (l0:List Int):Option (List Int × Int):=(Fbp.f k l0).bind fun bt518=>(some (bt518.1,bt518.2))
set_option maxHeartbeats 8000000 in
set_option maxRecDepth 100000 in
theorem Fbq.calls (k:Nat) (A0:Option Addr) (c0:Nat) (l0:List Int) (r1:List Int) (r2:Int) (w:World) (hr0:Kd.C (Kd.int .u8) w A0 l0.length l0) (hc0:l0.length≤c0) (h:Fbq.f k l0=some (r1,r2)) :
  Calls Try.prog 35 #[.slice A0 l0.length c0] w fun e w'=>∃ v0_:Value,e = .returned (.tuple #[v0_,.int .i64 r2])∧Kd.R (Kd.int .u8) 5 w' w.heap.size (fun _=>True) v0_ r1∧Below w.heap.size w w':=by
 have HR0:=am hr0;have HC0:=am hc0;clear hr0 hc0;have HB:=am (Below.refl w.heap.size w);have H:((Fbp.f k l0).bind fun bt518=>(some (bt518.1,bt518.2)))=some (r1,r2):=h;clear h;obtain ⟨⟨t518,t519⟩,A2,H⟩:=bi_ H;dsimp only at H
 simp only [Option.some.injEq,Prod.mk.injEq] at H
 obtain ⟨rfl,rfl⟩:=H
 go_enter Try.func35,Try.ntmps35
 go_wp2_with (first|((with_reducible refine bf_ (f:=33) rfl ?_);refine goL_ (some 5) Try.func33 #[.slice A0 l0.length c0] ?_;(with_reducible refine (Fbp.calls k _ _ l0 t518 t519 _ ?side1 ?side2 A2.o).mono ?_);(case side1=>exact zC HR0.o);(case side2=>exact HC0.o);rintro e w3 ⟨v520,rfl,ho0,hb⟩;refine ⟨_,rfl,?_⟩;have HO521:=am (Kd.bx_ ho0 (zs_ HB.o));replace HB:=am (bh_ (zB HB.o) hb);(try clear hb);(try clear ho0)))
 go_ret2
 exact ⟨_,rfl,zR HO521.o,zB HB.o⟩

end Go.Proofs.Ytbloniemhkfnlaa.PFnCorrected
