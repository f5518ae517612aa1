/- A law's functions as plain Lean functions, each with the walk that shows that the code computes it: written by this session's program wip/tools/ppmake.py. -/
import Derived.Test.YtbloniemhkfnlaaKZ
import Derived.Test.YtbloniemhkfnlaaPFnCorrectedx0
import Derived.Test.YtbloniemhkfnlaaPFnCorrectedx2
import Derived.Test.YtbloniemhkfnlaaPFnCorrectedx5
import Derived.Test.YtbloniemhkfnlaaPFnCorrectedx6
import Derived.Test.YtbloniemhkfnlaaPFnCorrectedx10
import Derived.Test.YtbloniemhkfnlaaPFnCorrectedx11
namespace Go.Proofs.Ytbloniemhkfnlaa.PFnCorrected
open Go.RowKit Go.Proofs.YtbloniemhkfnlaaW.PrintWords Go.Proofs.YtbloniemhkfnlaaW.PrintLast Go.Proofs.YtbloniemhkfnlaaW.PrintMore
attribute [local go_sem] cw_ cy_ cK_ cL_ ci_ ch_ cx_ cv_   -- for this text's walks alone
set_option linter.unusedVariables false
set_option linter.unusedSimpArgs false

/-! ### spec_CorrectWord: function 28 -/
mutual
def Fc.l0:Nat→List Int→Int→List Int→List Int→List Int→Int→Int→Option (List Int × Int × Bool)
 | 0,_,_,_,_,_,_,_=>none
 | k+1,x0,x1,x7,x8,x9,x37,x38=>if x38<x37 then ((Fk.f k 3 x38).bind fun t340=>((Fbj.f k t340).bind fun t341=>((Fau.f k x8 t341).bind fun t342=>(if t342=0 then (if x9.length<17592186044416 then (Fc.l0 k x0 x1 x7 x8 (x9++[x38]) x37 (wrap64 (x38+1))) else (none)) else (Fc.l0 k x0 x1 x7 x8 x9 x37 (wrap64 (x38+1))))))) else (if (x9.length:Int)=0 then (Fc.j1 k x0 x1 x7 x9 (x9.length:Int) true) else (Fc.j1 k x0 x1 x7 x9 (x9.length:Int) ((x9.length:Int) != (wrap64 ((x8.length:Int) - 1)))))
def Fc.j1:Nat→List Int→Int→List Int→List Int→Int→Bool→Option (List Int × Int × Bool)
 | 0,_,_,_,_,_,_=>none
 | k+1,x0,x1,x7,x9,x11,x62=>if x62=true then (some (([]:List Int),0,false)) else (Fc.l1 k x0 x1 x7 x9 x11 1 ([]:List (List Int)))
def Fc.l1:Nat→List Int→Int→List Int→List Int→Int→Int→List (List Int)→Option (List Int × Int × Bool)
 | 0,_,_,_,_,_,_,_=>none
 | k+1,x0,x1,x7,x9,x11,x13,xaa=>if x13≤x11 then (Fc.l2 k x0 x1 x7 x9 x11 x13 ([]:List Int) x9 (x9.length:Int) 0 xaa) else ((Fat.f k xaa).bind fun bt356=>(if bt356.2=true then ((some (([]:List Int):List Int)).bind fun y361=>(if y361.length+x0.length<140737488355328 then (if 0≤x11 then (if x11≤(x7.length:Int) then ((Fai.f k bt356.1 (x7.take (x11:Int).toNat)).bind fun t371=>(Fc.l3 k x1 x9 x11 (y361++x0) t371 (t371.length:Int) 0)) else (none)) else (none)) else (none))) else (some (([]:List Int),0,false))))
def Fc.l2:Nat→List Int→Int→List Int→List Int→Int→Int→List Int→List Int→Int→Int→List (List Int)→Option (List Int × Int × Bool)
 | 0,_,_,_,_,_,_,_,_,_,_,_=>none
 | k+1,x0,x1,x7,x9,x11,x13,x14,x69,x70,x71,xaa=>if x71<x70 then (if 0≤x71 then (if x71<(x69.length:Int) then ((Fk.f k 3 x13).bind fun t348=>((Fk.f k t348 (rd x69 x71)).bind fun t349=>(if x14.length<140737488355328 then (Fc.l2 k x0 x1 x7 x9 x11 x13 (x14++[t349]) x69 x70 (wrap64 (x71+1)) xaa) else (none)))) else (none)) else (none)) else (if xaa.length<5864062014805 then (Fc.l1 k x0 x1 x7 x9 x11 (wrap64 (x13+1)) (xaa++[x14])) else (none))
def Fc.l3:Nat→Int→List Int→Int→List Int→List Int→Int→Int→Option (List Int × Int × Bool)
 | 0,_,_,_,_,_,_,_=>none
 | k+1,x1,x9,x11,x19,x103,x104,x105=>if x105<x104 then (if 0≤x105 then (if x105<(x103.length:Int) then (if (rd x103 x105)=0 then (some (([]:List Int),0,false)) else (if x105<(x9.length:Int) then (if 0≤(rd x9 x105) then (if (rd x9 x105)<(x19.length:Int) then (Fc.l3 k x1 x9 x11 (x19.set ((rd x9 x105):Int).toNat (Go.bits .xor .u8 (rd x19 (rd x9 x105)) (rd x103 x105))) x103 x104 (wrap64 (x105+1))) else (none)) else (none)) else (none))) else (none)) else (none)) else ((Fy.f k x19 x1).bind fun t378=>((Fak.f k t378).bind fun t381=>(if t381=true then (some (x19,x11,true)) else (some (([]:List Int),0,false)))))
end
def Fc.f (k:Nat) (l0:List Int) (a1:Int):Option (List Int × Int × Bool):=(Fbe.f l0 a1).bind fun t326=>(if t326=true then ((Fy.f k l0 a1).bind fun t327=>((Fak.f k t327).bind fun t330=>(if t330=true then ((some (([]:List Int):List Int)).bind fun y331=>(if y331.length+l0.length<140737488355328 then (some ((y331++l0),0,true)) else (none))) else ((Fl.f k t327).bind fun t337=>(Fc.l0 k l0 a1 t327 t337 ([]:List Int) (l0.length:Int) 0))))) else (some (([]:List Int),0,false)))
set_option maxHeartbeats 8000000 in
set_option maxRecDepth 100000 in
theorem Fc.calls (k:Nat) (A0:Option Addr) (c0:Nat) (l0:List Int) (a1:Int) (r1:List Int) (r2:Int) (r3:Bool) (w:World) (hr0:Kd.C (Kd.int .u8) w A0 l0.length l0) (hc0:l0.length≤c0) (h:Fc.f k l0 a1=some (r1,r2,r3)) :
  Calls Try.prog 28 #[.slice A0 l0.length c0,.int .i64 a1] w fun e w'=>∃ v0_:Value,e = .returned (.tuple #[v0_,.int .i64 r2,.bool r3])∧Kd.R (Kd.int .u8) 5 w' w.heap.size (fun _=>True) v0_ r1∧Below w.heap.size w w':=by
 have hu52:=Try.underlying52;have HR0:=am hr0;have HC0:=am hc0;clear hr0 hc0;have HB:=am (Below.refl w.heap.size w);have H:((Fbe.f l0 a1).bind fun t326=>(if t326=true then ((Fy.f k l0 a1).bind fun t327=>((Fak.f k t327).bind fun t330=>(if t330=true then ((some (([]:List Int):List Int)).bind fun y331=>(if y331.length+l0.length<140737488355328 then (some ((y331++l0),0,true)) else (none))) else ((Fl.f k t327).bind fun t337=>(Fc.l0 k l0 a1 t327 t337 ([]:List Int) (l0.length:Int) 0))))) else (some (([]:List Int),0,false))))=some (r1,r2,r3):=h;clear h;obtain ⟨t326,A3,H⟩:=bi_ H
 by_cases c4:t326=true
 ·subst c4
  have H1:((Fy.f k l0 a1).bind fun t327=>((Fak.f k t327).bind fun t330=>(if t330=true then ((some (([]:List Int):List Int)).bind fun y331=>(if y331.length+l0.length<140737488355328 then (some ((y331++l0),0,true)) else (none))) else ((Fl.f k t327).bind fun t337=>(Fc.l0 k l0 a1 t327 t337 ([]:List Int) (l0.length:Int) 0)))))=some (r1,r2,r3):=by rw [if_pos rfl] at H;exact H
  clear H;have H:=H1;clear H1;obtain ⟨t327,A5,H⟩:=bi_ H;obtain ⟨t330,A6,H⟩:=bi_ H
  by_cases c7:t330=true
  ·subst c7
   have H1:((some (([]:List Int):List Int)).bind fun y331=>(if y331.length+l0.length<140737488355328 then (some ((y331++l0),0,true)) else (none)))=some (r1,r2,r3):=by rw [if_pos rfl] at H;exact H
   clear H;have H:=H1;clear H1;obtain ⟨y331,hy331⟩:∃ y_:List Int,y_=(([]:List Int)):=⟨_,rfl⟩
   replace H:(if y331.length+l0.length<140737488355328 then (some ((y331++l0),0,true)) else (none))=some (r1,r2,r3):=by first|(rw [hy331];exact H)|(have H2_:=(Option.bind_some _ _).symm.trans H;first|exact H2_|(rw [hy331];exact H2_))|exact H
   have Ny331:=am hy331;clear hy331
   obtain ⟨c8,H⟩:=it_ H;have LMc8:=am c8;clear c8;obtain ⟨y334,hy334⟩:∃ y_:List Int,y_=(y331++l0):=⟨_,rfl⟩
   replace H:(some (y334,0,true))=some (r1,r2,r3):=by first|(rw [hy334];exact H)|(have H2_:=(Option.bind_some _ _).symm.trans H;first|exact H2_|(rw [hy334];exact H2_))|exact H
   have Ny334:=am hy334;clear hy334
   simp only [Option.some.injEq,Prod.mk.injEq] at H
   obtain ⟨rfl,rfl,rfl⟩:=H
   go_enter Try.func28,Try.ntmps28
   go_wp2_with (first|((with_reducible refine bf_ (f:=40) rfl ?_);refine goL_ (some 24) Try.func40 #[.slice A0 l0.length c0,.int .i64 a1] ?_;(with_reducible refine (Fbe.calls _ _ l0 a1 true _ ?side1 ?side2 A3.o).mono ?_);(case side1=>exact zC HR0.o);(case side2=>exact HC0.o);rintro e w' ⟨rfl,⟨nd,rfl⟩⟩;refine ⟨_,rfl,?_⟩)|((with_reducible refine bf_ (f:=41) rfl ?_);refine goL_ (some 28) Try.func41 #[.slice A0 l0.length c0,.int .i64 a1] ?_;(with_reducible refine (Fy.calls k _ _ l0 a1 t327 _ ?side1 ?side2 A5.o).mono ?_);(case side1=>exact zC HR0.o);(case side2=>exact HC0.o);rintro e w9 ⟨v328,rfl,ho0,hb⟩;refine ⟨_,rfl,?_⟩;have HO329:=am (Kd.bx_ ho0 (zs_ HB.o));replace HB:=am (bh_ (zB HB.o) hb);(try clear hb);(try clear ho0);obtain ⟨Ao10,co10,eo10⟩:=Kd.bv_ HO329.o;subst eo10)|((with_reducible refine bf_ (f:=44) rfl ?_);refine goL_ (some 30) Try.func44 #[.slice Ao10 t327.length co10] ?_;(with_reducible refine (Fak.calls k _ _ t327 true _ ?side1 ?side2 A6.o).mono ?_);(case side1=>exact zC ((Kd.bj_ HO329.o).2.2));(case side2=>exact (Kd.bj_ HO329.o).2.1);rintro e w' ⟨rfl,⟨nd,rfl⟩⟩;refine ⟨_,rfl,?_⟩)|((with_reducible refine bB_ (N:=31) rfl ?_);(try (refine bM_ (by rfl) ?_;dsimp only));refine Kd.R_lit (Kd.int .u8) _ 5 ?hg (N:=31) ?hd (xs:=([]:List Int)) (inner:=[]) (ok:=fun _=>True) (okp:=fun _=>True) ?hr ?hp (fun _ hk=>hk) trivial (Below.refl _ _) (Nat.le_refl _) (by simp) ?_;(case hd=>rfl);(case hg=>rfl);(case hr=>first|(go_simp;done)|(go_simp;rfl));(case hp=>exact (Reps.none _ _));intro v332 w11 ho12 hb hg_ hnew_;clear hg_ hnew_;(first|rw [← Ny331.o] at ho12|(simp only [Int.reduceToNat] at ho12;rw [← Ny331.o] at ho12));have HO333:=am (Kd.bx_ (Kd.bX_ ho12 (Kd.R_lt (zR HO329.o))) (zs_ HB.o));replace HO329:=am (Kd.bC_ (zR HO329.o) (Kd.bt_ ho12) hb);replace HB:=am (bh_ (zB HB.o) hb);clear hb ho12)|((with_reducible refine bE_ (b:=.append) (xs:=#[.tmp 31,.tmp 32]) rfl ?_);(try (refine bM_ (by rfl) ?_;dsimp only));at_builtin;refine Kd.cm_ (Kd.int .u8) (w0:=w) w.heap.size rfl (.tmp 31) (.tmp 32) 22 5 (.int .u8 0) 1 rfl Try.underlying22 info5 rfl (by decide) (by omega) v332 y331 l0 _ _ _ (fun k_=>some k_≠(.slice Ao10 t327.length co10:Value).ownBlock) (fun _=>False) rfl rfl ?aO ?aR (fun _ _ h=>h) (fun _ h=>h.elim) ?aF ?aB ?aS ?aL ?_;(case aR=>exact zC (Kd.bH_ HR0.o HB.o));(case aB=>exact (zB HB.o));(case aF=>exact (fun k_ hk=>Kd.fresh' (Kd.R_lt (zR HO329.o)) k_ hk));(case aO=>exact (zR (Kd.bq_ HO333.o (fun _ hk=>hk.2))));(case aS=>exact (zs_ HB.o));(case aL=>have:=LMc8.o;omega);intro v335 w13 ho hb hg hat;rw [← Ny334.o] at ho;replace HO329:=am (Kd.dy_ (ok:=(fun _=>True)) (zR HO329.o) hg hat);replace HB:=am (hb);have HO336:=am (ho);(try clear HO333);clear ho hb hg hat))
   go_ret3
   exact ⟨_,rfl,zR (Kd.bq_ HO336.o (fun _ hk=>trivial)),zB HB.o⟩
  ·replace c7:=Bool.eq_false_iff.mpr c7
   subst c7
   have H1:((Fl.f k t327).bind fun t337=>(Fc.l0 k l0 a1 t327 t337 ([]:List Int) (l0.length:Int) 0))=some (r1,r2,r3):=by rw [if_neg (show ¬ (false=true) by decide)] at H;exact H
   clear H;have H:=H1;clear H1;obtain ⟨t337,A14,H⟩:=bi_ H;have H':=am H;clear H
   go_enter Try.func28,Try.ntmps28
   go_wp2_with (first|((with_reducible refine bf_ (f:=40) rfl ?_);refine goL_ (some 24) Try.func40 #[.slice A0 l0.length c0,.int .i64 a1] ?_;(with_reducible refine (Fbe.calls _ _ l0 a1 true _ ?side1 ?side2 A3.o).mono ?_);(case side1=>exact zC HR0.o);(case side2=>exact HC0.o);rintro e w' ⟨rfl,⟨nd,rfl⟩⟩;refine ⟨_,rfl,?_⟩)|((with_reducible refine bf_ (f:=41) rfl ?_);refine goL_ (some 28) Try.func41 #[.slice A0 l0.length c0,.int .i64 a1] ?_;(with_reducible refine (Fy.calls k _ _ l0 a1 t327 _ ?side1 ?side2 A5.o).mono ?_);(case side1=>exact zC HR0.o);(case side2=>exact HC0.o);rintro e w15 ⟨v328,rfl,ho0,hb⟩;refine ⟨_,rfl,?_⟩;have HO329:=am (Kd.bx_ ho0 (zs_ HB.o));replace HB:=am (bh_ (zB HB.o) hb);(try clear hb);(try clear ho0);obtain ⟨Ao16,co16,eo16⟩:=Kd.bv_ HO329.o;subst eo16)|((with_reducible refine bf_ (f:=44) rfl ?_);refine goL_ (some 30) Try.func44 #[.slice Ao16 t327.length co16] ?_;(with_reducible refine (Fak.calls k _ _ t327 false _ ?side1 ?side2 A6.o).mono ?_);(case side1=>exact zC ((Kd.bj_ HO329.o).2.2));(case side2=>exact (Kd.bj_ HO329.o).2.1);rintro e w' ⟨rfl,⟨nd,rfl⟩⟩;refine ⟨_,rfl,?_⟩)|((with_reducible refine bf_ (f:=50) rfl ?_);refine goL_ (some 35) Try.func50 #[.slice Ao16 t327.length co16] ?_;(with_reducible refine (Fl.calls k _ _ t327 t337 _ ?side1 ?side2 A14.o).mono ?_);(case side1=>exact zC ((Kd.bj_ HO329.o).2.2));(case side2=>exact (Kd.bj_ HO329.o).2.1);rintro e w17 ⟨v338,rfl,ho0,hb⟩;refine ⟨_,rfl,?_⟩;have HO339:=am (Kd.bx_ (Kd.bX_ ho0 (Kd.R_lt (zR HO329.o))) (zs_ HB.o));replace HO329:=am (Kd.bC_ (zR HO329.o) (Kd.bt_ ho0) hb);replace HB:=am (bh_ (zB HB.o) hb);(try clear hb);(try clear ho0)))
   go_loopg [9,38] k (fun kq v9 v38 w'=>∃ (x9_1:List Int) (x38_1:Int),v38 = .int .i64 x38_1∧ba_ (Fc.l0 kq l0 a1 t327 t337 x9_1 (l0.length:Int) x38_1=some (r1,r2,r3))∧ba_ (kq≤k)∧ba_ (Kd.R (Kd.int .u8) 5 w' w.heap.size (fun k_=>some k_≠(v338:Value).ownBlock) (.slice Ao16 t327.length co16) t327)∧ba_ (Kd.R (Kd.int .u8) 5 w' w.heap.size (fun k_=>some k_≠((.slice Ao16 t327.length co16):Value).ownBlock) v338 t337)∧ba_ (Kd.R (Kd.int .i64) 3 w' w.heap.size (fun _=>True) v9 x9_1)∧ba_ (Below w.heap.size w w'))
   case atStart=>exact ⟨(([]:List Int)),(0),rfl,H',⟨Nat.le_refl _⟩,⟨zR (Kd.bq_ HO329.o (fun _ hk=>hk.2))⟩,⟨zR (Kd.bq_ HO339.o (fun _ hk=>hk.2))⟩,⟨by first|apply Kd.di_|apply Kd.N_nil|apply Kd.V_nil|apply Kd.Q_nil|apply Kd.S_nil⟩,⟨zB HB.o⟩⟩
   case round =>
    clear H';obtain ⟨x9_1,x38_1,rfl,HA,HK1,HO_7,HO_8,HO_9,HB⟩:=hrel
    cases gk with
    | zero=>exact absurd HA.o (by simp [Fc.l0])
    | succ k1 =>
     have H:=HA.o;clear HA
     simp only [Fc.l0] at H
     by_cases c18:x38_1<(l0.length:Int)
     ·rw [if_pos c18] at H;have c18b0:=decide_eq_true c18;clear c18;obtain ⟨t340,A19,H⟩:=bi_ H;obtain ⟨t341,A20,H⟩:=bi_ H;obtain ⟨t342,A21,H⟩:=bi_ H
      by_cases c22:t342=0
      ·rw [if_pos c22] at H;have c22b0:(t342 == 0)=true:=beq_iff_eq.mpr c22;have c22b1:(t342 != 0)=false:=bne_eq_false_iff_eq.mpr c22;clear c22
       obtain ⟨c23,H⟩:=it_ H;have LMc23:=am c23;clear c23;obtain ⟨y343,hy343⟩:∃ y_:List Int,y_=(x9_1++[x38_1]):=⟨_,rfl⟩
       replace H:(Fc.l0 k1 l0 a1 t327 t337 y343 (l0.length:Int) (wrap64 (x38_1+1)))=some (r1,r2,r3):=by first|(rw [hy343];exact H)|(have H2_:=(Option.bind_some _ _).symm.trans H;first|exact H2_|(rw [hy343];exact H2_))|exact H
       have Ny343:=am hy343;clear hy343;have H':=am H;clear H
       go_wp2_with (first|((with_reducible refine bf_ (f:=54) rfl ?_);refine goL_ (some 43) Try.func54 #[.int .u8 3,.int .i64 x38_1] ?_;(with_reducible refine (Fk.calls k1 3 x38_1 t340 _ A19.o).mono ?_);rintro e w' ⟨rfl,⟨nd,rfl⟩⟩;refine ⟨_,rfl,?_⟩)|((with_reducible refine bf_ (f:=53) rfl ?_);refine goL_ (some 44) Try.func53 #[.int .u8 t340] ?_;(with_reducible refine (Fbj.calls k1 t340 t341 _ A20.o).mono ?_);rintro e w' ⟨rfl,⟨nd,rfl⟩⟩;refine ⟨_,rfl,?_⟩;obtain ⟨Ao24,co24,eo24⟩:=Kd.bv_ HO_8.o;subst eo24)|((with_reducible refine bf_ (f:=52) rfl ?_);refine goL_ (some 45) Try.func52 #[.slice Ao24 t337.length co24,.int .u8 t341] ?_;(with_reducible refine (Fau.calls k1 _ _ t337 t341 t342 _ ?side1 ?side2 A21.o).mono ?_);(case side1=>exact zC ((Kd.bj_ HO_8.o).2.2));(case side2=>exact (Kd.bj_ HO_8.o).2.1);rintro e w' ⟨rfl,⟨nd,rfl⟩⟩;refine ⟨_,rfl,?_⟩)|((with_reducible refine bE_ (b:=.append) (xs:=#[.tmp 47,.tmp 49]) rfl ?_);(try (refine bM_ (by rfl) ?_;dsimp only));at_builtin;refine Kd.cY_ (Kd.int .i64) (w0:=w) w.heap.size rfl (.tmp 47) (.tmp 49) 46 3 (.int .i64 0) 8 rfl Try.underlying46 info3 rfl (by decide) (by omega) u9 x9_1 x38_1 [.int .i64 x38_1] (fun _=>True) (fun _=>False) rfl rfl ?aP (fun _ hk=>hk.elim) ?aF ?aO ?aB ?aS ?aL ?_;(case aP=>exact rfl);(case aB=>exact (zB HB.o));(case aF=>exact (fun _ _=>trivial));(case aO=>exact (zR HO_9.o));(case aS=>exact (zs_ HB.o));(case aL=>have:=LMc23.o;omega);intro v344 w25 ho hb hg hat;rw [← Ny343.o] at ho;replace HO_7:=am (Kd.R_over' (zR HO_7.o) (Kd.R_typed (zR HO_9.o)) (by decide) hg);replace HO_8:=am (Kd.R_over' (zR HO_8.o) (Kd.R_typed (zR HO_9.o)) (by decide) hg);replace HB:=am (hb);have HO345:=am (ho);(try clear HO_9);clear ho hb hg hat))
       go_roundg k1
       case measure=>have:=HK1.o;omega
       case rel=>exact ⟨(y343),(wrap64 (x38_1+1)),rfl,H',⟨by have:=HK1.o;omega⟩,⟨zR HO_7.o⟩,⟨zR HO_8.o⟩,⟨zR HO345.o⟩,⟨zB HB.o⟩⟩
      ·rw [if_neg c22] at H;have c22b0:(t342 == 0)=false:=beq_eq_false_iff_ne.mpr c22;have c22b1:(t342 != 0)=true:=bne_iff_ne.mpr c22;have H':=am H;clear H
       go_wp2_with (first|((with_reducible refine bf_ (f:=54) rfl ?_);refine goL_ (some 43) Try.func54 #[.int .u8 3,.int .i64 x38_1] ?_;(with_reducible refine (Fk.calls k1 3 x38_1 t340 _ A19.o).mono ?_);rintro e w' ⟨rfl,⟨nd,rfl⟩⟩;refine ⟨_,rfl,?_⟩)|((with_reducible refine bf_ (f:=53) rfl ?_);refine goL_ (some 44) Try.func53 #[.int .u8 t340] ?_;(with_reducible refine (Fbj.calls k1 t340 t341 _ A20.o).mono ?_);rintro e w' ⟨rfl,⟨nd,rfl⟩⟩;refine ⟨_,rfl,?_⟩;obtain ⟨Ao26,co26,eo26⟩:=Kd.bv_ HO_8.o;subst eo26)|((with_reducible refine bf_ (f:=52) rfl ?_);refine goL_ (some 45) Try.func52 #[.slice Ao26 t337.length co26,.int .u8 t341] ?_;(with_reducible refine (Fau.calls k1 _ _ t337 t341 t342 _ ?side1 ?side2 A21.o).mono ?_);(case side1=>exact zC ((Kd.bj_ HO_8.o).2.2));(case side2=>exact (Kd.bj_ HO_8.o).2.1);rintro e w' ⟨rfl,⟨nd,rfl⟩⟩;refine ⟨_,rfl,?_⟩))
       go_roundg k1
       case measure=>have:=HK1.o;omega
       case rel=>exact ⟨(x9_1),(wrap64 (x38_1+1)),rfl,H',⟨by have:=HK1.o;omega⟩,⟨zR HO_7.o⟩,⟨zR HO_8.o⟩,⟨zR HO_9.o⟩,⟨zB HB.o⟩⟩
     ·rw [if_neg c18] at H;have c18b0:=decide_eq_false c18;clear c18;have HC27:=am H;clear H;obtain ⟨Ao28,co28,eo28⟩:=Kd.bv_ HO_9.o
      subst eo28
      go_upto_region 15 with (fail)
      go_cut [62] (fun v62 wc=>∃ (kq:Nat) (x62_26:Bool),v62 = .bool x62_26∧ba_ (Fc.j1 kq l0 a1 t327 x9_1 (x9_1.length:Int) x62_26=some (r1,r2,r3))∧ba_ (kq≤k1)∧ba_ (Kd.R (Kd.int .u8) 5 wc w.heap.size (fun _=>True) (.slice Ao16 t327.length co16) t327)∧ba_ (Kd.R (Kd.int .i64) 3 wc w.heap.size (fun _=>True) (.slice Ao28 x9_1.length co28) x9_1)∧ba_ (Below w.heap.size w wc))
      case first =>
       have H:=HC27.o;clear HC27
       by_cases c29:(x9_1.length:Int)=0
       ·rw [if_pos c29] at H;have c29b0:((x9_1.length:Int) == 0)=true:=beq_iff_eq.mpr c29;have c29b1:((x9_1.length:Int) != 0)=false:=bne_eq_false_iff_eq.mpr c29;clear c29
        (first|rw [c29b0]|(simp only [bI_,bL_];rw [c29b0])|skip)
        have H':=am H;clear H
        go_wp2
        go_meet
        case rel=>exact ⟨_,(true),rfl,H',⟨by have:=HK1.o;first|omega|exact Nat.le_refl _⟩,⟨zR (Kd.bq_ HO_7.o (fun _ hk=>trivial))⟩,⟨zR HO_9.o⟩,⟨zB HB.o⟩⟩
       ·rw [if_neg c29] at H;have c29b0:((x9_1.length:Int) == 0)=false:=beq_eq_false_iff_ne.mpr c29;have c29b1:((x9_1.length:Int) != 0)=true:=bne_iff_ne.mpr c29
        have c29b2:¬ (x9_1=[]):=fun h_=>c29 (by rw [h_];rfl)
        (first|rw [c29b0]|(simp only [bI_,bL_];rw [c29b0])|skip)
        have H':=am H;clear H;obtain ⟨Ao30,co30,eo30⟩:=Kd.bv_ HO_8.o
        subst eo30
        go_wp2
        go_meet
        case rel=>exact ⟨_,(((x9_1.length:Int) != (wrap64 ((t337.length:Int) - 1)))),rfl,H',⟨by have:=HK1.o;first|omega|exact Nat.le_refl _⟩,⟨zR (Kd.bq_ HO_7.o (fun _ hk=>trivial))⟩,⟨zR HO_9.o⟩,⟨zB HB.o⟩⟩
      case rest =>
       clear HC27;obtain ⟨kq,x62_26,rfl,HA,HJ26,HO_7,HO_9,HB⟩:=hcut
       cases kq with
       | zero=>exact absurd HA.o (by simp [Fc.j1])
       | succ kj26 =>
        have H:=HA.o;clear HA
        simp only [Fc.j1] at H
        by_cases c31:x62_26=true
        ·subst c31
         have H1:(some (([]:List Int),0,false))=some (r1,r2,r3):=by rw [if_pos rfl] at H;exact H
         clear H;have H:=H1;clear H1
         simp only [Option.some.injEq,Prod.mk.injEq] at H
         obtain ⟨rfl,rfl,rfl⟩:=H
         go_wp2
         go_ret3
         exact ⟨_,rfl,by first|apply Kd.di_|apply Kd.N_nil|apply Kd.V_nil|apply Kd.Q_nil|apply Kd.S_nil,zB HB.o⟩
        ·replace c31:=Bool.eq_false_iff.mpr c31
         subst c31
         have H1:(Fc.l1 kj26 l0 a1 t327 x9_1 (x9_1.length:Int) 1 ([]:List (List Int)))=some (r1,r2,r3):=by rw [if_neg (show ¬ (false=true) by decide)] at H;exact H
         clear H;have H:=H1;clear H1;have H':=am H;clear H
         go_wp2_with (first|((with_reducible refine bB_ (N:=12) rfl ?_);(try (refine bM_ (by rfl) ?_;dsimp only));refine bU_ ?hg (N:=12) ?hd (cs:=#[.slice none 0 0]) (t:=52) ?hr ?_;(case hd=>rfl);(case hg=>rfl);(case hr=>first|(go_simp;done)|(go_simp;rfl));intro gb346 hg w32 hbox hb;replace HO_7:=am (Kd.bQ_ (zR HO_7.o) hb);replace HO_9:=am (Kd.bQ_ (zR HO_9.o) hb);have BK346:=am (hbox);have GW346:=am ((gw_ hg HB.o:w.heap.size≤gb346));have GE346:=am ((gw_ hg HB.o:w.heap.size≤gb346));replace HB:=am (bh_ (zB HB.o) hb);clear hb hbox hg;have hcz33_0:w32.cell? ⟨gb346,0,none⟩=some (.slice none 0 0):=(bo_ BK346.o 0).trans rfl;have hfz33_0:=bs_ BK346.o 0))
         go_loopg [13] kj26 (fun kq v13 w'=>∃ (x13_3:Int) (xaa_3:List (List Int)) (uaa:Value),v13 = .int .i64 x13_3∧ba_ (Fc.l1 kq l0 a1 t327 x9_1 (x9_1.length:Int) x13_3 xaa_3=some (r1,r2,r3))∧ba_ (kq≤kj26)∧ba_ (Kd.R (Kd.int .u8) 5 w' w.heap.size (fun _=>True) (.slice Ao16 t327.length co16) t327)∧ba_ (Kd.R (Kd.int .i64) 3 w' w.heap.size (fun _=>True) (.slice Ao28 x9_1.length co28) x9_1)∧ba_ (Kd.S (Kd.slice 5 (Kd.int .u8)) 22 w' w.heap.size (fun k_=>some k_≠((.slice Ao16 t327.length co16):Value).ownBlock) uaa xaa_3)∧ba_ (w'.heap[gb346]? = some (.cells #[uaa] 52 (0,0)))∧ba_ (Below w.heap.size w w'))
         case atStart=>exact ⟨(1),(([]:List (List Int))),(.slice none 0 0),rf_,H',⟨Nat.le_refl _⟩,⟨zR (Kd.bq_ (Kd.R_far (p:=⟨gb346,0,none⟩) (Kd.cb_ HO_7.o BK346.o (by decide)) (fun _ hk=>hk.2) (.slice none 0 0)) (fun _ hk=>trivial))⟩,⟨zR (Kd.bq_ (Kd.R_far (p:=⟨gb346,0,none⟩) (Kd.cb_ HO_9.o BK346.o (by decide)) (fun _ hk=>hk.2) (.slice none 0 0)) (fun _ hk=>trivial))⟩,⟨by first|exact Kd.S_nil _ _ _ _ _|exact Kd.N_nil _ _ _ _ _|exact Kd.V_nil _ _ _ _ _|exact Kd.Q_nil _ _ _ _ _|exact Kd.di_ _ _ _ _ _⟩,⟨by (with_reducible repeat (first|apply bd_|apply bb_|apply bc_));refine cQ_ (cs:=#[.slice none 0 0]) ?_ 0 _ rfl;(with_reducible repeat (first|apply bd_|apply bb_|apply bc_));exact BK346.o⟩,⟨by repeat (first|(with_reducible first|exact HB.o|apply bk_|apply be_|apply bg_|refine bl_ ?_ GE346.o)|exact HB.o)⟩⟩
         case round =>
          clear H';(try clear hfz33_0);obtain ⟨x13_3,xaa_3,uaa,rfl,HA,HK3,HO_7,HO_9,HO_aa,BK346,HB⟩:=hrel
          cases gk with
          | zero=>exact absurd HA.o (by simp [Fc.l1])
          | succ k3 =>
           have H:=HA.o;clear HA
           simp only [Fc.l1] at H
           by_cases c34:x13_3≤(x9_1.length:Int)
           ·rw [if_pos c34] at H;have c34b0:=decide_eq_true c34;clear c34;have H':=am H;clear H
            go_wp2
            go_loopg [14,71] k3 (fun kq v14 v71 w'=>∃ (x14_4:List Int) (x71_4:Int),v71 = .int .i64 x71_4∧ba_ (Fc.l2 kq l0 a1 t327 x9_1 (x9_1.length:Int) x13_3 x14_4 x9_1 (x9_1.length:Int) x71_4 xaa_3=some (r1,r2,r3))∧ba_ (kq≤k3)∧ba_ (Kd.R (Kd.int .u8) 5 w' w.heap.size (fun k_=>some k_≠(v14:Value).ownBlock) (.slice Ao16 t327.length co16) t327)∧ba_ (Kd.R (Kd.int .i64) 3 w' w.heap.size (fun _=>True) (.slice Ao28 x9_1.length co28) x9_1)∧ba_ (Kd.R (Kd.int .u8) 5 w' w.heap.size (fun k_=>some k_≠((.slice Ao16 t327.length co16):Value).ownBlock) v14 x14_4)∧ba_ (Kd.R (Kd.int .i64) 3 w' w.heap.size (fun _=>True) (.slice Ao28 x9_1.length co28) x9_1)∧ba_ (Kd.S (Kd.slice 5 (Kd.int .u8)) 22 w' w.heap.size (fun k_=>some k_≠((.slice Ao16 t327.length co16):Value).ownBlock∧some k_≠(v14:Value).ownBlock) uaa xaa_3)∧ba_ (w'.heap[gb346]? = some (.cells #[uaa] 52 (0,0)))∧ba_ (Below w.heap.size w w'))
            case atStart=>exact ⟨(([]:List Int)),(0),rfl,H',⟨Nat.le_refl _⟩,⟨zR (Kd.bq_ HO_7.o (fun _ hk=>(by simp [Value.ownBlock])))⟩,⟨zR HO_9.o⟩,⟨by first|apply Kd.di_|apply Kd.N_nil|apply Kd.V_nil|apply Kd.Q_nil|apply Kd.S_nil⟩,⟨zR HO_9.o⟩,⟨zS (Kd.cH_ HO_aa.o (fun _ hk=>⟨hk,(by simp [Value.ownBlock])⟩))⟩,⟨zK BK346.o⟩,⟨zB HB.o⟩⟩
            case round =>
             clear H';(try clear hfz33_0);obtain ⟨x14_4,x71_4,rfl,HA,HK4,HO_7,HO_9,HO_14,HO_69,HO_aa,BK346,HB⟩:=hrel
             cases gk with
             | zero=>exact absurd HA.o (by simp [Fc.l2])
             | succ k4 =>
              have H:=HA.o;clear HA
              simp only [Fc.l2] at H
              by_cases c35:x71_4<(x9_1.length:Int)
              ·rw [if_pos c35] at H;have c35b0:=decide_eq_true c35;clear c35
               obtain ⟨c36,H⟩:=it_ H;have c36b0:=decide_eq_true c36;clear c36
               obtain ⟨c37,H⟩:=it_ H;have c37b0:=decide_eq_true c37;clear c37;obtain ⟨t348,A38,H⟩:=bi_ H;obtain ⟨t349,A39,H⟩:=bi_ H
               obtain ⟨c40,H⟩:=it_ H;have LMc40:=am c40;clear c40;obtain ⟨y350,hy350⟩:∃ y_:List Int,y_=(x14_4++[t349]):=⟨_,rfl⟩
               replace H:(Fc.l2 k4 l0 a1 t327 x9_1 (x9_1.length:Int) x13_3 y350 x9_1 (x9_1.length:Int) (wrap64 (x71_4+1)) xaa_3)=some (r1,r2,r3):=by first|(rw [hy350];exact H)|(have H2_:=(Option.bind_some _ _).symm.trans H;first|exact H2_|(rw [hy350];exact H2_))|exact H
               have Ny350:=am hy350;clear hy350;have H':=am H;clear H;have p347:0≤(x71_4:Int):=od_;have q347:x71_4<(x9_1.length:Int):=od_;obtain ⟨ad347,e347,hx347_0⟩:=Kd.bK_ (Kd.bj_ HO_69.o).2.2 x71_4 p347 q347;cases e347;replace p347:=eq_true p347;replace q347:=eq_true q347
               go_wp2_with (first|((with_reducible refine bf_ (f:=54) rfl ?_);refine goL_ (some 77) Try.func54 #[.int .u8 3,.int .i64 x13_3] ?_;(with_reducible refine (Fk.calls k4 3 x13_3 t348 _ A38.o).mono ?_);rintro e w' ⟨rfl,⟨nd,rfl⟩⟩;refine ⟨_,rfl,?_⟩)|((with_reducible refine bf_ (f:=54) rfl ?_);refine goL_ (some 79) Try.func54 #[.int .u8 t348,.int .i64 (rd x9_1 x71_4)] ?_;(with_reducible refine (Fk.calls k4 t348 (rd x9_1 x71_4) t349 _ A39.o).mono ?_);rintro e w' ⟨rfl,⟨nd,rfl⟩⟩;refine ⟨_,rfl,?_⟩)|((with_reducible refine bE_ (b:=.append) (xs:=#[.tmp 75,.tmp 80]) rfl ?_);(try (refine bM_ (by rfl) ?_;dsimp only));at_builtin;refine Kd.cY_ (Kd.int .u8) (w0:=w) w.heap.size rfl (.tmp 75) (.tmp 80) 22 5 (.int .u8 0) 1 rfl Try.underlying22 info5 rfl (by decide) (by omega) u14 x14_4 t349 [.int .u8 t349] (fun k_=>some k_≠(.slice Ao16 t327.length co16:Value).ownBlock) (fun _=>False) rfl rfl ?aP (fun _ hk=>hk.elim) ?aF ?aO ?aB ?aS ?aL ?_;(case aP=>exact rfl);(case aB=>exact (zB HB.o));(case aF=>exact (fun k_ hk=>Kd.fresh' (Kd.R_lt (zR HO_7.o)) k_ hk));(case aO=>exact (zR HO_14.o));(case aS=>exact (zs_ HB.o));(case aL=>have:=LMc40.o;omega);intro v351 w41 ho hb hg hat;rw [← Ny350.o] at ho;replace HO_7:=am (Kd.dy_ (ok:=(fun _=>True)) (zR (Kd.bq_ HO_7.o (fun _ hk=>⟨trivial,hk⟩))) hg hat);replace HO_9:=am (Kd.R_over' (zR HO_9.o) (Kd.R_typed (zR HO_14.o)) (by decide) hg);replace HO_69:=am (Kd.R_over' (zR HO_69.o) (Kd.R_typed (zR HO_14.o)) (by decide) hg);replace HO_aa:=am (Kd.S_after (ok:=(fun k_=>some k_≠(.slice Ao16 t327.length co16:Value).ownBlock)) (zS HO_aa.o) hg hat);replace BK346:=am (ce_ (zK BK346.o) hg (Kd.R_ne HO_14.o BK346.o (by decide)));replace HB:=am (hb);have HO352:=am (ho);(try clear HO_14);clear ho hb hg hat))
               go_roundg k4
               case measure=>have:=HK1.o;have:=HJ26.o;have:=HK3.o;have:=HK4.o;omega
               case rel=>exact ⟨(y350),(wrap64 (x71_4+1)),rfl,H',⟨by have:=HK1.o;have:=HJ26.o;have:=HK3.o;have:=HK4.o;omega⟩,⟨zR (Kd.bq_ HO_7.o (fun _ hk=>hk.2))⟩,⟨zR HO_9.o⟩,⟨zR HO352.o⟩,⟨zR HO_69.o⟩,⟨zS HO_aa.o⟩,⟨zK BK346.o⟩,⟨zB HB.o⟩⟩
              ·rw [if_neg c35] at H;have c35b0:=decide_eq_false c35;clear c35
               obtain ⟨c42,H⟩:=it_ H;have LMc42:=am c42;clear c42;obtain ⟨y353,hy353⟩:∃ y_:List (List Int),y_=(xaa_3++[x14_4]):=⟨_,rfl⟩
               replace H:(Fc.l1 k4 l0 a1 t327 x9_1 (x9_1.length:Int) (wrap64 (x13_3+1)) y353)=some (r1,r2,r3):=by first|(rw [hy353];exact H)|(have H2_:=(Option.bind_some _ _).symm.trans H;first|exact H2_|(rw [hy353];exact H2_))|exact H
               have Ny353:=am hy353;clear hy353;have H':=am H;clear H;have hcz43_0:wr.cell? ⟨gb346,0,none⟩=some (uaa):=(bo_ BK346.o 0).trans rfl;have hfz43_0:=bs_ BK346.o 0;obtain ⟨Ao45,co45,eo45⟩:=Kd.bv_ HO_14.o
               subst eo45
               go_wp2_with (first|((with_reducible refine bE_ (b:=.append) (xs:=#[.tmp 84,.tmp 86]) rfl ?_);(try (refine bM_ (by rfl) ?_;dsimp only));at_builtin;refine Kd.S_append (Kd.slice 5 (Kd.int .u8)) (w0:=w) w.heap.size rfl (.tmp 84) (.tmp 86) 50 22 (.slice none 0 0) 24 rfl Try.underlying50 info22 rfl (by decide) (by omega) uaa xaa_3 x14_4 [.slice Ao45 x14_4.length co45] (fun k_=>some k_≠(.slice Ao16 t327.length co16:Value).ownBlock) (fun k_=>some k_=(.slice Ao45 x14_4.length co45:Value).ownBlock) rfl rfl ?aP (fun k_ hk_=>((Kd.bq_ (ok':=fun k_=>((fun k_=>some k_≠(.slice Ao16 t327.length co16:Value).ownBlock)) k_∧some k_≠(uaa:Value).ownBlock) (Kd.cj_ (HO_14.o) (Kd.dp_ HO_aa.o) (by decide)) (fun k_ hk=>⟨hk.1,hk.2⟩))).1 k_ hk_.symm) ?aF ?aO ?aB ?aS ?aL ?_;(case aP=>exact Kd.M_row (Kd.bq_ (Kd.R_tight rfl (Kd.bq_ (ok':=fun k_=>((fun k_=>some k_≠(.slice Ao16 t327.length co16:Value).ownBlock)) k_∧some k_≠(uaa:Value).ownBlock) (Kd.cj_ (HO_14.o) (Kd.dp_ HO_aa.o) (by decide)) (fun k_ hk=>⟨hk.1,hk.2⟩))) (fun _ h_=>h_)));(case aB=>exact (zB HB.o));(case aF=>exact (fun k_ hk=>Kd.fresh' (Kd.R_lt (zR HO_7.o)) k_ hk));(case aO=>exact (zS (Kd.cH_ HO_aa.o (fun k_ hk=>⟨hk.1,fun e_=>hk.2 e_⟩))));(case aS=>exact (zs_ HB.o));(case aL=>have:=LMc42.o;omega);intro v354 w44 ho hb hg hat;rw [← Ny353.o] at ho;replace HO_7:=am (Kd.R_over' (zR HO_7.o) (Kd.dp_ (zS HO_aa.o)) (by decide) hg);replace HO_9:=am (Kd.R_over' (zR HO_9.o) (Kd.dp_ (zS HO_aa.o)) (by decide) hg);replace HO_69:=am (Kd.R_over' (zR HO_69.o) (Kd.dp_ (zS HO_aa.o)) (by decide) hg);replace BK346:=am (ce_ (zK BK346.o) hg (Kd.S_ne HO_aa.o BK346.o (by decide)));replace HB:=am (hb);have HO355:=am (ho);(try clear HO_aa);(try clear HO_14);clear ho hb hg hat;obtain ⟨Ao46,co46,eo46⟩:=Kd.cP_ HO355.o;subst eo46;have hcz47_0:w44.cell? ⟨gb346,0,none⟩=some (uaa):=(bo_ BK346.o 0).trans rfl;have hfz47_0:=bs_ BK346.o 0))
               go_roundg k4
               case measure=>have:=HK1.o;have:=HJ26.o;have:=HK3.o;have:=HK4.o;omega
               case rel=>exact ⟨(wrap64 (x13_3+1)),(y353),(.slice Ao46 y353.length co46),rf_,H',⟨by have:=HK1.o;have:=HJ26.o;have:=HK3.o;have:=HK4.o;omega⟩,⟨zR (Kd.bq_ (Kd.R_far (p:=⟨gb346,0,none⟩) (Kd.cb_ HO_7.o BK346.o (by decide)) (fun _ hk=>hk.2) (.slice Ao46 y353.length co46)) (fun _ hk=>trivial))⟩,⟨zR (Kd.bq_ (Kd.R_far (p:=⟨gb346,0,none⟩) (Kd.cb_ HO_9.o BK346.o (by decide)) (fun _ hk=>hk.2) (.slice Ao46 y353.length co46)) (fun _ hk=>trivial))⟩,⟨zS (Kd.cH_ (Kd.S_far (p:=⟨gb346,0,none⟩) (Kd.S_types HO355.o BK346.o (by decide)) (fun _ hk=>hk.2) (.slice Ao46 y353.length co46)) (fun _ hk=>hk.1))⟩,⟨by (with_reducible repeat (first|apply bd_|apply bb_|apply bc_));refine cQ_ (cs:=#[uaa]) ?_ 0 _ rfl;(with_reducible repeat (first|apply bd_|apply bb_|apply bc_));exact BK346.o⟩,⟨by repeat (first|(with_reducible first|exact HB.o|apply bk_|apply be_|apply bg_|refine bl_ ?_ GE346.o)|exact HB.o)⟩⟩
           ·rw [if_neg c34] at H;have c34b0:=decide_eq_false c34;clear c34;obtain ⟨⟨t356,t359⟩,A48,H⟩:=bi_ H;dsimp only at H
            by_cases c49:t359=true
            ·subst c49
             have H1:((some (([]:List Int):List Int)).bind fun y361=>(if y361.length+l0.length<140737488355328 then (if 0≤(x9_1.length:Int) then (if (x9_1.length:Int)≤(t327.length:Int) then ((Fai.f k3 t356 (t327.take ((x9_1.length:Int):Int).toNat)).bind fun t371=>(Fc.l3 k3 a1 x9_1 (x9_1.length:Int) (y361++l0) t371 (t371.length:Int) 0)) else (none)) else (none)) else (none)))=some (r1,r2,r3):=by rw [if_pos rfl] at H;exact H
             clear H;have H:=H1;clear H1;obtain ⟨y361,hy361⟩:∃ y_:List Int,y_=(([]:List Int)):=⟨_,rfl⟩
             replace H:(if y361.length+l0.length<140737488355328 then (if 0≤(x9_1.length:Int) then (if (x9_1.length:Int)≤(t327.length:Int) then ((Fai.f k3 t356 (t327.take ((x9_1.length:Int):Int).toNat)).bind fun t371=>(Fc.l3 k3 a1 x9_1 (x9_1.length:Int) (y361++l0) t371 (t371.length:Int) 0)) else (none)) else (none)) else (none))=some (r1,r2,r3):=by first|(rw [hy361];exact H)|(have H2_:=(Option.bind_some _ _).symm.trans H;first|exact H2_|(rw [hy361];exact H2_))|exact H
             have Ny361:=am hy361;clear hy361
             obtain ⟨c50,H⟩:=it_ H;have LMc50:=am c50;clear c50;obtain ⟨y364,hy364⟩:∃ y_:List Int,y_=(y361++l0):=⟨_,rfl⟩
             replace H:(if 0≤(x9_1.length:Int) then (if (x9_1.length:Int)≤(t327.length:Int) then ((Fai.f k3 t356 (t327.take ((x9_1.length:Int):Int).toNat)).bind fun t371=>(Fc.l3 k3 a1 x9_1 (x9_1.length:Int) y364 t371 (t371.length:Int) 0)) else (none)) else (none))=some (r1,r2,r3):=by first|(rw [hy364];exact H)|(have H2_:=(Option.bind_some _ _).symm.trans H;first|exact H2_|(rw [hy364];exact H2_))|exact H
             have Ny364:=am hy364;clear hy364
             obtain ⟨c51,H⟩:=it_ H;have c51b0:=eq_true c51;have c51b1:=decide_eq_true c51;clear c51
             obtain ⟨c52,H⟩:=it_ H;have c52b0:=eq_true c52;have c52b1:=decide_eq_true c52;clear c52;obtain ⟨y367,hy367⟩:∃ y_:List Int,y_=(t327.take ((x9_1.length:Int):Int).toNat):=⟨_,rfl⟩
             replace H:((Fai.f k3 t356 y367).bind fun t371=>(Fc.l3 k3 a1 x9_1 (x9_1.length:Int) y364 t371 (t371.length:Int) 0))=some (r1,r2,r3):=by first|(rw [hy367];exact H)|(have H2_:=(Option.bind_some _ _).symm.trans H;first|exact H2_|(rw [hy367];exact H2_))|exact H
             have Ny367:=am hy367;clear hy367;obtain ⟨t371,A53,H⟩:=bi_ H;have H':=am H;clear H;have hcz54_0:wr.cell? ⟨gb346,0,none⟩=some (uaa):=(bo_ BK346.o 0).trans rfl;have hfz54_0:=bs_ BK346.o 0;obtain ⟨Ao55,co55,eo55⟩:=Kd.cP_ HO_aa.o
             subst eo55
             try go_wp2_with (first|((with_reducible refine bf_ (f:=55) rfl ?_);refine goL_ (some 91) Try.func55 #[.agg #[.slice Ao55 xaa_3.length co55]] ?_;(with_reducible refine (Fat.calls k3 _ _ xaa_3 t356 true _ ?side1 ?side2 A48.o).mono ?_);(case side1=>exact zC ((Kd.cl_ HO_aa.o).2.2));(case side2=>exact (Kd.cl_ HO_aa.o).2.1);rintro e w56 ⟨v357,rfl,ho0,hb⟩;refine ⟨_,rfl,?_⟩;have HO358:=am (Kd.dw_ (Kd.bJ_ (ok':=fun k_=>some k_≠(.slice Ao16 t327.length co16:Value).ownBlock∧some k_≠(.slice Ao28 x9_1.length co28:Value).ownBlock∧some k_≠(.slice Ao55 xaa_3.length co55:Value).ownBlock∧k_≠gb346) (Kd.dx_ ho0) (fun k_ hk0_=>have hk_:=And.intro trivial hk0_;⟨(Kd.fresh' (Kd.R_lt (zR HO_7.o)) k_ hk_.2.1),(Kd.fresh' (Kd.R_lt (zR HO_9.o)) k_ hk_.2.1),(Kd.fresh' (Kd.S_lt (zS HO_aa.o)) k_ hk_.2.1),(Kd.freshB (zK BK346.o) k_ hk_.2.1)⟩)) (zs_ HB.o));replace HO_7:=am (Kd.bQ_ (zR HO_7.o) hb);replace HO_9:=am (Kd.bQ_ (zR HO_9.o) hb);replace HO_aa:=am (Kd.cC_ (zS HO_aa.o) hb);replace BK346:=am (bm_ (zK BK346.o) hb);replace HB:=am (bh_ (by repeat (first|(with_reducible first|exact HB.o|apply bk_|apply be_|apply bg_|refine bl_ ?_ GE346.o)|exact HB.o)) hb);(try clear hb);(try clear ho0))|((with_reducible refine bB_ (N:=17) rfl ?_);(try (refine bM_ (by rfl) ?_;dsimp only));refine bU_ ?hg (N:=17) ?hd (cs:=#[.slice none 0 0]) (t:=52) ?hr ?_;(case hd=>rfl);(case hg=>rfl);(case hr=>first|(go_simp;done)|(go_simp;rfl));intro gb360 hg w57 hbox hb;replace HO_7:=am (Kd.bQ_ (zR HO_7.o) hb);replace HO_9:=am (Kd.bQ_ (zR HO_9.o) hb);replace HO_aa:=am (Kd.cC_ (zS HO_aa.o) hb);replace HO358:=am (Kd.V_below (Kd.dl_ (zV HO358.o) gb360 (Nat.le_of_eq hg.symm)) hb);have BK360:=am (hbox);have GW360:=am ((gw_ hg HB.o:w.heap.size≤gb360));have GE360:=am ((gw_ hg HB.o:w.heap.size≤gb360));replace HB:=am (bh_ (by repeat (first|(with_reducible first|exact HB.o|apply bk_|apply be_|apply bg_|refine bl_ ?_ GE346.o)|exact HB.o)) hb);have NB346_360:=am ((by rw [hg];exact Nat.ne_of_lt (bw_ (zK BK346.o)):gb346≠gb360));have NB360_346:=am ((by rw [hg];exact Nat.ne_of_gt (bw_ (zK BK346.o)):gb360≠gb346));replace BK346:=am (bm_ (zK BK346.o) hb);clear hb hbox hg;obtain ⟨Ao58,co58,eo58⟩:=Kd.V_slice HO358.o;subst eo58;have hnb59:=NB360_346.o;have hnc59:=NB346_360.o;have hcz60_0:w57.cell? ⟨gb360,0,none⟩=some (.slice none 0 0):=(bo_ BK360.o 0).trans rfl;have hfz60_0:=bs_ BK360.o 0)|((with_reducible refine bB_ (N:=96) rfl ?_);(try (refine bM_ (by rfl) ?_;dsimp only));refine Kd.R_lit (Kd.int .u8) _ 5 ?hg (N:=96) ?hd (xs:=([]:List Int)) (inner:=[]) (ok:=fun _=>True) (okp:=fun _=>True) ?hr ?hp (fun _ hk=>hk) trivial (Below.refl _ _) (Nat.le_refl _) (by simp) ?_;(case hd=>rfl);(case hg=>rfl);(case hr=>first|(go_simp;done)|(go_simp;rfl));(case hp=>exact (Reps.none _ _));intro v362 w61 ho62 hb hg_ hnew_;clear hg_ hnew_;(first|rw [← Ny361.o] at ho62|(simp only [Int.reduceToNat] at ho62;rw [← Ny361.o] at ho62));replace HO_9:=am (Kd.bQ_ (zR (Kd.bq_ (Kd.R_far (p:=⟨gb360,0,none⟩) (Kd.cb_ HO_9.o BK360.o (by decide)) (fun _ hk=>hk.2) (.slice Ao58 t356.length co58)) (fun _ h_=>h_.1))) hb);replace HO_aa:=am (Kd.cZ_ (zS (Kd.cH_ (Kd.S_far (p:=⟨gb360,0,none⟩) (Kd.S_types HO_aa.o BK360.o (by decide)) (fun _ hk=>hk.2) (.slice Ao58 t356.length co58)) (fun _ h_=>h_.1))) (Kd.bt_ ho62) hb);replace HO358:=am (Kd.bT_ (zV (Kd.bJ_ (Kd.V_far (p:=⟨gb360,0,none⟩) (Kd.bJ_ HO358.o (fun k_ hk=>(⟨hk,hk.2⟩:_∧k_≠gb360))) (fun _ hk=>hk.2) (.slice Ao58 t356.length co58)) (fun _ h_=>h_.1))) (Kd.bt_ ho62) hb);have HO363:=am (Kd.bx_ (Kd.bX_ ho62 (Kd.R_lt (zR (Kd.bq_ (Kd.R_far (p:=⟨gb360,0,none⟩) (Kd.cb_ HO_7.o BK360.o (by decide)) (fun _ hk=>hk.2) (.slice Ao58 t356.length co58)) (fun _ h_=>h_.1))))) (zs_ HB.o));replace HO_7:=am (Kd.bC_ (zR (Kd.bq_ (Kd.R_far (p:=⟨gb360,0,none⟩) (Kd.cb_ HO_7.o BK360.o (by decide)) (fun _ hk=>hk.2) (.slice Ao58 t356.length co58)) (fun _ h_=>h_.1))) (Kd.bt_ ho62) hb);replace BK346:=am (bm_ (g:=gb346) (o:=.cells #[.slice Ao55 xaa_3.length co55] 52 (0,0)) (by (with_reducible repeat (first|apply bd_|apply bb_|apply bc_));refine bF_ ?_ NB346_360.o _;(with_reducible repeat (first|apply bd_|apply bb_|apply bc_));exact BK346.o) hb);replace BK360:=am (bm_ (g:=gb360) (o:=.cells #[.slice Ao58 t356.length co58] 52 (0,0)) (by (with_reducible repeat (first|apply bd_|apply bb_|apply bc_));refine cQ_ (cs:=#[.slice none 0 0]) ?_ 0 _ rfl;(with_reducible repeat (first|apply bd_|apply bb_|apply bc_));exact BK360.o) hb);replace HB:=am (bh_ (by repeat (first|(with_reducible first|exact HB.o|apply bk_|apply be_|apply bg_|refine bl_ ?_ GE346.o|refine bl_ ?_ GE360.o)|exact HB.o)) hb);clear hb ho62)|((with_reducible refine bE_ (b:=.append) (xs:=#[.tmp 96,.tmp 97]) rfl ?_);(try (refine bM_ (by rfl) ?_;dsimp only));at_builtin;refine Kd.cm_ (Kd.int .u8) (w0:=w) w.heap.size rfl (.tmp 96) (.tmp 97) 22 5 (.int .u8 0) 1 rfl Try.underlying22 info5 rfl (by decide) (by omega) v362 y361 l0 _ _ _ (fun k_=>some k_≠(.slice Ao16 t327.length co16:Value).ownBlock) (fun _=>False) rfl rfl ?aO ?aR (fun _ _ h=>h) (fun _ h=>h.elim) ?aF ?aB ?aS ?aL ?_;(case aR=>exact zC (Kd.bH_ HR0.o HB.o));(case aB=>exact (by repeat (first|(with_reducible first|exact HB.o|apply bk_|apply be_|apply bg_|refine bl_ ?_ GE346.o|refine bl_ ?_ GE360.o)|exact HB.o)));(case aF=>exact (fun k_ hk=>Kd.fresh' (Kd.R_lt (zR HO_7.o)) k_ hk));(case aO=>exact (zR (Kd.bq_ HO363.o (fun _ hk=>hk.2))));(case aS=>exact (zs_ HB.o));(case aL=>have:=LMc50.o;omega);intro v365 w63 ho hb hg hat;rw [← Ny364.o] at ho;replace HO_7:=am (Kd.dy_ (ok:=(fun _=>True)) (zR HO_7.o) hg hat);replace HO_9:=am (Kd.R_over' (zR HO_9.o) (Kd.R_typed (zR HO363.o)) (by decide) hg);replace HO_aa:=am (Kd.S_after (ok:=(fun k_=>some k_≠(.slice Ao16 t327.length co16:Value).ownBlock)) (zS HO_aa.o) hg hat);replace BK346:=am (ce_ (zK BK346.o) hg (Kd.R_ne HO363.o BK346.o (by decide)));replace HO358:=am (Kd.V_afterv (ok:=(fun k_=>some k_≠(.slice Ao16 t327.length co16:Value).ownBlock∧some k_≠(.slice Ao28 x9_1.length co28:Value).ownBlock∧some k_≠(.slice Ao55 xaa_3.length co55:Value).ownBlock∧k_≠gb346∧k_≠gb360)) (zV (Kd.bJ_ HO358.o (fun _ hk=>⟨⟨hk.1.1.1,⟨hk.1.1.2.1,⟨hk.1.1.2.2.1,⟨hk.1.1.2.2.2,hk.1.2⟩⟩⟩⟩,hk.2⟩))) hg hat);replace BK360:=am (ce_ (zK BK360.o) hg (Kd.R_ne HO363.o BK360.o (by decide)));replace HB:=am (hb);have HO366:=am (ho);(try clear HO363);clear ho hb hg hat))
             replace HO_7:=am (Kd.bP_ HO_7.o);replace HO_9:=am (Kd.bP_ HO_9.o);replace HO_aa:=am (Kd.S_drew HO_aa.o);replace HO358:=am (Kd.dg_ HO358.o);replace HO366:=am (Kd.bP_ HO366.o);replace BK346:=am (bb_ BK346.o);replace BK360:=am (bb_ BK360.o);replace HB:=am (bg_ HB.o);have q65:((x9_1.length:Int):Int)≤((t327.length:Int):Int):=od_;obtain ⟨i065,hi065,_,hsz65,_⟩:=info_parts info5;have hroom65:t327.length≤co16:=(Kd.bj_ HO_7.o).2.1;have hC65:Kd.C (Kd.int .u8) _ Ao16 t327.length t327:=(Kd.bj_ HO_7.o).2.2;have hcut65:=cut_to (P:=Try.prog) 22 5 .i64 Try.underlying22 hi065 Ao16 t327.length co16 (x9_1.length:Int) (od_) q65 hroom65;have hr65:=Kd.C_take (m:=((x9_1.length:Int):Int).toNat) hC65 (by omega)
             have hy65:y367.length=((x9_1.length:Int):Int).toNat:=(by rw [Ny367.o,List.length_take];omega)
             rw [← Ny367.o] at hr65;rw [← hy65] at hcut65;have HR370:=am hr65;have HC370:=am (show y367.length≤co16 from by omega);clear hr65 hC65 hroom65 hi065 hsz65;have KY65:=am hy65;clear hy65;have KL65:=am (show ((x9_1.length:Int):Int).toNat≤t327.length from by omega);replace q65:=eq_true q65
             refine cS_ (n:=7) (S:=fun w'=>w'.cell? ⟨gb360,0,none⟩=some (.slice Ao58 t356.length co58)) (ds:=[]) #[false,false,false,false,false,false,false] (by kernel_rfl) rfl rfl ((bo_ BK360.o 0).trans rfl) (fun hHeld=>?_)
             generalize w63.drew=w64 at HO_7 HO_9 HO_aa HO358 HO366 BK346 BK360 HB HR370 hHeld ⊢
             refine ds_ (i:=1) (N:=some 100) (v:=?_) (a':=?_) #[false,true,false,false,false,false,false] rfl rfl (by kernel_rfl) (fun _ _ _ h=>h) (Or.inl ⟨by rfl,?_⟩) ?_ ?_
             rotate_left
             ·intro w';go_simp;with_reducible rfl
             rotate_left
             ·simp only [Act.put,List.setIfInBounds_toArray,List.set_cons_zero,List.set_cons_succ,bI_,bL_];rfl
             refine ds_ (i:=2) (N:=some 101) (v:=?_) (a':=?_) #[false,true,true,false,false,false,false] rfl rfl (by kernel_rfl) (fun _ _ _ h=>h) (Or.inl ⟨by rfl,?_⟩) ?_ ?_
             rotate_left
             ·intro w';go_simp;with_reducible rfl
             rotate_left
             ·simp only [Act.put,List.setIfInBounds_toArray,List.set_cons_zero,List.set_cons_succ,bI_,bL_];rfl
             refine ds_ (i:=3) (N:=some 102) (v:=?_) (a':=?_) #[false,true,true,true,false,false,false] rfl rfl (by kernel_rfl) (fun _ _ _ h=>h) (Or.inl ⟨by rfl,?_⟩) ?_ ?_
             rotate_left
             ·intro w';go_simp;with_reducible rfl
             rotate_left
             ·simp only [Act.put,List.setIfInBounds_toArray,List.set_cons_zero,List.set_cons_succ,bI_,bL_];rfl
             refine ds_ (i:=6) (N:=some 105) (v:=?_) (a':=?_) #[false,true,true,true,false,false,true] rfl rfl (by kernel_rfl) (fun _ _ _ h=>h) (Or.inl ⟨by rfl,?_⟩) ?_ ?_
             rotate_left
             ·intro w';go_simp;with_reducible rfl
             rotate_left
             ·simp only [Act.put,List.setIfInBounds_toArray,List.set_cons_zero,List.set_cons_succ,bI_,bL_];rfl
             refine take_ (i:=0) (N:=some 99) (v:=?_) (a':=?_) #[true,true,true,true,false,false,true] rfl rfl (by kernel_rfl) (fun _ _ _ h=>h) (Or.inl ⟨by rfl,?_⟩) hHeld ?_ ?_
             rotate_left
             ·intro w' s0;go_simp;with_reducible rfl
             rotate_left
             ·simp only [Act.put,List.setIfInBounds_toArray,List.set_cons_zero,List.set_cons_succ,bI_,bL_];rfl
             refine one_ (i:=4) (N:=some 103) #[true,true,true,true,true,false,true] rfl rfl (by kernel_rfl) (by decide) (fun K hK=>?_)
             refine goR_ Try.func56 #[.agg #[.slice Ao58 t356.length co58],.slice Ao16 y367.length co16] ?_
             with_reducible refine (Fai.calls k3 _ _ t356 _ _ y367 t371 _ ?side1 ?side2 ?side3 ?side4 A53.o).mono ?_
             (case side1=>exact zC ((Kd.df_ HO358.o).2.2))
             (case side2=>exact (Kd.df_ HO358.o).2.1)
             (case side3=>repeat (first|exact (by repeat (first|(with_reducible exact HR370.o)|(with_reducible refine Kd.cJ_ ?_ _)|(with_reducible refine Kd.cI_ ?_ _)|(with_reducible refine Kd.cW_ ?_)|exact HR370.o))|(with_reducible refine Kd.cJ_ ?_ _)|(with_reducible refine Kd.cI_ ?_ _)|(with_reducible refine Kd.cW_ ?_)))
             (case side4=>exact HC370.o)
             rintro e w66 ⟨v372,rfl,ho0,hb⟩
             refine ⟨_,rfl,?_⟩
             replace HO_9:=am (Kd.bQ_ (zR HO_9.o) hb)
             replace HO_aa:=am (Kd.cZ_ (zS HO_aa.o) (Kd.bt_ ho0) hb)
             replace HO358:=am (Kd.bT_ (zV HO358.o) (Kd.bt_ ho0) hb)
             have HO373:=am (Kd.bx_ (Kd.bX_ (Kd.bX_ ho0 (Kd.R_lt (zR HO_7.o))) (Kd.R_lt (zR HO366.o))) (zs_ HB.o))
             replace HO_7:=am (Kd.bC_ (zR HO_7.o) (Kd.bt_ ho0) hb)
             replace HO366:=am (Kd.bC_ (zR HO366.o) (Kd.bt_ ho0) hb)
             replace BK346:=am (bm_ (zK BK346.o) hb)
             replace BK360:=am (bm_ (zK BK360.o) hb)
             replace HR370:=am (Kd.bH_ (zC HR370.o) hb);replace HB:=am (bh_ (zB HB.o) hb);(try clear hb);(try clear ho0);obtain ⟨Ao67,co67,eo67⟩:=Kd.bv_ HO373.o
             (first|subst eo67|(injection eo67 with f1_ f2_ f3_;have f4_:=f1_.symm;have f5_:=f3_.symm;clear f1_ f2_ f3_;subst f4_;subst f5_))
             refine hK.out _ _ ((bo_ BK360.o 0).trans rfl) (fun hHeld=>?_)
             clear hK K
             refine cp_ (a':=?_) ?_ ?_
             rotate_left
             ·show Act.put _ (some 103) _=_
              simp only [Act.put,List.setIfInBounds_toArray,List.set_cons_zero,List.set_cons_succ,bI_,bL_];rfl
             refine ds_ (i:=5) (N:=some 104) (v:=?_) (a':=?_) #[true,true,true,true,true,true,true] rfl rfl (by kernel_rfl) (fun _ _ _ h=>h) (Or.inl ⟨by rfl,?_⟩) ?_ ?_
             rotate_left
             ·intro w';go_simp;with_reducible rfl
             rotate_left
             ·simp only [Act.put,List.setIfInBounds_toArray,List.set_cons_zero,List.set_cons_succ,bI_,bL_];rfl
             refine done_ (by kernel_rfl) ?_
             try go_wp2
             go_loopg [105] k3 (fun kq v105 w'=>∃ (x19_4:List Int) (x105_4:Int),v105 = .int .i64 x105_4∧ba_ (Fc.l3 kq a1 x9_1 (x9_1.length:Int) x19_4 t371 (t371.length:Int) x105_4=some (r1,r2,r3))∧ba_ (kq≤k3)∧ba_ (Kd.R (Kd.int .i64) 3 w' w.heap.size (fun _=>True) (.slice Ao28 x9_1.length co28) x9_1)∧ba_ (Kd.R (Kd.int .u8) 5 w' w.heap.size (fun k_=>some k_≠((.slice Ao67 t371.length co67):Value).ownBlock) v365 x19_4)∧ba_ (Kd.R (Kd.int .u8) 5 w' w.heap.size (fun k_=>some k_≠(v365:Value).ownBlock) (.slice Ao67 t371.length co67) t371)∧ba_ (Kd.S (Kd.slice 5 (Kd.int .u8)) 22 w' w.heap.size (fun k_=>some k_≠(v365:Value).ownBlock∧some k_≠((.slice Ao67 t371.length co67):Value).ownBlock) (.slice Ao55 xaa_3.length co55) xaa_3)∧ba_ (Kd.V (Kd.slice 5 (Kd.int .u8)) 22 w' w.heap.size (fun k_=>some k_≠((.slice Ao28 x9_1.length co28):Value).ownBlock∧some k_≠(v365:Value).ownBlock∧some k_≠((.slice Ao67 t371.length co67):Value).ownBlock∧some k_≠((.slice Ao55 xaa_3.length co55):Value).ownBlock∧k_≠gb346∧k_≠gb360) (.slice Ao58 t356.length co58) t356)∧ba_ (w'.heap[gb346]? = some (.cells #[(.slice Ao55 xaa_3.length co55)] 52 (0,0)))∧ba_ (w'.heap[gb360]? = some (.cells #[(.slice Ao58 t356.length co58)] 52 (0,0)))∧ba_ (Below w.heap.size w w'))
             case atStart=>exact ⟨(y364),(0),rfl,H',⟨Nat.le_refl _⟩,⟨zR HO_9.o⟩,⟨zR (Kd.bq_ HO366.o (fun _ hk=>hk.2))⟩,⟨zR (Kd.bq_ HO373.o (fun _ hk=>hk.2))⟩,⟨zS (Kd.cH_ HO_aa.o (fun _ hk=>⟨hk.1.2,hk.2⟩))⟩,⟨zV (Kd.bJ_ HO358.o (fun _ hk=>⟨hk.1.1.2.1,⟨hk.1.2,⟨hk.2,⟨hk.1.1.2.2.1,⟨hk.1.1.2.2.2.1,hk.1.1.2.2.2.2⟩⟩⟩⟩⟩))⟩,⟨zK BK346.o⟩,⟨zK BK360.o⟩,⟨zB HB.o⟩⟩
             case round =>
              clear H';(try clear hfz33_0);(try clear hfz43_0);(try clear hfz47_0);(try clear hfz54_0);(try clear hfz60_0);obtain ⟨x19_4,x105_4,rfl,HA,HK4,HO_9,HO_19,HO_103,HO_aa,HO_bb,BK346,BK360,HB⟩:=hrel
              cases gk with
              | zero=>exact absurd HA.o (by simp [Fc.l3])
              | succ k4 =>
               have H:=HA.o;clear HA
               simp only [Fc.l3] at H
               by_cases c68:x105_4<(t371.length:Int)
               ·rw [if_pos c68] at H;have c68b0:=decide_eq_true c68;clear c68
                obtain ⟨c69,H⟩:=it_ H;have c69b0:=decide_eq_true c69;clear c69
                obtain ⟨c70,H⟩:=it_ H;have c70b0:=decide_eq_true c70;clear c70
                by_cases c71:(rd t371 x105_4)=0
                ·rw [if_pos c71] at H;have c71b0:((rd t371 x105_4) == 0)=true:=beq_iff_eq.mpr c71;have c71b1:((rd t371 x105_4) != 0)=false:=bne_eq_false_iff_eq.mpr c71;clear c71
                 simp only [Option.some.injEq,Prod.mk.injEq] at H
                 obtain ⟨rfl,rfl,rfl⟩:=H;have p374:0≤(x105_4:Int):=od_;have q374:x105_4<(t371.length:Int):=od_;obtain ⟨ad374,e374,hx374_0⟩:=Kd.bK_ (Kd.bj_ HO_103.o).2.2 x105_4 p374 q374;cases e374;replace p374:=eq_true p374;replace q374:=eq_true q374
                 go_wp2
                 go_ret3
                 exact ⟨_,rfl,by first|apply Kd.di_|apply Kd.N_nil|apply Kd.V_nil|apply Kd.Q_nil|apply Kd.S_nil,zB HB.o⟩
                ·rw [if_neg c71] at H;have c71b0:((rd t371 x105_4) == 0)=false:=beq_eq_false_iff_ne.mpr c71;have c71b1:((rd t371 x105_4) != 0)=true:=bne_iff_ne.mpr c71
                 obtain ⟨c72,H⟩:=it_ H;have c72b0:=decide_eq_true c72;clear c72
                 obtain ⟨c73,H⟩:=it_ H;have c73b0:=decide_eq_true c73;clear c73
                 obtain ⟨c74,H⟩:=it_ H;have c74b0:=decide_eq_true c74;clear c74;obtain ⟨y377,hy377⟩:∃ y_:List Int,y_=(x19_4.set ((rd x9_1 x105_4):Int).toNat (Go.bits .xor .u8 (rd x19_4 (rd x9_1 x105_4)) (rd t371 x105_4))):=⟨_,rfl⟩
                 replace H:(Fc.l3 k4 a1 x9_1 (x9_1.length:Int) y377 t371 (t371.length:Int) (wrap64 (x105_4+1)))=some (r1,r2,r3):=by first|(rw [hy377];exact H)|(have H2_:=(Option.bind_some _ _).symm.trans H;first|exact H2_|(rw [hy377];exact H2_))|exact H
                 have Ny377:=am hy377;clear hy377;have H':=am H;clear H;have p374:0≤(x105_4:Int):=od_;have q374:x105_4<(t371.length:Int):=od_;obtain ⟨ad374,e374,hx374_0⟩:=Kd.bK_ (Kd.bj_ HO_103.o).2.2 x105_4 p374 q374;cases e374;replace p374:=eq_true p374;replace q374:=eq_true q374;have p375:0≤(x105_4:Int):=od_;have q375:x105_4<(x9_1.length:Int):=od_;obtain ⟨ad375,e375,hx375_0⟩:=Kd.bK_ (Kd.bj_ HO_9.o).2.2 x105_4 p375 q375;cases e375;replace p375:=eq_true p375;replace q375:=eq_true q375;obtain ⟨Ao76,co76,eo76⟩:=Kd.bv_ HO_19.o
                 subst eo76
                 have p376:0≤((rd x9_1 x105_4):Int):=od_;have q376:(rd x9_1 x105_4)<(x19_4.length:Int):=od_;obtain ⟨ad376,e376,hx376_0⟩:=Kd.bK_ (Kd.bj_ HO_19.o).2.2 (rd x9_1 x105_4) p376 q376;cases e376;replace p376:=eq_true p376;replace q376:=eq_true q376;have p75:0≤((rd x9_1 x105_4):Int):=od_;have q75:((rd x9_1 x105_4):Int)<((x19_4.length:Int):Int):=od_;obtain ⟨go75,co75,eo75,gb75,gl75,cl75,HG75⟩:=Kd.R_form HO_19.o (by omega)
                 (first|cases eo75|(injection eo75 with ea_ en_ ec_;(first|subst ea_|(injection ea_ with ea_;subst ea_));subst ec_;clear en_))
                 have GB75:=am gb75;have GG75:=am HG75;clear gb75 gl75 HG75
                 (first|simp only [add_plain] at hx376_0|skip)
                 obtain ⟨hx75_0,hf75_0⟩:=Kd.R_celln 0 HO_19.o ((rd x9_1 x105_4):Int) p75 q75;replace p75:=eq_true p75;replace q75:=eq_true q75;have HP77:=Kd.R_putg HO_19.o ((rd x9_1 x105_4):Int) (Go.bits .xor .u8 (rd x19_4 (rd x9_1 x105_4)) (rd t371 x105_4))
                 go_wp2_with (first|((with_reducible refine gate_store (t:=5) (p:=121) rfl ?_);refine store_event (t:=5) (p:=121) (v:=?vo_w78) (w1:=(wr.setCell ⟨go75,((rd x9_1 x105_4):Int).toNat,none⟩ (.int .u8 (Go.bits .xor .u8 (rd x19_4 (rd x9_1 x105_4)) (rd t371 x105_4))))) ?hg ?ho ?hn ?hr ?_;(case ho=>rfl);(case hg=>rfl);(case hn=>rfl);(case hr=>first|(go_simp;done)|(go_simp;rfl));intro w78 hw;have hg:wr.grownBy w78 (some go75):=(by rw [hw];exact HP77.2);have hp_:Kd.R (Kd.int .u8) 5 w78 w.heap.size (fun k_=>some k_≠(.slice (some ad374) t371.length co67:Value).ownBlock) (.slice (some ⟨go75,0,none⟩) x19_4.length co76) y377:=(by rw [hw,Ny377.o];exact HP77.1);clear HP77;replace HO_9:=am (Kd.R_over' (v:=(.slice (some ⟨go75,0,none⟩) x19_4.length co76)) (zR HO_9.o) (Kd.R_typed HO_19.o) (by decide) hg);replace HO_103:=am (Kd.dy_ (v:=(.slice (some ⟨go75,0,none⟩) x19_4.length co76)) (v1:=(.slice (some ⟨go75,0,none⟩) x19_4.length co76)) (ok:=(fun _=>True)) (zR (Kd.bq_ HO_103.o (fun _ hk=>⟨trivial,hk⟩))) hg (.inl rfl));replace HO_aa:=am (Kd.S_after (v:=(.slice (some ⟨go75,0,none⟩) x19_4.length co76)) (v1:=(.slice (some ⟨go75,0,none⟩) x19_4.length co76)) (ok:=(fun k_=>some k_≠(.slice (some ad374) t371.length co67:Value).ownBlock)) (zS (Kd.cH_ HO_aa.o (fun _ hk=>⟨hk.2,hk.1⟩))) hg (.inl rfl));replace HO_bb:=am (Kd.V_afterv (v:=(.slice (some ⟨go75,0,none⟩) x19_4.length co76)) (v1:=(.slice (some ⟨go75,0,none⟩) x19_4.length co76)) (ok:=(fun k_=>some k_≠(.slice (some ad375) x9_1.length co28:Value).ownBlock∧some k_≠(.slice (some ad374) t371.length co67:Value).ownBlock∧some k_≠(.slice Ao55 xaa_3.length co55:Value).ownBlock∧k_≠gb346∧k_≠gb360)) (zV (Kd.bJ_ HO_bb.o (fun _ hk=>⟨⟨hk.1,⟨hk.2.2.1,⟨hk.2.2.2.1,⟨hk.2.2.2.2.1,hk.2.2.2.2.2⟩⟩⟩⟩,hk.2.1⟩))) hg (.inl rfl));replace BK346:=am (ce_ (zK BK346.o) hg (Kd.R_ne HO_19.o BK346.o (by decide)));replace BK360:=am (ce_ (zK BK360.o) hg (Kd.R_ne HO_19.o BK360.o (by decide)));replace HO_19:=am (hp_);replace HB:=am ((by rw [hw];exact bl_ (HB.o) GB75.o:Below w.heap.size w w78));clear hg hw hp_))
                 first|go_roundg k4|(try rw [show (⟨go75,(x38_1).toNat,none⟩:Addr)=(⟨go75,0,none⟩:Addr).add (x38_1).toNat from by simp [Addr.add]];try rw [show (⟨go75,(x13_3).toNat,none⟩:Addr)=(⟨go75,0,none⟩:Addr).add (x13_3).toNat from by simp [Addr.add]];go_roundg k4)
                 case measure=>have:=HK1.o;have:=HJ26.o;have:=HK3.o;have:=HK4.o;omega
                 case rel=>exact ⟨(y377),(wrap64 (x105_4+1)),rfl,H',⟨by have:=HK1.o;have:=HJ26.o;have:=HK3.o;have:=HK4.o;omega⟩,⟨zR HO_9.o⟩,⟨zR HO_19.o⟩,⟨zR (Kd.bq_ HO_103.o (fun _ hk=>hk.2))⟩,⟨zS (Kd.cH_ HO_aa.o (fun _ hk=>⟨hk.2,hk.1⟩))⟩,⟨zV (Kd.bJ_ HO_bb.o (fun _ hk=>⟨hk.1.1,⟨hk.2,⟨hk.1.2.1,⟨hk.1.2.2.1,⟨hk.1.2.2.2.1,hk.1.2.2.2.2⟩⟩⟩⟩⟩))⟩,⟨zK BK346.o⟩,⟨zK BK360.o⟩,⟨zB HB.o⟩⟩
               ·rw [if_neg c68] at H;have c68b0:=decide_eq_false c68;clear c68;obtain ⟨t378,A79,H⟩:=bi_ H;obtain ⟨t381,A80,H⟩:=bi_ H
                by_cases c81:t381=true
                ·subst c81
                 have H1:(some (x19_4,(x9_1.length:Int),true))=some (r1,r2,r3):=by rw [if_pos rfl] at H;exact H
                 clear H;have H:=H1;clear H1
                 simp only [Option.some.injEq,Prod.mk.injEq] at H
                 obtain ⟨rfl,rfl,rfl⟩:=H;obtain ⟨Ao82,co82,eo82⟩:=Kd.bv_ HO_19.o
                 subst eo82
                 go_wp2_with (first|((with_reducible refine bf_ (f:=41) rfl ?_);refine goL_ (some 125) Try.func41 #[.slice Ao82 x19_4.length co82,.int .i64 a1] ?_;(with_reducible refine (Fy.calls k4 _ _ x19_4 a1 t378 _ ?side1 ?side2 A79.o).mono ?_);(case side1=>exact zC ((Kd.bj_ HO_19.o).2.2));(case side2=>exact (Kd.bj_ HO_19.o).2.1);rintro e w83 ⟨v379,rfl,ho0,hb⟩;refine ⟨_,rfl,?_⟩;replace HO_9:=am (Kd.bQ_ (zR HO_9.o) hb);replace HO_aa:=am (Kd.cZ_ (zS HO_aa.o) (Kd.bt_ ho0) hb);replace HO_bb:=am (Kd.bT_ (zV HO_bb.o) (Kd.bt_ ho0) hb);have HO380:=am (Kd.bx_ (Kd.bX_ (Kd.bX_ ho0 (Kd.R_lt (zR HO_19.o))) (Kd.R_lt (zR HO_103.o))) (zs_ HB.o));replace HO_19:=am (Kd.bC_ (zR HO_19.o) (Kd.bt_ ho0) hb);replace HO_103:=am (Kd.bC_ (zR HO_103.o) (Kd.bt_ ho0) hb);replace BK346:=am (bm_ (zK BK346.o) hb);replace BK360:=am (bm_ (zK BK360.o) hb);replace HB:=am (bh_ (zB HB.o) hb);(try clear hb);(try clear ho0);obtain ⟨Ao84,co84,eo84⟩:=Kd.bv_ HO380.o;subst eo84)|((with_reducible refine bf_ (f:=44) rfl ?_);refine goL_ (some 126) Try.func44 #[.slice Ao84 t378.length co84] ?_;(with_reducible refine (Fak.calls k4 _ _ t378 true _ ?side1 ?side2 A80.o).mono ?_);(case side1=>exact zC ((Kd.bj_ HO380.o).2.2));(case side2=>exact (Kd.bj_ HO380.o).2.1);rintro e w' ⟨rfl,⟨nd,rfl⟩⟩;refine ⟨_,rfl,?_⟩))
                 go_ret3
                 exact ⟨_,rfl,zR (Kd.bq_ HO_19.o (fun _ hk=>trivial)),zB HB.o⟩
                ·replace c81:=Bool.eq_false_iff.mpr c81
                 subst c81
                 have H1:(some (([]:List Int),0,false))=some (r1,r2,r3):=by rw [if_neg (show ¬ (false=true) by decide)] at H;exact H
                 clear H;have H:=H1;clear H1
                 simp only [Option.some.injEq,Prod.mk.injEq] at H
                 obtain ⟨rfl,rfl,rfl⟩:=H;obtain ⟨Ao85,co85,eo85⟩:=Kd.bv_ HO_19.o
                 subst eo85
                 go_wp2_with (first|((with_reducible refine bf_ (f:=41) rfl ?_);refine goL_ (some 125) Try.func41 #[.slice Ao85 x19_4.length co85,.int .i64 a1] ?_;(with_reducible refine (Fy.calls k4 _ _ x19_4 a1 t378 _ ?side1 ?side2 A79.o).mono ?_);(case side1=>exact zC ((Kd.bj_ HO_19.o).2.2));(case side2=>exact (Kd.bj_ HO_19.o).2.1);rintro e w86 ⟨v379,rfl,ho0,hb⟩;refine ⟨_,rfl,?_⟩;replace HO_9:=am (Kd.bQ_ (zR HO_9.o) hb);replace HO_aa:=am (Kd.cZ_ (zS HO_aa.o) (Kd.bt_ ho0) hb);replace HO_bb:=am (Kd.bT_ (zV HO_bb.o) (Kd.bt_ ho0) hb);have HO380:=am (Kd.bx_ (Kd.bX_ (Kd.bX_ ho0 (Kd.R_lt (zR HO_19.o))) (Kd.R_lt (zR HO_103.o))) (zs_ HB.o));replace HO_19:=am (Kd.bC_ (zR HO_19.o) (Kd.bt_ ho0) hb);replace HO_103:=am (Kd.bC_ (zR HO_103.o) (Kd.bt_ ho0) hb);replace BK346:=am (bm_ (zK BK346.o) hb);replace BK360:=am (bm_ (zK BK360.o) hb);replace HB:=am (bh_ (zB HB.o) hb);(try clear hb);(try clear ho0);obtain ⟨Ao87,co87,eo87⟩:=Kd.bv_ HO380.o;subst eo87)|((with_reducible refine bf_ (f:=44) rfl ?_);refine goL_ (some 126) Try.func44 #[.slice Ao87 t378.length co87] ?_;(with_reducible refine (Fak.calls k4 _ _ t378 false _ ?side1 ?side2 A80.o).mono ?_);(case side1=>exact zC ((Kd.bj_ HO380.o).2.2));(case side2=>exact (Kd.bj_ HO380.o).2.1);rintro e w' ⟨rfl,⟨nd,rfl⟩⟩;refine ⟨_,rfl,?_⟩))
                 go_ret3
                 exact ⟨_,rfl,by first|apply Kd.di_|apply Kd.N_nil|apply Kd.V_nil|apply Kd.Q_nil|apply Kd.S_nil,zB HB.o⟩
            ·replace c49:=Bool.eq_false_iff.mpr c49
             subst c49
             have H1:(some (([]:List Int),0,false))=some (r1,r2,r3):=by rw [if_neg (show ¬ (false=true) by decide)] at H;exact H
             clear H;have H:=H1;clear H1
             simp only [Option.some.injEq,Prod.mk.injEq] at H
             obtain ⟨rfl,rfl,rfl⟩:=H;have hcz88_0:wr.cell? ⟨gb346,0,none⟩=some (uaa):=(bo_ BK346.o 0).trans rfl;have hfz88_0:=bs_ BK346.o 0;obtain ⟨Ao89,co89,eo89⟩:=Kd.cP_ HO_aa.o
             subst eo89
             go_wp2_with (first|((with_reducible refine bf_ (f:=55) rfl ?_);refine goL_ (some 91) Try.func55 #[.agg #[.slice Ao89 xaa_3.length co89]] ?_;(with_reducible refine (Fat.calls k3 _ _ xaa_3 t356 false _ ?side1 ?side2 A48.o).mono ?_);(case side1=>exact zC ((Kd.cl_ HO_aa.o).2.2));(case side2=>exact (Kd.cl_ HO_aa.o).2.1);rintro e w90 ⟨v357,rfl,ho0,hb⟩;refine ⟨_,rfl,?_⟩;have HO358:=am (Kd.dw_ (Kd.bJ_ (ok':=fun k_=>some k_≠(.slice Ao16 t327.length co16:Value).ownBlock∧some k_≠(.slice Ao28 x9_1.length co28:Value).ownBlock∧some k_≠(.slice Ao89 xaa_3.length co89:Value).ownBlock∧k_≠gb346) (Kd.dx_ ho0) (fun k_ hk0_=>have hk_:=And.intro trivial hk0_;⟨(Kd.fresh' (Kd.R_lt (zR HO_7.o)) k_ hk_.2.1),(Kd.fresh' (Kd.R_lt (zR HO_9.o)) k_ hk_.2.1),(Kd.fresh' (Kd.S_lt (zS HO_aa.o)) k_ hk_.2.1),(Kd.freshB (zK BK346.o) k_ hk_.2.1)⟩)) (zs_ HB.o));replace HO_7:=am (Kd.bQ_ (zR HO_7.o) hb);replace HO_9:=am (Kd.bQ_ (zR HO_9.o) hb);replace HO_aa:=am (Kd.cC_ (zS HO_aa.o) hb);replace BK346:=am (bm_ (zK BK346.o) hb);replace HB:=am (bh_ (zB HB.o) hb);(try clear hb);(try clear ho0))|((with_reducible refine bB_ (N:=17) rfl ?_);(try (refine bM_ (by rfl) ?_;dsimp only));refine bU_ ?hg (N:=17) ?hd (cs:=#[.slice none 0 0]) (t:=52) ?hr ?_;(case hd=>rfl);(case hg=>rfl);(case hr=>first|(go_simp;done)|(go_simp;rfl));intro gb360 hg w91 hbox hb;replace HO_7:=am (Kd.bQ_ (zR HO_7.o) hb);replace HO_9:=am (Kd.bQ_ (zR HO_9.o) hb);replace HO_aa:=am (Kd.cC_ (zS HO_aa.o) hb);replace HO358:=am (Kd.V_below (Kd.dl_ (zV HO358.o) gb360 (Nat.le_of_eq hg.symm)) hb);have BK360:=am (hbox);have GW360:=am ((gw_ hg HB.o:w.heap.size≤gb360));have GE360:=am ((gw_ hg HB.o:w.heap.size≤gb360));replace HB:=am (bh_ (zB HB.o) hb);have NB346_360:=am ((by rw [hg];exact Nat.ne_of_lt (bw_ (zK BK346.o)):gb346≠gb360));have NB360_346:=am ((by rw [hg];exact Nat.ne_of_gt (bw_ (zK BK346.o)):gb360≠gb346));replace BK346:=am (bm_ (zK BK346.o) hb);clear hb hbox hg;obtain ⟨Ao92,co92,eo92⟩:=Kd.V_slice HO358.o;subst eo92;have hnb93:=NB360_346.o;have hnc93:=NB346_360.o;have hcz94_0:w91.cell? ⟨gb360,0,none⟩=some (.slice none 0 0):=(bo_ BK360.o 0).trans rfl;have hfz94_0:=bs_ BK360.o 0))
             go_ret3
             exact ⟨_,by first|rfl|(simp [errW_none,errW_some] <;> rfl)|(simp [*,errW_none,errW_some] <;> rfl),by first|apply Kd.di_|apply Kd.N_nil|apply Kd.V_nil|apply Kd.Q_nil|apply Kd.S_nil,by repeat (first|(with_reducible first|exact HB.o|apply bk_|apply be_|apply bg_|refine bl_ ?_ GE346.o|refine bl_ ?_ GE360.o)|exact HB.o)⟩
 ·replace c4:=Bool.eq_false_iff.mpr c4
  subst c4
  have H1:(some (([]:List Int),0,false))=some (r1,r2,r3):=by rw [if_neg (show ¬ (false=true) by decide)] at H;exact H
  clear H;have H:=H1;clear H1
  simp only [Option.some.injEq,Prod.mk.injEq] at H
  obtain ⟨rfl,rfl,rfl⟩:=H
  go_enter Try.func28,Try.ntmps28
  go_wp2_with (first|((with_reducible refine bf_ (f:=40) rfl ?_);refine goL_ (some 24) Try.func40 #[.slice A0 l0.length c0,.int .i64 a1] ?_;(with_reducible refine (Fbe.calls _ _ l0 a1 false _ ?side1 ?side2 A3.o).mono ?_);(case side1=>exact zC HR0.o);(case side2=>exact HC0.o);rintro e w' ⟨rfl,⟨nd,rfl⟩⟩;refine ⟨_,rfl,?_⟩))
  go_ret3
  exact ⟨_,rfl,by first|apply Kd.di_|apply Kd.N_nil|apply Kd.V_nil|apply Kd.Q_nil|apply Kd.S_nil,zB HB.o⟩

end Go.Proofs.Ytbloniemhkfnlaa.PFnCorrected
