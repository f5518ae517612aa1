/- A law's functions as plain Lean functions, each with the walk that shows that the code computes it: written by this session's program wip/tools/ppmake.py. -/
import Derived.Test.YtbloniemhkfnlaaKZ
import Derived.Test.YtbloniemhkfnlaaPFnCorrectedx0
import Derived.Test.YtbloniemhkfnlaaPFnCorrectedx1
import Derived.Test.YtbloniemhkfnlaaPFnCorrectedx2
import Derived.Test.YtbloniemhkfnlaaPFnCorrectedx4
import Derived.Test.YtbloniemhkfnlaaPFnCorrectedx5
import Derived.Test.YtbloniemhkfnlaaPFnCorrectedx12
import Derived.Test.YtbloniemhkfnlaaPFnCorrectedx17
import Derived.Test.YtbloniemhkfnlaaPFnCorrectedx18
import Derived.Test.YtbloniemhkfnlaaPFnCorrectedx19
namespace Go.Proofs.Ytbloniemhkfnlaa.PFnCorrected
open Go.RowKit Go.Proofs.YtbloniemhkfnlaaW.PrintWords Go.Proofs.YtbloniemhkfnlaaW.PrintLast Go.Proofs.YtbloniemhkfnlaaW.PrintMore
attribute [local go_sem] cw_ cy_ cK_ cL_ ci_ ch_ cx_ cv_   -- for this text's walks alone
set_option linter.unusedVariables false
set_option linter.unusedSimpArgs false

/-! ### laws_FnCorrected: function 11 -/
mutual
def laws_FnCorrected.j0:Nat→List Int→List Int→Int→List Int→Bool→Bool→Option (Bool)
 | 0,_,_,_,_,_,_=>none
 | k+1,x1,x5,x6,x7,x8,x69=>if x69=true then (some false) else (if x8=true then ((Faz.f k x7 x6).bind fun bt535=>((Fbm.f k x7 x6).bind fun bt537=>((Fbn.f k x6).bind fun bt541=>(if bt535.2=true then (if bt535.1=true then (if bt537.2=true then ((Faa.f bt537.1 x5).bind fun t545=>(if t545=true then (if bt541.2=true then (laws_FnCorrected.j1 k x1 x6 x7 ((bt541.1.length:Int) != (wrap64 ((wrap64 (2 * x6))+1)))) else (laws_FnCorrected.j1 k x1 x6 x7 true)) else (laws_FnCorrected.j1 k x1 x6 x7 true))) else (laws_FnCorrected.j1 k x1 x6 x7 true)) else (laws_FnCorrected.j1 k x1 x6 x7 true)) else (laws_FnCorrected.j1 k x1 x6 x7 true))))) else (laws_FnCorrected.j4 k x1))
def laws_FnCorrected.j4:Nat→List Int→Option (Bool)
 | 0,_=>none
 | k+1,x1=>(Fbq.f k x1).bind fun bt567=>((Fa.f k bt567.1 bt567.2).bind fun bt571=>((Fc.f k bt567.1 bt567.2).bind fun bt576=>(if (bt571.2.2 != bt576.2.2)=true then (laws_FnCorrected.j5 k bt567.1 bt567.2 bt571.1 bt571.2.1 bt571.2.2 true) else (if bt571.2.1=bt576.2.1 then ((Faa.f bt571.1 bt576.1).bind fun t581=>(laws_FnCorrected.j5 k bt567.1 bt567.2 bt571.1 bt571.2.1 bt571.2.2 (!t581))) else (laws_FnCorrected.j5 k bt567.1 bt567.2 bt571.1 bt571.2.1 bt571.2.2 true)))))
def laws_FnCorrected.j5:Nat→List Int→Int→List Int→Int→Bool→Bool→Option (Bool)
 | 0,_,_,_,_,_,_=>none
 | k+1,x26,x27,x28,x29,x30,x236=>if x236=true then (some false) else (if x30=true then ((Faz.f k x28 x27).bind fun bt582=>((Fn.f k x26 x28).bind fun bt584=>(if bt582.2=true then (if bt582.1=true then (if bt584.2=true then (if bt584.1=x29 then (some (decide (x29≤x27))) else (some false)) else (some false)) else (some false)) else (some false)))) else (some (x29 == 0)))
def laws_FnCorrected.j1:Nat→List Int→Int→List Int→Bool→Option (Bool)
 | 0,_,_,_,_=>none
 | k+1,x1,x6,x7,x115=>if x115=true then (some false) else ((some (([]:List Int):List Int)).bind fun y546=>(if y546.length+x7.length<140737488355328 then (laws_FnCorrected.l0 k x1 x6 x7 (y546++x7) 0 0) else (none)))
def laws_FnCorrected.l0:Nat→List Int→Int→List Int→List Int→Int→Int→Option (Bool)
 | 0,_,_,_,_,_,_=>none
 | k+1,x1,x6,x7,x17,x18,x19=>if (wrap64 (x19+1))<(x1.length:Int) then (laws_FnCorrected.j3 k x1 x6 x7 x17 x18 x19 (decide (x18<x6))) else (laws_FnCorrected.j3 k x1 x6 x7 x17 x18 x19 false)
def laws_FnCorrected.j3:Nat→List Int→Int→List Int→List Int→Int→Int→Bool→Option (Bool)
 | 0,_,_,_,_,_,_,_=>none
 | k+1,x1,x6,x7,x17,x18,x19,x128=>if x128=true then (if 0≤x19 then (if x19<(x1.length:Int) then (if (x17.length:Int)=0 then (none) else (if 0≤(Int.tmod (wrap64 (rd x1 x19)) (x17.length:Int)) then (if (Int.tmod (wrap64 (rd x1 x19)) (x17.length:Int))<(x17.length:Int) then (if (Int.tmod (wrap64 (rd x1 x19)) (x17.length:Int))<(x7.length:Int) then (if (rd x17 (Int.tmod (wrap64 (rd x1 x19)) (x17.length:Int)))=(rd x7 (Int.tmod (wrap64 (rd x1 x19)) (x17.length:Int))) then (if 0≤(wrap64 (x19+1)) then (if (wrap64 (x19+1))<(x1.length:Int) then (if (rd x1 (wrap64 (x19+1)))=0 then (laws_FnCorrected.l0 k x1 x6 x7 x17 x18 (wrap64 (x19+2))) else (laws_FnCorrected.l0 k x1 x6 x7 (x17.set ((Int.tmod (wrap64 (rd x1 x19)) (x17.length:Int)):Int).toNat (Go.bits .xor .u8 (rd x17 (Int.tmod (wrap64 (rd x1 x19)) (x17.length:Int))) (rd x1 (wrap64 (x19+1))))) (wrap64 (x18+1)) (wrap64 (x19+2)))) else (none)) else (none)) else (laws_FnCorrected.l0 k x1 x6 x7 x17 x18 (wrap64 (x19+2)))) else (none)) else (none)) else (none))) else (none)) else (none)) else ((Fa.f k x17 x6).bind fun bt559=>((Fn.f k x17 x7).bind fun bt564=>(if bt559.2.2=true then ((Faa.f bt559.1 x7).bind fun t566=>(if t566=true then (if bt559.2.1=x18 then (if bt564.2=true then (if bt564.1=x18 then (laws_FnCorrected.j4 k x1) else (some false)) else (some false)) else (some false)) else (some false))) else (some false))))
end
def laws_FnCorrected.f (k:Nat) (l0:List Int) (l1:List Int):Option (Bool):=if (wrap64 ((l0.length:Int)+(l1.length:Int))) > 1048576 then (some true) else ((Fbo.f k l0).bind fun bt522=>((Ff.f k bt522.1 bt522.2).bind fun bt526=>((Fv.f k bt522.1 bt522.2).bind fun bt530=>(if (bt526.2 != bt530.2)=true then (laws_FnCorrected.j0 k l1 bt522.1 bt522.2 bt526.1 bt526.2 true) else ((Faa.f bt526.1 bt530.1).bind fun t534=>(laws_FnCorrected.j0 k l1 bt522.1 bt522.2 bt526.1 bt526.2 (!t534)))))))
def laws_FnCorrected.T20:Bool × List (List Nat × List Nat):=(true,[([],[]),([],[]),([0,1],[0,1]),([2],[2]),([],[]),([],[]),([4,5],[4,5]),([6],[6]),([3,7],[3,7]),([8],[8]),([9],[9]),([9],[9]),([11,9],[9,11]),([10,12,9],[9,10,12]),([13,9],[9,13]),([14,9],[9,14]),([9,15],[9,15])])
def laws_FnCorrected.B20:List Nat:=[0,0,3,7,0,0,48,112,255,511,1023,1023,3071,8191,16383,32767,65535]
theorem laws_FnCorrected.tab20:rtab .any (opsOf Try.f11 20)=laws_FnCorrected.T20:=by kernel_rfl
theorem laws_FnCorrected.bits20:waitsOk laws_FnCorrected.T20.2 laws_FnCorrected.B20=true:=by kernel_rfl
def laws_FnCorrected.T21:Bool × List (List Nat × List Nat):=(true,[([],[]),([],[]),([0,1],[0,1]),([2],[2]),([],[]),([],[]),([5],[5]),([4,6],[4,6]),([7],[7]),([3,8],[3,8]),([0,1,0,1,2,3,4,5,6,7,8,9],[0,1]),([10,9,0,1,2,3,4,5,6,7,8,9],[9,10])])
def laws_FnCorrected.B21:List Nat:=[0,0,3,7,0,0,32,112,240,511,1023,2047]
theorem laws_FnCorrected.tab21:rtab .any (opsOf Try.f11 21)=laws_FnCorrected.T21:=by kernel_rfl
theorem laws_FnCorrected.bits21:waitsOk laws_FnCorrected.T21.2 laws_FnCorrected.B21=true:=by kernel_rfl
set_option maxHeartbeats 8000000 in
set_option maxRecDepth 100000 in
theorem laws_FnCorrected.calls (k:Nat) (A0:Option Addr) (c0:Nat) (l0:List Int) (A1:Option Addr) (c1:Nat) (l1:List Int) (r:Bool) (w:World) (hr0:Kd.C (Kd.int .u8) w A0 l0.length l0) (hc0:l0.length≤c0) (hr1:Kd.C (Kd.int .u8) w A1 l1.length l1) (hc1:l1.length≤c1) (h:laws_FnCorrected.f k l0 l1=some r) :
  Calls Try.prog 11 #[.slice A0 l0.length c0,.slice A1 l1.length c1] w fun e w'=>e = .returned (.bool r)∧Below w.heap.size w w':=by
 have HR0:=am hr0;have HC0:=am hc0;clear hr0 hc0;have HR1:=am hr1;have HC1:=am hc1;clear hr1 hc1;have HB:=am (Below.refl w.heap.size w);have H:(if (wrap64 ((l0.length:Int)+(l1.length:Int))) > 1048576 then (some true) else ((Fbo.f k l0).bind fun bt522=>((Ff.f k bt522.1 bt522.2).bind fun bt526=>((Fv.f k bt522.1 bt522.2).bind fun bt530=>(if (bt526.2 != bt530.2)=true then (laws_FnCorrected.j0 k l1 bt522.1 bt522.2 bt526.1 bt526.2 true) else ((Faa.f bt526.1 bt530.1).bind fun t534=>(laws_FnCorrected.j0 k l1 bt522.1 bt522.2 bt526.1 bt526.2 (!t534))))))))=some r:=h;clear h
 by_cases c3:(wrap64 ((l0.length:Int)+(l1.length:Int))) > 1048576
 ·rw [if_pos c3] at H;have c3b0:decide (1048576<(wrap64 ((l0.length:Int)+(l1.length:Int))))=true:=decide_eq_true c3;clear c3;obtain rfl:=Option.some.inj H
  go_enter Try.func11,Try.ntmps11
  go_wp2
  go_ret
  exact ⟨rfl,zB HB.o⟩
 ·rw [if_neg c3] at H;have c3b0:decide (1048576<(wrap64 ((l0.length:Int)+(l1.length:Int))))=false:=decide_eq_false c3;clear c3;obtain ⟨⟨t522,t523⟩,A4,H⟩:=bi_ H;dsimp only at H;obtain ⟨⟨t526,t527⟩,A5,H⟩:=bi_ H;dsimp only at H;obtain ⟨⟨t530,t531⟩,A6,H⟩:=bi_ H;dsimp only at H;have HC7:=am H;clear H
  go_enter Try.func11,Try.ntmps11
  go_upto_region 6 with (first|((with_reducible refine bf_ (f:=30) rfl ?_);refine goL_ (some 46) Try.func30 #[.slice A0 l0.length c0] ?_;(with_reducible refine (Fbo.calls k _ _ l0 t522 t523 _ ?side1 ?side2 A4.o).mono ?_);(case side1=>exact zC HR0.o);(case side2=>exact HC0.o);rintro e w8 ⟨v524,rfl,ho0,hb⟩;refine ⟨_,rfl,?_⟩;have HO525:=am (Kd.bx_ ho0 (zs_ HB.o));replace HB:=am (bh_ (zB HB.o) hb);(try clear hb);(try clear ho0);obtain ⟨Ao9,co9,eo9⟩:=Kd.bv_ HO525.o;subst eo9)|((with_reducible refine bf_ (f:=23) rfl ?_);refine goL_ (some 52) Try.func23 #[.slice Ao9 t522.length co9,.int .i64 t523] ?_;(with_reducible refine (Ff.calls k _ _ t522 t523 t526 t527 _ ?side1 ?side2 A5.o).mono ?_);(case side1=>exact zC ((Kd.bj_ HO525.o).2.2));(case side2=>exact (Kd.bj_ HO525.o).2.1);rintro e w10 ⟨v528,rfl,ho0,hb⟩;refine ⟨_,rfl,?_⟩;have HO529:=am (Kd.bx_ (Kd.bX_ ho0 (Kd.R_lt (zR HO525.o))) (zs_ HB.o));replace HO525:=am (Kd.bC_ (zR HO525.o) (Kd.bt_ ho0) hb);replace HB:=am (bh_ (zB HB.o) hb);(try clear hb);(try clear ho0))|((with_reducible refine bf_ (f:=22) rfl ?_);refine goL_ (some 58) Try.func22 #[.slice Ao9 t522.length co9,.int .i64 t523] ?_;(with_reducible refine (Fv.calls k _ _ t522 t523 t530 t531 _ ?side1 ?side2 A6.o).mono ?_);(case side1=>exact zC ((Kd.bj_ HO525.o).2.2));(case side2=>exact (Kd.bj_ HO525.o).2.1);rintro e w11 ⟨v532,rfl,ho0,hb⟩;refine ⟨_,rfl,?_⟩;have HO533:=am (Kd.bx_ (Kd.bX_ (Kd.bX_ ho0 (Kd.R_lt (zR HO525.o))) (Kd.R_lt (zR HO529.o))) (zs_ HB.o));replace HO525:=am (Kd.bC_ (zR HO525.o) (Kd.bt_ ho0) hb);replace HO529:=am (Kd.bC_ (zR HO529.o) (Kd.bt_ ho0) hb);replace HB:=am (bh_ (zB HB.o) hb);(try clear hb);(try clear ho0)))
  (try simp only [Act.put,List.setIfInBounds_toArray,List.set_cons_zero,List.set_cons_succ])
  go_cut [69] (fun v69 wc=>∃ (kq:Nat) (x69_6:Bool),v69 = .bool x69_6∧ba_ (laws_FnCorrected.j0 kq l1 t522 t523 t526 t527 x69_6=some r)∧ba_ (kq≤k)∧ba_ (Kd.R (Kd.int .u8) 5 wc w.heap.size (fun k_=>some k_≠(v528:Value).ownBlock) (.slice Ao9 t522.length co9) t522)∧ba_ (Kd.R (Kd.int .u8) 5 wc w.heap.size (fun k_=>some k_≠((.slice Ao9 t522.length co9):Value).ownBlock) v528 t526)∧ba_ (Below w.heap.size w wc))
  case first =>
   as_aux_lemma =>
    have H:=HC7.o;clear HC7
    by_cases c12:(t527 != t531)=true
    ·rw [if_pos c12] at H;have c12b0:(t527 != t531)=true:=c12
     (try (have c12b1:decide (t527=t531)=false:=by simpa using c12))
     (try (have c12b2:(t527 == t531)=false:=by simpa using c12))
     (try (have c12b3:¬ (t527=t531):=by simpa using c12))
     clear c12
     (first|rw [c12b0]|(simp only [bI_,bL_];rw [c12b0])|skip)
     have H':=am H;clear H
     go_wp2
     go_meet
     case rel=>exact ⟨_,(true),rfl,H',⟨by first|omega|exact Nat.le_refl _⟩,⟨zR (Kd.bq_ HO525.o (fun _ hk=>hk.1.2))⟩,⟨zR (Kd.bq_ HO529.o (fun _ hk=>hk.1.2))⟩,⟨zB HB.o⟩⟩
    ·rw [if_neg c12] at H
     have c12b0:(t527 != t531)=false:=by simpa using c12
     (try (have c12b1:decide (t527=t531)=true:=by simpa using c12))
     (try (have c12b2:(t527 == t531)=true:=by simpa using c12))
     clear c12
     (first|rw [c12b0]|(simp only [bI_,bL_];rw [c12b0])|skip)
     obtain ⟨t534,A13,H⟩:=bi_ H;have H':=am H;clear H;obtain ⟨Ao14,co14,eo14⟩:=Kd.bv_ HO529.o
     subst eo14
     obtain ⟨Ao15,co15,eo15⟩:=Kd.bv_ HO533.o
     subst eo15
     go_wp2_with (first|(go_at_call 32;(with_reducible refine (Faa.calls _ _ t526 _ _ t530 t534 _ ?side1 ?side2 ?side3 ?side4 A13.o).mono ?_);(case side1=>exact zC ((Kd.bj_ HO529.o).2.2));(case side2=>exact (Kd.bj_ HO529.o).2.1);(case side3=>exact zC ((Kd.bj_ HO533.o).2.2));(case side4=>exact (Kd.bj_ HO533.o).2.1);rintro e w' ⟨rfl,⟨nd,rfl⟩⟩))
     go_meet
     case rel=>exact ⟨_,(!t534),rfl,H',⟨by first|omega|exact Nat.le_refl _⟩,⟨zR (Kd.bq_ HO525.o (fun _ hk=>hk.1.2))⟩,⟨zR (Kd.bq_ HO529.o (fun _ hk=>hk.1.2))⟩,⟨zB HB.o⟩⟩
  case rest =>
   as_aux_lemma =>
    clear HC7;obtain ⟨kq,x69_6,rfl,HA,HJ6,HO_5,HO_7,HB⟩:=hcut
    cases kq with
    | zero=>exact absurd HA.o (by simp [laws_FnCorrected.j0])
    | succ kj6 =>
     have H:=HA.o;clear HA
     simp only [laws_FnCorrected.j0] at H
     by_cases c16:x69_6=true
     ·subst c16
      have H1:(some false)=some r:=by rw [if_pos rfl] at H;exact H
      clear H;have H:=H1;clear H1;obtain rfl:=Option.some.inj H
      go_wp2
      go_ret
      exact ⟨rfl,zB HB.o⟩
     ·replace c16:=Bool.eq_false_iff.mpr c16
      subst c16
      have H1:(if t527=true then ((Faz.f kj6 t526 t523).bind fun bt535=>((Fbm.f kj6 t526 t523).bind fun bt537=>((Fbn.f kj6 t523).bind fun bt541=>(if bt535.2=true then (if bt535.1=true then (if bt537.2=true then ((Faa.f bt537.1 t522).bind fun t545=>(if t545=true then (if bt541.2=true then (laws_FnCorrected.j1 kj6 l1 t523 t526 ((bt541.1.length:Int) != (wrap64 ((wrap64 (2 * t523))+1)))) else (laws_FnCorrected.j1 kj6 l1 t523 t526 true)) else (laws_FnCorrected.j1 kj6 l1 t523 t526 true))) else (laws_FnCorrected.j1 kj6 l1 t523 t526 true)) else (laws_FnCorrected.j1 kj6 l1 t523 t526 true)) else (laws_FnCorrected.j1 kj6 l1 t523 t526 true))))) else (laws_FnCorrected.j4 kj6 l1))=some r:=by rw [if_neg (show ¬ (false=true) by decide)] at H;exact H
      clear H;have H:=H1;clear H1;have HC17:=am H;clear H
      go_upto_if 70 with (fail)
      go_cut [] (fun wc=>∃ (kq:Nat),ba_ (laws_FnCorrected.j4 kq l1=some r)∧ba_ (kq≤kj6)∧ba_ (Below w.heap.size w wc))
      case first =>
       as_aux_lemma =>
        have H:=HC17.o;clear HC17
        by_cases c18:t527=true
        ·subst c18
         have H1:((Faz.f kj6 t526 t523).bind fun bt535=>((Fbm.f kj6 t526 t523).bind fun bt537=>((Fbn.f kj6 t523).bind fun bt541=>(if bt535.2=true then (if bt535.1=true then (if bt537.2=true then ((Faa.f bt537.1 t522).bind fun t545=>(if t545=true then (if bt541.2=true then (laws_FnCorrected.j1 kj6 l1 t523 t526 ((bt541.1.length:Int) != (wrap64 ((wrap64 (2 * t523))+1)))) else (laws_FnCorrected.j1 kj6 l1 t523 t526 true)) else (laws_FnCorrected.j1 kj6 l1 t523 t526 true))) else (laws_FnCorrected.j1 kj6 l1 t523 t526 true)) else (laws_FnCorrected.j1 kj6 l1 t523 t526 true)) else (laws_FnCorrected.j1 kj6 l1 t523 t526 true)))))=some r:=by rw [if_pos rfl] at H;exact H
         clear H;have H:=H1;clear H1;obtain ⟨⟨t535,t536⟩,A19,H⟩:=bi_ H;dsimp only at H;obtain ⟨⟨t537,t538⟩,A20,H⟩:=bi_ H;dsimp only at H;obtain ⟨⟨t541,t542⟩,A21,H⟩:=bi_ H;dsimp only at H;have HC22:=am H;clear H;obtain ⟨Ao23,co23,eo23⟩:=Kd.bv_ HO_7.o
         subst eo23
         go_upto_region 12 with (first|((with_reducible refine bf_ (f:=21) rfl ?_);refine goL_ (some 74) Try.func21 #[.slice Ao23 t526.length co23,.int .i64 t523] ?_;(with_reducible refine (Faz.calls kj6 _ _ t526 t523 t535 t536 _ ?side1 ?side2 A19.o).mono ?_);(case side1=>exact zC ((Kd.bj_ HO_7.o).2.2));(case side2=>exact (Kd.bj_ HO_7.o).2.1);rintro e w24 ⟨rfl,hb⟩;refine ⟨_,rfl,?_⟩;replace HO_5:=am (Kd.bQ_ (zR HO_5.o) hb);replace HO_7:=am (Kd.bQ_ (zR HO_7.o) hb);replace HB:=am (bh_ (zB HB.o) hb);(try clear hb);(try clear hb2);(try clear hk);(try clear hi))|((with_reducible refine bf_ (f:=25) rfl ?_);refine goL_ (some 80) Try.func25 #[.slice Ao23 t526.length co23,.int .i64 t523] ?_;(with_reducible refine (Fbm.calls kj6 _ _ t526 t523 t537 t538 _ ?side1 ?side2 A20.o).mono ?_);(case side1=>exact zC ((Kd.bj_ HO_7.o).2.2));(case side2=>exact (Kd.bj_ HO_7.o).2.1);rintro e w25 ⟨v539,rfl,ho0,hb⟩;refine ⟨_,rfl,?_⟩;have HO540:=am (Kd.bx_ (Kd.bX_ (Kd.bX_ ho0 (Kd.R_lt (zR HO_5.o))) (Kd.R_lt (zR HO_7.o))) (zs_ HB.o));replace HO_5:=am (Kd.bC_ (zR HO_5.o) (Kd.bt_ ho0) hb);replace HO_7:=am (Kd.bC_ (zR HO_7.o) (Kd.bt_ ho0) hb);replace HB:=am (bh_ (zB HB.o) hb);(try clear hb);(try clear ho0))|((with_reducible refine bf_ (f:=13) rfl ?_);refine goL_ (some 85) Try.func13 #[.int .i64 t523] ?_;(with_reducible refine (Fbn.calls kj6 t523 t541 t542 _ A21.o).mono ?_);rintro e w26 ⟨v543,rfl,ho0,hb⟩;refine ⟨_,rfl,?_⟩;have HO544:=am (Kd.bx_ (Kd.bX_ (Kd.bX_ (Kd.bX_ ho0 (Kd.R_lt (zR HO_5.o))) (Kd.R_lt (zR HO_7.o))) (Kd.R_lt (zR HO540.o))) (zs_ HB.o));replace HO_5:=am (Kd.bC_ (zR HO_5.o) (Kd.bt_ ho0) hb);replace HO_7:=am (Kd.bC_ (zR HO_7.o) (Kd.bt_ ho0) hb);replace HO540:=am (Kd.bC_ (zR HO540.o) (Kd.bt_ ho0) hb);replace HB:=am (bh_ (zB HB.o) hb);(try clear hb);(try clear ho0)))
         (try simp only [Act.put,List.setIfInBounds_toArray,List.set_cons_zero,List.set_cons_succ])
         go_cut [115] (fun v115 wc=>∃ (kq:Nat) (x115_21:Bool),v115 = .bool x115_21∧ba_ (laws_FnCorrected.j1 kq l1 t523 t526 x115_21=some r)∧ba_ (kq≤kj6)∧ba_ (Kd.R (Kd.int .u8) 5 wc w.heap.size (fun _=>True) (.slice Ao23 t526.length co23) t526)∧ba_ (Below w.heap.size w wc))
         case first =>
          as_aux_lemma =>
           have H:=HC22.o;clear HC22
           by_cases c27:t536=true
           ·subst c27
            have H1:(if t535=true then (if t538=true then ((Faa.f t537 t522).bind fun t545=>(if t545=true then (if t542=true then (laws_FnCorrected.j1 kj6 l1 t523 t526 ((t541.length:Int) != (wrap64 ((wrap64 (2 * t523))+1)))) else (laws_FnCorrected.j1 kj6 l1 t523 t526 true)) else (laws_FnCorrected.j1 kj6 l1 t523 t526 true))) else (laws_FnCorrected.j1 kj6 l1 t523 t526 true)) else (laws_FnCorrected.j1 kj6 l1 t523 t526 true))=some r:=by rw [if_pos rfl] at H;exact H
            clear H;have H:=H1;clear H1
            by_cases c28:t535=true
            ·subst c28
             have H1:(if t538=true then ((Faa.f t537 t522).bind fun t545=>(if t545=true then (if t542=true then (laws_FnCorrected.j1 kj6 l1 t523 t526 ((t541.length:Int) != (wrap64 ((wrap64 (2 * t523))+1)))) else (laws_FnCorrected.j1 kj6 l1 t523 t526 true)) else (laws_FnCorrected.j1 kj6 l1 t523 t526 true))) else (laws_FnCorrected.j1 kj6 l1 t523 t526 true))=some r:=by rw [if_pos rfl] at H;exact H
             clear H;have H:=H1;clear H1
             by_cases c29:t538=true
             ·subst c29
              have H1:((Faa.f t537 t522).bind fun t545=>(if t545=true then (if t542=true then (laws_FnCorrected.j1 kj6 l1 t523 t526 ((t541.length:Int) != (wrap64 ((wrap64 (2 * t523))+1)))) else (laws_FnCorrected.j1 kj6 l1 t523 t526 true)) else (laws_FnCorrected.j1 kj6 l1 t523 t526 true)))=some r:=by rw [if_pos rfl] at H;exact H
              clear H;have H:=H1;clear H1;obtain ⟨t545,A30,H⟩:=bi_ H
              by_cases c31:t545=true
              ·subst c31
               have H1:(if t542=true then (laws_FnCorrected.j1 kj6 l1 t523 t526 ((t541.length:Int) != (wrap64 ((wrap64 (2 * t523))+1)))) else (laws_FnCorrected.j1 kj6 l1 t523 t526 true))=some r:=by rw [if_pos rfl] at H;exact H
               clear H;have H:=H1;clear H1
               by_cases c32:t542=true
               ·subst c32
                have H1:(laws_FnCorrected.j1 kj6 l1 t523 t526 ((t541.length:Int) != (wrap64 ((wrap64 (2 * t523))+1))))=some r:=by rw [if_pos rfl] at H;exact H
                clear H;have H:=H1;clear H1;have H':=am H;clear H;obtain ⟨Ao33,co33,eo33⟩:=Kd.bv_ HO540.o
                subst eo33
                go_wp2_with (first|(go_at_call 32;(with_reducible refine (Faa.calls _ _ t537 _ _ t522 true _ ?side1 ?side2 ?side3 ?side4 A30.o).mono ?_);(case side1=>exact zC ((Kd.bj_ HO540.o).2.2));(case side2=>exact (Kd.bj_ HO540.o).2.1);(case side3=>exact zC ((Kd.bj_ HO_5.o).2.2));(case side4=>exact (Kd.bj_ HO_5.o).2.1);rintro e w' ⟨rfl,⟨nd,rfl⟩⟩;obtain ⟨Ao34,co34,eo34⟩:=Kd.bv_ HO544.o;subst eo34))
                go_meet
                case rel=>exact ⟨_,(((t541.length:Int) != (wrap64 ((wrap64 (2 * t523))+1)))),rfl,H',⟨by have:=HJ6.o;first|omega|exact Nat.le_refl _⟩,⟨zR (Kd.bq_ HO_7.o (fun _ hk=>trivial))⟩,⟨zB HB.o⟩⟩
               ·replace c32:=Bool.eq_false_iff.mpr c32
                subst c32
                have H1:(laws_FnCorrected.j1 kj6 l1 t523 t526 true)=some r:=by rw [if_neg (show ¬ (false=true) by decide)] at H;exact H
                clear H;have H:=H1;clear H1;have H':=am H;clear H;obtain ⟨Ao35,co35,eo35⟩:=Kd.bv_ HO540.o
                subst eo35
                go_wp2_with (first|(go_at_call 32;(with_reducible refine (Faa.calls _ _ t537 _ _ t522 true _ ?side1 ?side2 ?side3 ?side4 A30.o).mono ?_);(case side1=>exact zC ((Kd.bj_ HO540.o).2.2));(case side2=>exact (Kd.bj_ HO540.o).2.1);(case side3=>exact zC ((Kd.bj_ HO_5.o).2.2));(case side4=>exact (Kd.bj_ HO_5.o).2.1);rintro e w' ⟨rfl,⟨nd,rfl⟩⟩))
                go_meet
                case rel=>exact ⟨_,(true),rfl,H',⟨by have:=HJ6.o;first|omega|exact Nat.le_refl _⟩,⟨zR (Kd.bq_ HO_7.o (fun _ hk=>trivial))⟩,⟨zB HB.o⟩⟩
              ·replace c31:=Bool.eq_false_iff.mpr c31
               subst c31
               have H1:(laws_FnCorrected.j1 kj6 l1 t523 t526 true)=some r:=by rw [if_neg (show ¬ (false=true) by decide)] at H;exact H
               clear H;have H:=H1;clear H1;have H':=am H;clear H;obtain ⟨Ao36,co36,eo36⟩:=Kd.bv_ HO540.o
               subst eo36
               go_wp2_with (first|(go_at_call 32;(with_reducible refine (Faa.calls _ _ t537 _ _ t522 false _ ?side1 ?side2 ?side3 ?side4 A30.o).mono ?_);(case side1=>exact zC ((Kd.bj_ HO540.o).2.2));(case side2=>exact (Kd.bj_ HO540.o).2.1);(case side3=>exact zC ((Kd.bj_ HO_5.o).2.2));(case side4=>exact (Kd.bj_ HO_5.o).2.1);rintro e w' ⟨rfl,⟨nd,rfl⟩⟩))
               go_meet
               case rel=>exact ⟨_,(true),rfl,H',⟨by have:=HJ6.o;first|omega|exact Nat.le_refl _⟩,⟨zR (Kd.bq_ HO_7.o (fun _ hk=>trivial))⟩,⟨zB HB.o⟩⟩
             ·replace c29:=Bool.eq_false_iff.mpr c29
              subst c29
              have H1:(laws_FnCorrected.j1 kj6 l1 t523 t526 true)=some r:=by rw [if_neg (show ¬ (false=true) by decide)] at H;exact H
              clear H;have H:=H1;clear H1;have H':=am H;clear H
              go_wp2
              go_meet
              case rel=>exact ⟨_,(true),rfl,H',⟨by have:=HJ6.o;first|omega|exact Nat.le_refl _⟩,⟨zR (Kd.bq_ HO_7.o (fun _ hk=>trivial))⟩,⟨zB HB.o⟩⟩
            ·replace c28:=Bool.eq_false_iff.mpr c28
             subst c28
             have H1:(laws_FnCorrected.j1 kj6 l1 t523 t526 true)=some r:=by rw [if_neg (show ¬ (false=true) by decide)] at H;exact H
             clear H;have H:=H1;clear H1;have H':=am H;clear H
             go_wp2
             go_meet
             case rel=>exact ⟨_,(true),rfl,H',⟨by have:=HJ6.o;first|omega|exact Nat.le_refl _⟩,⟨zR (Kd.bq_ HO_7.o (fun _ hk=>trivial))⟩,⟨zB HB.o⟩⟩
           ·replace c27:=Bool.eq_false_iff.mpr c27
            subst c27
            have H1:(laws_FnCorrected.j1 kj6 l1 t523 t526 true)=some r:=by rw [if_neg (show ¬ (false=true) by decide)] at H;exact H
            clear H;have H:=H1;clear H1;have H':=am H;clear H
            go_wp2
            go_meet
            case rel=>exact ⟨_,(true),rfl,H',⟨by have:=HJ6.o;first|omega|exact Nat.le_refl _⟩,⟨zR (Kd.bq_ HO_7.o (fun _ hk=>trivial))⟩,⟨zB HB.o⟩⟩
         case rest =>
          as_aux_lemma =>
           clear HC22;obtain ⟨kq,x115_21,rfl,HA,HJ21,HO_7,HB⟩:=hcut
           cases kq with
           | zero=>exact absurd HA.o (by simp [laws_FnCorrected.j1])
           | succ kj21 =>
            have H:=HA.o;clear HA
            simp only [laws_FnCorrected.j1] at H
            by_cases c37:x115_21=true
            ·subst c37
             have H1:(some false)=some r:=by rw [if_pos rfl] at H;exact H
             clear H;have H:=H1;clear H1;obtain rfl:=Option.some.inj H
             go_wp2
             go_ret
             exact ⟨rfl,zB HB.o⟩
            ·replace c37:=Bool.eq_false_iff.mpr c37
             subst c37
             have H1:((some (([]:List Int):List Int)).bind fun y546=>(if y546.length+t526.length<140737488355328 then (laws_FnCorrected.l0 kj21 l1 t523 t526 (y546++t526) 0 0) else (none)))=some r:=by rw [if_neg (show ¬ (false=true) by decide)] at H;exact H
             clear H;have H:=H1;clear H1;obtain ⟨y546,hy546⟩:∃ y_:List Int,y_=(([]:List Int)):=⟨_,rfl⟩
             replace H:(if y546.length+t526.length<140737488355328 then (laws_FnCorrected.l0 kj21 l1 t523 t526 (y546++t526) 0 0) else (none))=some r:=by first|(rw [hy546];exact H)|(have H2_:=(Option.bind_some _ _).symm.trans H;first|exact H2_|(rw [hy546];exact H2_))|exact H
             have Ny546:=am hy546;clear hy546
             obtain ⟨c38,H⟩:=it_ H;have LMc38:=am c38;clear c38;obtain ⟨y549,hy549⟩:∃ y_:List Int,y_=(y546++t526):=⟨_,rfl⟩
             replace H:(laws_FnCorrected.l0 kj21 l1 t523 t526 y549 0 0)=some r:=by first|(rw [hy549];exact H)|(have H2_:=(Option.bind_some _ _).symm.trans H;first|exact H2_|(rw [hy549];exact H2_))|exact H
             have Ny549:=am hy549;clear hy549;have H':=am H;clear H
             go_wp2_with (first|((with_reducible refine bB_ (N:=116) rfl ?_);(try (refine bM_ (by rfl) ?_;dsimp only));refine Kd.R_lit (Kd.int .u8) _ 5 ?hg (N:=116) ?hd (xs:=([]:List Int)) (inner:=[]) (ok:=fun _=>True) (okp:=fun _=>True) ?hr ?hp (fun _ hk=>hk) trivial (Below.refl _ _) (Nat.le_refl _) (by simp) ?_;(case hd=>rfl);(case hg=>rfl);(case hr=>first|(go_simp;done)|(go_simp;rfl));(case hp=>exact (Reps.none _ _));intro v547 w39 ho40 hb hg_ hnew_;clear hg_ hnew_;(first|rw [← Ny546.o] at ho40|(simp only [Int.reduceToNat] at ho40;rw [← Ny546.o] at ho40));have HO548:=am (Kd.bx_ (Kd.bX_ ho40 (Kd.R_lt (zR HO_7.o))) (zs_ HB.o));replace HO_7:=am (Kd.bC_ (zR HO_7.o) (Kd.bt_ ho40) hb);replace HB:=am (bh_ (zB HB.o) hb);clear hb ho40)|((with_reducible refine bE_ (b:=.append) (xs:=#[.tmp 116,.tmp 117]) rfl ?_);(try (refine bM_ (by rfl) ?_;dsimp only));at_builtin;refine Kd.cm_ (Kd.int .u8) (w0:=w) w.heap.size rfl (.tmp 116) (.tmp 117) 22 5 (.int .u8 0) 1 rfl Try.underlying22 info5 rfl (by decide) (by omega) v547 y546 t526 _ _ _ (fun k_=>some k_≠(.slice Ao23 t526.length co23:Value).ownBlock) (fun _=>False) rfl rfl ?aO ?aR (fun _ _ h=>h) (fun _ h=>h.elim) ?aF ?aB ?aS ?aL ?_;(case aR=>exact zC ((Kd.bj_ HO_7.o).2.2));(case aB=>exact (zB HB.o));(case aF=>exact (fun k_ hk=>Kd.fresh' (Kd.R_lt (zR HO_7.o)) k_ hk));(case aO=>exact (zR (Kd.bq_ HO548.o (fun _ hk=>hk.2))));(case aS=>exact (zs_ HB.o));(case aL=>have:=LMc38.o;omega);intro v550 w41 ho hb hg hat;rw [← Ny549.o] at ho;replace HO_7:=am (Kd.dy_ (ok:=(fun _=>True)) (zR HO_7.o) hg hat);replace HB:=am (hb);have HO551:=am (ho);(try clear HO548);clear ho hb hg hat))
             go_loopg [18,19] kj21 (fun kq v18 v19 w'=>∃ (x17_3:List Int) (x18_3:Int) (x19_3:Int),v18 = .int .i64 x18_3∧v19 = .int .i64 x19_3∧ba_ (laws_FnCorrected.l0 kq l1 t523 t526 x17_3 x18_3 x19_3=some r)∧ba_ (kq≤kj21)∧ba_ (Kd.R (Kd.int .u8) 5 w' w.heap.size (fun k_=>some k_≠(v550:Value).ownBlock) (.slice Ao23 t526.length co23) t526)∧ba_ (Kd.R (Kd.int .u8) 5 w' w.heap.size (fun k_=>some k_≠((.slice Ao23 t526.length co23):Value).ownBlock) v550 x17_3)∧ba_ (Below w.heap.size w w'))
             case atStart=>exact ⟨(y549),(0),(0),rfl,rfl,H',⟨Nat.le_refl _⟩,⟨zR (Kd.bq_ HO_7.o (fun _ hk=>hk.2))⟩,⟨zR HO551.o⟩,⟨zB HB.o⟩⟩
             case round =>
              clear H';obtain ⟨x17_3,x18_3,x19_3,rfl,rfl,HA,HK3,HO_7,HO_17,HB⟩:=hrel
              cases gk with
              | zero=>exact absurd HA.o (by simp [laws_FnCorrected.l0])
              | succ k3 =>
               have H:=HA.o;clear HA
               simp only [laws_FnCorrected.l0] at H
               have HC42:=am H;clear H
               go_upto_region 17 with (fail)
               go_cut [128] (fun v128 wc=>∃ (kq:Nat) (x128_41:Bool),v128 = .bool x128_41∧ba_ (laws_FnCorrected.j3 kq l1 t523 t526 x17_3 x18_3 x19_3 x128_41=some r)∧ba_ (kq≤k3)∧ba_ (Kd.R (Kd.int .u8) 5 wc w.heap.size (fun k_=>some k_≠(v550:Value).ownBlock) (.slice Ao23 t526.length co23) t526)∧ba_ (Kd.R (Kd.int .u8) 5 wc w.heap.size (fun k_=>some k_≠((.slice Ao23 t526.length co23):Value).ownBlock) v550 x17_3)∧ba_ (Below w.heap.size w wc))
               case first =>
                as_aux_lemma =>
                 have H:=HC42.o;clear HC42
                 by_cases c43:(wrap64 (x19_3+1))<(l1.length:Int)
                 ·rw [if_pos c43] at H;have c43b0:=decide_eq_true c43;clear c43
                  (first|rw [c43b0]|(simp only [bI_,bL_];rw [c43b0])|skip)
                  have H':=am H;clear H
                  go_wp2
                  go_meet
                  case rel=>exact ⟨_,(decide (x18_3<t523)),rfl,H',⟨by have:=HJ6.o;have:=HJ21.o;have:=HK3.o;first|omega|exact Nat.le_refl _⟩,⟨zR HO_7.o⟩,⟨zR HO_17.o⟩,⟨zB HB.o⟩⟩
                 ·rw [if_neg c43] at H;have c43b0:=decide_eq_false c43;clear c43
                  (first|rw [c43b0]|(simp only [bI_,bL_];rw [c43b0])|skip)
                  have H':=am H;clear H
                  go_wp2
                  go_meet
                  case rel=>exact ⟨_,(false),rfl,H',⟨by have:=HJ6.o;have:=HJ21.o;have:=HK3.o;first|omega|exact Nat.le_refl _⟩,⟨zR HO_7.o⟩,⟨zR HO_17.o⟩,⟨zB HB.o⟩⟩
               case rest =>
                as_aux_lemma =>
                 clear HC42;obtain ⟨kq,x128_41,rfl,HA,HJ41,HO_7,HO_17,HB⟩:=hcut
                 cases kq with
                 | zero=>exact absurd HA.o (by simp [laws_FnCorrected.j3])
                 | succ kj41 =>
                  have H:=HA.o;clear HA
                  simp only [laws_FnCorrected.j3] at H
                  by_cases c44:x128_41=true
                  ·subst c44
                   have H1:(if 0≤x19_3 then (if x19_3<(l1.length:Int) then (if (x17_3.length:Int)=0 then (none) else (if 0≤(Int.tmod (wrap64 (rd l1 x19_3)) (x17_3.length:Int)) then (if (Int.tmod (wrap64 (rd l1 x19_3)) (x17_3.length:Int))<(x17_3.length:Int) then (if (Int.tmod (wrap64 (rd l1 x19_3)) (x17_3.length:Int))<(t526.length:Int) then (if (rd x17_3 (Int.tmod (wrap64 (rd l1 x19_3)) (x17_3.length:Int)))=(rd t526 (Int.tmod (wrap64 (rd l1 x19_3)) (x17_3.length:Int))) then (if 0≤(wrap64 (x19_3+1)) then (if (wrap64 (x19_3+1))<(l1.length:Int) then (if (rd l1 (wrap64 (x19_3+1)))=0 then (laws_FnCorrected.l0 kj41 l1 t523 t526 x17_3 x18_3 (wrap64 (x19_3+2))) else (laws_FnCorrected.l0 kj41 l1 t523 t526 (x17_3.set ((Int.tmod (wrap64 (rd l1 x19_3)) (x17_3.length:Int)):Int).toNat (Go.bits .xor .u8 (rd x17_3 (Int.tmod (wrap64 (rd l1 x19_3)) (x17_3.length:Int))) (rd l1 (wrap64 (x19_3+1))))) (wrap64 (x18_3+1)) (wrap64 (x19_3+2)))) else (none)) else (none)) else (laws_FnCorrected.l0 kj41 l1 t523 t526 x17_3 x18_3 (wrap64 (x19_3+2)))) else (none)) else (none)) else (none))) else (none)) else (none))=some r:=by rw [if_pos rfl] at H;exact H
                   clear H;have H:=H1;clear H1
                   obtain ⟨c45,H⟩:=it_ H;have c45b0:=decide_eq_true c45;clear c45
                   obtain ⟨c46,H⟩:=it_ H;have c46b0:=decide_eq_true c46;clear c46
                   by_cases c47:(x17_3.length:Int)=0
                   ·rw [if_pos c47] at H
                    exact absurd H (by simp)
                   ·rw [if_neg c47] at H;have c47b0:((x17_3.length:Int) == 0)=false:=beq_eq_false_iff_ne.mpr c47;have c47b1:((x17_3.length:Int) != 0)=true:=bne_iff_ne.mpr c47
                    have c47b2:¬ (x17_3=[]):=fun h_=>c47 (by rw [h_];rfl)
                    obtain ⟨ji48,hji48⟩:∃ j_:Int,(Int.tmod (wrap64 (rd l1 x19_3)) (x17_3.length:Int))=j_:=⟨_,rfl⟩
                    replace H:(if 0≤(ji48) then (if (ji48)<(x17_3.length:Int) then (if (ji48)<(t526.length:Int) then (if (rd x17_3 (ji48))=(rd t526 (ji48)) then (if 0≤(wrap64 (x19_3+1)) then (if (wrap64 (x19_3+1))<(l1.length:Int) then (if (rd l1 (wrap64 (x19_3+1)))=0 then (laws_FnCorrected.l0 kj41 l1 t523 t526 x17_3 x18_3 (wrap64 (x19_3+2))) else (laws_FnCorrected.l0 kj41 l1 t523 t526 (x17_3.set ((ji48):Int).toNat (Go.bits .xor .u8 (rd x17_3 (ji48)) (rd l1 (wrap64 (x19_3+1))))) (wrap64 (x18_3+1)) (wrap64 (x19_3+2)))) else (none)) else (none)) else (laws_FnCorrected.l0 kj41 l1 t523 t526 x17_3 x18_3 (wrap64 (x19_3+2)))) else (none)) else (none)) else (none))=some r:=by first|(rw [hji48] at H;exact H)|(simp only [hji48] at H ⊢;exact H)
                    obtain ⟨c49,H⟩:=it_ H;have c49b0:=decide_eq_true c49;clear c49
                    obtain ⟨c50,H⟩:=it_ H;have c50b0:=decide_eq_true c50;clear c50
                    obtain ⟨c51,H⟩:=it_ H;have c51b0:=decide_eq_true c51;clear c51
                    by_cases c52:(rd x17_3 (ji48))=(rd t526 (ji48))
                    ·rw [if_pos c52] at H;have c52b0:((rd x17_3 (ji48)) == (rd t526 (ji48)))=true:=beq_iff_eq.mpr c52;have c52b1:((rd x17_3 (ji48)) != (rd t526 (ji48)))=false:=bne_eq_false_iff_eq.mpr c52;clear c52;obtain ⟨ji53,hji53⟩:∃ j_:Int,(wrap64 (x19_3+1))=j_:=⟨_,rfl⟩
                     replace H:(if 0≤(ji53) then (if (ji53)<(l1.length:Int) then (if (rd l1 (ji53))=0 then (laws_FnCorrected.l0 kj41 l1 t523 t526 x17_3 x18_3 (wrap64 (x19_3+2))) else (laws_FnCorrected.l0 kj41 l1 t523 t526 (x17_3.set ((ji48):Int).toNat (Go.bits .xor .u8 (rd x17_3 (ji48)) (rd l1 (ji53)))) (wrap64 (x18_3+1)) (wrap64 (x19_3+2)))) else (none)) else (none))=some r:=by first|(rw [hji53] at H;exact H)|(simp only [hji53] at H ⊢;exact H)
                     have hji53w:(IntKind.i64.wrap (x19_3+1))=ji53:=(bI_ _).trans hji53
                     try simp only [hji48] at hji53
                     try simp only [hji48] at hji53w
                     obtain ⟨c54,H⟩:=it_ H;have c54b0:=decide_eq_true c54;clear c54
                     obtain ⟨c55,H⟩:=it_ H;have c55b0:=decide_eq_true c55;clear c55
                     by_cases c56:(rd l1 (ji53))=0
                     ·rw [if_pos c56] at H;have c56b0:((rd l1 (ji53)) == 0)=true:=beq_iff_eq.mpr c56;have c56b1:((rd l1 (ji53)) != 0)=false:=bne_eq_false_iff_eq.mpr c56;clear c56;have H':=am H;clear H;have p552:0≤(x19_3:Int):=od_;have q552:x19_3<(l1.length:Int):=od_;obtain ⟨ad552,e552,hx552_0⟩:=Kd.bK_ HR1.o x19_3 p552 q552;cases e552;replace hx552_0:=(HB.o.cell (World.block_lt_of_cell? w _ hx552_0)).trans hx552_0;replace p552:=eq_true p552;replace q552:=eq_true q552;obtain ⟨Ao57,co57,eo57⟩:=Kd.bv_ HO_17.o
                      subst eo57
                      try go_wp2
                      replace HO_7:=am (Kd.bP_ HO_7.o);replace HO_17:=am (Kd.bP_ HO_17.o);replace HB:=am (bg_ HB.o);have p553:0≤((ji48):Int):=od_;have q553:(ji48)<(x17_3.length:Int):=od_;obtain ⟨ad553,e553,hx553_0⟩:=Kd.bK_ (Kd.bj_ HO_17.o).2.2 (ji48) p553 q553;cases e553;replace p553:=eq_true p553;replace q553:=eq_true q553;have p554:0≤((ji48):Int):=od_;have q554:(ji48)<(t526.length:Int):=od_;obtain ⟨ad554,e554,hx554_0⟩:=Kd.bK_ (Kd.bj_ HO_7.o).2.2 (ji48) p554 q554;cases e554;replace p554:=eq_true p554;replace q554:=eq_true q554;have p555:0≤((ji53):Int):=od_;have q555:(ji53)<(l1.length:Int):=od_;obtain ⟨ad555,e555,hx555_0⟩:=Kd.bK_ HR1.o (ji53) p555 q555;have hw555_0:=hx555_0;obtain rfl:ad552=ad555:=(by injection e555);replace hx555_0:=(HB.o.cell (World.block_lt_of_cell? w _ hx555_0)).trans hx555_0;replace p555:=eq_true p555;replace q555:=eq_true q555
                      refine cS_ (n:=17) (S:=fun w'=>w'.cell? (ad553.add ((ji48)).toNat)=some (.int .u8 (rd x17_3 (ji48)))∧w'.cell? (ad554.add ((ji48)).toNat)=some (.int .u8 (rd t526 (ji48)))∧w'.cell? (ad552.add ((ji53)).toNat)=some (.int .u8 (rd l1 (ji53)))) (ds:=[]) #[false,false,false,false,false,false,false,false,false,false,false,false,false,false,false,false,false] (by kernel_rfl) rfl rfl ⟨hx553_0,hx554_0,((HB.o.cell (World.block_lt_of_cell? w _ hw555_0)).trans hw555_0)⟩ (fun hHeld=>?_);refine cc_ laws_FnCorrected.tab20 laws_FnCorrected.bits20 (fun HT_ HW_=>?_)
                      generalize wc.drew=w58 at HO_7 HO_17 HB hx553_0 hx554_0 hx555_0 hHeld ⊢
                      refine pu_ (i:=0) (some 139) #[true,false,false,false,false,false,false,false,false,false,false,false,false,false,false,false,false] HT_ ?_
                      refine pu_ (i:=1) (some 140) #[true,true,false,false,false,false,false,false,false,false,false,false,false,false,false,false,false] HT_ ?_
                      refine pu_ (i:=2) (some 141) #[true,true,true,false,false,false,false,false,false,false,false,false,false,false,false,false,false] HT_ ?_
                      refine pu_ (i:=4) (some 143) #[true,true,true,false,true,false,false,false,false,false,false,false,false,false,false,false,false] HT_ ?_
                      refine pu_ (i:=5) (some 144) #[true,true,true,false,true,true,false,false,false,false,false,false,false,false,false,false,false] HT_ ?_
                      refine pu_ (i:=6) (some 145) #[true,true,true,false,true,true,true,false,false,false,false,false,false,false,false,false,false] HT_ ?_
                      refine ta_ (i:=3) (some 142) #[true,true,true,true,true,true,true,false,false,false,false,false,false,false,false,false,false] HT_ HW_ hHeld ?_
                      refine ta_ (i:=7) (some 146) #[true,true,true,true,true,true,true,true,false,false,false,false,false,false,false,false,false] HT_ HW_ hHeld ?_
                      refine pu_ (i:=8) (some 147) #[true,true,true,true,true,true,true,true,true,false,false,false,false,false,false,false,false] HT_ ?_
                      refine pu_ (i:=9) (some 148) #[true,true,true,true,true,true,true,true,true,true,false,false,false,false,false,false,false] HT_ ?_
                      refine pu_ (i:=10) (some 149) #[true,true,true,true,true,true,true,true,true,true,true,false,false,false,false,false,false] HT_ ?_
                      refine pu_ (i:=11) (some 150) #[true,true,true,true,true,true,true,true,true,true,true,true,false,false,false,false,false] HT_ ?_
                      refine pu_ (i:=12) (some 151) #[true,true,true,true,true,true,true,true,true,true,true,true,true,false,false,false,false] HT_ ?_
                      refine pu_ (i:=13) (some 152) #[true,true,true,true,true,true,true,true,true,true,true,true,true,true,false,false,false] HT_ ?_
                      refine ta_ (i:=14) (some 153) #[true,true,true,true,true,true,true,true,true,true,true,true,true,true,true,false,false] HT_ HW_ hHeld ?_
                      refine pu_ (i:=15) (some 154) #[true,true,true,true,true,true,true,true,true,true,true,true,true,true,true,true,false] HT_ ?_
                      refine pu_ (i:=16) (some 155) #[true,true,true,true,true,true,true,true,true,true,true,true,true,true,true,true,true] HT_ ?_
                      refine done_ (cD_ HT_.o (by kernel_rfl)) ?_
                      try go_wp2
                      go_roundg kj41
                      case measure=>have:=HJ6.o;have:=HJ21.o;have:=HK3.o;have:=HJ41.o;omega
                      case rel=>exact ⟨(x17_3),(x18_3),(wrap64 (x19_3+2)),rfl,rfl,(by first|exact H'|(have H2_:=H';simp only [hji48,hji53] at H2_ ⊢;exact H2_)),⟨by have:=HJ6.o;have:=HJ21.o;have:=HK3.o;have:=HJ41.o;omega⟩,⟨zR HO_7.o⟩,⟨zR HO_17.o⟩,⟨zB HB.o⟩⟩
                     ·rw [if_neg c56] at H;have c56b0:((rd l1 (ji53)) == 0)=false:=beq_eq_false_iff_ne.mpr c56;have c56b1:((rd l1 (ji53)) != 0)=true:=bne_iff_ne.mpr c56;(try rw [Option.bind_some] at H);generalize hy558:(x17_3.set ((ji48):Int).toNat (Go.bits .xor .u8 (rd x17_3 (ji48)) (rd l1 (ji53))))=y558 at H;have Ny558:=am hy558.symm;clear hy558;have H':=am H;clear H;have p552:0≤(x19_3:Int):=od_;have q552:x19_3<(l1.length:Int):=od_;obtain ⟨ad552,e552,hx552_0⟩:=Kd.bK_ HR1.o x19_3 p552 q552;cases e552;replace hx552_0:=(HB.o.cell (World.block_lt_of_cell? w _ hx552_0)).trans hx552_0;replace p552:=eq_true p552;replace q552:=eq_true q552;obtain ⟨Ao60,co60,eo60⟩:=Kd.bv_ HO_17.o
                      subst eo60
                      try go_wp2
                      replace HO_7:=am (Kd.bP_ HO_7.o);replace HO_17:=am (Kd.bP_ HO_17.o);replace HB:=am (bg_ HB.o);have p553:0≤((ji48):Int):=od_;have q553:(ji48)<(x17_3.length:Int):=od_;obtain ⟨ad553,e553,hx553_0⟩:=Kd.bK_ (Kd.bj_ HO_17.o).2.2 (ji48) p553 q553;cases e553;replace p553:=eq_true p553;replace q553:=eq_true q553;have p554:0≤((ji48):Int):=od_;have q554:(ji48)<(t526.length:Int):=od_;obtain ⟨ad554,e554,hx554_0⟩:=Kd.bK_ (Kd.bj_ HO_7.o).2.2 (ji48) p554 q554;cases e554;replace p554:=eq_true p554;replace q554:=eq_true q554;have p555:0≤((ji53):Int):=od_;have q555:(ji53)<(l1.length:Int):=od_;obtain ⟨ad555,e555,hx555_0⟩:=Kd.bK_ HR1.o (ji53) p555 q555;have hw555_0:=hx555_0;obtain rfl:ad552=ad555:=(by injection e555);replace hx555_0:=(HB.o.cell (World.block_lt_of_cell? w _ hx555_0)).trans hx555_0;replace p555:=eq_true p555;replace q555:=eq_true q555
                      refine cS_ (n:=17) (S:=fun w'=>w'.cell? (ad553.add ((ji48)).toNat)=some (.int .u8 (rd x17_3 (ji48)))∧w'.cell? (ad554.add ((ji48)).toNat)=some (.int .u8 (rd t526 (ji48)))∧w'.cell? (ad552.add ((ji53)).toNat)=some (.int .u8 (rd l1 (ji53)))) (ds:=[]) #[false,false,false,false,false,false,false,false,false,false,false,false,false,false,false,false,false] (by kernel_rfl) rfl rfl ⟨hx553_0,hx554_0,((HB.o.cell (World.block_lt_of_cell? w _ hw555_0)).trans hw555_0)⟩ (fun hHeld=>?_);refine cc_ laws_FnCorrected.tab20 laws_FnCorrected.bits20 (fun HT_ HW_=>?_)
                      generalize wc.drew=w61 at HO_7 HO_17 HB hx553_0 hx554_0 hx555_0 hHeld ⊢
                      refine pu_ (i:=0) (some 139) #[true,false,false,false,false,false,false,false,false,false,false,false,false,false,false,false,false] HT_ ?_
                      refine pu_ (i:=1) (some 140) #[true,true,false,false,false,false,false,false,false,false,false,false,false,false,false,false,false] HT_ ?_
                      refine pu_ (i:=2) (some 141) #[true,true,true,false,false,false,false,false,false,false,false,false,false,false,false,false,false] HT_ ?_
                      refine pu_ (i:=4) (some 143) #[true,true,true,false,true,false,false,false,false,false,false,false,false,false,false,false,false] HT_ ?_
                      refine pu_ (i:=5) (some 144) #[true,true,true,false,true,true,false,false,false,false,false,false,false,false,false,false,false] HT_ ?_
                      refine pu_ (i:=6) (some 145) #[true,true,true,false,true,true,true,false,false,false,false,false,false,false,false,false,false] HT_ ?_
                      refine ta_ (i:=3) (some 142) #[true,true,true,true,true,true,true,false,false,false,false,false,false,false,false,false,false] HT_ HW_ hHeld ?_
                      refine ta_ (i:=7) (some 146) #[true,true,true,true,true,true,true,true,false,false,false,false,false,false,false,false,false] HT_ HW_ hHeld ?_
                      refine pu_ (i:=8) (some 147) #[true,true,true,true,true,true,true,true,true,false,false,false,false,false,false,false,false] HT_ ?_
                      refine pu_ (i:=9) (some 148) #[true,true,true,true,true,true,true,true,true,true,false,false,false,false,false,false,false] HT_ ?_
                      refine pu_ (i:=10) (some 149) #[true,true,true,true,true,true,true,true,true,true,true,false,false,false,false,false,false] HT_ ?_
                      refine pu_ (i:=11) (some 150) #[true,true,true,true,true,true,true,true,true,true,true,true,false,false,false,false,false] HT_ ?_
                      refine pu_ (i:=12) (some 151) #[true,true,true,true,true,true,true,true,true,true,true,true,true,false,false,false,false] HT_ ?_
                      refine pu_ (i:=13) (some 152) #[true,true,true,true,true,true,true,true,true,true,true,true,true,true,false,false,false] HT_ ?_
                      refine ta_ (i:=14) (some 153) #[true,true,true,true,true,true,true,true,true,true,true,true,true,true,true,false,false] HT_ HW_ hHeld ?_
                      refine pu_ (i:=15) (some 154) #[true,true,true,true,true,true,true,true,true,true,true,true,true,true,true,true,false] HT_ ?_
                      refine pu_ (i:=16) (some 155) #[true,true,true,true,true,true,true,true,true,true,true,true,true,true,true,true,true] HT_ ?_
                      refine done_ (cD_ HT_.o (by kernel_rfl)) ?_
                      try go_wp2
                      replace HO_7:=am (Kd.bP_ HO_7.o);replace HO_17:=am (Kd.bP_ HO_17.o);replace HB:=am (bg_ HB.o);have p556:0≤((ji48):Int):=od_;have q556:(ji48)<(x17_3.length:Int):=od_;obtain ⟨ad556,e556,hx556_0⟩:=Kd.bK_ (Kd.bj_ HO_17.o).2.2 (ji48) p556 q556;obtain rfl:ad553=ad556:=(by injection e556);replace p556:=eq_true p556;replace q556:=eq_true q556;have p557:0≤((ji53):Int):=od_;have q557:(ji53)<(l1.length:Int):=od_;obtain ⟨ad557,e557,hx557_0⟩:=Kd.bK_ HR1.o (ji53) p557 q557;have hw557_0:=hx557_0;obtain rfl:ad552=ad557:=(by injection e557);replace hx557_0:=(HB.o.cell (World.block_lt_of_cell? w _ hx557_0)).trans hx557_0;replace p557:=eq_true p557;replace q557:=eq_true q557;have p59:0≤((ji48):Int):=od_;have q59:((ji48):Int)<((x17_3.length:Int):Int):=od_;obtain ⟨go59,co59,eo59,gb59,gl59,cl59,HG59⟩:=Kd.R_form HO_17.o (by omega)
                      (first|cases eo59|(injection eo59 with ea_ en_ ec_;(first|subst ea_|(injection ea_ with ea_;subst ea_));subst ec_;clear en_))
                      have GB59:=am gb59;have GG59:=am HG59;clear gb59 gl59 HG59
                      (first|simp only [add_plain] at hx553_0|skip)
                      (first|simp only [add_plain] at hx556_0|skip)
                      obtain ⟨hx59_0,hf59_0⟩:=Kd.R_celln 0 HO_17.o ((ji48):Int) p59 q59;replace p59:=eq_true p59;replace q59:=eq_true q59;have HP63:=Kd.R_putn HO_17.o ((ji48):Int) (Go.bits .xor .u8 (rd x17_3 (ji48)) (rd l1 (ji53)));rw [← Ny558.o] at HP63;have HQ63:=am HP63;clear HP63
                      refine cS_ (n:=12) (S:=fun w'=>w'.cell? ⟨go59,((ji48)).toNat,none⟩=some (.int .u8 (rd x17_3 (ji48)))∧w'.cell? (ad552.add ((ji53)).toNat)=some (.int .u8 (rd l1 (ji53)))) (ds:=[11]) #[false,false,false,false,false,false,false,false,false,false,false,false] (by kernel_rfl) rfl rfl ⟨hx556_0,((HB.o.cell (World.block_lt_of_cell? w _ hw557_0)).trans hw557_0)⟩ (fun hHeld=>?_);refine cc_ laws_FnCorrected.tab21 laws_FnCorrected.bits21 (fun HT_ HW_=>?_)
                      generalize w61.drew=w62 at HO_7 HO_17 HB GG59 HQ63 hf59_0 hx553_0 hx556_0 hx557_0 hx59_0 hHeld ⊢
                      refine pu_ (i:=0) (some 156) #[true,false,false,false,false,false,false,false,false,false,false,false] HT_ ?_
                      refine pu_ (i:=1) (some 157) #[true,true,false,false,false,false,false,false,false,false,false,false] HT_ ?_
                      refine pu_ (i:=2) (some 158) #[true,true,true,false,false,false,false,false,false,false,false,false] HT_ ?_
                      refine pu_ (i:=4) (some 160) #[true,true,true,false,true,false,false,false,false,false,false,false] HT_ ?_
                      refine pu_ (i:=5) (some 161) #[true,true,true,false,true,true,false,false,false,false,false,false] HT_ ?_
                      refine pu_ (i:=6) (some 162) #[true,true,true,false,true,true,true,false,false,false,false,false] HT_ ?_
                      refine pu_ (i:=7) (some 163) #[true,true,true,false,true,true,true,true,false,false,false,false] HT_ ?_
                      refine ta_ (i:=3) (some 159) #[true,true,true,true,true,true,true,true,false,false,false,false] HT_ HW_ hHeld ?_
                      refine ta_ (i:=8) (some 164) #[true,true,true,true,true,true,true,true,true,false,false,false] HT_ HW_ hHeld ?_
                      refine pu_ (i:=9) (some 165) #[true,true,true,true,true,true,true,true,true,true,false,false] HT_ ?_
                      refine pu_ (i:=10) (some 166) #[true,true,true,true,true,true,true,true,true,true,true,false] HT_ ?_
                      refine last_ (i:=11) (N:=none) #[true,true,true,true,true,true,true,true,true,true,true,true] rfl rfl (bZ_ HT_.o (by kernel_rfl)) (by decide) (fun K hK=>?_)
                      refine skip_ (w1:=?_) (by rfl) rfl ?_ ?_
                      rotate_left
                      ·go_simp;rfl
                      refine hK.out _ _ ?_
                      clear hK K
                      refine done_ (cD_ HT_.o (by kernel_rfl)) ?_
                      try go_wp2
                      go_roundg kj41
                      case measure=>have:=HJ6.o;have:=HJ21.o;have:=HK3.o;have:=HJ41.o;omega
                      case rel=>exact ⟨(y558),(wrap64 (x18_3+1)),(wrap64 (x19_3+2)),rfl,rfl,(by first|exact H'|(have H2_:=H';simp only [hji48,hji53] at H2_ ⊢;exact H2_)),⟨by have:=HJ6.o;have:=HJ21.o;have:=HK3.o;have:=HJ41.o;omega⟩,⟨zR (Kd.bq_ (Kd.R_far (p:=⟨go59,((ji48):Int).toNat,none⟩) (Kd.bq_ HO_7.o (fun k_ hk=>(⟨hk,fun e_=>hk (by rw [e_];rfl)⟩:_∧k_≠go59))) (fun _ hk=>hk.2) (.int .u8 (Go.bits .xor .u8 (rd x17_3 (ji48)) (rd l1 (ji53))))) (fun _ hk=>hk.1))⟩,⟨zR HQ63.o⟩,⟨bl_ HB.o GB59.o⟩⟩
                    ·rw [if_neg c52] at H;have c52b0:((rd x17_3 (ji48)) == (rd t526 (ji48)))=false:=beq_eq_false_iff_ne.mpr c52;have c52b1:((rd x17_3 (ji48)) != (rd t526 (ji48)))=true:=bne_iff_ne.mpr c52;have H':=am H;clear H;have p552:0≤(x19_3:Int):=od_;have q552:x19_3<(l1.length:Int):=od_;obtain ⟨ad552,e552,hx552_0⟩:=Kd.bK_ HR1.o x19_3 p552 q552;cases e552;replace hx552_0:=(HB.o.cell (World.block_lt_of_cell? w _ hx552_0)).trans hx552_0;replace p552:=eq_true p552;replace q552:=eq_true q552;obtain ⟨Ao64,co64,eo64⟩:=Kd.bv_ HO_17.o
                     subst eo64
                     try go_wp2
                     replace HO_7:=am (Kd.bP_ HO_7.o);replace HO_17:=am (Kd.bP_ HO_17.o);replace HB:=am (bg_ HB.o);have p553:0≤((ji48):Int):=od_;have q553:(ji48)<(x17_3.length:Int):=od_;obtain ⟨ad553,e553,hx553_0⟩:=Kd.bK_ (Kd.bj_ HO_17.o).2.2 (ji48) p553 q553;cases e553;replace p553:=eq_true p553;replace q553:=eq_true q553;have p554:0≤((ji48):Int):=od_;have q554:(ji48)<(t526.length:Int):=od_;obtain ⟨ad554,e554,hx554_0⟩:=Kd.bK_ (Kd.bj_ HO_7.o).2.2 (ji48) p554 q554;cases e554;replace p554:=eq_true p554;replace q554:=eq_true q554
                     refine cS_ (n:=17) (S:=fun w'=>w'.cell? (ad553.add ((ji48)).toNat)=some (.int .u8 (rd x17_3 (ji48)))∧w'.cell? (ad554.add ((ji48)).toNat)=some (.int .u8 (rd t526 (ji48)))) (ds:=[]) #[false,false,false,false,false,false,false,false,false,false,false,false,false,false,false,false,false] (by kernel_rfl) rfl rfl ⟨hx553_0,hx554_0⟩ (fun hHeld=>?_);refine cc_ laws_FnCorrected.tab20 laws_FnCorrected.bits20 (fun HT_ HW_=>?_)
                     generalize wc.drew=w65 at HO_7 HO_17 HB hx553_0 hx554_0 hHeld ⊢
                     refine pu_ (i:=0) (some 139) #[true,false,false,false,false,false,false,false,false,false,false,false,false,false,false,false,false] HT_ ?_
                     refine pu_ (i:=1) (some 140) #[true,true,false,false,false,false,false,false,false,false,false,false,false,false,false,false,false] HT_ ?_
                     refine pu_ (i:=2) (some 141) #[true,true,true,false,false,false,false,false,false,false,false,false,false,false,false,false,false] HT_ ?_
                     refine pu_ (i:=4) (some 143) #[true,true,true,false,true,false,false,false,false,false,false,false,false,false,false,false,false] HT_ ?_
                     refine pu_ (i:=5) (some 144) #[true,true,true,false,true,true,false,false,false,false,false,false,false,false,false,false,false] HT_ ?_
                     refine pu_ (i:=6) (some 145) #[true,true,true,false,true,true,true,false,false,false,false,false,false,false,false,false,false] HT_ ?_
                     refine ta_ (i:=3) (some 142) #[true,true,true,true,true,true,true,false,false,false,false,false,false,false,false,false,false] HT_ HW_ hHeld ?_
                     refine ta_ (i:=7) (some 146) #[true,true,true,true,true,true,true,true,false,false,false,false,false,false,false,false,false] HT_ HW_ hHeld ?_
                     refine pu_ (i:=8) (some 147) #[true,true,true,true,true,true,true,true,true,false,false,false,false,false,false,false,false] HT_ ?_
                     refine pu_ (i:=9) (some 148) #[true,true,true,true,true,true,true,true,true,true,false,false,false,false,false,false,false] HT_ ?_
                     refine ds_ (i:=10) (N:=some 149) (v:=undef) (a':=?_) #[true,true,true,true,true,true,true,true,true,true,true,false,false,false,false,false,false] rfl rfl (any_of HT_.o (by kernel_rfl)) (fun _ _ _ h=>h) (Or.inr ⟨by rfl,rfl⟩) ?_ ?_
                     rotate_left
                     ·simp only [Act.put,List.setIfInBounds_toArray,List.set_cons_zero,List.set_cons_succ,bI_,bL_];rfl
                     refine ds_ (i:=11) (N:=some 150) (v:=undef) (a':=?_) #[true,true,true,true,true,true,true,true,true,true,true,true,false,false,false,false,false] rfl rfl (any_of HT_.o (by kernel_rfl)) (fun _ _ _ h=>h) (Or.inr ⟨by rfl,rfl⟩) ?_ ?_
                     rotate_left
                     ·simp only [Act.put,List.setIfInBounds_toArray,List.set_cons_zero,List.set_cons_succ,bI_,bL_];rfl
                     refine ds_ (i:=12) (N:=some 151) (v:=undef) (a':=?_) #[true,true,true,true,true,true,true,true,true,true,true,true,true,false,false,false,false] rfl rfl (any_of HT_.o (by kernel_rfl)) (fun _ _ _ h=>h) (Or.inr ⟨by rfl,rfl⟩) ?_ ?_
                     rotate_left
                     ·simp only [Act.put,List.setIfInBounds_toArray,List.set_cons_zero,List.set_cons_succ,bI_,bL_];rfl
                     refine ds_ (i:=13) (N:=some 152) (v:=undef) (a':=?_) #[true,true,true,true,true,true,true,true,true,true,true,true,true,true,false,false,false] rfl rfl (any_of HT_.o (by kernel_rfl)) (fun _ _ _ h=>h) (Or.inr ⟨by rfl,rfl⟩) ?_ ?_
                     rotate_left
                     ·simp only [Act.put,List.setIfInBounds_toArray,List.set_cons_zero,List.set_cons_succ,bI_,bL_];rfl
                     refine ds_ (i:=14) (N:=some 153) (v:=undef) (a':=?_) #[true,true,true,true,true,true,true,true,true,true,true,true,true,true,true,false,false] rfl rfl (any_of HT_.o (by kernel_rfl)) (fun _ _ _ h=>h) (Or.inr ⟨by rfl,rfl⟩) ?_ ?_
                     rotate_left
                     ·simp only [Act.put,List.setIfInBounds_toArray,List.set_cons_zero,List.set_cons_succ,bI_,bL_];rfl
                     refine ds_ (i:=15) (N:=some 154) (v:=undef) (a':=?_) #[true,true,true,true,true,true,true,true,true,true,true,true,true,true,true,true,false] rfl rfl (any_of HT_.o (by kernel_rfl)) (fun _ _ _ h=>h) (Or.inr ⟨by rfl,rfl⟩) ?_ ?_
                     rotate_left
                     ·simp only [Act.put,List.setIfInBounds_toArray,List.set_cons_zero,List.set_cons_succ,bI_,bL_];rfl
                     refine pu_ (i:=16) (some 155) #[true,true,true,true,true,true,true,true,true,true,true,true,true,true,true,true,true] HT_ ?_
                     refine done_ (cD_ HT_.o (by kernel_rfl)) ?_
                     try go_wp2
                     go_roundg kj41
                     case measure=>have:=HJ6.o;have:=HJ21.o;have:=HK3.o;have:=HJ41.o;omega
                     case rel=>exact ⟨(x17_3),(x18_3),(wrap64 (x19_3+2)),rfl,rfl,(by first|exact H'|(have H2_:=H';simp only [hji48] at H2_ ⊢;exact H2_)),⟨by have:=HJ6.o;have:=HJ21.o;have:=HK3.o;have:=HJ41.o;omega⟩,⟨zR HO_7.o⟩,⟨zR HO_17.o⟩,⟨zB HB.o⟩⟩
                  ·replace c44:=Bool.eq_false_iff.mpr c44
                   subst c44
                   have H1:((Fa.f kj41 x17_3 t523).bind fun bt559=>((Fn.f kj41 x17_3 t526).bind fun bt564=>(if bt559.2.2=true then ((Faa.f bt559.1 t526).bind fun t566=>(if t566=true then (if bt559.2.1=x18_3 then (if bt564.2=true then (if bt564.1=x18_3 then (laws_FnCorrected.j4 kj41 l1) else (some false)) else (some false)) else (some false)) else (some false))) else (some false))))=some r:=by rw [if_neg (show ¬ (false=true) by decide)] at H;exact H
                   clear H;have H:=H1;clear H1;obtain ⟨⟨t559,t560,t561⟩,A66,H⟩:=bi_ H;dsimp only at H;obtain ⟨⟨t564,t565⟩,A67,H⟩:=bi_ H;dsimp only at H
                   by_cases c68:t561=true
                   ·subst c68
                    have H1:((Faa.f t559 t526).bind fun t566=>(if t566=true then (if t560=x18_3 then (if t565=true then (if t564=x18_3 then (laws_FnCorrected.j4 kj41 l1) else (some false)) else (some false)) else (some false)) else (some false)))=some r:=by rw [if_pos rfl] at H;exact H
                    clear H;have H:=H1;clear H1;obtain ⟨t566,A69,H⟩:=bi_ H
                    by_cases c70:t566=true
                    ·subst c70
                     have H1:(if t560=x18_3 then (if t565=true then (if t564=x18_3 then (laws_FnCorrected.j4 kj41 l1) else (some false)) else (some false)) else (some false))=some r:=by rw [if_pos rfl] at H;exact H
                     clear H;have H:=H1;clear H1
                     by_cases c71:t560=x18_3
                     ·rw [if_pos c71] at H;have c71b0:(t560 == x18_3)=true:=beq_iff_eq.mpr c71;have c71b1:(t560 != x18_3)=false:=bne_eq_false_iff_eq.mpr c71;clear c71
                      by_cases c72:t565=true
                      ·subst c72
                       have H1:(if t564=x18_3 then (laws_FnCorrected.j4 kj41 l1) else (some false))=some r:=by rw [if_pos rfl] at H;exact H
                       clear H;have H:=H1;clear H1
                       by_cases c73:t564=x18_3
                       ·rw [if_pos c73] at H;have c73b0:(t564 == x18_3)=true:=beq_iff_eq.mpr c73;have c73b1:(t564 != x18_3)=false:=bne_eq_false_iff_eq.mpr c73;clear c73;have H':=am H;clear H;obtain ⟨Ao74,co74,eo74⟩:=Kd.bv_ HO_17.o
                        subst eo74
                        go_wp2_with (first|((with_reducible refine bf_ (f:=29) rfl ?_);refine goL_ (some 172) Try.func29 #[.slice Ao74 x17_3.length co74,.int .i64 t523] ?_;(with_reducible refine (Fa.calls kj41 _ _ x17_3 t523 t559 t560 true _ ?side1 ?side2 A66.o).mono ?_);(case side1=>exact zC ((Kd.bj_ HO_17.o).2.2));(case side2=>exact (Kd.bj_ HO_17.o).2.1);rintro e w75 ⟨v562,rfl,ho0,hb⟩;refine ⟨_,rfl,?_⟩;have HO563:=am (Kd.bx_ (Kd.bX_ (Kd.bX_ ho0 (Kd.R_lt (zR HO_7.o))) (Kd.R_lt (zR HO_17.o))) (zs_ HB.o));replace HO_7:=am (Kd.bC_ (zR HO_7.o) (Kd.bt_ ho0) hb);replace HO_17:=am (Kd.bC_ (zR HO_17.o) (Kd.bt_ ho0) hb);replace HB:=am (bh_ (zB HB.o) hb);(try clear hb);(try clear ho0))|((with_reducible refine bf_ (f:=31) rfl ?_);refine goL_ (some 179) Try.func31 #[.slice Ao74 x17_3.length co74,.slice Ao23 t526.length co23] ?_;(with_reducible refine (Fn.calls kj41 _ _ x17_3 _ _ t526 t564 true _ ?side1 ?side2 ?side3 ?side4 A67.o).mono ?_);(case side1=>exact zC ((Kd.bj_ HO_17.o).2.2));(case side2=>exact (Kd.bj_ HO_17.o).2.1);(case side3=>exact zC ((Kd.bj_ HO_7.o).2.2));(case side4=>exact (Kd.bj_ HO_7.o).2.1);rintro e w' ⟨rfl,⟨nd,rfl⟩⟩;refine ⟨_,rfl,?_⟩;obtain ⟨Ao76,co76,eo76⟩:=Kd.bv_ HO563.o;subst eo76)|(go_at_call 32;(with_reducible refine (Faa.calls _ _ t559 _ _ t526 true _ ?side1 ?side2 ?side3 ?side4 A69.o).mono ?_);(case side1=>exact zC ((Kd.bj_ HO563.o).2.2));(case side2=>exact (Kd.bj_ HO563.o).2.1);(case side3=>exact zC ((Kd.bj_ HO_7.o).2.2));(case side4=>exact (Kd.bj_ HO_7.o).2.1);rintro e w' ⟨rfl,⟨nd,rfl⟩⟩))
                        go_meet
                        case rel=>exact ⟨_,H',⟨by have:=HJ6.o;have:=HJ21.o;have:=HK3.o;have:=HJ41.o;first|omega|exact Nat.le_refl _⟩,⟨zB HB.o⟩⟩
                       ·rw [if_neg c73] at H;have c73b0:(t564 == x18_3)=false:=beq_eq_false_iff_ne.mpr c73;have c73b1:(t564 != x18_3)=true:=bne_iff_ne.mpr c73;obtain rfl:=Option.some.inj H;obtain ⟨Ao77,co77,eo77⟩:=Kd.bv_ HO_17.o
                        subst eo77
                        go_wp2_with (first|((with_reducible refine bf_ (f:=29) rfl ?_);refine goL_ (some 172) Try.func29 #[.slice Ao77 x17_3.length co77,.int .i64 t523] ?_;(with_reducible refine (Fa.calls kj41 _ _ x17_3 t523 t559 t560 true _ ?side1 ?side2 A66.o).mono ?_);(case side1=>exact zC ((Kd.bj_ HO_17.o).2.2));(case side2=>exact (Kd.bj_ HO_17.o).2.1);rintro e w78 ⟨v562,rfl,ho0,hb⟩;refine ⟨_,rfl,?_⟩;have HO563:=am (Kd.bx_ (Kd.bX_ (Kd.bX_ ho0 (Kd.R_lt (zR HO_7.o))) (Kd.R_lt (zR HO_17.o))) (zs_ HB.o));replace HO_7:=am (Kd.bC_ (zR HO_7.o) (Kd.bt_ ho0) hb);replace HO_17:=am (Kd.bC_ (zR HO_17.o) (Kd.bt_ ho0) hb);replace HB:=am (bh_ (zB HB.o) hb);(try clear hb);(try clear ho0))|((with_reducible refine bf_ (f:=31) rfl ?_);refine goL_ (some 179) Try.func31 #[.slice Ao77 x17_3.length co77,.slice Ao23 t526.length co23] ?_;(with_reducible refine (Fn.calls kj41 _ _ x17_3 _ _ t526 t564 true _ ?side1 ?side2 ?side3 ?side4 A67.o).mono ?_);(case side1=>exact zC ((Kd.bj_ HO_17.o).2.2));(case side2=>exact (Kd.bj_ HO_17.o).2.1);(case side3=>exact zC ((Kd.bj_ HO_7.o).2.2));(case side4=>exact (Kd.bj_ HO_7.o).2.1);rintro e w' ⟨rfl,⟨nd,rfl⟩⟩;refine ⟨_,rfl,?_⟩;obtain ⟨Ao79,co79,eo79⟩:=Kd.bv_ HO563.o;subst eo79)|(go_at_call 32;(with_reducible refine (Faa.calls _ _ t559 _ _ t526 true _ ?side1 ?side2 ?side3 ?side4 A69.o).mono ?_);(case side1=>exact zC ((Kd.bj_ HO563.o).2.2));(case side2=>exact (Kd.bj_ HO563.o).2.1);(case side3=>exact zC ((Kd.bj_ HO_7.o).2.2));(case side4=>exact (Kd.bj_ HO_7.o).2.1);rintro e w' ⟨rfl,⟨nd,rfl⟩⟩))
                        go_ret
                        exact ⟨rfl,zB HB.o⟩
                      ·replace c72:=Bool.eq_false_iff.mpr c72
                       subst c72
                       have H1:(some false)=some r:=by rw [if_neg (show ¬ (false=true) by decide)] at H;exact H
                       clear H;have H:=H1;clear H1;obtain rfl:=Option.some.inj H;obtain ⟨Ao80,co80,eo80⟩:=Kd.bv_ HO_17.o
                       subst eo80
                       go_wp2_with (first|((with_reducible refine bf_ (f:=29) rfl ?_);refine goL_ (some 172) Try.func29 #[.slice Ao80 x17_3.length co80,.int .i64 t523] ?_;(with_reducible refine (Fa.calls kj41 _ _ x17_3 t523 t559 t560 true _ ?side1 ?side2 A66.o).mono ?_);(case side1=>exact zC ((Kd.bj_ HO_17.o).2.2));(case side2=>exact (Kd.bj_ HO_17.o).2.1);rintro e w81 ⟨v562,rfl,ho0,hb⟩;refine ⟨_,rfl,?_⟩;have HO563:=am (Kd.bx_ (Kd.bX_ (Kd.bX_ ho0 (Kd.R_lt (zR HO_7.o))) (Kd.R_lt (zR HO_17.o))) (zs_ HB.o));replace HO_7:=am (Kd.bC_ (zR HO_7.o) (Kd.bt_ ho0) hb);replace HO_17:=am (Kd.bC_ (zR HO_17.o) (Kd.bt_ ho0) hb);replace HB:=am (bh_ (zB HB.o) hb);(try clear hb);(try clear ho0))|((with_reducible refine bf_ (f:=31) rfl ?_);refine goL_ (some 179) Try.func31 #[.slice Ao80 x17_3.length co80,.slice Ao23 t526.length co23] ?_;(with_reducible refine (Fn.calls kj41 _ _ x17_3 _ _ t526 t564 false _ ?side1 ?side2 ?side3 ?side4 A67.o).mono ?_);(case side1=>exact zC ((Kd.bj_ HO_17.o).2.2));(case side2=>exact (Kd.bj_ HO_17.o).2.1);(case side3=>exact zC ((Kd.bj_ HO_7.o).2.2));(case side4=>exact (Kd.bj_ HO_7.o).2.1);rintro e w' ⟨rfl,⟨nd,rfl⟩⟩;refine ⟨_,rfl,?_⟩;obtain ⟨Ao82,co82,eo82⟩:=Kd.bv_ HO563.o;subst eo82)|(go_at_call 32;(with_reducible refine (Faa.calls _ _ t559 _ _ t526 true _ ?side1 ?side2 ?side3 ?side4 A69.o).mono ?_);(case side1=>exact zC ((Kd.bj_ HO563.o).2.2));(case side2=>exact (Kd.bj_ HO563.o).2.1);(case side3=>exact zC ((Kd.bj_ HO_7.o).2.2));(case side4=>exact (Kd.bj_ HO_7.o).2.1);rintro e w' ⟨rfl,⟨nd,rfl⟩⟩))
                       go_ret
                       exact ⟨rfl,zB HB.o⟩
                     ·rw [if_neg c71] at H;have c71b0:(t560 == x18_3)=false:=beq_eq_false_iff_ne.mpr c71;have c71b1:(t560 != x18_3)=true:=bne_iff_ne.mpr c71;obtain rfl:=Option.some.inj H;obtain ⟨Ao83,co83,eo83⟩:=Kd.bv_ HO_17.o
                      subst eo83
                      go_wp2_with (first|((with_reducible refine bf_ (f:=29) rfl ?_);refine goL_ (some 172) Try.func29 #[.slice Ao83 x17_3.length co83,.int .i64 t523] ?_;(with_reducible refine (Fa.calls kj41 _ _ x17_3 t523 t559 t560 true _ ?side1 ?side2 A66.o).mono ?_);(case side1=>exact zC ((Kd.bj_ HO_17.o).2.2));(case side2=>exact (Kd.bj_ HO_17.o).2.1);rintro e w84 ⟨v562,rfl,ho0,hb⟩;refine ⟨_,rfl,?_⟩;have HO563:=am (Kd.bx_ (Kd.bX_ (Kd.bX_ ho0 (Kd.R_lt (zR HO_7.o))) (Kd.R_lt (zR HO_17.o))) (zs_ HB.o));replace HO_7:=am (Kd.bC_ (zR HO_7.o) (Kd.bt_ ho0) hb);replace HO_17:=am (Kd.bC_ (zR HO_17.o) (Kd.bt_ ho0) hb);replace HB:=am (bh_ (zB HB.o) hb);(try clear hb);(try clear ho0))|((with_reducible refine bf_ (f:=31) rfl ?_);refine goL_ (some 179) Try.func31 #[.slice Ao83 x17_3.length co83,.slice Ao23 t526.length co23] ?_;(with_reducible refine (Fn.calls kj41 _ _ x17_3 _ _ t526 t564 t565 _ ?side1 ?side2 ?side3 ?side4 A67.o).mono ?_);(case side1=>exact zC ((Kd.bj_ HO_17.o).2.2));(case side2=>exact (Kd.bj_ HO_17.o).2.1);(case side3=>exact zC ((Kd.bj_ HO_7.o).2.2));(case side4=>exact (Kd.bj_ HO_7.o).2.1);rintro e w' ⟨rfl,⟨nd,rfl⟩⟩;refine ⟨_,rfl,?_⟩;obtain ⟨Ao85,co85,eo85⟩:=Kd.bv_ HO563.o;subst eo85)|(go_at_call 32;(with_reducible refine (Faa.calls _ _ t559 _ _ t526 true _ ?side1 ?side2 ?side3 ?side4 A69.o).mono ?_);(case side1=>exact zC ((Kd.bj_ HO563.o).2.2));(case side2=>exact (Kd.bj_ HO563.o).2.1);(case side3=>exact zC ((Kd.bj_ HO_7.o).2.2));(case side4=>exact (Kd.bj_ HO_7.o).2.1);rintro e w' ⟨rfl,⟨nd,rfl⟩⟩))
                      go_ret
                      exact ⟨rfl,zB HB.o⟩
                    ·replace c70:=Bool.eq_false_iff.mpr c70
                     subst c70
                     have H1:(some false)=some r:=by rw [if_neg (show ¬ (false=true) by decide)] at H;exact H
                     clear H;have H:=H1;clear H1;obtain rfl:=Option.some.inj H;obtain ⟨Ao86,co86,eo86⟩:=Kd.bv_ HO_17.o
                     subst eo86
                     go_wp2_with (first|((with_reducible refine bf_ (f:=29) rfl ?_);refine goL_ (some 172) Try.func29 #[.slice Ao86 x17_3.length co86,.int .i64 t523] ?_;(with_reducible refine (Fa.calls kj41 _ _ x17_3 t523 t559 t560 true _ ?side1 ?side2 A66.o).mono ?_);(case side1=>exact zC ((Kd.bj_ HO_17.o).2.2));(case side2=>exact (Kd.bj_ HO_17.o).2.1);rintro e w87 ⟨v562,rfl,ho0,hb⟩;refine ⟨_,rfl,?_⟩;have HO563:=am (Kd.bx_ (Kd.bX_ (Kd.bX_ ho0 (Kd.R_lt (zR HO_7.o))) (Kd.R_lt (zR HO_17.o))) (zs_ HB.o));replace HO_7:=am (Kd.bC_ (zR HO_7.o) (Kd.bt_ ho0) hb);replace HO_17:=am (Kd.bC_ (zR HO_17.o) (Kd.bt_ ho0) hb);replace HB:=am (bh_ (zB HB.o) hb);(try clear hb);(try clear ho0))|((with_reducible refine bf_ (f:=31) rfl ?_);refine goL_ (some 179) Try.func31 #[.slice Ao86 x17_3.length co86,.slice Ao23 t526.length co23] ?_;(with_reducible refine (Fn.calls kj41 _ _ x17_3 _ _ t526 t564 t565 _ ?side1 ?side2 ?side3 ?side4 A67.o).mono ?_);(case side1=>exact zC ((Kd.bj_ HO_17.o).2.2));(case side2=>exact (Kd.bj_ HO_17.o).2.1);(case side3=>exact zC ((Kd.bj_ HO_7.o).2.2));(case side4=>exact (Kd.bj_ HO_7.o).2.1);rintro e w' ⟨rfl,⟨nd,rfl⟩⟩;refine ⟨_,rfl,?_⟩;obtain ⟨Ao88,co88,eo88⟩:=Kd.bv_ HO563.o;subst eo88)|(go_at_call 32;(with_reducible refine (Faa.calls _ _ t559 _ _ t526 false _ ?side1 ?side2 ?side3 ?side4 A69.o).mono ?_);(case side1=>exact zC ((Kd.bj_ HO563.o).2.2));(case side2=>exact (Kd.bj_ HO563.o).2.1);(case side3=>exact zC ((Kd.bj_ HO_7.o).2.2));(case side4=>exact (Kd.bj_ HO_7.o).2.1);rintro e w' ⟨rfl,⟨nd,rfl⟩⟩))
                     go_ret
                     exact ⟨rfl,zB HB.o⟩
                   ·replace c68:=Bool.eq_false_iff.mpr c68
                    subst c68
                    have H1:(some false)=some r:=by rw [if_neg (show ¬ (false=true) by decide)] at H;exact H
                    clear H;have H:=H1;clear H1;obtain rfl:=Option.some.inj H;obtain ⟨Ao89,co89,eo89⟩:=Kd.bv_ HO_17.o
                    subst eo89
                    go_wp2_with (first|((with_reducible refine bf_ (f:=29) rfl ?_);refine goL_ (some 172) Try.func29 #[.slice Ao89 x17_3.length co89,.int .i64 t523] ?_;(with_reducible refine (Fa.calls kj41 _ _ x17_3 t523 t559 t560 false _ ?side1 ?side2 A66.o).mono ?_);(case side1=>exact zC ((Kd.bj_ HO_17.o).2.2));(case side2=>exact (Kd.bj_ HO_17.o).2.1);rintro e w90 ⟨v562,rfl,ho0,hb⟩;refine ⟨_,rfl,?_⟩;have HO563:=am (Kd.bx_ (Kd.bX_ (Kd.bX_ ho0 (Kd.R_lt (zR HO_7.o))) (Kd.R_lt (zR HO_17.o))) (zs_ HB.o));replace HO_7:=am (Kd.bC_ (zR HO_7.o) (Kd.bt_ ho0) hb);replace HO_17:=am (Kd.bC_ (zR HO_17.o) (Kd.bt_ ho0) hb);replace HB:=am (bh_ (zB HB.o) hb);(try clear hb);(try clear ho0))|((with_reducible refine bf_ (f:=31) rfl ?_);refine goL_ (some 179) Try.func31 #[.slice Ao89 x17_3.length co89,.slice Ao23 t526.length co23] ?_;(with_reducible refine (Fn.calls kj41 _ _ x17_3 _ _ t526 t564 t565 _ ?side1 ?side2 ?side3 ?side4 A67.o).mono ?_);(case side1=>exact zC ((Kd.bj_ HO_17.o).2.2));(case side2=>exact (Kd.bj_ HO_17.o).2.1);(case side3=>exact zC ((Kd.bj_ HO_7.o).2.2));(case side4=>exact (Kd.bj_ HO_7.o).2.1);rintro e w' ⟨rfl,⟨nd,rfl⟩⟩;refine ⟨_,rfl,?_⟩))
                    go_ret
                    exact ⟨rfl,zB HB.o⟩
        ·replace c18:=Bool.eq_false_iff.mpr c18
         subst c18
         have H1:(laws_FnCorrected.j4 kj6 l1)=some r:=by rw [if_neg (show ¬ (false=true) by decide)] at H;exact H
         clear H;have H:=H1;clear H1;have H':=am H;clear H
         go_wp2
         go_meet
         case rel=>exact ⟨_,H',⟨by have:=HJ6.o;first|omega|exact Nat.le_refl _⟩,⟨zB HB.o⟩⟩
      case rest =>
       as_aux_lemma =>
        clear HC17;obtain ⟨kq,HA,HJ16,HB⟩:=hcut
        cases kq with
        | zero=>exact absurd HA.o (by simp [laws_FnCorrected.j4])
        | succ kj16 =>
         have H:=HA.o;clear HA
         simp only [laws_FnCorrected.j4] at H
         obtain ⟨⟨t567,t568⟩,A91,H⟩:=bi_ H;dsimp only at H;obtain ⟨⟨t571,t572,t573⟩,A92,H⟩:=bi_ H;dsimp only at H;obtain ⟨⟨t576,t577,t578⟩,A93,H⟩:=bi_ H;dsimp only at H;have HC94:=am H;clear H
         go_upto_region 30 with (first|((with_reducible refine bf_ (f:=35) rfl ?_);refine goL_ (some 206) Try.func35 #[.slice A1 l1.length c1] ?_;(with_reducible refine (Fbq.calls kj16 _ _ l1 t567 t568 _ ?side1 ?side2 A91.o).mono ?_);(case side1=>exact zC (Kd.bH_ HR1.o HB.o));(case side2=>exact HC1.o);rintro e w95 ⟨v569,rfl,ho0,hb⟩;refine ⟨_,rfl,?_⟩;have HO570:=am (Kd.bx_ ho0 (zs_ HB.o));replace HB:=am (bh_ (zB HB.o) hb);(try clear hb);(try clear ho0);obtain ⟨Ao96,co96,eo96⟩:=Kd.bv_ HO570.o;subst eo96)|((with_reducible refine bf_ (f:=29) rfl ?_);refine goL_ (some 212) Try.func29 #[.slice Ao96 t567.length co96,.int .i64 t568] ?_;(with_reducible refine (Fa.calls kj16 _ _ t567 t568 t571 t572 t573 _ ?side1 ?side2 A92.o).mono ?_);(case side1=>exact zC ((Kd.bj_ HO570.o).2.2));(case side2=>exact (Kd.bj_ HO570.o).2.1);rintro e w97 ⟨v574,rfl,ho0,hb⟩;refine ⟨_,rfl,?_⟩;have HO575:=am (Kd.bx_ (Kd.bX_ ho0 (Kd.R_lt (zR HO570.o))) (zs_ HB.o));replace HO570:=am (Kd.bC_ (zR HO570.o) (Kd.bt_ ho0) hb);replace HB:=am (bh_ (zB HB.o) hb);(try clear hb);(try clear ho0))|((with_reducible refine bf_ (f:=28) rfl ?_);refine goL_ (some 219) Try.func28 #[.slice Ao96 t567.length co96,.int .i64 t568] ?_;(with_reducible refine (Fc.calls kj16 _ _ t567 t568 t576 t577 t578 _ ?side1 ?side2 A93.o).mono ?_);(case side1=>exact zC ((Kd.bj_ HO570.o).2.2));(case side2=>exact (Kd.bj_ HO570.o).2.1);rintro e w98 ⟨v579,rfl,ho0,hb⟩;refine ⟨_,rfl,?_⟩;have HO580:=am (Kd.bx_ (Kd.bX_ (Kd.bX_ ho0 (Kd.R_lt (zR HO570.o))) (Kd.R_lt (zR HO575.o))) (zs_ HB.o));replace HO570:=am (Kd.bC_ (zR HO570.o) (Kd.bt_ ho0) hb);replace HO575:=am (Kd.bC_ (zR HO575.o) (Kd.bt_ ho0) hb);replace HB:=am (bh_ (zB HB.o) hb);(try clear hb);(try clear ho0)))
         (try simp only [Act.put,List.setIfInBounds_toArray,List.set_cons_zero,List.set_cons_succ])
         go_cut [236] (fun v236 wc=>∃ (kq:Nat) (x236_93:Bool),v236 = .bool x236_93∧ba_ (laws_FnCorrected.j5 kq t567 t568 t571 t572 t573 x236_93=some r)∧ba_ (kq≤kj16)∧ba_ (Kd.R (Kd.int .u8) 5 wc w.heap.size (fun k_=>some k_≠(v574:Value).ownBlock) (.slice Ao96 t567.length co96) t567)∧ba_ (Kd.R (Kd.int .u8) 5 wc w.heap.size (fun k_=>some k_≠((.slice Ao96 t567.length co96):Value).ownBlock) v574 t571)∧ba_ (Below w.heap.size w wc))
         case first =>
          as_aux_lemma =>
           have H:=HC94.o;clear HC94
           by_cases c99:(t573 != t578)=true
           ·rw [if_pos c99] at H;have c99b0:(t573 != t578)=true:=c99
            (try (have c99b1:decide (t573=t578)=false:=by simpa using c99))
            (try (have c99b2:(t573 == t578)=false:=by simpa using c99))
            (try (have c99b3:¬ (t573=t578):=by simpa using c99))
            clear c99
            (first|rw [c99b0]|(simp only [bI_,bL_];rw [c99b0])|skip)
            have H':=am H;clear H
            go_wp2
            go_meet
            case rel=>exact ⟨_,(true),rfl,H',⟨by have:=HJ6.o;have:=HJ16.o;first|omega|exact Nat.le_refl _⟩,⟨zR (Kd.bq_ HO570.o (fun _ hk=>hk.1.2))⟩,⟨zR (Kd.bq_ HO575.o (fun _ hk=>hk.1.2))⟩,⟨zB HB.o⟩⟩
           ·rw [if_neg c99] at H
            have c99b0:(t573 != t578)=false:=by simpa using c99
            (try (have c99b1:decide (t573=t578)=true:=by simpa using c99))
            (try (have c99b2:(t573 == t578)=true:=by simpa using c99))
            clear c99
            (first|rw [c99b0]|(simp only [bI_,bL_];rw [c99b0])|skip)
            by_cases c100:t572=t577
            ·rw [if_pos c100] at H;have c100b0:(t572 == t577)=true:=beq_iff_eq.mpr c100;have c100b1:(t572 != t577)=false:=bne_eq_false_iff_eq.mpr c100;clear c100;obtain ⟨t581,A101,H⟩:=bi_ H;have H':=am H;clear H;obtain ⟨Ao102,co102,eo102⟩:=Kd.bv_ HO575.o
             subst eo102
             obtain ⟨Ao103,co103,eo103⟩:=Kd.bv_ HO580.o
             subst eo103
             go_wp2_with (first|(go_at_call 32;(with_reducible refine (Faa.calls _ _ t571 _ _ t576 t581 _ ?side1 ?side2 ?side3 ?side4 A101.o).mono ?_);(case side1=>exact zC ((Kd.bj_ HO575.o).2.2));(case side2=>exact (Kd.bj_ HO575.o).2.1);(case side3=>exact zC ((Kd.bj_ HO580.o).2.2));(case side4=>exact (Kd.bj_ HO580.o).2.1);rintro e w' ⟨rfl,⟨nd,rfl⟩⟩))
             go_meet
             case rel=>exact ⟨_,(!t581),rfl,H',⟨by have:=HJ6.o;have:=HJ16.o;first|omega|exact Nat.le_refl _⟩,⟨zR (Kd.bq_ HO570.o (fun _ hk=>hk.1.2))⟩,⟨zR (Kd.bq_ HO575.o (fun _ hk=>hk.1.2))⟩,⟨zB HB.o⟩⟩
            ·rw [if_neg c100] at H;have c100b0:(t572 == t577)=false:=beq_eq_false_iff_ne.mpr c100;have c100b1:(t572 != t577)=true:=bne_iff_ne.mpr c100;have H':=am H;clear H
             go_wp2
             go_meet
             case rel=>exact ⟨_,(true),rfl,H',⟨by have:=HJ6.o;have:=HJ16.o;first|omega|exact Nat.le_refl _⟩,⟨zR (Kd.bq_ HO570.o (fun _ hk=>hk.1.2))⟩,⟨zR (Kd.bq_ HO575.o (fun _ hk=>hk.1.2))⟩,⟨zB HB.o⟩⟩
         case rest =>
          as_aux_lemma =>
           clear HC94;obtain ⟨kq,x236_93,rfl,HA,HJ93,HO_26,HO_28,HB⟩:=hcut
           cases kq with
           | zero=>exact absurd HA.o (by simp [laws_FnCorrected.j5])
           | succ kj93 =>
            have H:=HA.o;clear HA
            simp only [laws_FnCorrected.j5] at H
            by_cases c104:x236_93=true
            ·subst c104
             have H1:(some false)=some r:=by rw [if_pos rfl] at H;exact H
             clear H;have H:=H1;clear H1;obtain rfl:=Option.some.inj H
             go_wp2
             go_ret
             exact ⟨rfl,zB HB.o⟩
            ·replace c104:=Bool.eq_false_iff.mpr c104
             subst c104
             have H1:(if t573=true then ((Faz.f kj93 t571 t568).bind fun bt582=>((Fn.f kj93 t567 t571).bind fun bt584=>(if bt582.2=true then (if bt582.1=true then (if bt584.2=true then (if bt584.1=t572 then (some (decide (t572≤t568))) else (some false)) else (some false)) else (some false)) else (some false)))) else (some (t572 == 0)))=some r:=by rw [if_neg (show ¬ (false=true) by decide)] at H;exact H
             clear H;have H:=H1;clear H1
             by_cases c105:t573=true
             ·subst c105
              have H1:((Faz.f kj93 t571 t568).bind fun bt582=>((Fn.f kj93 t567 t571).bind fun bt584=>(if bt582.2=true then (if bt582.1=true then (if bt584.2=true then (if bt584.1=t572 then (some (decide (t572≤t568))) else (some false)) else (some false)) else (some false)) else (some false))))=some r:=by rw [if_pos rfl] at H;exact H
              clear H;have H:=H1;clear H1;obtain ⟨⟨t582,t583⟩,A106,H⟩:=bi_ H;dsimp only at H;obtain ⟨⟨t584,t585⟩,A107,H⟩:=bi_ H;dsimp only at H
              by_cases c108:t583=true
              ·subst c108
               have H1:(if t582=true then (if t585=true then (if t584=t572 then (some (decide (t572≤t568))) else (some false)) else (some false)) else (some false))=some r:=by rw [if_pos rfl] at H;exact H
               clear H;have H:=H1;clear H1
               by_cases c109:t582=true
               ·subst c109
                have H1:(if t585=true then (if t584=t572 then (some (decide (t572≤t568))) else (some false)) else (some false))=some r:=by rw [if_pos rfl] at H;exact H
                clear H;have H:=H1;clear H1
                by_cases c110:t585=true
                ·subst c110
                 have H1:(if t584=t572 then (some (decide (t572≤t568))) else (some false))=some r:=by rw [if_pos rfl] at H;exact H
                 clear H;have H:=H1;clear H1
                 by_cases c111:t584=t572
                 ·rw [if_pos c111] at H;have c111b0:(t584 == t572)=true:=beq_iff_eq.mpr c111;have c111b1:(t584 != t572)=false:=bne_eq_false_iff_eq.mpr c111;clear c111;obtain rfl:=Option.some.inj H;obtain ⟨Ao112,co112,eo112⟩:=Kd.bv_ HO_28.o
                  subst eo112
                  go_wp2_with (first|((with_reducible refine bf_ (f:=21) rfl ?_);refine goL_ (some 244) Try.func21 #[.slice Ao112 t571.length co112,.int .i64 t568] ?_;(with_reducible refine (Faz.calls kj93 _ _ t571 t568 true true _ ?side1 ?side2 A106.o).mono ?_);(case side1=>exact zC ((Kd.bj_ HO_28.o).2.2));(case side2=>exact (Kd.bj_ HO_28.o).2.1);rintro e w113 ⟨rfl,hb⟩;refine ⟨_,rfl,?_⟩;replace HO_26:=am (Kd.bQ_ (zR HO_26.o) hb);replace HO_28:=am (Kd.bQ_ (zR HO_28.o) hb);replace HB:=am (bh_ (zB HB.o) hb);(try clear hb);(try clear hb2);(try clear hk);(try clear hi))|((with_reducible refine bf_ (f:=31) rfl ?_);refine goL_ (some 250) Try.func31 #[.slice Ao96 t567.length co96,.slice Ao112 t571.length co112] ?_;(with_reducible refine (Fn.calls kj93 _ _ t567 _ _ t571 t584 true _ ?side1 ?side2 ?side3 ?side4 A107.o).mono ?_);(case side1=>exact zC ((Kd.bj_ HO_26.o).2.2));(case side2=>exact (Kd.bj_ HO_26.o).2.1);(case side3=>exact zC ((Kd.bj_ HO_28.o).2.2));(case side4=>exact (Kd.bj_ HO_28.o).2.1);rintro e w' ⟨rfl,⟨nd,rfl⟩⟩;refine ⟨_,rfl,?_⟩))
                  go_ret
                  exact ⟨rfl,zB HB.o⟩
                 ·rw [if_neg c111] at H;have c111b0:(t584 == t572)=false:=beq_eq_false_iff_ne.mpr c111;have c111b1:(t584 != t572)=true:=bne_iff_ne.mpr c111;obtain rfl:=Option.some.inj H;obtain ⟨Ao114,co114,eo114⟩:=Kd.bv_ HO_28.o
                  subst eo114
                  go_wp2_with (first|((with_reducible refine bf_ (f:=21) rfl ?_);refine goL_ (some 244) Try.func21 #[.slice Ao114 t571.length co114,.int .i64 t568] ?_;(with_reducible refine (Faz.calls kj93 _ _ t571 t568 true true _ ?side1 ?side2 A106.o).mono ?_);(case side1=>exact zC ((Kd.bj_ HO_28.o).2.2));(case side2=>exact (Kd.bj_ HO_28.o).2.1);rintro e w115 ⟨rfl,hb⟩;refine ⟨_,rfl,?_⟩;replace HO_26:=am (Kd.bQ_ (zR HO_26.o) hb);replace HO_28:=am (Kd.bQ_ (zR HO_28.o) hb);replace HB:=am (bh_ (zB HB.o) hb);(try clear hb);(try clear hb2);(try clear hk);(try clear hi))|((with_reducible refine bf_ (f:=31) rfl ?_);refine goL_ (some 250) Try.func31 #[.slice Ao96 t567.length co96,.slice Ao114 t571.length co114] ?_;(with_reducible refine (Fn.calls kj93 _ _ t567 _ _ t571 t584 true _ ?side1 ?side2 ?side3 ?side4 A107.o).mono ?_);(case side1=>exact zC ((Kd.bj_ HO_26.o).2.2));(case side2=>exact (Kd.bj_ HO_26.o).2.1);(case side3=>exact zC ((Kd.bj_ HO_28.o).2.2));(case side4=>exact (Kd.bj_ HO_28.o).2.1);rintro e w' ⟨rfl,⟨nd,rfl⟩⟩;refine ⟨_,rfl,?_⟩))
                  go_ret
                  exact ⟨rfl,zB HB.o⟩
                ·replace c110:=Bool.eq_false_iff.mpr c110
                 subst c110
                 have H1:(some false)=some r:=by rw [if_neg (show ¬ (false=true) by decide)] at H;exact H
                 clear H;have H:=H1;clear H1;obtain rfl:=Option.some.inj H;obtain ⟨Ao116,co116,eo116⟩:=Kd.bv_ HO_28.o
                 subst eo116
                 go_wp2_with (first|((with_reducible refine bf_ (f:=21) rfl ?_);refine goL_ (some 244) Try.func21 #[.slice Ao116 t571.length co116,.int .i64 t568] ?_;(with_reducible refine (Faz.calls kj93 _ _ t571 t568 true true _ ?side1 ?side2 A106.o).mono ?_);(case side1=>exact zC ((Kd.bj_ HO_28.o).2.2));(case side2=>exact (Kd.bj_ HO_28.o).2.1);rintro e w117 ⟨rfl,hb⟩;refine ⟨_,rfl,?_⟩;replace HO_26:=am (Kd.bQ_ (zR HO_26.o) hb);replace HO_28:=am (Kd.bQ_ (zR HO_28.o) hb);replace HB:=am (bh_ (zB HB.o) hb);(try clear hb);(try clear hb2);(try clear hk);(try clear hi))|((with_reducible refine bf_ (f:=31) rfl ?_);refine goL_ (some 250) Try.func31 #[.slice Ao96 t567.length co96,.slice Ao116 t571.length co116] ?_;(with_reducible refine (Fn.calls kj93 _ _ t567 _ _ t571 t584 false _ ?side1 ?side2 ?side3 ?side4 A107.o).mono ?_);(case side1=>exact zC ((Kd.bj_ HO_26.o).2.2));(case side2=>exact (Kd.bj_ HO_26.o).2.1);(case side3=>exact zC ((Kd.bj_ HO_28.o).2.2));(case side4=>exact (Kd.bj_ HO_28.o).2.1);rintro e w' ⟨rfl,⟨nd,rfl⟩⟩;refine ⟨_,rfl,?_⟩))
                 go_ret
                 exact ⟨rfl,zB HB.o⟩
               ·replace c109:=Bool.eq_false_iff.mpr c109
                subst c109
                have H1:(some false)=some r:=by rw [if_neg (show ¬ (false=true) by decide)] at H;exact H
                clear H;have H:=H1;clear H1;obtain rfl:=Option.some.inj H;obtain ⟨Ao118,co118,eo118⟩:=Kd.bv_ HO_28.o
                subst eo118
                go_wp2_with (first|((with_reducible refine bf_ (f:=21) rfl ?_);refine goL_ (some 244) Try.func21 #[.slice Ao118 t571.length co118,.int .i64 t568] ?_;(with_reducible refine (Faz.calls kj93 _ _ t571 t568 false true _ ?side1 ?side2 A106.o).mono ?_);(case side1=>exact zC ((Kd.bj_ HO_28.o).2.2));(case side2=>exact (Kd.bj_ HO_28.o).2.1);rintro e w119 ⟨rfl,hb⟩;refine ⟨_,rfl,?_⟩;replace HO_26:=am (Kd.bQ_ (zR HO_26.o) hb);replace HO_28:=am (Kd.bQ_ (zR HO_28.o) hb);replace HB:=am (bh_ (zB HB.o) hb);(try clear hb);(try clear hb2);(try clear hk);(try clear hi))|((with_reducible refine bf_ (f:=31) rfl ?_);refine goL_ (some 250) Try.func31 #[.slice Ao96 t567.length co96,.slice Ao118 t571.length co118] ?_;(with_reducible refine (Fn.calls kj93 _ _ t567 _ _ t571 t584 t585 _ ?side1 ?side2 ?side3 ?side4 A107.o).mono ?_);(case side1=>exact zC ((Kd.bj_ HO_26.o).2.2));(case side2=>exact (Kd.bj_ HO_26.o).2.1);(case side3=>exact zC ((Kd.bj_ HO_28.o).2.2));(case side4=>exact (Kd.bj_ HO_28.o).2.1);rintro e w' ⟨rfl,⟨nd,rfl⟩⟩;refine ⟨_,rfl,?_⟩))
                go_ret
                exact ⟨rfl,zB HB.o⟩
              ·replace c108:=Bool.eq_false_iff.mpr c108
               subst c108
               have H1:(some false)=some r:=by rw [if_neg (show ¬ (false=true) by decide)] at H;exact H
               clear H;have H:=H1;clear H1;obtain rfl:=Option.some.inj H;obtain ⟨Ao120,co120,eo120⟩:=Kd.bv_ HO_28.o
               subst eo120
               go_wp2_with (first|((with_reducible refine bf_ (f:=21) rfl ?_);refine goL_ (some 244) Try.func21 #[.slice Ao120 t571.length co120,.int .i64 t568] ?_;(with_reducible refine (Faz.calls kj93 _ _ t571 t568 t582 false _ ?side1 ?side2 A106.o).mono ?_);(case side1=>exact zC ((Kd.bj_ HO_28.o).2.2));(case side2=>exact (Kd.bj_ HO_28.o).2.1);rintro e w121 ⟨rfl,hb⟩;refine ⟨_,rfl,?_⟩;replace HO_26:=am (Kd.bQ_ (zR HO_26.o) hb);replace HO_28:=am (Kd.bQ_ (zR HO_28.o) hb);replace HB:=am (bh_ (zB HB.o) hb);(try clear hb);(try clear hb2);(try clear hk);(try clear hi))|((with_reducible refine bf_ (f:=31) rfl ?_);refine goL_ (some 250) Try.func31 #[.slice Ao96 t567.length co96,.slice Ao120 t571.length co120] ?_;(with_reducible refine (Fn.calls kj93 _ _ t567 _ _ t571 t584 t585 _ ?side1 ?side2 ?side3 ?side4 A107.o).mono ?_);(case side1=>exact zC ((Kd.bj_ HO_26.o).2.2));(case side2=>exact (Kd.bj_ HO_26.o).2.1);(case side3=>exact zC ((Kd.bj_ HO_28.o).2.2));(case side4=>exact (Kd.bj_ HO_28.o).2.1);rintro e w' ⟨rfl,⟨nd,rfl⟩⟩;refine ⟨_,rfl,?_⟩))
               go_ret
               exact ⟨rfl,zB HB.o⟩
             ·replace c105:=Bool.eq_false_iff.mpr c105
              subst c105
              have H1:(some (t572 == 0))=some r:=by rw [if_neg (show ¬ (false=true) by decide)] at H;exact H
              clear H;have H:=H1;clear H1;obtain rfl:=Option.some.inj H
              go_wp2
              go_ret
              exact ⟨rfl,zB HB.o⟩

/-- THE ONE PURE STATEMENT of laws_FnCorrected: yours. -/
def laws_FnCorrected.Pure:Prop:=∀ (l0:List Int) (l1:List Int),l0.length≤maxLen→l0.length * 1≤140737488351232→(∀ x∈l0,(Lit.int .u8 x).wf=true)→l1.length≤maxLen→l1.length * 1≤140737488351232→(∀ x∈l1,(Lit.int .u8 x).wf=true)→∃ k,laws_FnCorrected.f k l0 l1=some true
theorem laws_FnCorrected.walk (P:laws_FnCorrected.Pure) (a0:Option Addr) (len0 cap0:Nat) (z0:List Int) (a1:Option Addr) (len1 cap1:Nat) (z1:List Int) (w:World) (w0:(a0=none∧len0=0∧cap0=0∧z0=[])∨∃ x,a0=some x∧len0≤cap0∧cap0≤maxLen∧z0.length=cap0∧(∀ i,i<z0.length→w.cell? (x.add i)=some (.int .u8 (z0.getD i 0)))∧∀ n∈z0,(Lit.int .u8 n).wf=true) (y0:len0 * 1≤140737488351232) (w1:(a1=none∧len1=0∧cap1=0∧z1=[])∨∃ x,a1=some x∧len1≤cap1∧cap1≤maxLen∧z1.length=cap1∧(∀ i,i<z1.length→w.cell? (x.add i)=some (.int .u8 (z1.getD i 0)))∧∀ n∈z1,(Lit.int .u8 n).wf=true) (y1:len1 * 1≤140737488351232) :
  Calls Try.prog 11 #[.slice a0 len0 cap0,.slice a1 len1 cap1] w fun e w'=>e = .returned (.bool true)∧Below w.heap.size w w':=by
 obtain ⟨l0,rfl,hr0,hm0,hw0,hc0⟩:=ReadsInt.ofRowC w0;obtain ⟨l1,rfl,hr1,hm1,hw1,hc1⟩:=ReadsInt.ofRowC w1;obtain ⟨k,h⟩:=P l0 l1 hm0 y0 hw0 hm1 y1 hw1
 refine (laws_FnCorrected.calls k _ _ l0 _ _ l1 true w (Kd.C_of_reads (d:=(0:Int)) (h1:=fun _=>rfl) hr0) hc0 (Kd.C_of_reads (d:=(0:Int)) (h1:=fun _=>rfl) hr1) hc1 h).mono ?_
 rintro e w' ⟨rfl,hd⟩
 exact ⟨rfl,hd⟩

end Go.Proofs.Ytbloniemhkfnlaa.PFnCorrected
