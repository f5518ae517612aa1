/- A law's functions as plain Lean functions, each with the walk that shows that the code computes it: written by this session's program wip/tools/ppmake.py. -/
import Derived.Test.YtbloniemhkfnlaaKZ
import Derived.Test.YtbloniemhkfnlaaPFnCorrectedx0
import Derived.Test.YtbloniemhkfnlaaPFnCorrectedx1
import Derived.Test.YtbloniemhkfnlaaPFnCorrectedx2
import Derived.Test.YtbloniemhkfnlaaPFnCorrectedx4
namespace Go.Proofs.Ytbloniemhkfnlaa.PFnCorrected
open Go.RowKit Go.Proofs.YtbloniemhkfnlaaW.PrintWords Go.Proofs.YtbloniemhkfnlaaW.PrintLast Go.Proofs.YtbloniemhkfnlaaW.PrintMore
attribute [local go_sem] cw_ cy_ cK_ cL_ ci_ ch_ cx_ cv_   -- for this text's walks alone
set_option linter.unusedVariables false
set_option linter.unusedSimpArgs false

/-! ### impl_EncodeWord: function 23 -/
mutual
def Ff.j0:Nat→List Int→Int→Bool→Option (List Int × Bool)
 | 0,_,_,_=>none
 | k+1,x0,x1,x23=>if x23=true then (some (([]:List Int),false)) else (if 0≤(wrap64 (2 * x1)) then (if (wrap64 (2 * x1):Int).toNat≤281474976710656 then ((some (List.replicate (wrap64 (2 * x1):Int).toNat 0:List Int)).bind fun y201=>(if y201.length+x0.length<140737488355328 then ((some (y201++x0:List Int)).bind fun y204=>((Fh.f k x1).bind fun t207=>(Ff.l0 k x0 x1 y204 t207 (wrap64 ((y204.length:Int) - 1))))) else (none))) else (none)) else (none))
def Ff.l0:Nat→List Int→Int→List Int→List Int→Int→Option (List Int × Bool)
 | 0,_,_,_,_,_=>none
 | k+1,x0,x1,x6,x7,x8=>if x8 ≥ (wrap64 (2 * x1)) then (if 0≤x8 then (if x8<(x6.length:Int) then (Ff.l1 k x0 x1 x6 x7 x8 (rd x6 x8) x7 (x7.length:Int) 0) else (none)) else (none)) else (if 0≤(wrap64 (2 * x1)) then (if (wrap64 (2 * x1))≤(x6.length:Int) then ((Faj.f (x6.take ((wrap64 (2 * x1)):Int).toNat)).bind fun t214=>(if t214.length+x0.length<140737488355328 then (some ((t214++x0),true)) else (none))) else (none)) else (none))
def Ff.l1:Nat→List Int→Int→List Int→List Int→Int→Int→List Int→Int→Int→Option (List Int × Bool)
 | 0,_,_,_,_,_,_,_,_,_=>none
 | k+1,x0,x1,x6,x7,x8,x9,x44,x45,x46=>if x46<x45 then (if 0≤x46 then (if x46<(x44.length:Int) then (if 0≤(wrap64 ((wrap64 (x8 - (wrap64 (2 * x1))))+x46)) then (if (wrap64 ((wrap64 (x8 - (wrap64 (2 * x1))))+x46))<(x6.length:Int) then ((Fg.f k x9 (rd x44 x46)).bind fun t223=>(Ff.l1 k x0 x1 (x6.set ((wrap64 ((wrap64 (x8 - (wrap64 (2 * x1))))+x46)):Int).toNat (Go.bits .xor .u8 (rd x6 (wrap64 ((wrap64 (x8 - (wrap64 (2 * x1))))+x46))) t223)) x7 x8 x9 x44 x45 (wrap64 (x46+1)))) else (none)) else (none)) else (none)) else (none)) else (Ff.l0 k x0 x1 x6 x7 (wrap64 (x8 - 1)))
end
def Ff.f (k:Nat) (l0:List Int) (a1:Int):Option (List Int × Bool):=(Faf.f a1).bind fun t199=>(if t199=true then ((Fp.f (l0.length:Int) 1 (wrap64 (24 - (wrap64 (2 * a1))))).bind fun t200=>(Ff.j0 k l0 a1 (!t200))) else (Ff.j0 k l0 a1 true))
def Ff.T12:Bool × List (List Nat × List Nat):=(true,[([],[]),([],[]),([],[]),([2],[2]),([1,3],[1,3]),([],[]),([4,5],[4,5]),([0,6],[0,6]),([7],[7]),([],[]),([],[]),([9,10],[9,10]),([8,11],[8,11]),([0,6,0,1,2,3,4,5,6,7,8,9,10,11,12],[0,6]),([13,12,11,0,1,2,3,4,5,6,7,8,9,10,11,12],[12,13])])
def Ff.B12:List Nat:=[0,0,0,4,14,0,62,127,255,0,0,1536,4095,8191,16383]
theorem Ff.tab12:rtab .any (opsOf Try.f23 12)=Ff.T12:=by kernel_rfl
theorem Ff.bits12:waitsOk Ff.T12.2 Ff.B12=true:=by kernel_rfl
set_option maxHeartbeats 8000000 in
set_option maxRecDepth 100000 in
theorem Ff.calls (k:Nat) (A0:Option Addr) (c0:Nat) (l0:List Int) (a1:Int) (r1:List Int) (r2:Bool) (w:World) (hr0:Kd.C (Kd.int .u8) w A0 l0.length l0) (hc0:l0.length≤c0) (h:Ff.f k l0 a1=some (r1,r2)) :
  Calls Try.prog 23 #[.slice A0 l0.length c0,.int .i64 a1] w fun e w'=>∃ v0_:Value,e = .returned (.tuple #[v0_,.bool r2])∧Kd.R (Kd.int .u8) 5 w' w.heap.size (fun _=>True) v0_ r1∧Below w.heap.size w w':=by
 have HR0:=am hr0;have HC0:=am hc0;clear hr0 hc0;have HB:=am (Below.refl w.heap.size w);have H:((Faf.f a1).bind fun t199=>(if t199=true then ((Fp.f (l0.length:Int) 1 (wrap64 (24 - (wrap64 (2 * a1))))).bind fun t200=>(Ff.j0 k l0 a1 (!t200))) else (Ff.j0 k l0 a1 true)))=some (r1,r2):=h;clear h;have HC3:=am H;clear H
 go_enter Try.func23,Try.ntmps23
 go_upto_region 1 with (fail)
 go_cut [23] (fun v23 wc=>∃ (kq:Nat) (x23_2:Bool),v23 = .bool x23_2∧ba_ (Ff.j0 kq l0 a1 x23_2=some (r1,r2))∧ba_ (kq≤k)∧ba_ (Below w.heap.size w wc))
 case first =>
  have H:=HC3.o;clear HC3;obtain ⟨t199,A4,H⟩:=bi_ H
  by_cases c5:t199=true
  ·subst c5
   have H1:((Fp.f (l0.length:Int) 1 (wrap64 (24 - (wrap64 (2 * a1))))).bind fun t200=>(Ff.j0 k l0 a1 (!t200)))=some (r1,r2):=by rw [if_pos rfl] at H;exact H
   clear H;have H:=H1;clear H1;obtain ⟨t200,A6,H⟩:=bi_ H;have H':=am H;clear H
   go_wp2_with (first|((with_reducible refine bf_ (f:=38) rfl ?_);refine goL_ (some 13) Try.func38 #[.int .i64 a1] ?_;(with_reducible refine (Faf.calls a1 true _ A4.o).mono ?_);rintro e w' ⟨rfl,⟨nd,rfl⟩⟩;refine ⟨_,rfl,?_⟩)|(go_at_call 47;(with_reducible refine (Fp.calls (l0.length:Int) 1 (wrap64 (24 - (wrap64 (2 * a1)))) t200 _ A6.o).mono ?_);rintro e w' ⟨rfl,⟨nd,rfl⟩⟩))
   go_meet
   case rel=>exact ⟨_,(!t200),rfl,H',⟨by first|omega|exact Nat.le_refl _⟩,⟨zB HB.o⟩⟩
  ·replace c5:=Bool.eq_false_iff.mpr c5
   subst c5
   have H1:(Ff.j0 k l0 a1 true)=some (r1,r2):=by rw [if_neg (show ¬ (false=true) by decide)] at H;exact H
   clear H;have H:=H1;clear H1;have H':=am H;clear H
   go_wp2_with (first|((with_reducible refine bf_ (f:=38) rfl ?_);refine goL_ (some 13) Try.func38 #[.int .i64 a1] ?_;(with_reducible refine (Faf.calls a1 false _ A4.o).mono ?_);rintro e w' ⟨rfl,⟨nd,rfl⟩⟩;refine ⟨_,rfl,?_⟩))
   go_meet
   case rel=>exact ⟨_,(true),rfl,H',⟨by first|omega|exact Nat.le_refl _⟩,⟨zB HB.o⟩⟩
 case rest =>
  clear HC3;obtain ⟨kq,x23_2,rfl,HA,HJ2,HB⟩:=hcut
  cases kq with
  | zero=>exact absurd HA.o (by simp [Ff.j0])
  | succ kj2 =>
   have H:=HA.o;clear HA
   simp only [Ff.j0] at H
   by_cases c7:x23_2=true
   ·subst c7
    have H1:(some (([]:List Int),false))=some (r1,r2):=by rw [if_pos rfl] at H;exact H
    clear H;have H:=H1;clear H1
    simp only [Option.some.injEq,Prod.mk.injEq] at H
    obtain ⟨rfl,rfl⟩:=H
    go_wp2
    go_ret2
    exact ⟨_,rfl,by first|apply Kd.di_|apply Kd.N_nil|apply Kd.V_nil|apply Kd.Q_nil|apply Kd.S_nil,zB HB.o⟩
   ·replace c7:=Bool.eq_false_iff.mpr c7
    subst c7
    have H1:(if 0≤(wrap64 (2 * a1)) then (if (wrap64 (2 * a1):Int).toNat≤281474976710656 then ((some (List.replicate (wrap64 (2 * a1):Int).toNat 0:List Int)).bind fun y201=>(if y201.length+l0.length<140737488355328 then ((some (y201++l0:List Int)).bind fun y204=>((Fh.f kj2 a1).bind fun t207=>(Ff.l0 kj2 l0 a1 y204 t207 (wrap64 ((y204.length:Int) - 1))))) else (none))) else (none)) else (none))=some (r1,r2):=by rw [if_neg (show ¬ (false=true) by decide)] at H;exact H
    clear H;have H:=H1;clear H1;obtain ⟨ji8,hji8⟩:∃ j_:Int,(wrap64 (2 * a1))=j_:=⟨_,rfl⟩
    replace H:(if 0≤(ji8) then (if (ji8:Int).toNat≤281474976710656 then ((some (List.replicate (ji8:Int).toNat 0:List Int)).bind fun y201=>(if y201.length+l0.length<140737488355328 then ((some (y201++l0:List Int)).bind fun y204=>((Fh.f kj2 a1).bind fun t207=>(Ff.l0 kj2 l0 a1 y204 t207 (wrap64 ((y204.length:Int) - 1))))) else (none))) else (none)) else (none))=some (r1,r2):=by first|(rw [hji8] at H;exact H)|(simp only [hji8] at H ⊢;exact H)
    have hji8w:(IntKind.i64.wrap (2 * a1))=ji8:=(bI_ _).trans hji8
    obtain ⟨c9,H⟩:=it_ H;have c9b0:=eq_true c9;have c9b1:=decide_eq_true c9;clear c9
    obtain ⟨c10,H⟩:=it_ H;have c10b0:=eq_true c10;have c10b1:=decide_eq_true c10;clear c10;obtain ⟨y201,hy201⟩:∃ y_:List Int,y_=(List.replicate (ji8:Int).toNat 0):=⟨_,rfl⟩
    replace H:(if y201.length+l0.length<140737488355328 then ((some (y201++l0:List Int)).bind fun y204=>((Fh.f kj2 a1).bind fun t207=>(Ff.l0 kj2 l0 a1 y204 t207 (wrap64 ((y204.length:Int) - 1))))) else (none))=some (r1,r2):=by first|(rw [hy201];exact H)|(have H2_:=(Option.bind_some _ _).symm.trans H;first|exact H2_|(rw [hy201];exact H2_))|exact H
    have Ny201:=am hy201;clear hy201
    obtain ⟨c11,H⟩:=it_ H;have LMc11:=am c11;clear c11;obtain ⟨y204,hy204⟩:∃ y_:List Int,y_=(y201++l0):=⟨_,rfl⟩
    replace H:((Fh.f kj2 a1).bind fun t207=>(Ff.l0 kj2 l0 a1 y204 t207 (wrap64 ((y204.length:Int) - 1))))=some (r1,r2):=by first|(rw [hy204];exact H)|(have H2_:=(Option.bind_some _ _).symm.trans H;first|exact H2_|(rw [hy204];exact H2_))|exact H
    have Ny204:=am hy204;clear hy204;obtain ⟨t207,A12,H⟩:=bi_ H;have H':=am H;clear H
    go_wp2_with (first|((with_reducible refine bB_ (N:=26) rfl ?_);(try (refine bM_ (by rfl) ?_;dsimp only));refine Kd.R_make (Kd.int .u8) _ 5 rfl (N:=26) rfl 22 _ _ rfl ji8 rfl rfl Try.underlying22 (.int .u8 0) 1 info5 rfl (by decide) (by omega) 0 (ok:=fun _=>True) (okp:=fun _=>True) rfl (fun _ hk=>hk) trivial (od_) (Nat.le_trans (Nat.mul_le_mul_right _ (od_:ji8.toNat≤281474976710656)) (by omega)) (Below.refl _ _) (Nat.le_refl _) ?_;intro v202 w13 ho14 hb hg_ hnew_;clear hg_ hnew_;(first|rw [← Ny201.o] at ho14|(simp only [Int.reduceToNat] at ho14;rw [← Ny201.o] at ho14));have HO203:=am (Kd.bx_ ho14 (zs_ HB.o));replace HB:=am (bh_ (zB HB.o) hb);clear hb ho14)|((with_reducible refine bE_ (b:=.append) (xs:=#[.tmp 26,.tmp 27]) rfl ?_);(try (refine bM_ (by rfl) ?_;dsimp only));at_builtin;refine Kd.cm_ (Kd.int .u8) (w0:=w) w.heap.size rfl (.tmp 26) (.tmp 27) 22 5 (.int .u8 0) 1 rfl Try.underlying22 info5 rfl (by decide) (by omega) v202 y201 l0 _ _ _ (fun _=>True) (fun _=>False) rfl rfl ?aO ?aR (fun _ _ h=>h) (fun _ h=>h.elim) ?aF ?aB ?aS ?aL ?_;(case aR=>exact zC (Kd.bH_ HR0.o HB.o));(case aB=>exact (zB HB.o));(case aF=>exact (fun _ _=>trivial));(case aO=>exact (zR HO203.o));(case aS=>exact (zs_ HB.o));(case aL=>have:=LMc11.o;omega);intro v205 w15 ho hb hg hat;rw [← Ny204.o] at ho;replace HB:=am (hb);have HO206:=am (ho);(try clear HO203);clear ho hb hg hat)|((with_reducible refine bf_ (f:=39) rfl ?_);refine goL_ (some 30) Try.func39 #[.int .i64 a1] ?_;(with_reducible refine (Fh.calls kj2 a1 t207 _ A12.o).mono ?_);rintro e w16 ⟨v208,rfl,ho0,hb⟩;refine ⟨_,rfl,?_⟩;have HO209:=am (Kd.bx_ (Kd.bX_ ho0 (Kd.R_lt (zR HO206.o))) (zs_ HB.o));replace HO206:=am (Kd.bC_ (zR HO206.o) (Kd.bt_ ho0) hb);replace HB:=am (bh_ (zB HB.o) hb);(try clear hb);(try clear ho0);obtain ⟨Ao17,co17,eo17⟩:=Kd.bv_ HO206.o;subst eo17))
    go_loopg [8] kj2 (fun kq v8 w'=>∃ (x6_2:List Int) (x8_2:Int),v8 = .int .i64 x8_2∧ba_ (Ff.l0 kq l0 a1 x6_2 t207 x8_2=some (r1,r2))∧ba_ (kq≤kj2)∧ba_ (Kd.R (Kd.int .u8) 5 w' w.heap.size (fun k_=>some k_≠(v208:Value).ownBlock) (.slice Ao17 y204.length co17) x6_2)∧ba_ (Kd.R (Kd.int .u8) 5 w' w.heap.size (fun k_=>some k_≠((.slice Ao17 y204.length co17):Value).ownBlock) v208 t207)∧ba_ (Below w.heap.size w w'))
    case atStart=>exact ⟨(y204),(wrap64 ((y204.length:Int) - 1)),rfl,H',⟨Nat.le_refl _⟩,⟨zR (Kd.bq_ HO206.o (fun _ hk=>hk.2))⟩,⟨zR (Kd.bq_ HO209.o (fun _ hk=>hk.2))⟩,⟨zB HB.o⟩⟩
    case round =>
     clear H';obtain ⟨x6_2,x8_2,rfl,HA,HK2,HO_6,HO_7,HB⟩:=hrel;have hl6_2:=(Kd.bj_ HO_6.o).1;rw [hl6_2] at HO_6
     (try simp only [hl6_2])
     (try simp only [hl6_2] at HO_7)
     cases gk with
     | zero=>exact absurd HA.o (by simp [Ff.l0])
     | succ k2 =>
      have H:=HA.o;clear HA
      simp only [Ff.l0] at H
      by_cases c18:x8_2 ≥ (wrap64 (2 * a1))
      ·rw [if_pos c18] at H;have c18b0:decide ((wrap64 (2 * a1))≤x8_2)=true:=decide_eq_true c18
       try simp only [hji8] at c18b0
       clear c18
       obtain ⟨c19,H⟩:=it_ H;have c19b0:=decide_eq_true c19;clear c19
       obtain ⟨c20,H⟩:=it_ H;have c20b0:=decide_eq_true c20
       try simp only [hl6_2] at c20b0
       clear c20;have H':=am H;clear H;have p220:0≤(x8_2:Int):=od_;have q220:x8_2<(x6_2.length:Int):=od_;obtain ⟨ad220,e220,hx220_0⟩:=Kd.bK_ (Kd.bj_ HO_6.o).2.2 x8_2 p220 q220;cases e220;replace p220:=eq_true p220;replace q220:=eq_true q220;obtain ⟨Ao21,co21,eo21⟩:=Kd.bv_ HO_7.o
       subst eo21
       go_wp2
       go_loopg [46] k2 (fun kq v46 w'=>∃ (x6_3:List Int) (x46_3:Int),v46 = .int .i64 x46_3∧ba_ (Ff.l1 kq l0 a1 x6_3 t207 x8_2 (rd x6_2 x8_2) t207 (t207.length:Int) x46_3=some (r1,r2))∧ba_ (kq≤k2)∧ba_ (Kd.R (Kd.int .u8) 5 w' w.heap.size (fun k_=>some k_≠((.slice Ao21 t207.length co21):Value).ownBlock∧some k_≠((.slice Ao21 t207.length co21):Value).ownBlock) (.slice (some ad220) x6_2.length co17) x6_3)∧ba_ (Kd.R (Kd.int .u8) 5 w' w.heap.size (fun k_=>some k_≠((.slice (some ad220) x6_2.length co17):Value).ownBlock) (.slice Ao21 t207.length co21) t207)∧ba_ (Kd.R (Kd.int .u8) 5 w' w.heap.size (fun k_=>some k_≠((.slice (some ad220) x6_2.length co17):Value).ownBlock) (.slice Ao21 t207.length co21) t207)∧ba_ (Below w.heap.size w w'))
       case atStart=>exact ⟨(x6_2),(0),rfl,H',⟨Nat.le_refl _⟩,⟨by (try simp only [hl6_2]);(with_reducible repeat (first|apply Kd.bW_|apply Kd.bV_|apply Kd.bP_));exact Kd.bq_ HO_6.o (fun _ hk=>⟨hk,hk⟩)⟩,⟨by (try simp only [hl6_2]);(with_reducible repeat (first|apply Kd.bW_|apply Kd.bV_|apply Kd.bP_));exact HO_7.o⟩,⟨by (try simp only [hl6_2]);(with_reducible repeat (first|apply Kd.bW_|apply Kd.bV_|apply Kd.bP_));exact HO_7.o⟩,⟨zB HB.o⟩⟩
       case round =>
        clear H';obtain ⟨x6_3,x46_3,rfl,HA,HK3,HO_6,HO_7,HO_44,HB⟩:=hrel;have hl6_3:=(Kd.bj_ HO_6.o).1;rw [hl6_3] at HO_6
        (try simp only [hl6_3])
        (try simp only [hl6_3] at HO_7)
        (try simp only [hl6_3] at HO_44)
        cases gk with
        | zero=>exact absurd HA.o (by simp [Ff.l1])
        | succ k3 =>
         have H:=HA.o;clear HA
         simp only [Ff.l1] at H
         by_cases c22:x46_3<(t207.length:Int)
         ·rw [if_pos c22] at H;have c22b0:=decide_eq_true c22
          try simp only [hl6_2] at c22b0
          try simp only [hl6_3] at c22b0
          clear c22
          obtain ⟨c23,H⟩:=it_ H;have c23b0:=decide_eq_true c23;clear c23
          obtain ⟨c24,H⟩:=it_ H;have c24b0:=decide_eq_true c24
          try simp only [hl6_2] at c24b0
          try simp only [hl6_3] at c24b0
          clear c24;obtain ⟨ji25,hji25⟩:∃ j_:Int,(wrap64 ((wrap64 (x8_2 - (wrap64 (2 * a1))))+x46_3))=j_:=⟨_,rfl⟩
          replace H:(if 0≤(ji25) then (if (ji25)<(x6_3.length:Int) then ((Fg.f k3 (rd x6_2 x8_2) (rd t207 x46_3)).bind fun t223=>(Ff.l1 k3 l0 a1 (x6_3.set ((ji25):Int).toNat (Go.bits .xor .u8 (rd x6_3 (ji25)) t223)) t207 x8_2 (rd x6_2 x8_2) t207 (t207.length:Int) (wrap64 (x46_3+1)))) else (none)) else (none))=some (r1,r2):=by first|(rw [hji25] at H;exact H)|(simp only [hji25] at H ⊢;exact H)
          have hji25w:(IntKind.i64.wrap ((wrap64 (x8_2 - (wrap64 (2 * a1))))+x46_3))=ji25:=(bI_ _).trans hji25
          try simp only [hji8] at hji25
          try simp only [hji8] at hji25w
          obtain ⟨c26,H⟩:=it_ H;have c26b0:=decide_eq_true c26;clear c26
          obtain ⟨c27,H⟩:=it_ H;have c27b0:=decide_eq_true c27
          try simp only [hl6_2] at c27b0
          try simp only [hl6_3] at c27b0
          clear c27;obtain ⟨t223,A28,H⟩:=bi_ H;(try rw [Option.bind_some] at H);generalize hy224:(x6_3.set ((ji25):Int).toNat (Go.bits .xor .u8 (rd x6_3 (ji25)) t223))=y224 at H;have Ny224:=am hy224.symm;clear hy224;have H':=am H;clear H;have p221:0≤(x46_3:Int):=od_;have q221:x46_3<(t207.length:Int):=od_;obtain ⟨ad221,e221,hx221_0⟩:=Kd.bK_ (Kd.bj_ HO_44.o).2.2 x46_3 p221 q221;cases e221;replace p221:=eq_true p221;replace q221:=eq_true q221
          try go_wp2
          replace HO_6:=am (Kd.bP_ HO_6.o);replace HO_7:=am (Kd.bP_ HO_7.o);replace HO_44:=am (Kd.bP_ HO_44.o);replace HB:=am (bg_ HB.o);have p222:0≤((ji25):Int):=od_;have q222:(ji25)<(x6_3.length:Int):=od_;obtain ⟨ad222,e222,hx222_0⟩:=Kd.bK_ (Kd.bj_ HO_6.o).2.2 (ji25) p222 q222;obtain rfl:ad220=ad222:=(by injection e222);replace p222:=eq_true p222;replace q222:=eq_true q222
          refine cS_ (n:=15) (S:=fun w'=>w'.cell? (ad220.add ((ji25)).toNat)=some (.int .u8 (rd x6_3 (ji25)))) (ds:=[14]) #[false,false,false,false,false,false,false,false,false,false,false,false,false,false,false] (by kernel_rfl) rfl rfl (hx222_0) (fun hHeld=>?_);refine cc_ Ff.tab12 Ff.bits12 (fun HT_ HW_=>?_)
          generalize wr.drew=w30 at HO_6 HO_7 HO_44 HB hx222_0 hHeld ⊢
          refine pu_ (i:=0) (some 51) #[true,false,false,false,false,false,false,false,false,false,false,false,false,false,false] HT_ ?_
          refine pu_ (i:=1) (some 52) #[true,true,false,false,false,false,false,false,false,false,false,false,false,false,false] HT_ ?_
          refine pu_ (i:=2) (some 53) #[true,true,true,false,false,false,false,false,false,false,false,false,false,false,false] HT_ ?_
          refine pu_ (i:=3) (some 54) #[true,true,true,true,false,false,false,false,false,false,false,false,false,false,false] HT_ ?_
          refine pu_ (i:=4) (some 55) #[true,true,true,true,true,false,false,false,false,false,false,false,false,false,false] HT_ ?_
          refine pu_ (i:=5) (some 56) #[true,true,true,true,true,true,false,false,false,false,false,false,false,false,false] HT_ ?_
          refine pu_ (i:=6) (some 57) #[true,true,true,true,true,true,true,false,false,false,false,false,false,false,false] HT_ ?_
          refine pu_ (i:=7) (some 58) #[true,true,true,true,true,true,true,true,false,false,false,false,false,false,false] HT_ ?_
          refine pu_ (i:=9) (some 60) #[true,true,true,true,true,true,true,true,false,true,false,false,false,false,false] HT_ ?_
          refine pu_ (i:=10) (some 61) #[true,true,true,true,true,true,true,true,false,true,true,false,false,false,false] HT_ ?_
          refine ta_ (i:=8) (some 59) #[true,true,true,true,true,true,true,true,true,true,true,false,false,false,false] HT_ HW_ hHeld ?_
          refine one_ (i:=11) (N:=some 62) #[true,true,true,true,true,true,true,true,true,true,true,true,false,false,false] rfl rfl (bZ_ HT_.o (by kernel_rfl)) (by decide) (fun K hK=>?_)
          refine goR_ Try.func48 #[.int .u8 (rd x6_2 x8_2),.int .u8 (rd t207 x46_3)] ?_
          with_reducible refine (Fg.calls k3 (rd x6_2 x8_2) (rd t207 x46_3) t223 _ A28.o).mono ?_
          rintro e w' ⟨rfl,⟨nd,rfl⟩⟩
          refine ⟨_,rfl,?_⟩
          have p29:0≤((ji25):Int):=od_;have q29:((ji25):Int)<((x6_3.length:Int):Int):=od_;obtain ⟨go29,co29,eo29,gb29,gl29,cl29,HG29⟩:=Kd.R_form HO_6.o (by omega)
          (first|cases eo29|(injection eo29 with ea_ en_ ec_;(first|subst ea_|(injection ea_ with ea_;subst ea_));subst ec_;clear en_))
          have GB29:=am gb29;have GG29:=am HG29;clear gb29 gl29 HG29
          (first|simp only [add_plain] at hx220_0|skip)
          (first|simp only [add_plain] at hx222_0|skip)
          obtain ⟨hx29_0,hf29_0⟩:=Kd.R_celln 0 HO_6.o ((ji25):Int) p29 q29;replace p29:=eq_true p29;replace q29:=eq_true q29;have HP31:=Kd.R_putn HO_6.o ((ji25):Int) (Go.bits .xor .u8 (rd x6_3 (ji25)) t223);rw [← Ny224.o] at HP31;have HQ31:=am HP31;clear HP31
          refine hK.out _ _ (hHeld) (fun hHeld=>?_)
          clear hK K
          refine cp_ (a':=?_) ?_ ?_
          rotate_left
          ·show Act.put _ (some 62) _=_
           simp only [Act.put,List.setIfInBounds_toArray,List.set_cons_zero,List.set_cons_succ,bI_,bL_];rfl
          refine pu_ (i:=12) (some 63) #[true,true,true,true,true,true,true,true,true,true,true,true,true,false,false] HT_ ?_
          refine pu_ (i:=13) (some 64) #[true,true,true,true,true,true,true,true,true,true,true,true,true,true,false] HT_ ?_
          refine last_ (i:=14) (N:=none) #[true,true,true,true,true,true,true,true,true,true,true,true,true,true,true] rfl rfl (bZ_ HT_.o (by kernel_rfl)) (by decide) (fun K hK=>?_)
          refine skip_ (w1:=?_) (by rfl) rfl ?_ ?_
          rotate_left
          ·go_simp;rfl
          refine hK.out _ _ ?_
          clear hK K
          refine done_ (cD_ HT_.o (by kernel_rfl)) ?_
          try go_wp2
          (try simp only [← hl6_3])
          first|go_roundg k3|(try rw [show (⟨go29,(x8_2).toNat,none⟩:Addr)=(⟨go29,0,none⟩:Addr).add (x8_2).toNat from by simp [Addr.add]];go_roundg k3)
          case measure=>have:=HJ2.o;have:=HK2.o;have:=HK3.o;omega
          case rel=>exact ⟨(y224),(wrap64 (x46_3+1)),rf_,(by first|exact H'|(have H2_:=H';simp only [hji8,hji25] at H2_ ⊢;exact H2_)),⟨by have:=HJ2.o;have:=HK2.o;have:=HK3.o;omega⟩,⟨by (try simp only [hl6_2]);(try simp only [hl6_3]);(with_reducible repeat (first|apply Kd.bW_|apply Kd.bV_|apply Kd.bP_));exact HQ31.o⟩,⟨by (try simp only [hl6_2]);(try simp only [hl6_3]);(with_reducible repeat (first|apply Kd.bW_|apply Kd.bV_|apply Kd.bP_));exact Kd.bq_ (Kd.R_far (p:=⟨go29,((ji25):Int).toNat,none⟩) (Kd.bq_ HO_7.o (fun k_ hk=>(⟨hk,fun e_=>hk (by rw [e_];rfl)⟩:_∧k_≠go29))) (fun _ hk=>hk.2) (.int .u8 (Go.bits .xor .u8 (rd x6_3 (ji25)) t223))) (fun _ hk=>hk.1)⟩,⟨by (try simp only [hl6_2]);(try simp only [hl6_3]);(with_reducible repeat (first|apply Kd.bW_|apply Kd.bV_|apply Kd.bP_));exact Kd.bq_ (Kd.R_far (p:=⟨go29,((ji25):Int).toNat,none⟩) (Kd.bq_ HO_44.o (fun k_ hk=>(⟨hk,fun e_=>hk (by rw [e_];rfl)⟩:_∧k_≠go29))) (fun _ hk=>hk.2) (.int .u8 (Go.bits .xor .u8 (rd x6_3 (ji25)) t223))) (fun _ hk=>hk.1)⟩,⟨by repeat (first|(with_reducible first|exact HB.o|apply bk_|apply be_|apply bg_|refine bl_ ?_ GB29.o)|exact HB.o)⟩⟩
         ·rw [if_neg c22] at H;have c22b0:=decide_eq_false c22
          try simp only [hl6_2] at c22b0
          try simp only [hl6_3] at c22b0
          clear c22;have H':=am H;clear H
          go_wp2
          (try simp only [← hl6_2,← hl6_3])
          go_roundg k3
          case measure=>have:=HJ2.o;have:=HK2.o;have:=HK3.o;omega
          case rel=>exact ⟨(x6_3),(wrap64 (x8_2 - 1)),rfl,(by first|exact H'|(have H2_:=H';simp only [hji8] at H2_ ⊢;exact H2_)),⟨by have:=HJ2.o;have:=HK2.o;have:=HK3.o;omega⟩,⟨by (try simp only [hl6_2]);(try simp only [hl6_3]);(with_reducible repeat (first|apply Kd.bW_|apply Kd.bV_|apply Kd.bP_));exact Kd.bq_ HO_6.o (fun _ hk=>hk.1)⟩,⟨by (try simp only [hl6_2]);(try simp only [hl6_3]);(with_reducible repeat (first|apply Kd.bW_|apply Kd.bV_|apply Kd.bP_));exact HO_7.o⟩,⟨zB HB.o⟩⟩
      ·rw [if_neg c18] at H;have c18b0:decide ((wrap64 (2 * a1))≤x8_2)=false:=decide_eq_false c18
       try simp only [hji8] at c18b0
       clear c18
       replace H:(if 0≤(ji8) then (if (ji8)≤(x6_2.length:Int) then ((Faj.f (x6_2.take ((ji8):Int).toNat)).bind fun t214=>(if t214.length+l0.length<140737488355328 then (some ((t214++l0),true)) else (none))) else (none)) else (none))=some (r1,r2):=by first|(rw [hji8] at H;exact H)|(simp only [hji8] at H ⊢;exact H)
       (try rw [hji8] at c18b0)
       obtain ⟨c33,H⟩:=it_ H;have c33b0:=eq_true c33;have c33b1:=decide_eq_true c33;clear c33
       obtain ⟨c34,H⟩:=it_ H;have c34b0:=eq_true c34;have c34b1:=decide_eq_true c34
       try simp only [hl6_2] at c34b1
       clear c34;(try rw [Option.bind_some] at H);generalize hy210:(x6_2.take ((ji8):Int).toNat)=y210 at H;have Ny210:=am hy210.symm;clear hy210;obtain ⟨t214,A35,H⟩:=bi_ H
       obtain ⟨c36,H⟩:=it_ H;have LMc36:=am c36;clear c36;obtain ⟨y217,hy217⟩:∃ y_:List Int,y_=(t214++l0):=⟨_,rfl⟩
       replace H:(some (y217,true))=some (r1,r2):=by first|(rw [hy217];exact H)|(have H2_:=(Option.bind_some _ _).symm.trans H;first|exact H2_|(rw [hy217];exact H2_))|exact H
       have Ny217:=am hy217;clear hy217
       simp only [Option.some.injEq,Prod.mk.injEq] at H
       obtain ⟨rfl,rfl⟩:=H;have q37:((ji8):Int)≤((x6_2.length:Int):Int):=od_;obtain ⟨i037,hi037,_,hsz37,_⟩:=info_parts info5;have hroom37:x6_2.length≤co17:=(Kd.bj_ HO_6.o).2.1;have hC37:Kd.C (Kd.int .u8) _ Ao17 x6_2.length x6_2:=(Kd.bj_ HO_6.o).2.2;have hcut37:=cut_to (P:=Try.prog) 22 5 .i64 Try.underlying22 hi037 Ao17 x6_2.length co17 (ji8) (od_) q37 hroom37;have hr37:=Kd.C_take (m:=((ji8):Int).toNat) hC37 (by omega)
       have hy37:y210.length=((ji8):Int).toNat:=(by rw [Ny210.o,List.length_take];omega)
       rw [← Ny210.o] at hr37;rw [← hy37] at hcut37;have HR213:=am hr37;have HC213:=am (show y210.length≤co17 from by omega);clear hr37 hC37 hroom37 hi037 hsz37;have KY37:=am hy37;clear hy37;have KL37:=am (show ((ji8):Int).toNat≤x6_2.length from by omega);replace q37:=eq_true q37
       go_wp2_with (first|((with_reducible refine bf_ (f:=49) rfl ?_);refine goesL_ (some 70) rfl rfl Try.func49 (by kernel_rfl) rfl #[.slice Ao17 y210.length co17] rfl (by (try simp only [List.map_toArray,List.map_cons,List.map_nil]);first|done|rfl|(simp only [List.length_drop,List.length_take];rfl)) ?_;(with_reducible refine (Faj.calls _ _ y210 t214 _ ?side1 ?side2 A35.o).mono ?_);(case side1=>repeat (first|exact (by repeat (first|(with_reducible exact HR213.o)|(with_reducible refine Kd.cJ_ ?_ _)|(with_reducible refine Kd.cI_ ?_ _)|(with_reducible refine Kd.cW_ ?_)|exact HR213.o))|(with_reducible refine Kd.cJ_ ?_ _)|(with_reducible refine Kd.cI_ ?_ _)|(with_reducible refine Kd.cW_ ?_)));(case side2=>exact HC213.o);rintro e w38 ⟨v215,rfl,ho0,hb⟩;refine ⟨_,rfl,?_⟩;have n0_:=ba_.mk (Kd.bC_ (by (with_reducible repeat (first|apply Kd.bW_|apply Kd.bV_|apply Kd.bP_));exact HO_6.o) (Kd.bt_ ho0) hb);have n1_:=ba_.mk (Kd.bC_ (by (with_reducible repeat (first|apply Kd.bW_|apply Kd.bV_|apply Kd.bP_));exact HO_7.o) (Kd.bt_ ho0) hb);have n2_:=ba_.mk (Kd.bx_ (Kd.bX_ (Kd.bX_ ho0 (Kd.R_lt (by (with_reducible repeat (first|apply Kd.bW_|apply Kd.bV_|apply Kd.bP_));exact HO_6.o))) (Kd.R_lt (by (with_reducible repeat (first|apply Kd.bW_|apply Kd.bV_|apply Kd.bP_));exact HO_7.o))) (bN_ (by repeat (first|(with_reducible first|exact HB.o|apply bk_|apply be_|apply bg_)|exact HB.o))));have n3_:=ba_.mk (Kd.bH_ (by repeat (first|(with_reducible exact HR213.o)|(with_reducible refine Kd.cJ_ ?_ _)|(with_reducible refine Kd.cI_ ?_ _)|(with_reducible refine Kd.cW_ ?_)|exact HR213.o)) hb);have n4_:=ba_.mk (bh_ (by repeat (first|(with_reducible first|exact HB.o|apply bk_|apply be_|apply bg_)|exact HB.o)) hb);clear HO_6;clear HO_7;clear HR213;clear HB;have HO_6:=n0_;have HO_7:=n1_;have HO216:=n2_;have HR213:=n3_;have HB:=n4_;clear n0_ n1_ n2_ n3_ n4_;(try clear hb);(try clear hb2);(try clear hk);(try clear hi);(try clear ho0))|((with_reducible refine bE_ (b:=.append) (xs:=#[.tmp 70,.tmp 71]) rfl ?_);(try (refine bM_ (by rfl) ?_;dsimp only));at_builtin;refine Kd.cm_ (Kd.int .u8) (w0:=w) w.heap.size rfl (.tmp 70) (.tmp 71) 22 5 (.int .u8 0) 1 rfl Try.underlying22 info5 rfl (by decide) (by omega) v215 t214 l0 _ _ _ (fun k_=>some k_≠(.slice Ao17 x6_2.length co17:Value).ownBlock∧some k_≠(v208:Value).ownBlock) (fun _=>False) rfl rfl ?aO ?aR (fun _ _ h=>h) (fun _ h=>h.elim) ?aF ?aB ?aS ?aL ?_;(case aR=>repeat (first|exact (Kd.bH_ HR0.o HB.o)|(with_reducible refine Kd.cJ_ ?_ _)|(with_reducible refine Kd.cI_ ?_ _)|(with_reducible refine Kd.cW_ ?_)));(case aB=>exact (by repeat (first|(with_reducible first|exact HB.o|apply bk_|apply be_|apply bg_)|exact HB.o)));(case aF=>exact (fun k_ hk=>⟨Kd.fresh' (Kd.R_lt (by (with_reducible repeat (first|apply Kd.bW_|apply Kd.bV_|apply Kd.bP_));exact HO_6.o)) k_ hk,Kd.fresh' (Kd.R_lt (by (with_reducible repeat (first|apply Kd.bW_|apply Kd.bV_|apply Kd.bP_));exact HO_7.o)) k_ hk⟩));(case aO=>exact (by (with_reducible repeat (first|apply Kd.bW_|apply Kd.bV_|apply Kd.bP_));exact Kd.bq_ HO216.o (fun _ hk=>⟨hk.1.2,hk.2⟩)));(case aS=>exact (bN_ (by repeat (first|(with_reducible first|exact HB.o|apply bk_|apply be_|apply bg_)|exact HB.o))));(case aL=>have:=LMc36.o;omega);intro v218 w39 ho hb hg hat;rw [← Ny217.o] at ho;have n0_:=ba_.mk (Kd.dy_ (ok:=(fun k_=>some k_≠(v208:Value).ownBlock)) (by (with_reducible repeat (first|apply Kd.bW_|apply Kd.bV_|apply Kd.bP_));exact HO_6.o) hg hat);have n1_:=ba_.mk (Kd.dy_ (ok:=(fun k_=>some k_≠(.slice Ao17 x6_2.length co17:Value).ownBlock)) (by (with_reducible repeat (first|apply Kd.bW_|apply Kd.bV_|apply Kd.bP_));exact HO_7.o) hg hat);have n2_:=ba_.mk (hb);have n3_:=ba_.mk ((show Kd.C (Kd.int .u8) w39 Ao17 y210.length y210 from by rw [Ny210.o];exact Kd.C_take (m:=((ji8):Int).toNat) ((Kd.bj_ (Kd.dy_ (ok:=(fun k_=>some k_≠(v208:Value).ownBlock)) (by (with_reducible repeat (first|apply Kd.bW_|apply Kd.bV_|apply Kd.bP_));exact HO_6.o) hg hat)).2.2) KL37.o));have n4_:=ba_.mk (ho);clear HO_6;clear HO_7;clear HB;clear HR213;clear HO216;have HO_6:=n0_;have HO_7:=n1_;have HB:=n2_;have HR213:=n3_;have HO219:=n4_;clear n0_ n1_ n2_ n3_ n4_;clear ho hb hg hat))
       go_ret2
       exact ⟨_,by first|rfl|(simp [errW_none,errW_some] <;> rfl)|(simp only [← hji8,← hji8];first|rfl|(simp [errW_none,errW_some] <;> rfl))|(simp [*,errW_none,errW_some] <;> rfl),zR (Kd.bq_ HO219.o (fun _ hk=>trivial)),zB HB.o⟩

/-! ### impl_DataOf: function 25 -/
def Fbm.f (k:Nat) (l0:List Int) (a1:Int):Option (List Int × Bool):=(Fah.f l0 a1).bind fun t225=>(if t225=true then ((Fad.f k l0 a1).bind fun t226=>(if t226=true then (if 0≤(wrap64 (2 * a1)) then (if (wrap64 (2 * a1))≤(l0.length:Int) then ((Faj.f (l0.drop ((wrap64 (2 * a1)):Int).toNat)).bind fun t228=>(some (t228,true))) else (none)) else (none)) else (some (([]:List Int),false)))) else (some (([]:List Int),false)))
set_option maxHeartbeats 8000000 in
set_option maxRecDepth 100000 in
theorem Fbm.calls (k:Nat) (A0:Option Addr) (c0:Nat) (l0:List Int) (a1:Int) (r1:List Int) (r2:Bool) (w:World) (hr0:Kd.C (Kd.int .u8) w A0 l0.length l0) (hc0:l0.length≤c0) (h:Fbm.f k l0 a1=some (r1,r2)) :
  Calls Try.prog 25 #[.slice A0 l0.length c0,.int .i64 a1] w fun e w'=>∃ v0_:Value,e = .returned (.tuple #[v0_,.bool r2])∧Kd.R (Kd.int .u8) 5 w' w.heap.size (fun _=>True) v0_ r1∧Below w.heap.size w w':=by
 have HR0:=am hr0;have HC0:=am hc0;clear hr0 hc0;have HB:=am (Below.refl w.heap.size w);have H:((Fah.f l0 a1).bind fun t225=>(if t225=true then ((Fad.f k l0 a1).bind fun t226=>(if t226=true then (if 0≤(wrap64 (2 * a1)) then (if (wrap64 (2 * a1))≤(l0.length:Int) then ((Faj.f (l0.drop ((wrap64 (2 * a1)):Int).toNat)).bind fun t228=>(some (t228,true))) else (none)) else (none)) else (some (([]:List Int),false)))) else (some (([]:List Int),false))))=some (r1,r2):=h;clear h;obtain ⟨t225,A3,H⟩:=bi_ H
 by_cases c4:t225=true
 ·subst c4
  have H1:((Fad.f k l0 a1).bind fun t226=>(if t226=true then (if 0≤(wrap64 (2 * a1)) then (if (wrap64 (2 * a1))≤(l0.length:Int) then ((Faj.f (l0.drop ((wrap64 (2 * a1)):Int).toNat)).bind fun t228=>(some (t228,true))) else (none)) else (none)) else (some (([]:List Int),false))))=some (r1,r2):=by rw [if_pos rfl] at H;exact H
  clear H;have H:=H1;clear H1;obtain ⟨t226,A5,H⟩:=bi_ H
  by_cases c6:t226=true
  ·subst c6
   have H1:(if 0≤(wrap64 (2 * a1)) then (if (wrap64 (2 * a1))≤(l0.length:Int) then ((Faj.f (l0.drop ((wrap64 (2 * a1)):Int).toNat)).bind fun t228=>(some (t228,true))) else (none)) else (none))=some (r1,r2):=by rw [if_pos rfl] at H;exact H
   clear H;have H:=H1;clear H1;obtain ⟨ji7,hji7⟩:∃ j_:Int,(wrap64 (2 * a1))=j_:=⟨_,rfl⟩
   replace H:(if 0≤(ji7) then (if (ji7)≤(l0.length:Int) then ((Faj.f (l0.drop ((ji7):Int).toNat)).bind fun t228=>(some (t228,true))) else (none)) else (none))=some (r1,r2):=by first|(rw [hji7] at H;exact H)|(simp only [hji7] at H ⊢;exact H)
   (try rw [hji7] at A3)
   (try rw [hji7] at A5)
   have hji7w:(IntKind.i64.wrap (2 * a1))=ji7:=(bI_ _).trans hji7
   obtain ⟨c8,H⟩:=it_ H;have c8b0:=eq_true c8;have c8b1:=decide_eq_true c8;clear c8
   obtain ⟨c9,H⟩:=it_ H;have c9b0:=eq_true c9;have c9b1:=decide_eq_true c9;clear c9;obtain ⟨t228,A10,H⟩:=bi_ H
   simp only [Option.some.injEq,Prod.mk.injEq] at H
   obtain ⟨rfl,rfl⟩:=H
   go_enter Try.func25,Try.ntmps25
   go_wp2_with (first|((with_reducible refine bf_ (f:=42) rfl ?_);refine goL_ (some 8) Try.func42 #[.slice A0 l0.length c0,.int .i64 a1] ?_;(with_reducible refine (Fah.calls _ _ l0 a1 true _ ?side1 ?side2 A3.o).mono ?_);(case side1=>exact zC HR0.o);(case side2=>exact HC0.o);rintro e w' ⟨rfl,⟨nd,rfl⟩⟩;refine ⟨_,rfl,?_⟩)|(go_at_call 45;(with_reducible refine (Fad.calls k _ _ l0 a1 true _ ?side1 ?side2 A5.o).mono ?_);(case side1=>exact zC HR0.o);(case side2=>exact HC0.o);rintro e w11 ⟨rfl,hb⟩;replace HB:=am (bh_ (zB HB.o) hb);(try clear hb);(try clear hb2);(try clear hk);(try clear hi);obtain ⟨i012,hi012,_,hsz12,_⟩:=info_parts info5;obtain ⟨A12,hcut12,hA12,hC12⟩:=print_drop_of (P:=Try.prog) (Value.int .u8) 0 22 5 .i64 Try.underlying22 hi012 hsz12 A0 c0 l0 (ji7) (od_) (od_) HC0.o;have HR227:=am (Kd.C_of_reads (h1:=fun _=>rfl) (hA12 _ (Kd.reads_of_C HR0.o)));have HC227:=am hC12;clear hA12 hC12 hi012 hsz12)|((with_reducible refine bf_ (f:=49) rfl ?_);refine goesL_ (some 20) rfl rfl Try.func49 (by kernel_rfl) rfl #[.slice A12 (l0.drop ((ji7):Int).toNat).length (c0 - (ji7).toNat)] rfl (by (try simp only [List.map_toArray,List.map_cons,List.map_nil]);first|done|(rw [show (l0.drop ((ji7):Int).toNat).length=(l0.length - (ji7).toNat) from List.length_drop] <;> rfl)|(simp only [hji7];rfl)|rfl|(simp only [List.length_drop,List.length_take];rfl)) ?_;(with_reducible refine (Faj.calls _ _ (l0.drop ((ji7):Int).toNat) t228 _ ?side1 ?side2 A10.o).mono ?_);(case side1=>exact zC (Kd.bH_ HR227.o HB.o));(case side2=>exact HC227.o);rintro e w13 ⟨v229,rfl,ho0,hb⟩;refine ⟨_,rfl,?_⟩;have HO230:=am (Kd.bx_ ho0 (zs_ HB.o));replace HB:=am (bh_ (zB HB.o) hb);(try clear hb);(try clear ho0)))
   go_ret2
   exact ⟨_,by first|rfl|(simp [errW_none,errW_some] <;> rfl)|(simp only [← hji7];first|rfl|(simp [errW_none,errW_some] <;> rfl))|(simp [*,errW_none,errW_some] <;> rfl),zR HO230.o,zB HB.o⟩
  ·replace c6:=Bool.eq_false_iff.mpr c6
   subst c6
   have H1:(some (([]:List Int),false))=some (r1,r2):=by rw [if_neg (show ¬ (false=true) by decide)] at H;exact H
   clear H;have H:=H1;clear H1
   simp only [Option.some.injEq,Prod.mk.injEq] at H
   obtain ⟨rfl,rfl⟩:=H
   go_enter Try.func25,Try.ntmps25
   go_wp2_with (first|((with_reducible refine bf_ (f:=42) rfl ?_);refine goL_ (some 8) Try.func42 #[.slice A0 l0.length c0,.int .i64 a1] ?_;(with_reducible refine (Fah.calls _ _ l0 a1 true _ ?side1 ?side2 A3.o).mono ?_);(case side1=>exact zC HR0.o);(case side2=>exact HC0.o);rintro e w' ⟨rfl,⟨nd,rfl⟩⟩;refine ⟨_,rfl,?_⟩)|(go_at_call 45;(with_reducible refine (Fad.calls k _ _ l0 a1 false _ ?side1 ?side2 A5.o).mono ?_);(case side1=>exact zC HR0.o);(case side2=>exact HC0.o);rintro e w14 ⟨rfl,hb⟩;replace HB:=am (bh_ (zB HB.o) hb);(try clear hb);(try clear hb2);(try clear hk);(try clear hi)))
   go_ret2
   exact ⟨_,rfl,by first|apply Kd.di_|apply Kd.N_nil|apply Kd.V_nil|apply Kd.Q_nil|apply Kd.S_nil,zB HB.o⟩
 ·replace c4:=Bool.eq_false_iff.mpr c4
  subst c4
  have H1:(some (([]:List Int),false))=some (r1,r2):=by rw [if_neg (show ¬ (false=true) by decide)] at H;exact H
  clear H;have H:=H1;clear H1
  simp only [Option.some.injEq,Prod.mk.injEq] at H
  obtain ⟨rfl,rfl⟩:=H
  go_enter Try.func25,Try.ntmps25
  go_wp2_with (first|((with_reducible refine bf_ (f:=42) rfl ?_);refine goL_ (some 8) Try.func42 #[.slice A0 l0.length c0,.int .i64 a1] ?_;(with_reducible refine (Fah.calls _ _ l0 a1 false _ ?side1 ?side2 A3.o).mono ?_);(case side1=>exact zC HR0.o);(case side2=>exact HC0.o);rintro e w' ⟨rfl,⟨nd,rfl⟩⟩;refine ⟨_,rfl,?_⟩))
  go_ret2
  exact ⟨_,rfl,by first|apply Kd.di_|apply Kd.N_nil|apply Kd.V_nil|apply Kd.Q_nil|apply Kd.S_nil,zB HB.o⟩

/-! ### spec_l8Fits: function 40 -/
def Fbe.f (l0:List Int) (a1:Int):Option (Bool):=(Fav.f a1).bind fun t231=>(if t231=true then ((Fal.f (l0.length:Int) (wrap64 ((wrap64 (2 * a1))+1)) 24).bind fun t232=>(some t232)) else (some false))
set_option maxHeartbeats 8000000 in
set_option maxRecDepth 100000 in
theorem Fbe.calls (A0:Option Addr) (c0:Nat) (l0:List Int) (a1:Int) (r:Bool) (w:World) (hr0:Kd.C (Kd.int .u8) w A0 l0.length l0) (hc0:l0.length≤c0) (h:Fbe.f l0 a1=some r) :
  Calls Try.prog 40 #[.slice A0 l0.length c0,.int .i64 a1] w fun e w'=>e = .returned (.bool r)∧bp_ w w':=by
 have HR0:=am hr0;have HC0:=am hc0;clear hr0 hc0;have H:((Fav.f a1).bind fun t231=>(if t231=true then ((Fal.f (l0.length:Int) (wrap64 ((wrap64 (2 * a1))+1)) 24).bind fun t232=>(some t232)) else (some false)))=some r:=h;clear h;obtain ⟨t231,A3,H⟩:=bi_ H
 by_cases c4:t231=true
 ·subst c4
  have H1:((Fal.f (l0.length:Int) (wrap64 ((wrap64 (2 * a1))+1)) 24).bind fun t232=>(some t232))=some r:=by rw [if_pos rfl] at H;exact H
  clear H;have H:=H1;clear H1;obtain ⟨t232,A5,H⟩:=bi_ H;obtain rfl:=Option.some.inj H
  go_enter Try.func40,Try.ntmps40
  go_wp2_with (first|((with_reducible refine bf_ (f:=36) rfl ?_);refine goL_ (some 6) Try.func36 #[.int .i64 a1] ?_;(with_reducible refine (Fav.calls a1 true _ A3.o).mono ?_);rintro e w' ⟨rfl,⟨nd,rfl⟩⟩;refine ⟨_,rfl,?_⟩)|(go_at_call 69;(with_reducible refine (Fal.calls (l0.length:Int) (wrap64 ((wrap64 (2 * a1))+1)) 24 t232 _ A5.o).mono ?_);rintro e w' ⟨rfl,⟨nd,rfl⟩⟩))
  go_ret
  exact ⟨by first|rfl|(simp;done)|(simp [*];done),by repeat (first|exact bp_.refl _|apply bp_.step)⟩
 ·replace c4:=Bool.eq_false_iff.mpr c4
  subst c4
  have H1:(some false)=some r:=by rw [if_neg (show ¬ (false=true) by decide)] at H;exact H
  clear H;have H:=H1;clear H1;obtain rfl:=Option.some.inj H
  go_enter Try.func40,Try.ntmps40
  go_wp2_with (first|((with_reducible refine bf_ (f:=36) rfl ?_);refine goL_ (some 6) Try.func36 #[.int .i64 a1] ?_;(with_reducible refine (Fav.calls a1 false _ A3.o).mono ?_);rintro e w' ⟨rfl,⟨nd,rfl⟩⟩;refine ⟨_,rfl,?_⟩))
  go_ret
  exact ⟨by first|rfl|(simp;done)|(simp [*];done),by repeat (first|exact bp_.refl _|apply bp_.step)⟩

/-! ### spec_l7At: function 52 -/
def Fau.l0:Nat→List Int→Int→Int→Int→Option (Int)
 | 0,_,_,_,_=>none
 | k+1,x0,x1,x5,x6=>if x6 ≥ 0 then ((Fi.f k x5 x1).bind fun t233=>(if 0≤x6 then (if x6<(x0.length:Int) then (Fau.l0 k x0 x1 (Go.bits .xor .u8 t233 (rd x0 x6)) (wrap64 (x6 - 1))) else (none)) else (none))) else (some x5)
def Fau.f (k:Nat) (l0:List Int) (a1:Int):Option (Int):=Fau.l0 k l0 a1 0 (wrap64 ((l0.length:Int) - 1))
set_option maxHeartbeats 8000000 in
set_option maxRecDepth 100000 in
theorem Fau.calls (k:Nat) (A0:Option Addr) (c0:Nat) (l0:List Int) (a1:Int) (r:Int) (w:World) (hr0:Kd.C (Kd.int .u8) w A0 l0.length l0) (hc0:l0.length≤c0) (h:Fau.f k l0 a1=some r) :
  Calls Try.prog 52 #[.slice A0 l0.length c0,.int .u8 a1] w fun e w'=>e = .returned (.int .u8 r)∧bp_ w w':=by
 have HR0:=am hr0;have HC0:=am hc0;clear hr0 hc0;have H:(Fau.l0 k l0 a1 0 (wrap64 ((l0.length:Int) - 1)))=some r:=h;clear h;have H':=am H;clear H
 go_enter Try.func52,Try.ntmps52
 go_wp2
 repeat (go_quiet (fail);try go_wp2)
 go_loopg [5,6] k (fun kq v5 v6 w'=>∃ (x5_1:Int) (x6_1:Int),v5 = .int .u8 x5_1∧v6 = .int .i64 x6_1∧ba_ (Fau.l0 kq l0 a1 x5_1 x6_1=some r)∧ba_ (kq≤k)∧bp_ w w')
 case atStart=>exact ⟨(0),(wrap64 ((l0.length:Int) - 1)),rfl,rfl,H',⟨Nat.le_refl _⟩,by repeat (first|exact bp_.refl _|apply bp_.step)⟩
 case round =>
  clear H';obtain ⟨x5_1,x6_1,rfl,rfl,HA,HK1,⟨m1,rfl⟩⟩:=hrel
  cases gk with
  | zero=>exact absurd HA.o (by simp [Fau.l0])
  | succ k1 =>
   have H:=HA.o;clear HA
   simp only [Fau.l0] at H
   by_cases c3:x6_1 ≥ 0
   ·rw [if_pos c3] at H;have c3b0:decide (0≤x6_1)=true:=decide_eq_true c3;clear c3;obtain ⟨t233,A4,H⟩:=bi_ H
    obtain ⟨c5,H⟩:=it_ H;have c5b0:=decide_eq_true c5;clear c5
    obtain ⟨c6,H⟩:=it_ H;have c6b0:=decide_eq_true c6;clear c6;have H':=am H;clear H
    go_wp2_with (first|(go_at_call 72;(with_reducible refine (Fi.calls k1 x5_1 a1 t233 _ A4.o).mono ?_);rintro e w' ⟨rfl,⟨nd,rfl⟩⟩;(try first|exact ⟨rfl,_,World.drewN_drewN _ _ _⟩|exact ⟨rfl,_,Eq.trans (World.drewN_drewN _ _ _) (congrArg (World.drewN _) (Nat.add_assoc _ _ _))⟩);have p234:0≤(x6_1:Int):=od_;have q234:x6_1<(l0.length:Int):=od_;obtain ⟨ad234,e234,hx234_0⟩:=Kd.bK_ HR0.o x6_1 p234 q234;cases e234;replace p234:=eq_true p234;replace q234:=eq_true q234))
    repeat (go_quiet (first|(go_at_call 72;(with_reducible refine (Fi.calls k1 x5_1 a1 t233 _ A4.o).mono ?_);rintro e w' ⟨rfl,⟨nd,rfl⟩⟩;(try first|exact ⟨rfl,_,World.drewN_drewN _ _ _⟩|exact ⟨rfl,_,Eq.trans (World.drewN_drewN _ _ _) (congrArg (World.drewN _) (Nat.add_assoc _ _ _))⟩);have p234:0≤(x6_1:Int):=od_;have q234:x6_1<(l0.length:Int):=od_;obtain ⟨ad234,e234,hx234_0⟩:=Kd.bK_ HR0.o x6_1 p234 q234;cases e234;replace p234:=eq_true p234;replace q234:=eq_true q234));try go_wp2_with (first|(go_at_call 72;(with_reducible refine (Fi.calls k1 x5_1 a1 t233 _ A4.o).mono ?_);rintro e w' ⟨rfl,⟨nd,rfl⟩⟩;(try first|exact ⟨rfl,_,World.drewN_drewN _ _ _⟩|exact ⟨rfl,_,Eq.trans (World.drewN_drewN _ _ _) (congrArg (World.drewN _) (Nat.add_assoc _ _ _))⟩);have p234:0≤(x6_1:Int):=od_;have q234:x6_1<(l0.length:Int):=od_;obtain ⟨ad234,e234,hx234_0⟩:=Kd.bK_ HR0.o x6_1 p234 q234;cases e234;replace p234:=eq_true p234;replace q234:=eq_true q234)))
    go_roundg k1
    case measure=>have:=HK1.o;omega
    case rel=>exact ⟨(Go.bits .xor .u8 t233 (rd l0 x6_1)),(wrap64 (x6_1 - 1)),rfl,rfl,H',⟨by have:=HK1.o;omega⟩,by repeat (first|exact bp_.refl _|apply bp_.step)⟩
   ·rw [if_neg c3] at H;have c3b0:decide (0≤x6_1)=false:=decide_eq_false c3;clear c3;obtain rfl:=Option.some.inj H
    go_wp2
    repeat (go_quiet (fail);try go_wp2)
    go_ret
    exact ⟨by first|rfl|(simp;done)|(simp [*];done),by repeat (first|exact bp_.refl _|apply bp_.step)⟩

end Go.Proofs.Ytbloniemhkfnlaa.PFnCorrected
