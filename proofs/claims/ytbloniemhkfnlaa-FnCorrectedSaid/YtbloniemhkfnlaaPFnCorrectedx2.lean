/- A law's functions as plain Lean functions, each with the walk that shows that the code computes it: written by this session's program wip/tools/ppmake.py. -/
import Derived.Test.YtbloniemhkfnlaaKZ
import Derived.Test.YtbloniemhkfnlaaPFnCorrectedx0
import Derived.Test.YtbloniemhkfnlaaPFnCorrectedx1
namespace Go.Proofs.Ytbloniemhkfnlaa.PFnCorrected
open Go.RowKit Go.Proofs.YtbloniemhkfnlaaW.PrintWords Go.Proofs.YtbloniemhkfnlaaW.PrintLast Go.Proofs.YtbloniemhkfnlaaW.PrintMore
attribute [local go_sem] cw_ cy_ cK_ cL_ ci_ ch_ cx_ cv_   -- for this text's walks alone
set_option linter.unusedVariables false
set_option linter.unusedSimpArgs false

/-! ### impl_syndromes: function 43 -/
def Fx.l0:Nat→List Int→Int→List Int→Int→Option (List Int)
 | 0,_,_,_,_=>none
 | k+1,x0,x1,x5,x6=>if x6≤(wrap64 (2 * x1)) then ((Fj.f k 3 x6).bind fun t130=>((Fas.f k x0 t130).bind fun t131=>(if x5.length<140737488355328 then (Fx.l0 k x0 x1 (x5++[t131]) (wrap64 (x6+1))) else (none)))) else (some x5)
def Fx.f (k:Nat) (l0:List Int) (a1:Int):Option (List Int):=Fx.l0 k l0 a1 (([]:List Int)) 1
set_option maxHeartbeats 8000000 in
set_option maxRecDepth 100000 in
theorem Fx.calls (k:Nat) (A0:Option Addr) (c0:Nat) (l0:List Int) (a1:Int) (r:List Int) (w:World) (hr0:Kd.C (Kd.int .u8) w A0 l0.length l0) (hc0:l0.length≤c0) (h:Fx.f k l0 a1=some r) :
  Calls Try.prog 43 #[.slice A0 l0.length c0,.int .i64 a1] w fun e w'=>∃ v0_:Value,e = .returned (v0_)∧Kd.R (Kd.int .u8) 5 w' w.heap.size (fun _=>True) v0_ r∧Below w.heap.size w w':=by
 have HR0:=am hr0;have HC0:=am hc0;clear hr0 hc0;have HB:=am (Below.refl w.heap.size w);have H:(Fx.l0 k l0 a1 (([]:List Int)) 1)=some r:=h;clear h;obtain ⟨y127,hy127⟩:∃ y_:List Int,y_=(([]:List Int)):=⟨_,rfl⟩
 replace H:(Fx.l0 k l0 a1 y127 1)=some r:=by first|(rw [hy127];exact H)|(have H2_:=(Option.bind_some _ _).symm.trans H;first|exact H2_|(rw [hy127];exact H2_))|exact H
 have Ny127:=am hy127;clear hy127;have H':=am H;clear H
 go_enter Try.func43,Try.ntmps43
 go_wp2_with (first|((with_reducible refine bB_ (N:=7) rfl ?_);refine Kd.R_lit (Kd.int .u8) _ 5 ?hg (N:=7) ?hd (xs:=([]:List Int)) (inner:=[]) (ok:=fun _=>True) (okp:=fun _=>True) ?hr ?hp (fun _ hk=>hk) trivial (Below.refl _ _) (Nat.le_refl _) (by simp) ?_;(case hd=>rfl);(case hg=>rfl);(case hr=>first|(go_simp;done)|(go_simp;rfl));(case hp=>exact (Reps.none _ _));intro v128 w3 ho4 hb hg_ hnew_;clear hg_ hnew_;(first|rw [← Ny127.o] at ho4|(simp only [Int.reduceToNat] at ho4;rw [← Ny127.o] at ho4));have HO129:=am (Kd.bx_ ho4 (zs_ HB.o));replace HB:=am (bh_ (zB HB.o) hb);clear hb ho4))
 go_loopg [5,6] k (fun kq v5 v6 w'=>∃ (x5_1:List Int) (x6_1:Int),v6 = .int .i64 x6_1∧ba_ (Fx.l0 kq l0 a1 x5_1 x6_1=some r)∧ba_ (kq≤k)∧ba_ (Kd.R (Kd.int .u8) 5 w' w.heap.size (fun _=>True) v5 x5_1)∧ba_ (Below w.heap.size w w'))
 case atStart=>exact ⟨(y127),(1),rfl,H',⟨Nat.le_refl _⟩,⟨zR HO129.o⟩,⟨zB HB.o⟩⟩
 case round =>
  clear H';obtain ⟨x5_1,x6_1,rfl,HA,HK1,HO_5,HB⟩:=hrel
  cases gk with
  | zero=>exact absurd HA.o (by simp [Fx.l0])
  | succ k1 =>
   have H:=HA.o;clear HA
   simp only [Fx.l0] at H
   by_cases c5:x6_1≤(wrap64 (2 * a1))
   ·rw [if_pos c5] at H;have c5b0:=decide_eq_true c5;clear c5;obtain ⟨t130,A6,H⟩:=bi_ H;obtain ⟨t131,A7,H⟩:=bi_ H
    obtain ⟨c8,H⟩:=it_ H;have LMc8:=am c8;clear c8;obtain ⟨y132,hy132⟩:∃ y_:List Int,y_=(x5_1++[t131]):=⟨_,rfl⟩
    replace H:(Fx.l0 k1 l0 a1 y132 (wrap64 (x6_1+1)))=some r:=by first|(rw [hy132];exact H)|(have H2_:=(Option.bind_some _ _).symm.trans H;first|exact H2_|(rw [hy132];exact H2_))|exact H
    have Ny132:=am hy132;clear hy132;have H':=am H;clear H
    go_wp2_with (first|((with_reducible refine bf_ (f:=59) rfl ?_);refine goL_ (some 17) Try.func59 #[.int .u8 3,.int .i64 x6_1] ?_;(with_reducible refine (Fj.calls k1 3 x6_1 t130 _ A6.o).mono ?_);rintro e w' ⟨rfl,⟨nd,rfl⟩⟩;refine ⟨_,rfl,?_⟩)|((with_reducible refine bf_ (f:=57) rfl ?_);refine goL_ (some 18) Try.func57 #[.slice A0 l0.length c0,.int .u8 t130] ?_;(with_reducible refine (Fas.calls k1 _ _ l0 t130 t131 _ ?side1 ?side2 A7.o).mono ?_);(case side1=>exact zC (Kd.bH_ HR0.o HB.o));(case side2=>exact HC0.o);rintro e w' ⟨rfl,⟨nd,rfl⟩⟩;refine ⟨_,rfl,?_⟩)|((with_reducible refine bE_ (b:=.append) (xs:=#[.tmp 14,.tmp 19]) rfl ?_);at_builtin;refine Kd.cY_ (Kd.int .u8) (w0:=w) w.heap.size rfl (.tmp 14) (.tmp 19) 22 5 (.int .u8 0) 1 rfl Try.underlying22 info5 rfl (by decide) (by omega) u5 x5_1 t131 [.int .u8 t131] (fun _=>True) (fun _=>False) rfl rfl ?aP (fun _ hk=>hk.elim) ?aF ?aO ?aB ?aS ?aL ?_;(case aP=>exact rfl);(case aB=>exact (zB HB.o));(case aF=>exact (fun _ _=>trivial));(case aO=>exact (zR HO_5.o));(case aS=>exact (zs_ HB.o));(case aL=>have:=LMc8.o;omega);intro v133 w9 ho hb hg hat;rw [← Ny132.o] at ho;replace HB:=am (hb);have HO134:=am (ho);(try clear HO_5);clear ho hb hg hat))
    go_roundg k1
    case measure=>have:=HK1.o;omega
    case rel=>exact ⟨(y132),(wrap64 (x6_1+1)),rfl,H',⟨by have:=HK1.o;omega⟩,⟨zR HO134.o⟩,⟨zB HB.o⟩⟩
   ·rw [if_neg c5] at H;have c5b0:=decide_eq_false c5;clear c5;obtain rfl:=Option.some.inj H
    go_wp2
    go_ret
    exact ⟨_,rfl,zR HO_5.o,zB HB.o⟩

/-! ### slices_Max_byte_byte: function 71 -/
def Faw.l0:Nat→List Int→Int→Int→Option (Int)
 | 0,_,_,_=>none
 | k+1,x0,x3,x4=>if x4<(x0.length:Int) then (if 0≤x4 then (Faw.l0 k x0 (mx x3 (rd x0 x4)) (wrap64 (x4+1))) else (none)) else (some x3)
def Faw.f (k:Nat) (l0:List Int):Option (Int):=if 0<(l0.length:Int) then (Faw.l0 k l0 (rd l0 0) 1) else (none)
set_option maxHeartbeats 8000000 in
set_option maxRecDepth 100000 in
theorem Faw.calls (k:Nat) (A0:Option Addr) (c0:Nat) (l0:List Int) (r:Int) (w:World) (hr0:Kd.C (Kd.int .u8) w A0 l0.length l0) (hc0:l0.length≤c0) (h:Faw.f k l0=some r) :
  Calls Try.prog 71 #[.slice A0 l0.length c0] w fun e w'=>e = .returned (.int .u8 r)∧Below w.heap.size w w':=by
 have HR0:=am hr0;have HC0:=am hc0;clear hr0 hc0;have HB:=am (Below.refl w.heap.size w);have H:(if 0<(l0.length:Int) then (Faw.l0 k l0 (rd l0 0) 1) else (none))=some r:=h;clear h
 obtain ⟨c2,H⟩:=it_ H;have qm_:decide ((l0.length:Int)<1)=false:=decide_eq_false (by omega);have c2b0:=decide_eq_true c2;have c2b1:decide (0<l0.length)=true:=decide_eq_true (by omega);clear c2;have H':=am H;clear H;have p135:0≤(0:Int):=(by omega);have q135:0<(l0.length:Int):=od_;obtain ⟨ad135,e135,hx135_0⟩:=Kd.bK_ HR0.o 0 p135 q135;cases e135;have qi135:(0<l0.length)=True:=eq_true (by omega)
 (try rw [show ((0:Int)).toNat=0 from rfl] at hx135_0)
 (try rw [Addr.add_zero'] at hx135_0)
 replace p135:=eq_true p135;replace q135:=eq_true q135
 go_enter Try.func71,Try.ntmps71
 go_wp2
 go_loopg [3,4] k (fun kq v3 v4 w'=>∃ (x3_1:Int) (x4_1:Int),v3 = .int .u8 x3_1∧v4 = .int .i64 x4_1∧ba_ (Faw.l0 kq l0 x3_1 x4_1=some r)∧ba_ (kq≤k)∧ba_ (Below w.heap.size w w'))
 case atStart=>exact ⟨(rd l0 0),(1),rfl,rfl,H',⟨Nat.le_refl _⟩,⟨zB HB.o⟩⟩
 case round =>
  clear H';obtain ⟨x3_1,x4_1,rfl,rfl,HA,HK1,HB⟩:=hrel
  cases gk with
  | zero=>exact absurd HA.o (by simp [Faw.l0])
  | succ k1 =>
   have H:=HA.o;clear HA
   simp only [Faw.l0] at H
   by_cases c3:x4_1<(l0.length:Int)
   ·rw [if_pos c3] at H;have c3b0:=decide_eq_true c3;clear c3
    obtain ⟨c4,H⟩:=it_ H;have c4b0:=decide_eq_true c4;clear c4;obtain ⟨ji5,hji5⟩:∃ j_:Int,(mx x3_1 (rd l0 x4_1))=j_:=⟨_,rfl⟩
    replace H:(Faw.l0 k1 l0 ji5 (wrap64 (x4_1+1)))=some r:=by first|(rw [hji5] at H;exact H)|(simp only [hji5] at H ⊢;exact H)
    have hji5_:(if x3_1<(rd l0 x4_1) then (rd l0 x4_1) else x3_1)=ji5:=hji5;have H':=am H;clear H;have p136:0≤(x4_1:Int):=od_;have q136:x4_1<(l0.length:Int):=od_;obtain ⟨ad136,e136,hx136_0⟩:=Kd.bK_ HR0.o x4_1 p136 q136;obtain rfl:ad135=ad136:=(by injection e136);replace hx136_0:=(HB.o.cell (World.block_lt_of_cell? w _ hx136_0)).trans hx136_0;replace p136:=eq_true p136;replace q136:=eq_true q136
    go_wp2
    go_roundg k1
    case measure=>have:=HK1.o;omega
    case rel=>exact ⟨(ji5),(wrap64 (x4_1+1)),(by first|rfl|(simp;done)|(simp only [← hji5] <;> (first|rfl|simp))|(simp [*];done)),rfl,(by first|exact H'|(have H2_:=H';simp only [hji5] at H2_ ⊢;exact H2_)),⟨by have:=HK1.o;omega⟩,⟨zB HB.o⟩⟩
   ·rw [if_neg c3] at H;have c3b0:=decide_eq_false c3;clear c3;obtain rfl:=Option.some.inj H
    go_wp2
    go_ret
    exact ⟨rfl,zB HB.o⟩

/-! ### impl_isWord: function 45 -/
def Fad.f (k:Nat) (l0:List Int) (a1:Int):Option (Bool):=(Fx.f k l0 a1).bind fun t137=>((Faw.f k t137).bind fun t140=>(some (t140 == 0)))
set_option maxHeartbeats 8000000 in
set_option maxRecDepth 100000 in
theorem Fad.calls (k:Nat) (A0:Option Addr) (c0:Nat) (l0:List Int) (a1:Int) (r:Bool) (w:World) (hr0:Kd.C (Kd.int .u8) w A0 l0.length l0) (hc0:l0.length≤c0) (h:Fad.f k l0 a1=some r) :
  Calls Try.prog 45 #[.slice A0 l0.length c0,.int .i64 a1] w fun e w'=>e = .returned (.bool r)∧Below w.heap.size w w':=by
 have HR0:=am hr0;have HC0:=am hc0;clear hr0 hc0;have HB:=am (Below.refl w.heap.size w);have H:((Fx.f k l0 a1).bind fun t137=>((Faw.f k t137).bind fun t140=>(some (t140 == 0))))=some r:=h;clear h;obtain ⟨t137,A3,H⟩:=bi_ H;obtain ⟨t140,A4,H⟩:=bi_ H;obtain rfl:=Option.some.inj H
 go_enter Try.func45,Try.ntmps45
 go_wp2_with (first|((with_reducible refine bf_ (f:=43) rfl ?_);refine goL_ (some 7) Try.func43 #[.slice A0 l0.length c0,.int .i64 a1] ?_;(with_reducible refine (Fx.calls k _ _ l0 a1 t137 _ ?side1 ?side2 A3.o).mono ?_);(case side1=>exact zC HR0.o);(case side2=>exact HC0.o);rintro e w5 ⟨v138,rfl,ho0,hb⟩;refine ⟨_,rfl,?_⟩;have HO139:=am (Kd.bx_ ho0 (zs_ HB.o));replace HB:=am (bh_ (zB HB.o) hb);(try clear hb);(try clear ho0);obtain ⟨Ao6,co6,eo6⟩:=Kd.bv_ HO139.o;subst eo6)|((with_reducible refine bf_ (f:=71) rfl ?_);refine goL_ (some 8) Try.func71 #[.slice Ao6 t137.length co6] ?_;(with_reducible refine (Faw.calls k _ _ t137 t140 _ ?side1 ?side2 A4.o).mono ?_);(case side1=>exact zC ((Kd.bj_ HO139.o).2.2));(case side2=>exact (Kd.bj_ HO139.o).2.1);rintro e w7 ⟨rfl,hb⟩;refine ⟨_,rfl,?_⟩;replace HO139:=am (Kd.bQ_ (zR HO139.o) hb);replace HB:=am (bh_ (zB HB.o) hb);(try clear hb);(try clear hb2);(try clear hk);(try clear hi)))
 go_ret
 exact ⟨rfl,zB HB.o⟩

/-! ### impl_IsWord: function 21 -/
def Faz.f (k:Nat) (l0:List Int) (a1:Int):Option (Bool × Bool):=(Fah.f l0 a1).bind fun t141=>(if t141=true then ((Fad.f k l0 a1).bind fun t142=>(some (t142,true))) else (some (false,false)))
set_option maxHeartbeats 8000000 in
set_option maxRecDepth 100000 in
theorem Faz.calls (k:Nat) (A0:Option Addr) (c0:Nat) (l0:List Int) (a1:Int) (r1:Bool) (r2:Bool) (w:World) (hr0:Kd.C (Kd.int .u8) w A0 l0.length l0) (hc0:l0.length≤c0) (h:Faz.f k l0 a1=some (r1,r2)) :
  Calls Try.prog 21 #[.slice A0 l0.length c0,.int .i64 a1] w fun e w'=>e = .returned (.tuple #[.bool r1,.bool r2])∧Below w.heap.size w w':=by
 have HR0:=am hr0;have HC0:=am hc0;clear hr0 hc0;have HB:=am (Below.refl w.heap.size w);have H:((Fah.f l0 a1).bind fun t141=>(if t141=true then ((Fad.f k l0 a1).bind fun t142=>(some (t142,true))) else (some (false,false))))=some (r1,r2):=h;clear h;obtain ⟨t141,A3,H⟩:=bi_ H
 by_cases c4:t141=true
 ·subst c4
  have H1:((Fad.f k l0 a1).bind fun t142=>(some (t142,true)))=some (r1,r2):=by rw [if_pos rfl] at H;exact H
  clear H;have H:=H1;clear H1;obtain ⟨t142,A5,H⟩:=bi_ H
  simp only [Option.some.injEq,Prod.mk.injEq] at H
  obtain ⟨rfl,rfl⟩:=H
  go_enter Try.func21,Try.ntmps21
  go_wp2_with (first|((with_reducible refine bf_ (f:=42) rfl ?_);refine goL_ (some 8) Try.func42 #[.slice A0 l0.length c0,.int .i64 a1] ?_;(with_reducible refine (Fah.calls _ _ l0 a1 true _ ?side1 ?side2 A3.o).mono ?_);(case side1=>exact zC HR0.o);(case side2=>exact HC0.o);rintro e w' ⟨rfl,⟨nd,rfl⟩⟩;refine ⟨_,rfl,?_⟩)|((with_reducible refine bf_ (f:=45) rfl ?_);refine goL_ (some 12) Try.func45 #[.slice A0 l0.length c0,.int .i64 a1] ?_;(with_reducible refine (Fad.calls k _ _ l0 a1 t142 _ ?side1 ?side2 A5.o).mono ?_);(case side1=>exact zC HR0.o);(case side2=>exact HC0.o);rintro e w6 ⟨rfl,hb⟩;refine ⟨_,rfl,?_⟩;replace HB:=am (bh_ (zB HB.o) hb);(try clear hb);(try clear hb2);(try clear hk);(try clear hi)))
  go_ret2
  exact ⟨rfl,zB HB.o⟩
 ·replace c4:=Bool.eq_false_iff.mpr c4
  subst c4
  have H1:(some (false,false))=some (r1,r2):=by rw [if_neg (show ¬ (false=true) by decide)] at H;exact H
  clear H;have H:=H1;clear H1
  simp only [Option.some.injEq,Prod.mk.injEq] at H
  obtain ⟨rfl,rfl⟩:=H
  go_enter Try.func21,Try.ntmps21
  go_wp2_with (first|((with_reducible refine bf_ (f:=42) rfl ?_);refine goL_ (some 8) Try.func42 #[.slice A0 l0.length c0,.int .i64 a1] ?_;(with_reducible refine (Fah.calls _ _ l0 a1 false _ ?side1 ?side2 A3.o).mono ?_);(case side1=>exact zC HR0.o);(case side2=>exact HC0.o);rintro e w' ⟨rfl,⟨nd,rfl⟩⟩;refine ⟨_,rfl,?_⟩))
  go_ret2
  exact ⟨rfl,zB HB.o⟩

/-! ### spec_l1In: function 69 -/
def Fal.f (a0:Int) (a1:Int) (a2:Int):Option (Bool):=if a0 ≥ a1 then (some (decide (a0≤a2))) else (some false)
set_option maxHeartbeats 8000000 in
set_option maxRecDepth 100000 in
theorem Fal.calls (a0:Int) (a1:Int) (a2:Int) (r:Bool) (w:World) (h:Fal.f a0 a1 a2=some r) :
  Calls Try.prog 69 #[.int .i64 a0,.int .i64 a1,.int .i64 a2] w fun e w'=>e = .returned (.bool r)∧bp_ w w':=by
 have H:(if a0 ≥ a1 then (some (decide (a0≤a2))) else (some false))=some r:=h;clear h
 by_cases c4:a0 ≥ a1
 ·rw [if_pos c4] at H;have c4b0:decide (a1≤a0)=true:=decide_eq_true c4;clear c4;obtain rfl:=Option.some.inj H
  go_enter Try.func69,Try.ntmps69
  go_wp2
  go_ret
  exact ⟨by first|rfl|(simp;done)|(simp [*];done),by repeat (first|exact bp_.refl _|apply bp_.step)⟩
 ·rw [if_neg c4] at H;have c4b0:decide (a1≤a0)=false:=decide_eq_false c4;clear c4;obtain rfl:=Option.some.inj H
  go_enter Try.func69,Try.ntmps69
  go_wp2
  go_ret
  exact ⟨by first|rfl|(simp;done)|(simp [*];done),by repeat (first|exact bp_.refl _|apply bp_.step)⟩

/-! ### spec_l8T: function 36 -/
def Fav.f (a0:Int):Option (Bool):=(Fal.f a0 1 4).bind fun t143=>(some t143)
set_option maxHeartbeats 8000000 in
set_option maxRecDepth 100000 in
theorem Fav.calls (a0:Int) (r:Bool) (w:World) (h:Fav.f a0=some r) :
  Calls Try.prog 36 #[.int .i64 a0] w fun e w'=>e = .returned (.bool r)∧bp_ w w':=by
 have H:((Fal.f a0 1 4).bind fun t143=>(some t143))=some r:=h;clear h;obtain ⟨t143,A2,H⟩:=bi_ H;obtain rfl:=Option.some.inj H
 go_enter Try.func36,Try.ntmps36
 go_wp2_with (first|((with_reducible refine bf_ (f:=69) rfl ?_);refine goL_ (some 4) Try.func69 #[.int .i64 a0,.int .i64 1,.int .i64 4] ?_;(with_reducible refine (Fal.calls a0 1 4 t143 _ A2.o).mono ?_);rintro e w' ⟨rfl,⟨nd,rfl⟩⟩;refine ⟨_,rfl,?_⟩))
 go_ret
 exact ⟨by first|rfl|(simp;done)|(simp [*];done),by repeat (first|exact bp_.refl _|apply bp_.step)⟩

/-! ### spec_l1Times: function 72 -/
def Fi.l0:Nat→Int→Int→Int→Option (Int)
 | 0,_,_,_=>none
 | k+1,x5,x6,x7=>if x7 > 0 then (if (Go.bits .and .i64 x7 1)=1 then (if (wrap64 (x6 * 2)) > 255 then (Fi.l0 k (Go.bits .xor .i64 x5 x6) (Go.bits .xor .i64 (wrap64 (x6 * 2)) 283) (x7 / 2)) else (Fi.l0 k (Go.bits .xor .i64 x5 x6) (wrap64 (x6 * 2)) (x7 / 2))) else (if (wrap64 (x6 * 2)) > 255 then (Fi.l0 k x5 (Go.bits .xor .i64 (wrap64 (x6 * 2)) 283) (x7 / 2)) else (Fi.l0 k x5 (wrap64 (x6 * 2)) (x7 / 2)))) else (some ((x5) % 256))
def Fi.f (k:Nat) (a0:Int) (a1:Int):Option (Int):=Fi.l0 k 0 (wrap64 (a0)) (wrap64 (a1))
theorem Fi.mono_l:∀ k,(∀ y0 y1 y2,LeO (Fi.l0 k y0 y1 y2) (Fi.l0 (k+1) y0 y1 y2))
 | 0=>fun _ _ _ r h=>by simp [Fi.l0] at h
 | k+1=>by
  have ih0:=Fi.mono_l k
  ·intro y0 y1 y2
   unfold Fi.l0
   repeat' first|apply LeO.refl|apply LeO.none|apply LeO.ite|apply ih0|(refine LeO.bind ?_ (fun _=>?_))
theorem Fi.mono:∀ a0 a1 k,LeO (Fi.f k a0 a1) (Fi.f (k+1) a0 a1):=by
 intro a0 a1 k;have ih0:=Fi.mono_l k
 unfold Fi.f
 repeat' first|apply LeO.refl|apply LeO.none|apply LeO.ite|apply ih0|(refine LeO.bind ?_ (fun _=>?_))
set_option maxHeartbeats 8000000 in
set_option maxRecDepth 100000 in
theorem Fi.calls (k:Nat) (a0:Int) (a1:Int) (r:Int) (w:World) (h:Fi.f k a0 a1=some r) :
  Calls Try.prog 72 #[.int .u8 a0,.int .u8 a1] w fun e w'=>e = .returned (.int .u8 r)∧bp_ w w':=by
 have H:(Fi.l0 k 0 (wrap64 (a0)) (wrap64 (a1)))=some r:=h;clear h;have H':=am H;clear H
 go_enter Try.func72,Try.ntmps72
 go_wp2
 go_loopg [5,6,7] k (fun kq v5 v6 v7 w'=>∃ (x5_1:Int) (x6_1:Int) (x7_1:Int),v5 = .int .i64 x5_1∧v6 = .int .i64 x6_1∧v7 = .int .i64 x7_1∧ba_ (Fi.l0 kq x5_1 x6_1 x7_1=some r)∧ba_ (kq≤k)∧bp_ w w')
 case atStart=>exact ⟨(0),(wrap64 (a0)),(wrap64 (a1)),rfl,rfl,rfl,H',⟨Nat.le_refl _⟩,by repeat (first|exact bp_.refl _|apply bp_.step)⟩
 case round =>
  clear H';obtain ⟨x5_1,x6_1,x7_1,rfl,rfl,rfl,HA,HK1,⟨m1,rfl⟩⟩:=hrel
  cases gk with
  | zero=>exact absurd HA.o (by simp [Fi.l0])
  | succ k1 =>
   have H:=HA.o;clear HA
   simp only [Fi.l0] at H
   by_cases c3:x7_1 > 0
   ·rw [if_pos c3] at H;have c3b0:decide (0<x7_1)=true:=decide_eq_true c3;clear c3
    by_cases c4:(Go.bits .and .i64 x7_1 1)=1
    ·rw [if_pos c4] at H;have c4b0:((Go.bits .and .i64 x7_1 1) == 1)=true:=beq_iff_eq.mpr c4;have c4b1:((Go.bits .and .i64 x7_1 1) != 1)=false:=bne_eq_false_iff_eq.mpr c4;clear c4
     by_cases c5:(wrap64 (x6_1 * 2)) > 255
     ·rw [if_pos c5] at H;have c5b0:decide (255<(wrap64 (x6_1 * 2)))=true:=decide_eq_true c5;clear c5;have H':=am H;clear H
      go_wp2
      go_roundg k1
      case measure=>have:=HK1.o;omega
      case rel=>exact ⟨(Go.bits .xor .i64 x5_1 x6_1),(Go.bits .xor .i64 (wrap64 (x6_1 * 2)) 283),(x7_1 / 2),rfl,rfl,rfl,H',⟨by have:=HK1.o;omega⟩,by repeat (first|exact bp_.refl _|apply bp_.step)⟩
     ·rw [if_neg c5] at H;have c5b0:decide (255<(wrap64 (x6_1 * 2)))=false:=decide_eq_false c5;clear c5;have H':=am H;clear H
      go_wp2
      go_roundg k1
      case measure=>have:=HK1.o;omega
      case rel=>exact ⟨(Go.bits .xor .i64 x5_1 x6_1),(wrap64 (x6_1 * 2)),(x7_1 / 2),rfl,rfl,rfl,H',⟨by have:=HK1.o;omega⟩,by repeat (first|exact bp_.refl _|apply bp_.step)⟩
    ·rw [if_neg c4] at H;have c4b0:((Go.bits .and .i64 x7_1 1) == 1)=false:=beq_eq_false_iff_ne.mpr c4;have c4b1:((Go.bits .and .i64 x7_1 1) != 1)=true:=bne_iff_ne.mpr c4
     by_cases c6:(wrap64 (x6_1 * 2)) > 255
     ·rw [if_pos c6] at H;have c6b0:decide (255<(wrap64 (x6_1 * 2)))=true:=decide_eq_true c6;clear c6;have H':=am H;clear H
      go_wp2
      go_roundg k1
      case measure=>have:=HK1.o;omega
      case rel=>exact ⟨(x5_1),(Go.bits .xor .i64 (wrap64 (x6_1 * 2)) 283),(x7_1 / 2),rfl,rfl,rfl,H',⟨by have:=HK1.o;omega⟩,by repeat (first|exact bp_.refl _|apply bp_.step)⟩
     ·rw [if_neg c6] at H;have c6b0:decide (255<(wrap64 (x6_1 * 2)))=false:=decide_eq_false c6;clear c6;have H':=am H;clear H
      go_wp2
      go_roundg k1
      case measure=>have:=HK1.o;omega
      case rel=>exact ⟨(x5_1),(wrap64 (x6_1 * 2)),(x7_1 / 2),rfl,rfl,rfl,H',⟨by have:=HK1.o;omega⟩,by repeat (first|exact bp_.refl _|apply bp_.step)⟩
   ·rw [if_neg c3] at H;have c3b0:decide (0<x7_1)=false:=decide_eq_false c3;clear c3;obtain rfl:=Option.some.inj H
    go_wp2
    go_ret
    exact ⟨by first|rfl|(simp;done)|(simp [*];done),by repeat (first|exact bp_.refl _|apply bp_.step)⟩

/-! ### spec_l1Power: function 54 -/
def Fk.l0:Nat→Int→Int→Int→Option (Int)
 | 0,_,_,_=>none
 | k+1,x0,x1,x5=>if x1 > 0 then ((Fi.f k x5 x0).bind fun t144=>(Fk.l0 k x0 (wrap64 (x1 - 1)) t144)) else (some x5)
def Fk.f (k:Nat) (a0:Int) (a1:Int):Option (Int):=Fk.l0 k a0 a1 1
theorem Fk.mono_l:∀ k,(∀ y0 y1 y2,LeO (Fk.l0 k y0 y1 y2) (Fk.l0 (k+1) y0 y1 y2))
 | 0=>fun _ _ _ r h=>by simp [Fk.l0] at h
 | k+1=>by
  have ih0:=Fk.mono_l k
  ·intro y0 y1 y2
   unfold Fk.l0
   repeat' first|apply LeO.refl|apply LeO.none|apply LeO.ite|apply ih0|apply Fi.mono|(refine LeO.bind ?_ (fun _=>?_))
theorem Fk.mono:∀ a0 a1 k,LeO (Fk.f k a0 a1) (Fk.f (k+1) a0 a1):=by
 intro a0 a1 k;have ih0:=Fk.mono_l k
 unfold Fk.f
 repeat' first|apply LeO.refl|apply LeO.none|apply LeO.ite|apply ih0|apply Fi.mono|(refine LeO.bind ?_ (fun _=>?_))
set_option maxHeartbeats 8000000 in
set_option maxRecDepth 100000 in
theorem Fk.calls (k:Nat) (a0:Int) (a1:Int) (r:Int) (w:World) (h:Fk.f k a0 a1=some r) :
  Calls Try.prog 54 #[.int .u8 a0,.int .i64 a1] w fun e w'=>e = .returned (.int .u8 r)∧bp_ w w':=by
 have H:(Fk.l0 k a0 a1 1)=some r:=h;clear h;have H':=am H;clear H
 go_enter Try.func54,Try.ntmps54
 go_wp2
 go_loopg [1,5] k (fun kq v1 v5 w'=>∃ (x1_1:Int) (x5_1:Int),v1 = .int .i64 x1_1∧v5 = .int .u8 x5_1∧ba_ (Fk.l0 kq a0 x1_1 x5_1=some r)∧ba_ (kq≤k)∧bp_ w w')
 case atStart=>exact ⟨(a1),(1),rfl,rfl,H',⟨Nat.le_refl _⟩,by repeat (first|exact bp_.refl _|apply bp_.step)⟩
 case round =>
  clear H';obtain ⟨x1_1,x5_1,rfl,rfl,HA,HK1,⟨m1,rfl⟩⟩:=hrel
  cases gk with
  | zero=>exact absurd HA.o (by simp [Fk.l0])
  | succ k1 =>
   have H:=HA.o;clear HA
   simp only [Fk.l0] at H
   by_cases c3:x1_1 > 0
   ·rw [if_pos c3] at H;have c3b0:decide (0<x1_1)=true:=decide_eq_true c3;clear c3;obtain ⟨t144,A4,H⟩:=bi_ H;have H':=am H;clear H
    go_wp2_with (first|((with_reducible refine bf_ (f:=72) rfl ?_);refine goL_ (some 12) Try.func72 #[.int .u8 x5_1,.int .u8 a0] ?_;(with_reducible refine (Fi.calls k1 x5_1 a0 t144 _ A4.o).mono ?_);rintro e w' ⟨rfl,⟨nd,rfl⟩⟩;refine ⟨_,rfl,?_⟩))
    go_roundg k1
    case measure=>have:=HK1.o;omega
    case rel=>exact ⟨(wrap64 (x1_1 - 1)),(t144),rfl,rfl,H',⟨by have:=HK1.o;omega⟩,by repeat (first|exact bp_.refl _|apply bp_.step)⟩
   ·rw [if_neg c3] at H;have c3b0:decide (0<x1_1)=false:=decide_eq_false c3;clear c3;obtain rfl:=Option.some.inj H
    go_wp2
    go_ret
    exact ⟨by first|rfl|(simp;done)|(simp [*];done),by repeat (first|exact bp_.refl _|apply bp_.step)⟩

end Go.Proofs.Ytbloniemhkfnlaa.PFnCorrected
