/- A law's functions as plain Lean functions, each with the walk that shows that the code computes it: written by this session's program wip/tools/ppmake.py. -/
import Derived.Test.YtbloniemhkfnlaaKZ
import Derived.Test.YtbloniemhkfnlaaPFnCorrectedx0
namespace Go.Proofs.Ytbloniemhkfnlaa.PFnCorrected
open Go.RowKit Go.Proofs.YtbloniemhkfnlaaW.PrintWords Go.Proofs.YtbloniemhkfnlaaW.PrintLast Go.Proofs.YtbloniemhkfnlaaW.PrintMore
attribute [local go_sem] cw_ cy_ cK_ cL_ ci_ ch_ cx_ cv_   -- for this text's walks alone
set_option linter.unusedVariables false
set_option linter.unusedSimpArgs false

/-! ### impl_within: function 47 -/
def Fp.f (a0:Int) (a1:Int) (a2:Int):Option (Bool):=if a0 ≥ a1 then (some (decide (a0≤a2))) else (some false)
set_option maxHeartbeats 8000000 in
set_option maxRecDepth 100000 in
theorem Fp.calls (a0:Int) (a1:Int) (a2:Int) (r:Bool) (w:World) (h:Fp.f a0 a1 a2=some r) :
  Calls Try.prog 47 #[.int .i64 a0,.int .i64 a1,.int .i64 a2] w fun e w'=>e = .returned (.bool r)∧bp_ w w':=by
 have H:(if a0 ≥ a1 then (some (decide (a0≤a2))) else (some false))=some r:=h;clear h
 by_cases c4:a0 ≥ a1
 ·rw [if_pos c4] at H;have c4b0:decide (a1≤a0)=true:=decide_eq_true c4;clear c4;obtain rfl:=Option.some.inj H
  go_enter Try.func47,Try.ntmps47
  go_wp2
  go_ret
  exact ⟨by first|rfl|(simp;done)|(simp [*];done),by repeat (first|exact bp_.refl _|apply bp_.step)⟩
 ·rw [if_neg c4] at H;have c4b0:decide (a1≤a0)=false:=decide_eq_false c4;clear c4;obtain rfl:=Option.some.inj H
  go_enter Try.func47,Try.ntmps47
  go_wp2
  go_ret
  exact ⟨by first|rfl|(simp;done)|(simp [*];done),by repeat (first|exact bp_.refl _|apply bp_.step)⟩

/-! ### impl_isCount: function 38 -/
def Faf.f (a0:Int):Option (Bool):=(Fp.f a0 1 4).bind fun t101=>(some t101)
set_option maxHeartbeats 8000000 in
set_option maxRecDepth 100000 in
theorem Faf.calls (a0:Int) (r:Bool) (w:World) (h:Faf.f a0=some r) :
  Calls Try.prog 38 #[.int .i64 a0] w fun e w'=>e = .returned (.bool r)∧bp_ w w':=by
 have H:((Fp.f a0 1 4).bind fun t101=>(some t101))=some r:=h;clear h;obtain ⟨t101,A2,H⟩:=bi_ H;obtain rfl:=Option.some.inj H
 go_enter Try.func38,Try.ntmps38
 go_wp2_with (first|((with_reducible refine bf_ (f:=47) rfl ?_);refine goL_ (some 4) Try.func47 #[.int .i64 a0,.int .i64 1,.int .i64 4] ?_;(with_reducible refine (Fp.calls a0 1 4 t101 _ A2.o).mono ?_);rintro e w' ⟨rfl,⟨nd,rfl⟩⟩;refine ⟨_,rfl,?_⟩))
 go_ret
 exact ⟨by first|rfl|(simp;done)|(simp [*];done),by repeat (first|exact bp_.refl _|apply bp_.step)⟩

/-! ### impl_Times: function 48 -/
def Fg.l0:Nat→Int→Int→Int→Int→Option (Int)
 | 0,_,_,_,_=>none
 | k+1,x1,x5,x6,x7=>if x6<8 then (if 0≤x6 then (if (Go.bits .and .u8 (shr .u8 x1 x6) 1)=1 then (if (wrap64 (x7 * 2)) > 255 then (Fg.l0 k x1 (Go.bits .xor .i64 x5 x7) (wrap64 (x6+1)) (Go.bits .xor .i64 (wrap64 (x7 * 2)) 283)) else (Fg.l0 k x1 (Go.bits .xor .i64 x5 x7) (wrap64 (x6+1)) (wrap64 (x7 * 2)))) else (if (wrap64 (x7 * 2)) > 255 then (Fg.l0 k x1 x5 (wrap64 (x6+1)) (Go.bits .xor .i64 (wrap64 (x7 * 2)) 283)) else (Fg.l0 k x1 x5 (wrap64 (x6+1)) (wrap64 (x7 * 2))))) else (none)) else (some ((x5) % 256))
def Fg.f (k:Nat) (a0:Int) (a1:Int):Option (Int):=Fg.l0 k a1 0 0 (wrap64 (a0))
theorem Fg.mono_l:∀ k,(∀ y0 y1 y2 y3,LeO (Fg.l0 k y0 y1 y2 y3) (Fg.l0 (k+1) y0 y1 y2 y3))
 | 0=>fun _ _ _ _ r h=>by simp [Fg.l0] at h
 | k+1=>by
  have ih0:=Fg.mono_l k
  ·intro y0 y1 y2 y3
   unfold Fg.l0
   repeat' first|apply LeO.refl|apply LeO.none|apply LeO.ite|apply ih0|(refine LeO.bind ?_ (fun _=>?_))
theorem Fg.mono:∀ a0 a1 k,LeO (Fg.f k a0 a1) (Fg.f (k+1) a0 a1):=by
 intro a0 a1 k;have ih0:=Fg.mono_l k
 unfold Fg.f
 repeat' first|apply LeO.refl|apply LeO.none|apply LeO.ite|apply ih0|(refine LeO.bind ?_ (fun _=>?_))
set_option maxHeartbeats 8000000 in
set_option maxRecDepth 100000 in
theorem Fg.calls (k:Nat) (a0:Int) (a1:Int) (r:Int) (w:World) (h:Fg.f k a0 a1=some r) :
  Calls Try.prog 48 #[.int .u8 a0,.int .u8 a1] w fun e w'=>e = .returned (.int .u8 r)∧bp_ w w':=by
 have H:(Fg.l0 k a1 0 0 (wrap64 (a0)))=some r:=h;clear h;have H':=am H;clear H
 go_enter Try.func48,Try.ntmps48
 go_wp2
 go_loopg [5,6,7] k (fun kq v5 v6 v7 w'=>∃ (x5_1:Int) (x6_1:Int) (x7_1:Int),v5 = .int .i64 x5_1∧v6 = .int .i64 x6_1∧v7 = .int .i64 x7_1∧ba_ (Fg.l0 kq a1 x5_1 x6_1 x7_1=some r)∧ba_ (kq≤k)∧bp_ w w')
 case atStart=>exact ⟨(0),(0),(wrap64 (a0)),rfl,rfl,rfl,H',⟨Nat.le_refl _⟩,by repeat (first|exact bp_.refl _|apply bp_.step)⟩
 case round =>
  clear H';obtain ⟨x5_1,x6_1,x7_1,rfl,rfl,rfl,HA,HK1,⟨m1,rfl⟩⟩:=hrel
  cases gk with
  | zero=>exact absurd HA.o (by simp [Fg.l0])
  | succ k1 =>
   have H:=HA.o;clear HA
   simp only [Fg.l0] at H
   by_cases c3:x6_1<8
   ·rw [if_pos c3] at H;have c3b0:=decide_eq_true c3;clear c3
    obtain ⟨c4,H⟩:=it_ H;have c4b0:=eq_true c4;have c4b1:=decide_eq_true c4;clear c4;obtain ⟨ji5,hji5⟩:∃ j_:Int,(shr .u8 a1 x6_1)=j_:=⟨_,rfl⟩
    replace H:(if (Go.bits .and .u8 (ji5) 1)=1 then (if (wrap64 (x7_1 * 2)) > 255 then (Fg.l0 k1 a1 (Go.bits .xor .i64 x5_1 x7_1) (wrap64 (x6_1+1)) (Go.bits .xor .i64 (wrap64 (x7_1 * 2)) 283)) else (Fg.l0 k1 a1 (Go.bits .xor .i64 x5_1 x7_1) (wrap64 (x6_1+1)) (wrap64 (x7_1 * 2)))) else (if (wrap64 (x7_1 * 2)) > 255 then (Fg.l0 k1 a1 x5_1 (wrap64 (x6_1+1)) (Go.bits .xor .i64 (wrap64 (x7_1 * 2)) 283)) else (Fg.l0 k1 a1 x5_1 (wrap64 (x6_1+1)) (wrap64 (x7_1 * 2)))))=some r:=by first|(rw [hji5] at H;exact H)|(simp only [hji5] at H ⊢;exact H)
    have hji5_:(a1 / 2 ^ min x6_1.toNat 8)=ji5:=hji5;have hji5z:x6_1≤8→(a1 / 2 ^ x6_1.toNat)=ji5:=shr_small hji5
    by_cases c6:(Go.bits .and .u8 (ji5) 1)=1
    ·rw [if_pos c6] at H;have c6b0:((Go.bits .and .u8 (ji5) 1) == 1)=true:=beq_iff_eq.mpr c6;have c6b1:((Go.bits .and .u8 (ji5) 1) != 1)=false:=bne_eq_false_iff_eq.mpr c6;clear c6
     by_cases c7:(wrap64 (x7_1 * 2)) > 255
     ·rw [if_pos c7] at H;have c7b0:decide (255<(wrap64 (x7_1 * 2)))=true:=decide_eq_true c7
      try simp only [hji5] at c7b0
      clear c7;have H':=am H;clear H
      go_wp2
      go_roundg k1
      case measure=>have:=HK1.o;omega
      case rel=>exact ⟨(Go.bits .xor .i64 x5_1 x7_1),(wrap64 (x6_1+1)),(Go.bits .xor .i64 (wrap64 (x7_1 * 2)) 283),rfl,rfl,rfl,(by first|exact H'|(have H2_:=H';simp only [hji5] at H2_ ⊢;exact H2_)),⟨by have:=HK1.o;omega⟩,by repeat (first|exact bp_.refl _|apply bp_.step)⟩
     ·rw [if_neg c7] at H;have c7b0:decide (255<(wrap64 (x7_1 * 2)))=false:=decide_eq_false c7
      try simp only [hji5] at c7b0
      clear c7;have H':=am H;clear H
      go_wp2
      go_roundg k1
      case measure=>have:=HK1.o;omega
      case rel=>exact ⟨(Go.bits .xor .i64 x5_1 x7_1),(wrap64 (x6_1+1)),(wrap64 (x7_1 * 2)),rfl,rfl,rfl,(by first|exact H'|(have H2_:=H';simp only [hji5] at H2_ ⊢;exact H2_)),⟨by have:=HK1.o;omega⟩,by repeat (first|exact bp_.refl _|apply bp_.step)⟩
    ·rw [if_neg c6] at H;have c6b0:((Go.bits .and .u8 (ji5) 1) == 1)=false:=beq_eq_false_iff_ne.mpr c6;have c6b1:((Go.bits .and .u8 (ji5) 1) != 1)=true:=bne_iff_ne.mpr c6
     by_cases c8:(wrap64 (x7_1 * 2)) > 255
     ·rw [if_pos c8] at H;have c8b0:decide (255<(wrap64 (x7_1 * 2)))=true:=decide_eq_true c8
      try simp only [hji5] at c8b0
      clear c8;have H':=am H;clear H
      go_wp2
      go_roundg k1
      case measure=>have:=HK1.o;omega
      case rel=>exact ⟨(x5_1),(wrap64 (x6_1+1)),(Go.bits .xor .i64 (wrap64 (x7_1 * 2)) 283),rfl,rfl,rfl,(by first|exact H'|(have H2_:=H';simp only [hji5] at H2_ ⊢;exact H2_)),⟨by have:=HK1.o;omega⟩,by repeat (first|exact bp_.refl _|apply bp_.step)⟩
     ·rw [if_neg c8] at H;have c8b0:decide (255<(wrap64 (x7_1 * 2)))=false:=decide_eq_false c8
      try simp only [hji5] at c8b0
      clear c8;have H':=am H;clear H
      go_wp2
      go_roundg k1
      case measure=>have:=HK1.o;omega
      case rel=>exact ⟨(x5_1),(wrap64 (x6_1+1)),(wrap64 (x7_1 * 2)),rfl,rfl,rfl,(by first|exact H'|(have H2_:=H';simp only [hji5] at H2_ ⊢;exact H2_)),⟨by have:=HK1.o;omega⟩,by repeat (first|exact bp_.refl _|apply bp_.step)⟩
   ·rw [if_neg c3] at H;have c3b0:=decide_eq_false c3;clear c3;obtain rfl:=Option.some.inj H
    go_wp2
    go_ret
    exact ⟨by first|rfl|(simp;done)|(simp [*];done),by repeat (first|exact bp_.refl _|apply bp_.step)⟩

/-! ### impl_power: function 59 -/
def Fj.l0:Nat→Int→Int→Int→Option (Int)
 | 0,_,_,_=>none
 | k+1,x0,x1,x5=>if x1 > 0 then (if (Go.bits .and .i64 x1 1)=1 then ((Fg.f k x5 x0).bind fun t102=>((Fg.f k x0 x0).bind fun t103=>(Fj.l0 k t103 (x1 / 2) t102))) else ((Fg.f k x0 x0).bind fun t104=>(Fj.l0 k t104 (x1 / 2) x5))) else (some x5)
def Fj.f (k:Nat) (a0:Int) (a1:Int):Option (Int):=Fj.l0 k a0 a1 1
theorem Fj.mono_l:∀ k,(∀ y0 y1 y2,LeO (Fj.l0 k y0 y1 y2) (Fj.l0 (k+1) y0 y1 y2))
 | 0=>fun _ _ _ r h=>by simp [Fj.l0] at h
 | k+1=>by
  have ih0:=Fj.mono_l k
  ·intro y0 y1 y2
   unfold Fj.l0
   repeat' first|apply LeO.refl|apply LeO.none|apply LeO.ite|apply ih0|apply Fg.mono|(refine LeO.bind ?_ (fun _=>?_))
theorem Fj.mono:∀ a0 a1 k,LeO (Fj.f k a0 a1) (Fj.f (k+1) a0 a1):=by
 intro a0 a1 k;have ih0:=Fj.mono_l k
 unfold Fj.f
 repeat' first|apply LeO.refl|apply LeO.none|apply LeO.ite|apply ih0|apply Fg.mono|(refine LeO.bind ?_ (fun _=>?_))
set_option maxHeartbeats 8000000 in
set_option maxRecDepth 100000 in
theorem Fj.calls (k:Nat) (a0:Int) (a1:Int) (r:Int) (w:World) (h:Fj.f k a0 a1=some r) :
  Calls Try.prog 59 #[.int .u8 a0,.int .i64 a1] w fun e w'=>e = .returned (.int .u8 r)∧bp_ w w':=by
 have H:(Fj.l0 k a0 a1 1)=some r:=h;clear h;have H':=am H;clear H
 go_enter Try.func59,Try.ntmps59
 go_wp2
 go_loopg [0,1,5] k (fun kq v0 v1 v5 w'=>∃ (x0_1:Int) (x1_1:Int) (x5_1:Int),v0 = .int .u8 x0_1∧v1 = .int .i64 x1_1∧v5 = .int .u8 x5_1∧ba_ (Fj.l0 kq x0_1 x1_1 x5_1=some r)∧ba_ (kq≤k)∧bp_ w w')
 case atStart=>exact ⟨(a0),(a1),(1),rfl,rfl,rfl,H',⟨Nat.le_refl _⟩,by repeat (first|exact bp_.refl _|apply bp_.step)⟩
 case round =>
  clear H';obtain ⟨x0_1,x1_1,x5_1,rfl,rfl,rfl,HA,HK1,⟨m1,rfl⟩⟩:=hrel
  cases gk with
  | zero=>exact absurd HA.o (by simp [Fj.l0])
  | succ k1 =>
   have H:=HA.o;clear HA
   simp only [Fj.l0] at H
   by_cases c3:x1_1 > 0
   ·rw [if_pos c3] at H;have c3b0:decide (0<x1_1)=true:=decide_eq_true c3;clear c3
    by_cases c4:(Go.bits .and .i64 x1_1 1)=1
    ·rw [if_pos c4] at H;have c4b0:((Go.bits .and .i64 x1_1 1) == 1)=true:=beq_iff_eq.mpr c4;have c4b1:((Go.bits .and .i64 x1_1 1) != 1)=false:=bne_eq_false_iff_eq.mpr c4;clear c4;obtain ⟨t102,A5,H⟩:=bi_ H;obtain ⟨t103,A6,H⟩:=bi_ H;have H':=am H;clear H
     go_wp2_with (first|((with_reducible refine bf_ (f:=48) rfl ?_);refine goL_ (some 15) Try.func48 #[.int .u8 x5_1,.int .u8 x0_1] ?_;(with_reducible refine (Fg.calls k1 x5_1 x0_1 t102 _ A5.o).mono ?_);rintro e w' ⟨rfl,⟨nd,rfl⟩⟩;refine ⟨_,rfl,?_⟩)|((with_reducible refine bf_ (f:=48) rfl ?_);refine goL_ (some 18) Try.func48 #[.int .u8 x0_1,.int .u8 x0_1] ?_;(with_reducible refine (Fg.calls k1 x0_1 x0_1 t103 _ A6.o).mono ?_);rintro e w' ⟨rfl,⟨nd,rfl⟩⟩;refine ⟨_,rfl,?_⟩))
     go_roundg k1
     case measure=>have:=HK1.o;omega
     case rel=>exact ⟨(t103),(x1_1 / 2),(t102),rfl,rfl,rfl,H',⟨by have:=HK1.o;omega⟩,by repeat (first|exact bp_.refl _|apply bp_.step)⟩
    ·rw [if_neg c4] at H;have c4b0:((Go.bits .and .i64 x1_1 1) == 1)=false:=beq_eq_false_iff_ne.mpr c4;have c4b1:((Go.bits .and .i64 x1_1 1) != 1)=true:=bne_iff_ne.mpr c4;obtain ⟨t104,A7,H⟩:=bi_ H;have H':=am H;clear H
     go_wp2_with (first|((with_reducible refine bf_ (f:=48) rfl ?_);refine goL_ (some 18) Try.func48 #[.int .u8 x0_1,.int .u8 x0_1] ?_;(with_reducible refine (Fg.calls k1 x0_1 x0_1 t104 _ A7.o).mono ?_);rintro e w' ⟨rfl,⟨nd,rfl⟩⟩;refine ⟨_,rfl,?_⟩))
     go_roundg k1
     case measure=>have:=HK1.o;omega
     case rel=>exact ⟨(t104),(x1_1 / 2),(x5_1),rfl,rfl,rfl,H',⟨by have:=HK1.o;omega⟩,by repeat (first|exact bp_.refl _|apply bp_.step)⟩
   ·rw [if_neg c3] at H;have c3b0:decide (0<x1_1)=false:=decide_eq_false c3;clear c3;obtain rfl:=Option.some.inj H
    go_wp2
    go_ret
    exact ⟨by first|rfl|(simp;done)|(simp [*];done),by repeat (first|exact bp_.refl _|apply bp_.step)⟩

/-! ### impl_generator: function 39 -/
mutual
def Fh.l0:Nat→Int→List Int→Int→Option (List Int)
 | 0,_,_,_=>none
 | k+1,x0,x3,x4=>if x4≤(wrap64 (2 * x0)) then ((Fj.f k 3 x4).bind fun t108=>((some (([0]:List Int):List Int)).bind fun y109=>(if y109.length+x3.length<140737488355328 then (Fh.l1 k x0 x4 t108 (y109++x3) x3 (x3.length:Int) 0) else (none)))) else (some x3)
def Fh.l1:Nat→Int→Int→Int→List Int→List Int→Int→Int→Option (List Int)
 | 0,_,_,_,_,_,_,_=>none
 | k+1,x0,x4,x5,x6,x21,x22,x23=>if x23<x22 then (if 0≤x23 then (if x23<(x21.length:Int) then (if x23<(x6.length:Int) then ((Fg.f k (rd x21 x23) x5).bind fun t117=>(Fh.l1 k x0 x4 x5 (x6.set (x23:Int).toNat (Go.bits .xor .u8 (rd x6 x23) t117)) x21 x22 (wrap64 (x23+1)))) else (none)) else (none)) else (none)) else (Fh.l0 k x0 x6 (wrap64 (x4+1)))
end
def Fh.f (k:Nat) (a0:Int):Option (List Int):=Fh.l0 k a0 (([1]:List Int)) 1
theorem Fh.mono_l:∀ k,(∀ y0 y1 y2,LeO (Fh.l0 k y0 y1 y2) (Fh.l0 (k+1) y0 y1 y2))∧(∀ y0 y1 y2 y3 y4 y5 y6,LeO (Fh.l1 k y0 y1 y2 y3 y4 y5 y6) (Fh.l1 (k+1) y0 y1 y2 y3 y4 y5 y6))
 | 0=>⟨fun _ _ _ r h=>by simp [Fh.l0] at h,fun _ _ _ _ _ _ _ r h=>by simp [Fh.l1] at h⟩
 | k+1=>by
  obtain ⟨ih0,ih1⟩:=Fh.mono_l k
  refine ⟨?_,?_⟩
  ·intro y0 y1 y2
   unfold Fh.l0
   repeat' first|apply LeO.refl|apply LeO.none|apply LeO.ite|apply ih0|apply ih1|apply Fg.mono|apply Fj.mono|(refine LeO.bind ?_ (fun _=>?_))
  ·intro y0 y1 y2 y3 y4 y5 y6
   unfold Fh.l1
   repeat' first|apply LeO.refl|apply LeO.none|apply LeO.ite|apply ih0|apply ih1|apply Fg.mono|apply Fj.mono|(refine LeO.bind ?_ (fun _=>?_))
theorem Fh.mono:∀ a0 k,LeO (Fh.f k a0) (Fh.f (k+1) a0):=by
 intro a0 k;obtain ⟨ih0,ih1⟩:=Fh.mono_l k
 unfold Fh.f
 repeat' first|apply LeO.refl|apply LeO.none|apply LeO.ite|apply ih0|apply ih1|apply Fg.mono|apply Fj.mono|(refine LeO.bind ?_ (fun _=>?_))
def Fh.T10:Bool × List (List Nat × List Nat):=(true,[([],[]),([],[]),([0,1],[0,1]),([2],[2]),([],[]),([],[]),([4,5],[4,5]),([3,6],[3,6]),([0,1,0,1,2,3,4,5,6,7],[0,1]),([8,7,6,0,1,2,3,4,5,6,7],[7,8])])
def Fh.B10:List Nat:=[0,0,3,7,0,0,48,127,255,511]
theorem Fh.tab10:rtab .any (opsOf Try.f39 10)=Fh.T10:=by kernel_rfl
theorem Fh.bits10:waitsOk Fh.T10.2 Fh.B10=true:=by kernel_rfl
set_option maxHeartbeats 8000000 in
set_option maxRecDepth 100000 in
theorem Fh.calls (k:Nat) (a0:Int) (r:List Int) (w:World) (h:Fh.f k a0=some r) :
  Calls Try.prog 39 #[.int .i64 a0] w fun e w'=>∃ v0_:Value,e = .returned (v0_)∧Kd.R (Kd.int .u8) 5 w' w.heap.size (fun _=>True) v0_ r∧Below w.heap.size w w':=by
 have HB:=am (Below.refl w.heap.size w);have H:(Fh.l0 k a0 (([1]:List Int)) 1)=some r:=h;clear h;(try rw [Option.bind_some] at H);generalize hy105:(([1]:List Int))=y105 at H;have Ny105:=am hy105.symm;clear hy105;have H':=am H;clear H
 go_enter Try.func39,Try.ntmps39
 go_wp2_with (first|((with_reducible refine bB_ (N:=9) rfl ?_);refine Kd.R_lit (Kd.int .u8) _ 5 ?hg (N:=9) ?hd (xs:=([1]:List Int)) (inner:=[.int .u8 1]) (ok:=fun _=>True) (okp:=fun _=>True) ?hr ?hp (fun _ hk=>hk) trivial (Below.refl _ _) (Nat.le_refl _) (by simp) ?_;(case hd=>rfl);(case hg=>rfl);(case hr=>first|(go_simp;done)|(go_simp;rfl));(case hp=>exact (Reps.one (show Kd.M (Kd.int .u8) _ _ _ 1 [.int .u8 1] from rfl) (Reps.none _ _)));intro v106 w2 ho3 hb hg_ hnew_;clear hg_ hnew_;(first|rw [← Ny105.o] at ho3|(simp only [Int.reduceToNat] at ho3;rw [← Ny105.o] at ho3));have HO107:=am (Kd.bx_ ho3 (zs_ HB.o));replace HB:=am (bh_ (zB HB.o) hb);clear hb ho3))
 go_loopg [3,4] k (fun kq v3 v4 w'=>∃ (x3_1:List Int) (x4_1:Int),v4 = .int .i64 x4_1∧ba_ (Fh.l0 kq a0 x3_1 x4_1=some r)∧ba_ (kq≤k)∧ba_ (Kd.R (Kd.int .u8) 5 w' w.heap.size (fun _=>True) v3 x3_1)∧ba_ (Below w.heap.size w w'))
 case atStart=>exact ⟨(y105),(1),rfl,H',⟨Nat.le_refl _⟩,⟨zR HO107.o⟩,⟨zB HB.o⟩⟩
 case round =>
  clear H';obtain ⟨x3_1,x4_1,rfl,HA,HK1,HO_3,HB⟩:=hrel
  cases gk with
  | zero=>exact absurd HA.o (by simp [Fh.l0])
  | succ k1 =>
   have H:=HA.o;clear HA
   simp only [Fh.l0] at H
   by_cases c4:x4_1≤(wrap64 (2 * a0))
   ·rw [if_pos c4] at H;have c4b0:decide (x4_1≤(wrap64 (2 * a0)))=true:=decide_eq_true c4;clear c4;obtain ⟨t108,A5,H⟩:=bi_ H;(try rw [Option.bind_some] at H);generalize hy109:(([0]:List Int))=y109 at H;have Ny109:=am hy109.symm;clear hy109
    obtain ⟨c6,H⟩:=it_ H;have LMc6:=am c6;clear c6;obtain ⟨y112,hy112⟩:∃ y_:List Int,y_=(y109++x3_1):=⟨_,rfl⟩
    replace H:(Fh.l1 k1 a0 x4_1 t108 y112 x3_1 (x3_1.length:Int) 0)=some r:=by first|(rw [hy112];exact H)|(have H2_:=(Option.bind_some _ _).symm.trans H;first|exact H2_|(rw [hy112];exact H2_))|exact H
    have Ny112:=am hy112;clear hy112;have H':=am H;clear H
    go_wp2_with (first|((with_reducible refine bf_ (f:=59) rfl ?_);refine goL_ (some 17) Try.func59 #[.int .u8 3,.int .i64 x4_1] ?_;(with_reducible refine (Fj.calls k1 3 x4_1 t108 _ A5.o).mono ?_);rintro e w' ⟨rfl,⟨nd,rfl⟩⟩;refine ⟨_,rfl,?_⟩)|((with_reducible refine bB_ (N:=18) rfl ?_);refine Kd.R_lit (Kd.int .u8) _ 5 ?hg (N:=18) ?hd (xs:=([0]:List Int)) (inner:=[.int .u8 0]) (ok:=fun _=>True) (okp:=fun _=>True) ?hr ?hp (fun _ hk=>hk) trivial (Below.refl _ _) (Nat.le_refl _) (by simp) ?_;(case hd=>rfl);(case hg=>rfl);(case hr=>first|(go_simp;done)|(go_simp;rfl));(case hp=>exact (Reps.one (show Kd.M (Kd.int .u8) _ _ _ 0 [.int .u8 0] from rfl) (Reps.none _ _)));intro v110 w7 ho8 hb hg_ hnew_;clear hg_ hnew_;(first|rw [← Ny109.o] at ho8|(simp only [Int.reduceToNat] at ho8;rw [← Ny109.o] at ho8));have HO111:=am (Kd.bx_ (Kd.bX_ ho8 (Kd.R_lt (zR HO_3.o))) (zs_ HB.o));replace HO_3:=am (Kd.bC_ (zR HO_3.o) (Kd.bt_ ho8) hb);replace HB:=am (bh_ (zB HB.o) hb);clear hb ho8;obtain ⟨Ao10,co10,eo10⟩:=Kd.bv_ HO_3.o;subst eo10)|((with_reducible refine bE_ (b:=.append) (xs:=#[.tmp 18,.tmp 19]) rfl ?_);at_builtin;refine Kd.cm_ (Kd.int .u8) (w0:=w) w.heap.size rfl (.tmp 18) (.tmp 19) 22 5 (.int .u8 0) 1 rfl Try.underlying22 info5 rfl (by decide) (by omega) v110 y109 x3_1 _ _ _ (fun k_=>some k_≠(.slice Ao10 x3_1.length co10:Value).ownBlock) (fun _=>False) rfl rfl ?aO ?aR (fun _ _ h=>h) (fun _ h=>h.elim) ?aF ?aB ?aS ?aL ?_;(case aR=>exact zC ((Kd.bj_ HO_3.o).2.2));(case aB=>exact (zB HB.o));(case aF=>exact (fun k_ hk=>Kd.fresh' (Kd.R_lt (zR HO_3.o)) k_ hk));(case aO=>exact (zR (Kd.bq_ HO111.o (fun _ hk=>hk.2))));(case aS=>exact (zs_ HB.o));(case aL=>have:=LMc6.o;omega);intro v113 w9 ho hb hg hat;rw [← Ny112.o] at ho;replace HO_3:=am (Kd.dy_ (ok:=(fun _=>True)) (zR HO_3.o) hg hat);replace HB:=am (hb);have HO114:=am (ho);(try clear HO111);clear ho hb hg hat))
    go_loopg [23] k1 (fun kq v23 w'=>∃ (x6_2:List Int) (x23_2:Int),v23 = .int .i64 x23_2∧ba_ (Fh.l1 kq a0 x4_1 t108 x6_2 x3_1 (x3_1.length:Int) x23_2=some r)∧ba_ (kq≤k1)∧ba_ (Kd.R (Kd.int .u8) 5 w' w.heap.size (fun k_=>some k_≠((.slice Ao10 x3_1.length co10):Value).ownBlock) v113 x6_2)∧ba_ (Kd.R (Kd.int .u8) 5 w' w.heap.size (fun k_=>some k_≠(v113:Value).ownBlock) (.slice Ao10 x3_1.length co10) x3_1)∧ba_ (Below w.heap.size w w'))
    case atStart=>exact ⟨(y112),(0),rfl,H',⟨Nat.le_refl _⟩,⟨zR HO114.o⟩,⟨zR (Kd.bq_ HO_3.o (fun _ hk=>hk.2))⟩,⟨zB HB.o⟩⟩
    case round =>
     clear H';obtain ⟨x6_2,x23_2,rfl,HA,HK2,HO_6,HO_21,HB⟩:=hrel
     cases gk with
     | zero=>exact absurd HA.o (by simp [Fh.l1])
     | succ k2 =>
      have H:=HA.o;clear HA
      simp only [Fh.l1] at H
      by_cases c11:x23_2<(x3_1.length:Int)
      ·rw [if_pos c11] at H;have c11b0:=decide_eq_true c11;clear c11
       obtain ⟨c12,H⟩:=it_ H;have c12b0:=decide_eq_true c12;clear c12
       obtain ⟨c13,H⟩:=it_ H;have c13b0:=decide_eq_true c13;clear c13
       obtain ⟨c14,H⟩:=it_ H;have c14b0:=decide_eq_true c14;clear c14;obtain ⟨t117,A15,H⟩:=bi_ H;obtain ⟨y118,hy118⟩:∃ y_:List Int,y_=(x6_2.set (x23_2:Int).toNat (Go.bits .xor .u8 (rd x6_2 x23_2) t117)):=⟨_,rfl⟩
       replace H:(Fh.l1 k2 a0 x4_1 t108 y118 x3_1 (x3_1.length:Int) (wrap64 (x23_2+1)))=some r:=by first|(rw [hy118];exact H)|(have H2_:=(Option.bind_some _ _).symm.trans H;first|exact H2_|(rw [hy118];exact H2_))|exact H
       have Ny118:=am hy118;clear hy118;have H':=am H;clear H;have p115:0≤(x23_2:Int):=od_;have q115:x23_2<(x3_1.length:Int):=od_;obtain ⟨ad115,e115,hx115_0⟩:=Kd.bK_ (Kd.bj_ HO_21.o).2.2 x23_2 p115 q115;cases e115;replace p115:=eq_true p115;replace q115:=eq_true q115
       try go_wp2
       replace HO_6:=am (Kd.bP_ HO_6.o);replace HO_21:=am (Kd.bP_ HO_21.o);replace HB:=am (bg_ HB.o);obtain ⟨Ao18,co18,eo18⟩:=Kd.bv_ HO_6.o
       (first|subst eo18|(injection eo18 with f1_ f2_ f3_;have f4_:=f1_.symm;have f5_:=f3_.symm;clear f1_ f2_ f3_;subst f4_;subst f5_))
       have p116:0≤(x23_2:Int):=od_;have q116:x23_2<(x6_2.length:Int):=od_;obtain ⟨ad116,e116,hx116_0⟩:=Kd.bK_ (Kd.bj_ HO_6.o).2.2 x23_2 p116 q116;cases e116;replace p116:=eq_true p116;replace q116:=eq_true q116
       refine cS_ (n:=10) (S:=fun w'=>w'.cell? (ad116.add (x23_2).toNat)=some (.int .u8 (rd x6_2 x23_2))) (ds:=[9]) #[false,false,false,false,false,false,false,false,false,false] (by kernel_rfl) rfl rfl (hx116_0) (fun hHeld=>?_);refine cc_ Fh.tab10 Fh.bits10 (fun HT_ HW_=>?_)
       generalize wr.drew=w17 at HO_6 HO_21 HB hx116_0 hHeld ⊢
       refine pu_ (i:=0) (some 28) #[true,false,false,false,false,false,false,false,false,false] HT_ ?_
       refine pu_ (i:=1) (some 29) #[true,true,false,false,false,false,false,false,false,false] HT_ ?_
       refine pu_ (i:=2) (some 30) #[true,true,true,false,false,false,false,false,false,false] HT_ ?_
       refine pu_ (i:=4) (some 32) #[true,true,true,false,true,false,false,false,false,false] HT_ ?_
       refine pu_ (i:=5) (some 33) #[true,true,true,false,true,true,false,false,false,false] HT_ ?_
       refine ta_ (i:=3) (some 31) #[true,true,true,true,true,true,false,false,false,false] HT_ HW_ hHeld ?_
       refine one_ (i:=6) (N:=some 34) #[true,true,true,true,true,true,true,false,false,false] rfl rfl (bZ_ HT_.o (by kernel_rfl)) (by decide) (fun K hK=>?_)
       refine goR_ Try.func48 #[.int .u8 (rd x3_1 x23_2),.int .u8 t108] ?_
       with_reducible refine (Fg.calls k2 (rd x3_1 x23_2) t108 t117 _ A15.o).mono ?_
       rintro e w' ⟨rfl,⟨nd,rfl⟩⟩
       refine ⟨_,rfl,?_⟩
       have p16:0≤(x23_2:Int):=od_;have q16:(x23_2:Int)<((x6_2.length:Int):Int):=od_;obtain ⟨go16,co16,eo16,gb16,gl16,cl16,HG16⟩:=Kd.R_form HO_6.o (by omega)
       (first|cases eo16|(injection eo16 with ea_ en_ ec_;(first|subst ea_|(injection ea_ with ea_;subst ea_));subst ec_;clear en_))
       have GB16:=am gb16;have GG16:=am HG16;clear gb16 gl16 HG16
       (first|simp only [add_plain] at hx116_0|skip)
       obtain ⟨hx16_0,hf16_0⟩:=Kd.R_celln 0 HO_6.o (x23_2:Int) p16 q16;replace p16:=eq_true p16;replace q16:=eq_true q16;have HP19:=Kd.R_putn HO_6.o (x23_2:Int) (Go.bits .xor .u8 (rd x6_2 x23_2) t117);rw [← Ny118.o] at HP19;have HQ19:=am HP19;clear HP19
       refine hK.out _ _ (hHeld) (fun hHeld=>?_)
       clear hK K
       refine cp_ (a':=?_) ?_ ?_
       rotate_left
       ·show Act.put _ (some 34) _=_
        simp only [Act.put,List.setIfInBounds_toArray,List.set_cons_zero,List.set_cons_succ,bI_,bL_];rfl
       refine pu_ (i:=7) (some 35) #[true,true,true,true,true,true,true,true,false,false] HT_ ?_
       refine pu_ (i:=8) (some 36) #[true,true,true,true,true,true,true,true,true,false] HT_ ?_
       refine last_ (i:=9) (N:=none) #[true,true,true,true,true,true,true,true,true,true] rfl rfl (bZ_ HT_.o (by kernel_rfl)) (by decide) (fun K hK=>?_)
       refine skip_ (w1:=?_) (by rfl) rfl ?_ ?_
       rotate_left
       ·go_simp;rfl
       refine hK.out _ _ ?_
       clear hK K
       refine done_ (cD_ HT_.o (by kernel_rfl)) ?_
       try go_wp2
       first|go_roundg k2|(try rw [show (⟨go16,(x4_1).toNat,none⟩:Addr)=(⟨go16,0,none⟩:Addr).add (x4_1).toNat from by simp [Addr.add]];go_roundg k2)
       case measure=>have:=HK1.o;have:=HK2.o;omega
       case rel=>exact ⟨(y118),(wrap64 (x23_2+1)),(by first|rfl|(simp;done)|(simp [*];done)),H',⟨by have:=HK1.o;have:=HK2.o;omega⟩,⟨by (with_reducible repeat (first|apply Kd.bW_|apply Kd.bV_|apply Kd.bP_));exact HQ19.o⟩,⟨by (with_reducible repeat (first|apply Kd.bW_|apply Kd.bV_|apply Kd.bP_));exact Kd.bq_ (Kd.R_far (p:=⟨go16,(x23_2:Int).toNat,none⟩) (Kd.bq_ HO_21.o (fun k_ hk=>(⟨hk,fun e_=>hk (by rw [e_];rfl)⟩:_∧k_≠go16))) (fun _ hk=>hk.2) (.int .u8 (Go.bits .xor .u8 (rd x6_2 x23_2) t117))) (fun _ hk=>hk.1)⟩,⟨by repeat (first|(with_reducible first|exact HB.o|apply bk_|apply be_|apply bg_|refine bl_ ?_ GB16.o)|exact HB.o)⟩⟩
      ·rw [if_neg c11] at H;have c11b0:=decide_eq_false c11;clear c11;have H':=am H;clear H
       go_wp2
       go_roundg k2
       case measure=>have:=HK1.o;have:=HK2.o;omega
       case rel=>exact ⟨(x6_2),(wrap64 (x4_1+1)),rfl,H',⟨by have:=HK1.o;have:=HK2.o;omega⟩,⟨zR (Kd.bq_ HO_6.o (fun _ hk=>trivial))⟩,⟨zB HB.o⟩⟩
   ·rw [if_neg c4] at H;have c4b0:=decide_eq_false c4;clear c4;obtain rfl:=Option.some.inj H
    go_wp2
    go_ret
    exact ⟨_,rfl,zR HO_3.o,zB HB.o⟩

/-! ### impl_GeneratorOf: function 13 -/
def Fbn.f (k:Nat) (a0:Int):Option (List Int × Bool):=(Faf.f a0).bind fun t119=>(if t119=true then ((Fh.f k a0).bind fun t120=>(some (t120,true))) else (some (([]:List Int),false)))
set_option maxHeartbeats 8000000 in
set_option maxRecDepth 100000 in
theorem Fbn.calls (k:Nat) (a0:Int) (r1:List Int) (r2:Bool) (w:World) (h:Fbn.f k a0=some (r1,r2)) :
  Calls Try.prog 13 #[.int .i64 a0] w fun e w'=>∃ v0_:Value,e = .returned (.tuple #[v0_,.bool r2])∧Kd.R (Kd.int .u8) 5 w' w.heap.size (fun _=>True) v0_ r1∧Below w.heap.size w w':=by
 have HB:=am (Below.refl w.heap.size w);have H:((Faf.f a0).bind fun t119=>(if t119=true then ((Fh.f k a0).bind fun t120=>(some (t120,true))) else (some (([]:List Int),false))))=some (r1,r2):=h;clear h;obtain ⟨t119,A2,H⟩:=bi_ H
 by_cases c3:t119=true
 ·subst c3
  have H1:((Fh.f k a0).bind fun t120=>(some (t120,true)))=some (r1,r2):=by rw [if_pos rfl] at H;exact H
  clear H;have H:=H1;clear H1;obtain ⟨t120,A4,H⟩:=bi_ H
  simp only [Option.some.injEq,Prod.mk.injEq] at H
  obtain ⟨rfl,rfl⟩:=H
  go_enter Try.func13,Try.ntmps13
  go_wp2_with (first|((with_reducible refine bf_ (f:=38) rfl ?_);refine goL_ (some 5) Try.func38 #[.int .i64 a0] ?_;(with_reducible refine (Faf.calls a0 true _ A2.o).mono ?_);rintro e w' ⟨rfl,⟨nd,rfl⟩⟩;refine ⟨_,rfl,?_⟩)|((with_reducible refine bf_ (f:=39) rfl ?_);refine goL_ (some 8) Try.func39 #[.int .i64 a0] ?_;(with_reducible refine (Fh.calls k a0 t120 _ A4.o).mono ?_);rintro e w5 ⟨v121,rfl,ho0,hb⟩;refine ⟨_,rfl,?_⟩;have HO122:=am (Kd.bx_ ho0 (zs_ HB.o));replace HB:=am (bh_ (zB HB.o) hb);(try clear hb);(try clear ho0)))
  go_ret2
  exact ⟨_,rfl,zR HO122.o,zB HB.o⟩
 ·replace c3:=Bool.eq_false_iff.mpr c3
  subst c3
  have H1:(some (([]:List Int),false))=some (r1,r2):=by rw [if_neg (show ¬ (false=true) by decide)] at H;exact H
  clear H;have H:=H1;clear H1
  simp only [Option.some.injEq,Prod.mk.injEq] at H
  obtain ⟨rfl,rfl⟩:=H
  go_enter Try.func13,Try.ntmps13
  go_wp2_with (first|((with_reducible refine bf_ (f:=38) rfl ?_);refine goL_ (some 5) Try.func38 #[.int .i64 a0] ?_;(with_reducible refine (Faf.calls a0 false _ A2.o).mono ?_);rintro e w' ⟨rfl,⟨nd,rfl⟩⟩;refine ⟨_,rfl,?_⟩))
  go_ret2
  exact ⟨_,rfl,by first|apply Kd.di_|apply Kd.N_nil|apply Kd.V_nil|apply Kd.Q_nil|apply Kd.S_nil,zB HB.o⟩

/-! ### impl_isLong: function 42 -/
def Fah.f (l0:List Int) (a1:Int):Option (Bool):=(Faf.f a1).bind fun t123=>(if t123=true then ((Fp.f (l0.length:Int) (wrap64 ((wrap64 (2 * a1))+1)) 24).bind fun t124=>(some t124)) else (some false))
set_option maxHeartbeats 8000000 in
set_option maxRecDepth 100000 in
theorem Fah.calls (A0:Option Addr) (c0:Nat) (l0:List Int) (a1:Int) (r:Bool) (w:World) (hr0:Kd.C (Kd.int .u8) w A0 l0.length l0) (hc0:l0.length≤c0) (h:Fah.f l0 a1=some r) :
  Calls Try.prog 42 #[.slice A0 l0.length c0,.int .i64 a1] w fun e w'=>e = .returned (.bool r)∧bp_ w w':=by
 have HR0:=am hr0;have HC0:=am hc0;clear hr0 hc0;have H:((Faf.f a1).bind fun t123=>(if t123=true then ((Fp.f (l0.length:Int) (wrap64 ((wrap64 (2 * a1))+1)) 24).bind fun t124=>(some t124)) else (some false)))=some r:=h;clear h;obtain ⟨t123,A3,H⟩:=bi_ H
 by_cases c4:t123=true
 ·subst c4
  have H1:((Fp.f (l0.length:Int) (wrap64 ((wrap64 (2 * a1))+1)) 24).bind fun t124=>(some t124))=some r:=by rw [if_pos rfl] at H;exact H
  clear H;have H:=H1;clear H1;obtain ⟨t124,A5,H⟩:=bi_ H;obtain rfl:=Option.some.inj H
  go_enter Try.func42,Try.ntmps42
  go_wp2_with (first|((with_reducible refine bf_ (f:=38) rfl ?_);refine goL_ (some 6) Try.func38 #[.int .i64 a1] ?_;(with_reducible refine (Faf.calls a1 true _ A3.o).mono ?_);rintro e w' ⟨rfl,⟨nd,rfl⟩⟩;refine ⟨_,rfl,?_⟩)|(go_at_call 47;(with_reducible refine (Fp.calls (l0.length:Int) (wrap64 ((wrap64 (2 * a1))+1)) 24 t124 _ A5.o).mono ?_);rintro e w' ⟨rfl,⟨nd,rfl⟩⟩))
  go_ret
  exact ⟨by first|rfl|(simp;done)|(simp [*];done),by repeat (first|exact bp_.refl _|apply bp_.step)⟩
 ·replace c4:=Bool.eq_false_iff.mpr c4
  subst c4
  have H1:(some false)=some r:=by rw [if_neg (show ¬ (false=true) by decide)] at H;exact H
  clear H;have H:=H1;clear H1;obtain rfl:=Option.some.inj H
  go_enter Try.func42,Try.ntmps42
  go_wp2_with (first|((with_reducible refine bf_ (f:=38) rfl ?_);refine goL_ (some 6) Try.func38 #[.int .i64 a1] ?_;(with_reducible refine (Faf.calls a1 false _ A3.o).mono ?_);rintro e w' ⟨rfl,⟨nd,rfl⟩⟩;refine ⟨_,rfl,?_⟩))
  go_ret
  exact ⟨by first|rfl|(simp;done)|(simp [*];done),by repeat (first|exact bp_.refl _|apply bp_.step)⟩

/-! ### impl_valueAt: function 57 -/
def Fas.l0:Nat→List Int→Int→Int→Int→Option (Int)
 | 0,_,_,_,_=>none
 | k+1,x0,x1,x5,x6=>if x6 ≥ 0 then ((Fg.f k x5 x1).bind fun t125=>(if 0≤x6 then (if x6<(x0.length:Int) then (Fas.l0 k x0 x1 (Go.bits .xor .u8 t125 (rd x0 x6)) (wrap64 (x6 - 1))) else (none)) else (none))) else (some x5)
def Fas.f (k:Nat) (l0:List Int) (a1:Int):Option (Int):=Fas.l0 k l0 a1 0 (wrap64 ((l0.length:Int) - 1))
set_option maxHeartbeats 8000000 in
set_option maxRecDepth 100000 in
theorem Fas.calls (k:Nat) (A0:Option Addr) (c0:Nat) (l0:List Int) (a1:Int) (r:Int) (w:World) (hr0:Kd.C (Kd.int .u8) w A0 l0.length l0) (hc0:l0.length≤c0) (h:Fas.f k l0 a1=some r) :
  Calls Try.prog 57 #[.slice A0 l0.length c0,.int .u8 a1] w fun e w'=>e = .returned (.int .u8 r)∧bp_ w w':=by
 have HR0:=am hr0;have HC0:=am hc0;clear hr0 hc0;have H:(Fas.l0 k l0 a1 0 (wrap64 ((l0.length:Int) - 1)))=some r:=h;clear h;have H':=am H;clear H
 go_enter Try.func57,Try.ntmps57
 go_wp2
 repeat (go_quiet (fail);try go_wp2)
 go_loopg [5,6] k (fun kq v5 v6 w'=>∃ (x5_1:Int) (x6_1:Int),v5 = .int .u8 x5_1∧v6 = .int .i64 x6_1∧ba_ (Fas.l0 kq l0 a1 x5_1 x6_1=some r)∧ba_ (kq≤k)∧bp_ w w')
 case atStart=>exact ⟨(0),(wrap64 ((l0.length:Int) - 1)),rfl,rfl,H',⟨Nat.le_refl _⟩,by repeat (first|exact bp_.refl _|apply bp_.step)⟩
 case round =>
  clear H';obtain ⟨x5_1,x6_1,rfl,rfl,HA,HK1,⟨m1,rfl⟩⟩:=hrel
  cases gk with
  | zero=>exact absurd HA.o (by simp [Fas.l0])
  | succ k1 =>
   have H:=HA.o;clear HA
   simp only [Fas.l0] at H
   by_cases c3:x6_1 ≥ 0
   ·rw [if_pos c3] at H;have c3b0:decide (0≤x6_1)=true:=decide_eq_true c3;clear c3;obtain ⟨t125,A4,H⟩:=bi_ H
    obtain ⟨c5,H⟩:=it_ H;have c5b0:=decide_eq_true c5;clear c5
    obtain ⟨c6,H⟩:=it_ H;have c6b0:=decide_eq_true c6;clear c6;have H':=am H;clear H
    go_wp2_with (first|(go_at_call 48;(with_reducible refine (Fg.calls k1 x5_1 a1 t125 _ A4.o).mono ?_);rintro e w' ⟨rfl,⟨nd,rfl⟩⟩;(try first|exact ⟨rfl,_,World.drewN_drewN _ _ _⟩|exact ⟨rfl,_,Eq.trans (World.drewN_drewN _ _ _) (congrArg (World.drewN _) (Nat.add_assoc _ _ _))⟩);have p126:0≤(x6_1:Int):=od_;have q126:x6_1<(l0.length:Int):=od_;obtain ⟨ad126,e126,hx126_0⟩:=Kd.bK_ HR0.o x6_1 p126 q126;cases e126;replace p126:=eq_true p126;replace q126:=eq_true q126))
    repeat (go_quiet (first|(go_at_call 48;(with_reducible refine (Fg.calls k1 x5_1 a1 t125 _ A4.o).mono ?_);rintro e w' ⟨rfl,⟨nd,rfl⟩⟩;(try first|exact ⟨rfl,_,World.drewN_drewN _ _ _⟩|exact ⟨rfl,_,Eq.trans (World.drewN_drewN _ _ _) (congrArg (World.drewN _) (Nat.add_assoc _ _ _))⟩);have p126:0≤(x6_1:Int):=od_;have q126:x6_1<(l0.length:Int):=od_;obtain ⟨ad126,e126,hx126_0⟩:=Kd.bK_ HR0.o x6_1 p126 q126;cases e126;replace p126:=eq_true p126;replace q126:=eq_true q126));try go_wp2_with (first|(go_at_call 48;(with_reducible refine (Fg.calls k1 x5_1 a1 t125 _ A4.o).mono ?_);rintro e w' ⟨rfl,⟨nd,rfl⟩⟩;(try first|exact ⟨rfl,_,World.drewN_drewN _ _ _⟩|exact ⟨rfl,_,Eq.trans (World.drewN_drewN _ _ _) (congrArg (World.drewN _) (Nat.add_assoc _ _ _))⟩);have p126:0≤(x6_1:Int):=od_;have q126:x6_1<(l0.length:Int):=od_;obtain ⟨ad126,e126,hx126_0⟩:=Kd.bK_ HR0.o x6_1 p126 q126;cases e126;replace p126:=eq_true p126;replace q126:=eq_true q126)))
    go_roundg k1
    case measure=>have:=HK1.o;omega
    case rel=>exact ⟨(Go.bits .xor .u8 t125 (rd l0 x6_1)),(wrap64 (x6_1 - 1)),rfl,rfl,H',⟨by have:=HK1.o;omega⟩,by repeat (first|exact bp_.refl _|apply bp_.step)⟩
   ·rw [if_neg c3] at H;have c3b0:decide (0≤x6_1)=false:=decide_eq_false c3;clear c3;obtain rfl:=Option.some.inj H
    go_wp2
    repeat (go_quiet (fail);try go_wp2)
    go_ret
    exact ⟨by first|rfl|(simp;done)|(simp [*];done),by repeat (first|exact bp_.refl _|apply bp_.step)⟩

end Go.Proofs.Ytbloniemhkfnlaa.PFnCorrected
