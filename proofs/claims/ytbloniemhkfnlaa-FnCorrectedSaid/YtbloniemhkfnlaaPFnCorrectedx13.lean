/- A law's functions as plain Lean functions, each with the walk that shows that the code computes it: written by this session's program wip/tools/ppmake.py. -/
import Derived.Test.YtbloniemhkfnlaaKZ
import Derived.Test.YtbloniemhkfnlaaPFnCorrectedx0
import Derived.Test.YtbloniemhkfnlaaPFnCorrectedx1
namespace Go.Proofs.Ytbloniemhkfnlaa.PFnCorrected
open Go.RowKit Go.Proofs.YtbloniemhkfnlaaW.PrintWords Go.Proofs.YtbloniemhkfnlaaW.PrintLast Go.Proofs.YtbloniemhkfnlaaW.PrintMore
attribute [local go_sem] cw_ cy_ cK_ cL_ ci_ ch_ cx_ cv_   -- for this text's walks alone
set_option linter.unusedVariables false
set_option linter.unusedSimpArgs false

/-! ### impl_filled: function 60 -/
mutual
def Fs.l0 (q:Int→Int→Option Int):Nat→Int→List (List Int)→Int→Int→Option ((List (List Int)))
 | 0,_,_,_,_=>none
 | k+1,x1,x7,x12,x13=>if x13<x12 then (Fs.l1 q k x1 x7 x13 (([]:List Int)) x12 x13 x1 0) else (some x7)
def Fs.l1 (q:Int→Int→Option Int):Nat→Int→List (List Int)→Int→List Int→Int→Int→Int→Int→Option ((List (List Int)))
 | 0,_,_,_,_,_,_,_,_=>none
 | k+1,x1,x7,x8,x9,x12,x13,x17,x18=>if x18<x17 then ((q x8 x18).bind fun t218=>(if x9.length<140737488355328 then (Fs.l1 q k x1 x7 x8 (x9++[t218]) x12 x13 x17 (wrap64 (x18+1))) else (none))) else (if x7.length<5864062014805 then (Fs.l0 q k x1 (x7++[x9]) x12 (wrap64 (x13+1))) else (none))
end
def Fs.f (q:Int→Int→Option Int) (k:Nat) (a0:Int) (a1:Int):Option ((List (List Int))):=Fs.l0 q k a1 (([]:List (List Int))) a0 0
set_option maxHeartbeats 8000000 in
set_option maxRecDepth 100000 in
theorem Fs.calls (q:Int→Int→Option Int) (g:Nat) (lb:Array Value) (eg:∀ args w,(callFunc g args).run Try.prog w = .ok (.enter g args) w) (k:Nat) (a0:Int) (a1:Int) (r:List (List Int)) (w:World)
  (hp:∀ (W:World) (i j b:Int),Below w.heap.size w W→q i j=some b→Calls Try.prog g (#[.int .i64 i,.int .i64 j]++lb) W fun e w'=>e = .returned (.int .u8 b)∧bp_ W w') (h:Fs.f q k a0 a1=some r) :
  Calls Try.prog 60 #[.int .i64 a0,.int .i64 a1,.func (.func g) #[] lb] w fun e w'=>∃ v0_:Value,e = .returned (v0_)∧Kd.S (Kd.slice 5 (Kd.int .u8)) 22 w' w.heap.size (fun _=>True) v0_ r∧Below w.heap.size w w':=by
 have HB:=am (Below.refl w.heap.size w);have H:(Fs.l0 q k a1 (([]:List (List Int))) a0 0)=some r:=h;clear h;obtain ⟨y212,hy212⟩:∃ y_:List (List Int),y_=(([]:List (List Int))):=⟨_,rfl⟩
 replace H:(Fs.l0 q k a1 y212 a0 0)=some r:=by first|(rw [hy212];exact H)|(have H2_:=(Option.bind_some _ _).symm.trans H;first|exact H2_|(rw [hy212];exact H2_))|exact H
 have Ny212:=am hy212;clear hy212;have H':=am H;clear H
 go_enter Try.func60,Try.ntmps60
 go_wp2_with (first|((with_reducible refine bB_ (N:=11) rfl ?_);refine Kd.S_lit (Kd.slice 5 (Kd.int .u8)) _ 22 ?hg (N:=11) ?hd (xs:=([]:List (List Int))) (inner:=[]) (ok:=fun _=>True) (okp:=fun _=>True) ?hr ?hp (fun _ hk=>hk) trivial (Below.refl _ _) (Nat.le_refl _) (by simp) ?_;(case hd=>rfl);(case hg=>rfl);(case hr=>first|(go_simp;done)|(go_simp;rfl));(case hp=>exact (Reps.none _ _));intro v213 w4 ho5 hb hg_ hnew_;clear hg_ hnew_;(first|rw [← Ny212.o] at ho5|(simp only [Int.reduceToNat] at ho5;rw [← Ny212.o] at ho5));have HO214:=am (Kd.S_lower ho5 (zs_ HB.o));replace HB:=am (bh_ (zB HB.o) hb);clear hb ho5))
 go_loopg [7,13] k (fun kq v7 v13 w'=>∃ (x7_1:List (List Int)) (x13_1:Int),v13 = .int .i64 x13_1∧ba_ (Fs.l0 q kq a1 x7_1 a0 x13_1=some r)∧ba_ (kq≤k)∧ba_ (Kd.S (Kd.slice 5 (Kd.int .u8)) 22 w' w.heap.size (fun _=>True) v7 x7_1)∧ba_ (Below w.heap.size w w'))
 case atStart=>exact ⟨(y212),(0),rfl,H',⟨Nat.le_refl _⟩,⟨zS HO214.o⟩,⟨zB HB.o⟩⟩
 case round =>
  clear H';obtain ⟨x7_1,x13_1,rfl,HA,HK1,HO_7,HB⟩:=hrel
  cases gk with
  | zero=>exact absurd HA.o (by simp [Fs.l0])
  | succ k1 =>
   have H:=HA.o;clear HA
   simp only [Fs.l0] at H
   by_cases c6:x13_1<a0
   ·rw [if_pos c6] at H;have c6b0:=decide_eq_true c6;clear c6;obtain ⟨y215,hy215⟩:∃ y_:List Int,y_=(([]:List Int)):=⟨_,rfl⟩
    replace H:(Fs.l1 q k1 a1 x7_1 x13_1 y215 a0 x13_1 a1 0)=some r:=by first|(rw [hy215];exact H)|(have H2_:=(Option.bind_some _ _).symm.trans H;first|exact H2_|(rw [hy215];exact H2_))|exact H
    have Ny215:=am hy215;clear hy215;have H':=am H;clear H
    go_wp2_with (first|((with_reducible refine bB_ (N:=16) rfl ?_);refine Kd.R_lit (Kd.int .u8) _ 5 ?hg (N:=16) ?hd (xs:=([]:List Int)) (inner:=[]) (ok:=fun _=>True) (okp:=fun _=>True) ?hr ?hp (fun _ hk=>hk) trivial (Below.refl _ _) (Nat.le_refl _) (by simp) ?_;(case hd=>rfl);(case hg=>rfl);(case hr=>first|(go_simp;done)|(go_simp;rfl));(case hp=>exact (Reps.none _ _));intro v216 w7 ho8 hb hg_ hnew_;clear hg_ hnew_;(first|rw [← Ny215.o] at ho8|(simp only [Int.reduceToNat] at ho8;rw [← Ny215.o] at ho8));replace HO_7:=am (Kd.cZ_ (zS HO_7.o) (Kd.bt_ ho8) hb);have HO217:=am (Kd.bx_ ho8 (zs_ HB.o));replace HB:=am (bh_ (zB HB.o) hb);clear hb ho8))
    go_loopg [9,18] k1 (fun kq v9 v18 w'=>∃ (x9_2:List Int) (x18_2:Int),v18 = .int .i64 x18_2∧ba_ (Fs.l1 q kq a1 x7_1 x13_1 x9_2 a0 x13_1 a1 x18_2=some r)∧ba_ (kq≤k1)∧ba_ (Kd.S (Kd.slice 5 (Kd.int .u8)) 22 w' w.heap.size (fun k_=>some k_≠(v9:Value).ownBlock) u7 x7_1)∧ba_ (Kd.R (Kd.int .u8) 5 w' w.heap.size (fun _=>True) v9 x9_2)∧ba_ (Below w.heap.size w w'))
    case atStart=>exact ⟨(y215),(0),rfl,H',⟨Nat.le_refl _⟩,⟨zS (Kd.cH_ HO_7.o (fun _ hk=>hk.2))⟩,⟨zR HO217.o⟩,⟨zB HB.o⟩⟩
    case round =>
     clear H';obtain ⟨x9_2,x18_2,rfl,HA,HK2,HO_7,HO_9,HB⟩:=hrel
     cases gk with
     | zero=>exact absurd HA.o (by simp [Fs.l1])
     | succ k2 =>
      have H:=HA.o;clear HA
      simp only [Fs.l1] at H
      by_cases c9:x18_2<a1
      ·rw [if_pos c9] at H;have c9b0:=decide_eq_true c9;clear c9;obtain ⟨t218,A10,H⟩:=bi_ H
       obtain ⟨c11,H⟩:=it_ H;have LMc11:=am c11;clear c11;obtain ⟨y219,hy219⟩:∃ y_:List Int,y_=(x9_2++[t218]):=⟨_,rfl⟩
       replace H:(Fs.l1 q k2 a1 x7_1 x13_1 y219 a0 x13_1 a1 (wrap64 (x18_2+1)))=some r:=by first|(rw [hy219];exact H)|(have H2_:=(Option.bind_some _ _).symm.trans H;first|exact H2_|(rw [hy219];exact H2_))|exact H
       have Ny219:=am hy219;clear hy219;have H':=am H;clear H;have HCALL:=am (hp _ x13_1 x18_2 t218 HB.o A10.o);clear hp
       go_wp2_with (first|(go_at_fn g;refine HCALL.o.mono ?_;rintro e w' ⟨rfl,⟨nd,rfl⟩⟩)|((with_reducible refine bE_ (b:=.append) (xs:=#[.tmp 21,.tmp 26]) rfl ?_);at_builtin;refine Kd.cY_ (Kd.int .u8) (w0:=w) w.heap.size rfl (.tmp 21) (.tmp 26) 22 5 (.int .u8 0) 1 rfl Try.underlying22 info5 rfl (by decide) (by omega) u9 x9_2 t218 [.int .u8 t218] (fun _=>True) (fun _=>False) rfl rfl ?aP (fun _ hk=>hk.elim) ?aF ?aO ?aB ?aS ?aL ?_;(case aP=>exact rfl);(case aB=>exact (zB HB.o));(case aF=>exact (fun _ _=>trivial));(case aO=>exact (zR HO_9.o));(case aS=>exact (zs_ HB.o));(case aL=>have:=LMc11.o;omega);intro v220 w12 ho hb hg hat;rw [← Ny219.o] at ho;replace HO_7:=am (Kd.S_after (ok:=(fun _=>True)) (zS (Kd.cH_ HO_7.o (fun _ hk=>⟨trivial,hk⟩))) hg hat);replace HB:=am (hb);have HO221:=am (ho);(try clear HO_9);clear ho hb hg hat))
       go_roundg k2
       case measure=>have:=HK1.o;have:=HK2.o;omega
       case rel=>exact ⟨(y219),(wrap64 (x18_2+1)),rfl,H',⟨by have:=HK1.o;have:=HK2.o;omega⟩,⟨zS (Kd.cH_ HO_7.o (fun _ hk=>hk.2))⟩,⟨zR HO221.o⟩,⟨zB HB.o⟩⟩
      ·rw [if_neg c9] at H;have c9b0:=decide_eq_false c9;clear c9
       obtain ⟨c13,H⟩:=it_ H;have LMc13:=am c13;clear c13;obtain ⟨y222,hy222⟩:∃ y_:List (List Int),y_=(x7_1++[x9_2]):=⟨_,rfl⟩
       replace H:(Fs.l0 q k2 a1 y222 a0 (wrap64 (x13_1+1)))=some r:=by first|(rw [hy222];exact H)|(have H2_:=(Option.bind_some _ _).symm.trans H;first|exact H2_|(rw [hy222];exact H2_))|exact H
       have Ny222:=am hy222;clear hy222;have H':=am H;clear H;obtain ⟨Ao15,co15,eo15⟩:=Kd.bv_ HO_9.o
       subst eo15
       go_wp2_with (first|((with_reducible refine bE_ (b:=.append) (xs:=#[.tmp 29,.tmp 31]) rfl ?_);at_builtin;refine Kd.S_append (Kd.slice 5 (Kd.int .u8)) (w0:=w) w.heap.size rfl (.tmp 29) (.tmp 31) 50 22 (.slice none 0 0) 24 rfl Try.underlying50 info22 rfl (by decide) (by omega) u7 x7_1 x9_2 [.slice Ao15 x9_2.length co15] (fun _=>True) (fun k_=>some k_=(.slice Ao15 x9_2.length co15:Value).ownBlock) rfl rfl ?aP (fun k_ hk_=>((Kd.bq_ (ok':=fun k_=>((fun _=>True)) k_∧some k_≠(u7:Value).ownBlock) (Kd.cj_ (HO_9.o) (Kd.dp_ HO_7.o) (by decide)) (fun k_ hk=>⟨trivial,hk.2⟩))).1 k_ hk_.symm) ?aF ?aO ?aB ?aS ?aL ?_;(case aP=>exact Kd.M_row (Kd.bq_ (Kd.R_tight rfl (Kd.bq_ (ok':=fun k_=>((fun _=>True)) k_∧some k_≠(u7:Value).ownBlock) (Kd.cj_ (HO_9.o) (Kd.dp_ HO_7.o) (by decide)) (fun k_ hk=>⟨trivial,hk.2⟩))) (fun _ h_=>h_)));(case aB=>exact (zB HB.o));(case aF=>exact (fun _ _=>trivial));(case aO=>exact (zS (Kd.cH_ HO_7.o (fun k_ hk=>⟨trivial,fun e_=>hk e_⟩))));(case aS=>exact (zs_ HB.o));(case aL=>have:=LMc13.o;omega);intro v223 w14 ho hb hg hat;rw [← Ny222.o] at ho;replace HB:=am (hb);have HO224:=am (ho);(try clear HO_7);(try clear HO_9);clear ho hb hg hat))
       go_roundg k2
       case measure=>have:=HK1.o;have:=HK2.o;omega
       case rel=>exact ⟨(y222),(wrap64 (x13_1+1)),rfl,H',⟨by have:=HK1.o;have:=HK2.o;omega⟩,⟨zS HO224.o⟩,⟨zB HB.o⟩⟩
   ·rw [if_neg c6] at H;have c6b0:=decide_eq_false c6;clear c6;obtain rfl:=Option.some.inj H
    go_wp2
    go_ret
    exact ⟨_,rfl,zS HO_7.o,zB HB.o⟩


/-! ### impl_identity: function 88 -/
def Fan.l0:Nat→Int→List (List Int)→Int→Int→Option ((List (List Int)))
 | 0,_,_,_,_=>none
 | k+1,x0,x3,x7,x8=>if x8<x7 then (if 0≤x0 then (if (x0:Int).toNat≤281474976710656 then ((some (List.replicate (x0:Int).toNat 0:List Int)).bind fun y385=>(if 0≤x8 then (if x8<(y385.length:Int) then (if x3.length<5864062014805 then (Fan.l0 k x0 (x3++[(y385.set (x8:Int).toNat 1)]) x7 (wrap64 (x8+1))) else (none)) else (none)) else (none))) else (none)) else (none)) else (some x3)
def Fan.f (k:Nat) (a0:Int):Option ((List (List Int))):=Fan.l0 k a0 (([]:List (List Int))) a0 0
set_option maxHeartbeats 8000000 in
set_option maxRecDepth 100000 in
theorem Fan.calls (k:Nat) (a0:Int) (r:List (List Int)) (w:World) (h:Fan.f k a0=some r) :
  Calls Try.prog 88 #[.int .i64 a0] w fun e w'=>∃ v0_:Value,e = .returned (v0_)∧Kd.S (Kd.slice 5 (Kd.int .u8)) 22 w' w.heap.size (fun _=>True) v0_ r∧Below w.heap.size w w':=by
 have HB:=am (Below.refl w.heap.size w);have H:(Fan.l0 k a0 (([]:List (List Int))) a0 0)=some r:=h;clear h;obtain ⟨y382,hy382⟩:∃ y_:List (List Int),y_=(([]:List (List Int))):=⟨_,rfl⟩
 replace H:(Fan.l0 k a0 y382 a0 0)=some r:=by first|(rw [hy382];exact H)|(have H2_:=(Option.bind_some _ _).symm.trans H;first|exact H2_|(rw [hy382];exact H2_))|exact H
 have Ny382:=am hy382;clear hy382;have H':=am H;clear H
 go_enter Try.func88,Try.ntmps88
 go_wp2_with (first|((with_reducible refine bB_ (N:=6) rfl ?_);refine Kd.S_lit (Kd.slice 5 (Kd.int .u8)) _ 22 ?hg (N:=6) ?hd (xs:=([]:List (List Int))) (inner:=[]) (ok:=fun _=>True) (okp:=fun _=>True) ?hr ?hp (fun _ hk=>hk) trivial (Below.refl _ _) (Nat.le_refl _) (by simp) ?_;(case hd=>rfl);(case hg=>rfl);(case hr=>first|(go_simp;done)|(go_simp;rfl));(case hp=>exact (Reps.none _ _));intro v383 w2 ho3 hb hg_ hnew_;clear hg_ hnew_;(first|rw [← Ny382.o] at ho3|(simp only [Int.reduceToNat] at ho3;rw [← Ny382.o] at ho3));have HO384:=am (Kd.S_lower ho3 (zs_ HB.o));replace HB:=am (bh_ (zB HB.o) hb);clear hb ho3))
 go_loopg [3,8] k (fun kq v3 v8 w'=>∃ (x3_1:List (List Int)) (x8_1:Int),v8 = .int .i64 x8_1∧ba_ (Fan.l0 kq a0 x3_1 a0 x8_1=some r)∧ba_ (kq≤k)∧ba_ (Kd.S (Kd.slice 5 (Kd.int .u8)) 22 w' w.heap.size (fun _=>True) v3 x3_1)∧ba_ (Below w.heap.size w w'))
 case atStart=>exact ⟨(y382),(0),rfl,H',⟨Nat.le_refl _⟩,⟨zS HO384.o⟩,⟨zB HB.o⟩⟩
 case round =>
  clear H';obtain ⟨x3_1,x8_1,rfl,HA,HK1,HO_3,HB⟩:=hrel
  cases gk with
  | zero=>exact absurd HA.o (by simp [Fan.l0])
  | succ k1 =>
   have H:=HA.o;clear HA
   simp only [Fan.l0] at H
   by_cases c4:x8_1<a0
   ·rw [if_pos c4] at H;have c4b0:=decide_eq_true c4;clear c4
    obtain ⟨c5,H⟩:=it_ H;have c5b0:=eq_true c5;have c5b1:=decide_eq_true c5;clear c5
    obtain ⟨c6,H⟩:=it_ H;have c6b0:=eq_true c6;have c6b1:=decide_eq_true c6;clear c6;obtain ⟨y385,hy385⟩:∃ y_:List Int,y_=(List.replicate (a0:Int).toNat 0):=⟨_,rfl⟩
    replace H:(if 0≤x8_1 then (if x8_1<(y385.length:Int) then (if x3_1.length<5864062014805 then (Fan.l0 k1 a0 (x3_1++[(y385.set (x8_1:Int).toNat 1)]) a0 (wrap64 (x8_1+1))) else (none)) else (none)) else (none))=some r:=by first|(rw [hy385];exact H)|(have H2_:=(Option.bind_some _ _).symm.trans H;first|exact H2_|(rw [hy385];exact H2_))|exact H
    have Ny385:=am hy385;clear hy385
    obtain ⟨c7,H⟩:=it_ H;have c7b0:=decide_eq_true c7;clear c7
    obtain ⟨c8,H⟩:=it_ H;have c8b0:=decide_eq_true c8;clear c8;obtain ⟨y388,hy388⟩:∃ y_:List Int,y_=(y385.set (x8_1:Int).toNat 1):=⟨_,rfl⟩
    replace H:(if x3_1.length<5864062014805 then (Fan.l0 k1 a0 (x3_1++[y388]) a0 (wrap64 (x8_1+1))) else (none))=some r:=by first|(rw [hy388];exact H)|(have H2_:=(Option.bind_some _ _).symm.trans H;first|exact H2_|(rw [hy388];exact H2_))|exact H
    have Ny388:=am hy388;clear hy388
    obtain ⟨c10,H⟩:=it_ H;have LMc10:=am c10;clear c10;obtain ⟨y389,hy389⟩:∃ y_:List (List Int),y_=(x3_1++[y388]):=⟨_,rfl⟩
    replace H:(Fan.l0 k1 a0 y389 a0 (wrap64 (x8_1+1)))=some r:=by first|(rw [hy389];exact H)|(have H2_:=(Option.bind_some _ _).symm.trans H;first|exact H2_|(rw [hy389];exact H2_))|exact H
    have Ny389:=am hy389;clear hy389;have H':=am H;clear H
    go_wp2_with (first|((with_reducible refine bB_ (N:=12) rfl ?_);refine Kd.R_make (Kd.int .u8) _ 5 rfl (N:=12) rfl 22 _ _ rfl a0 rfl rfl Try.underlying22 (.int .u8 0) 1 info5 rfl (by decide) (by omega) 0 (ok:=fun _=>True) (okp:=fun _=>True) rfl (fun _ hk=>hk) trivial (od_) (Nat.le_trans (Nat.mul_le_mul_right _ (od_:a0.toNat≤281474976710656)) (by omega)) (Below.refl _ _) (Nat.le_refl _) ?_;intro v386 w11 ho12 hb hg_ hnew_;clear hg_ hnew_;(first|rw [← Ny385.o] at ho12|(simp only [Int.reduceToNat] at ho12;rw [← Ny385.o] at ho12));replace HO_3:=am (Kd.cZ_ (zS HO_3.o) (Kd.bt_ ho12) hb);have HO387:=am (Kd.bx_ ho12 (zs_ HB.o));replace HB:=am (bh_ (zB HB.o) hb);clear hb ho12;have p9:0≤(x8_1:Int):=od_;have q9:(x8_1:Int)<((y385.length:Int):Int):=od_;obtain ⟨go9,co9,eo9,gb9,gl9,cl9,HG9⟩:=Kd.R_form HO387.o (by omega);(first|cases eo9|(injection eo9 with ea_ en_ ec_;(first|subst ea_|(injection ea_ with ea_;subst ea_));subst ec_;clear en_));have GB9:=am gb9;have GG9:=am HG9;clear gb9 gl9 HG9;obtain ⟨hx9_0,hf9_0⟩:=Kd.R_celln 0 HO387.o (x8_1:Int) p9 q9;replace p9:=eq_true p9;replace q9:=eq_true q9;obtain ⟨hy13_,hz13_⟩:=Kd.R_celln 0 HO387.o (x8_1:Int) (od_) (od_);have HP13:=Kd.R_putg HO387.o (x8_1:Int) 1)|((with_reducible refine gate_store (t:=5) (p:=15) rfl ?_);refine store_event (t:=5) (p:=15) (v:=?vo_w14) (w1:=(w11.setCell ⟨go9,(x8_1:Int).toNat,none⟩ (.int .u8 1))) ?hg ?ho ?hn ?hr ?_;(case ho=>rfl);(case hg=>rfl);(case hn=>rfl);(case hr=>first|(go_simp;done)|(go_simp;rfl));intro w14 hw;have hg:w11.grownBy w14 (some go9):=(by rw [hw];exact HP13.2);have hp_:Kd.R (Kd.int .u8) 5 w14 w.heap.size (fun _=>True) (.slice (some ⟨go9,0,none⟩) y385.length co9) y388:=(by rw [hw,Ny388.o];exact HP13.1);clear HP13;replace HO_3:=am (Kd.S_after (v:=(.slice (some ⟨go9,0,none⟩) y385.length co9)) (v1:=(.slice (some ⟨go9,0,none⟩) y385.length co9)) (ok:=(fun _=>True)) (zS HO_3.o) hg (.inl rfl));replace HO387:=am (hp_);replace HB:=am ((by rw [hw];exact bl_ (HB.o) GB9.o:Below w.heap.size w w14));clear hg hw hp_)|((with_reducible refine bE_ (b:=.append) (xs:=#[.tmp 16,.tmp 18]) rfl ?_);at_builtin;refine Kd.S_append (Kd.slice 5 (Kd.int .u8)) (w0:=w) w.heap.size rfl (.tmp 16) (.tmp 18) 50 22 (.slice none 0 0) 24 rfl Try.underlying50 info22 rfl (by decide) (by omega) u3 x3_1 y388 [.slice (some ⟨go9,0,none⟩) y385.length co9] (fun _=>True) (fun k_=>some k_=(.slice (some ⟨go9,0,none⟩) y385.length co9:Value).ownBlock) rfl rfl ?aP (fun k_ hk_=>((Kd.bq_ (ok':=fun k_=>((fun _=>True)) k_∧some k_≠(u3:Value).ownBlock) (Kd.cj_ (HO387.o) (Kd.dp_ HO_3.o) (by decide)) (fun k_ hk=>⟨trivial,hk.2⟩))).1 k_ hk_.symm) ?aF ?aO ?aB ?aS ?aL ?_;(case aP=>exact Kd.M_row (Kd.bq_ (Kd.R_tight rfl (Kd.bq_ (ok':=fun k_=>((fun _=>True)) k_∧some k_≠(u3:Value).ownBlock) (Kd.cj_ (HO387.o) (Kd.dp_ HO_3.o) (by decide)) (fun k_ hk=>⟨trivial,hk.2⟩))) (fun _ h_=>h_)));(case aB=>exact (zB HB.o));(case aF=>exact (fun _ _=>trivial));(case aO=>exact (zS (Kd.cH_ HO_3.o (fun k_ hk=>⟨trivial,fun e_=>hk.2 e_⟩))));(case aS=>exact (zs_ HB.o));(case aL=>have:=LMc10.o;omega);intro v390 w15 ho hb hg hat;rw [← Ny389.o] at ho;replace HB:=am (hb);have HO391:=am (ho);(try clear HO_3);(try clear HO387);clear ho hb hg hat))
    go_roundg k1
    case measure=>have:=HK1.o;omega
    case rel=>exact ⟨(y389),(wrap64 (x8_1+1)),rfl,H',⟨by have:=HK1.o;omega⟩,⟨zS HO391.o⟩,⟨zB HB.o⟩⟩
   ·rw [if_neg c4] at H;have c4b0:=decide_eq_false c4;clear c4;obtain rfl:=Option.some.inj H
    go_wp2
    go_ret
    exact ⟨_,rfl,zS HO_3.o,zB HB.o⟩

/-! ### impl_Inverse: function 58 -/
def Fbg.f (k:Nat) (a0:Int):Option (Int):=(Fj.f k a0 254).bind fun t392=>(some t392)
set_option maxHeartbeats 8000000 in
set_option maxRecDepth 100000 in
theorem Fbg.calls (k:Nat) (a0:Int) (r:Int) (w:World) (h:Fbg.f k a0=some r) :
  Calls Try.prog 58 #[.int .u8 a0] w fun e w'=>e = .returned (.int .u8 r)∧bp_ w w':=by
 have H:((Fj.f k a0 254).bind fun t392=>(some t392))=some r:=h;clear h;obtain ⟨t392,A2,H⟩:=bi_ H;obtain rfl:=Option.some.inj H
 go_enter Try.func58,Try.ntmps58
 go_wp2_with (first|((with_reducible refine bf_ (f:=59) rfl ?_);refine goL_ (some 4) Try.func59 #[.int .u8 a0,.int .i64 254] ?_;(with_reducible refine (Fj.calls k a0 254 t392 _ A2.o).mono ?_);rintro e w' ⟨rfl,⟨nd,rfl⟩⟩;refine ⟨_,rfl,?_⟩))
 go_ret
 exact ⟨by first|rfl|(simp;done)|(simp [*];done),by repeat (first|exact bp_.refl _|apply bp_.step)⟩

/-! ### slices_IndexFunc_byte_byte: function 90 -/
/-- The first row, counted from i on, whose number at place k is not 0; -1 where there is none. -/
def idxNZ (k:Int):List (List Int)→Nat→Option Int
 | [],_=>some (-1)
 | x :: xs,i=>if 0≤k then (if k<(x.length:Int) then (if rd x k=0 then idxNZ k xs (i+1) else some (i:Int)) else none) else none
def Fax.f (l:List (List Int)) (r k:Int):Option Int:=if 0≤r then (if r≤(l.length:Int) then idxNZ k (l.drop r.toNat) 0 else none) else none
theorem Fax.opens {l:List (List Int)} {r k t:Int} (h:Fax.f l r k=some t):0≤r∧r≤(l.length:Int)∧idxNZ k (l.drop r.toNat) 0=some t:=by
 unfold Fax.f at h
 by_cases h1:0≤r
 ·rw [if_pos h1] at h
  by_cases h2:r≤(l.length:Int)
  ·rw [if_pos h2] at h
   exact ⟨h1,h2,h⟩
  ·rw [if_neg h2] at h;cases h
 ·rw [if_neg h1] at h;cases h
set_option maxHeartbeats 4000000 in
set_option maxRecDepth 100000 in
theorem Fax.asks (B:Nat) (k:Int) (A0:Option Addr) (c0:Nat) (x:List Int) (w:World) (hb:w.cell? ⟨B,0,none⟩=some (.int .i64 k)) (hr:Kd.C (Kd.int .u8) w A0 x.length x) (h0:0≤k) (h1:k<(x.length:Int)) :
  Calls Try.prog 91 #[.slice A0 x.length c0,.pointer (some ⟨B,0,none⟩)] w fun e w'=>e = .returned (.bool (rd x k != 0))∧bp_ w w':=by
 obtain ⟨ad,e1,hx⟩:=Kd.bK_ hr k h0 h1;cases e1;have H1:=am h1;have H0:=am h0;clear hr;replace h0:=eq_true h0;replace h1:=eq_true h1
 go_enter Try.func91,Try.ntmps91
 go_wp2
 first
  | (go_ret;exact ⟨rfl,bp_.refl _⟩)
  | (go_quiet (fail);go_wp2;go_ret;exact ⟨rfl,(bp_.refl _).step _⟩)
set_option maxHeartbeats 4000000 in
set_option maxRecDepth 100000 in
theorem Fax.calls (A0:Option Addr) (c0:Nat) (l0:List (List Int)) (B:Nat) (k r:Int) (w:World) (hb:w.cell? ⟨B,0,none⟩=some (.int .i64 k))
  (hr0:Kd.C (Kd.slice 5 (Kd.int .u8)) w A0 l0.length l0) (h:idxNZ k l0 0=some r) :
  Calls Try.prog 90 #[.slice A0 l0.length c0,.func (.func 91) #[] #[.pointer (some ⟨B,0,none⟩)]] w fun e w'=>e = .returned (.int .i64 r)∧bp_ w w':=by
 have HR0:=am hr0;have HH:=am h;have HL:=am hr0.2.1;have HBX:=am hb;clear hr0 h hb
 go_enter Try.func90,Try.ntmps90
 go_wp2
 go_loopg [5,8] l0.length (fun gg _ s8 wr=>∃ x8:Int,s8 = .int .i64 x8∧ba_ (0≤x8∧x8≤(l0.length:Int)∧l0.length - x8.toNat≤gg)∧ba_ (bp_ w wr)∧ba_ (idxNZ k (l0.drop x8.toNat) x8.toNat=some r))
 case atStart=>exact ⟨0,rfl,⟨by omega,by omega,by simp⟩,⟨bp_.refl w⟩,⟨by simpa using HH.o⟩⟩
 case round =>
  obtain ⟨x8,rfl,HX,BW,AQ⟩:=hrel
  by_cases hlt:x8<(l0.length:Int)
  ·have hltn:x8.toNat<l0.length:=by have:=HX.o;omega
   have hq:=AQ.o
   have hx:rd_L1 l0 x8=l0[x8.toNat]:=by simp [rd_L1,List.getElem?_eq_getElem hltn]
   rw [List.drop_eq_getElem_cons hltn,idxNZ,← hx] at hq
   by_cases h0:0≤k
   ·rw [if_pos h0] at hq
    by_cases h1:k<((rd_L1 l0 x8).length:Int)
    ·rw [if_pos h1] at hq;have p_:0≤x8:=HX.o.1;obtain ⟨ad_,A_,c_,e_,hx0_,hl_,hi_⟩:=at_L1 HR0.o x8 p_ hlt;cases e_;have hbw:=BW.o.below;replace hx0_:=(hbw.cell (World.block_lt_of_cell? w _ hx0_)).trans hx0_;have HCALL:=am (Fax.asks B k A_ c_ (rd_L1 l0 x8) wr ((hbw.cell (World.block_lt_of_cell? w _ HBX.o)).trans HBX.o) (Kd.bH_ hi_ hbw) h0 h1);have HQ:=am hq;have cd_:decide (x8<(l0.length:Int))=true:=decide_eq_true hlt;have HLT:=am hlt;have HI:=am hi_;replace p_:=eq_true p_;replace hlt:=eq_true hlt;clear hq AQ HH hx hi_ hl_ hbw h0 h1;(try clear hltn)
     by_cases hz:rd (rd_L1 l0 x8) k=0
     ·have HZ:=am hz
      have hzb:(rd (rd_L1 l0 x8) k != 0)=false:=by rw [hz];rfl
      rw [hzb] at HCALL;clear hz hzb
      go_wp2_with (go_at_call 91;refine HCALL.o.mono ?_;rintro e w' ⟨rfl,⟨nd,rfl⟩⟩)
      go_roundg (l0.length - (x8.toNat+1))
      case measure=>have:=HX.o;have:=HLT.o;omega
      case rel =>
       have h4:=HX.o;have h5:=HLT.o
       have h6:wrap64 (x8+1)=x8+1:=by have:=HL.o;unfold wrap64;omega
       exact ⟨wrap64 (x8+1),rfl,⟨by rw [h6];omega,by rw [h6];omega,by rw [h6];omega⟩,⟨BW.o.step nd⟩,⟨by have h3:=HQ.o;rw [if_pos HZ.o] at h3;rw [h6,show (x8+1).toNat=x8.toNat+1 by omega];exact h3⟩⟩
     ·have HZ:=am hz;have hzb:(rd (rd_L1 l0 x8) k != 0)=true:=bne_iff_ne.mpr hz;rw [hzb] at HCALL;clear hz hzb
      go_wp2_with (go_at_call 91;refine HCALL.o.mono ?_;rintro e w' ⟨rfl,⟨nd,rfl⟩⟩)
      go_ret
      have h3:=HQ.o;rw [if_neg HZ.o] at h3;have h4:=HX.o
      have h7:((x8.toNat:Nat):Int)=x8:=by omega
      rw [h7] at h3;obtain rfl:=Option.some.inj h3
      exact ⟨rfl,BW.o.step nd⟩
    ·rw [if_neg h1] at hq;cases hq
   ·rw [if_neg h0] at hq;cases hq
  ·have cd_:decide (x8<(l0.length:Int))=false:=decide_eq_false hlt;have HLT:=am hlt;clear hlt
   go_wp2
   go_ret
   have h3:=AQ.o;have h4:=HX.o;have h5:=HLT.o;rw [List.drop_of_length_le (by omega),idxNZ] at h3;obtain rfl:=Option.some.inj h3
   exact ⟨rfl,BW.o⟩

/-! ### impl_scaled: function 92 -/
def Fam.l0:Nat→Int→List Int→List Int→Int→Int→Option (List Int)
 | 0,_,_,_,_,_=>none
 | k+1,x0,x5,x9,x10,x11=>if x11<x10 then (if 0≤x11 then (if x11<(x9.length:Int) then ((Fg.f k x0 (rd x9 x11)).bind fun t397=>(if x5.length<140737488355328 then (Fam.l0 k x0 (x5++[t397]) x9 x10 (wrap64 (x11+1))) else (none))) else (none)) else (none)) else (some x5)
def Fam.f (k:Nat) (a0:Int) (l1:List Int):Option (List Int):=Fam.l0 k a0 (([]:List Int)) l1 (l1.length:Int) 0
set_option maxHeartbeats 8000000 in
set_option maxRecDepth 100000 in
theorem Fam.calls (k:Nat) (a0:Int) (A1:Option Addr) (c1:Nat) (l1:List Int) (r:List Int) (w:World) (hr1:Kd.C (Kd.int .u8) w A1 l1.length l1) (hc1:l1.length≤c1) (h:Fam.f k a0 l1=some r) :
  Calls Try.prog 92 #[.int .u8 a0,.slice A1 l1.length c1] w fun e w'=>∃ v0_:Value,e = .returned (v0_)∧Kd.R (Kd.int .u8) 5 w' w.heap.size (fun _=>True) v0_ r∧Below w.heap.size w w':=by
 have HR1:=am hr1;have HC1:=am hc1;clear hr1 hc1;have HB:=am (Below.refl w.heap.size w);have H:(Fam.l0 k a0 (([]:List Int)) l1 (l1.length:Int) 0)=some r:=h;clear h;obtain ⟨y393,hy393⟩:∃ y_:List Int,y_=(([]:List Int)):=⟨_,rfl⟩
 replace H:(Fam.l0 k a0 y393 l1 (l1.length:Int) 0)=some r:=by first|(rw [hy393];exact H)|(have H2_:=(Option.bind_some _ _).symm.trans H;first|exact H2_|(rw [hy393];exact H2_))|exact H
 have Ny393:=am hy393;clear hy393;have H':=am H;clear H
 go_enter Try.func92,Try.ntmps92
 go_wp2_with (first|((with_reducible refine bB_ (N:=8) rfl ?_);refine Kd.R_lit (Kd.int .u8) _ 5 ?hg (N:=8) ?hd (xs:=([]:List Int)) (inner:=[]) (ok:=fun _=>True) (okp:=fun _=>True) ?hr ?hp (fun _ hk=>hk) trivial (Below.refl _ _) (Nat.le_refl _) (by simp) ?_;(case hd=>rfl);(case hg=>rfl);(case hr=>first|(go_simp;done)|(go_simp;rfl));(case hp=>exact (Reps.none _ _));intro v394 w3 ho4 hb hg_ hnew_;clear hg_ hnew_;(first|rw [← Ny393.o] at ho4|(simp only [Int.reduceToNat] at ho4;rw [← Ny393.o] at ho4));have HO395:=am (Kd.bx_ ho4 (zs_ HB.o));replace HB:=am (bh_ (zB HB.o) hb);clear hb ho4))
 go_loopg [5,11] k (fun kq v5 v11 w'=>∃ (x5_1:List Int) (x11_1:Int),v11 = .int .i64 x11_1∧ba_ (Fam.l0 kq a0 x5_1 l1 (l1.length:Int) x11_1=some r)∧ba_ (kq≤k)∧ba_ (Kd.R (Kd.int .u8) 5 w' w.heap.size (fun _=>True) v5 x5_1)∧ba_ (Below w.heap.size w w'))
 case atStart=>exact ⟨(y393),(0),rfl,H',⟨Nat.le_refl _⟩,⟨zR HO395.o⟩,⟨zB HB.o⟩⟩
 case round =>
  clear H';obtain ⟨x5_1,x11_1,rfl,HA,HK1,HO_5,HB⟩:=hrel
  cases gk with
  | zero=>exact absurd HA.o (by simp [Fam.l0])
  | succ k1 =>
   have H:=HA.o;clear HA
   simp only [Fam.l0] at H
   by_cases c5:x11_1<(l1.length:Int)
   ·rw [if_pos c5] at H;have c5b0:=decide_eq_true c5;clear c5
    obtain ⟨c6,H⟩:=it_ H;have c6b0:=decide_eq_true c6;clear c6
    obtain ⟨c7,H⟩:=it_ H;have c7b0:=decide_eq_true c7;clear c7;obtain ⟨t397,A8,H⟩:=bi_ H
    obtain ⟨c9,H⟩:=it_ H;have LMc9:=am c9;clear c9;obtain ⟨y398,hy398⟩:∃ y_:List Int,y_=(x5_1++[t397]):=⟨_,rfl⟩
    replace H:(Fam.l0 k1 a0 y398 l1 (l1.length:Int) (wrap64 (x11_1+1)))=some r:=by first|(rw [hy398];exact H)|(have H2_:=(Option.bind_some _ _).symm.trans H;first|exact H2_|(rw [hy398];exact H2_))|exact H
    have Ny398:=am hy398;clear hy398;have H':=am H;clear H;have p396:0≤(x11_1:Int):=od_;have q396:x11_1<(l1.length:Int):=od_;obtain ⟨ad396,e396,hx396_0⟩:=Kd.bK_ HR1.o x11_1 p396 q396;cases e396;replace hx396_0:=(HB.o.cell (World.block_lt_of_cell? w _ hx396_0)).trans hx396_0;replace p396:=eq_true p396;replace q396:=eq_true q396
    go_wp2_with (first|((with_reducible refine bf_ (f:=48) rfl ?_);refine goL_ (some 18) Try.func48 #[.int .u8 a0,.int .u8 (rd l1 x11_1)] ?_;(with_reducible refine (Fg.calls k1 a0 (rd l1 x11_1) t397 _ A8.o).mono ?_);rintro e w' ⟨rfl,⟨nd,rfl⟩⟩;refine ⟨_,rfl,?_⟩)|((with_reducible refine bE_ (b:=.append) (xs:=#[.tmp 15,.tmp 19]) rfl ?_);at_builtin;refine Kd.cY_ (Kd.int .u8) (w0:=w) w.heap.size rfl (.tmp 15) (.tmp 19) 22 5 (.int .u8 0) 1 rfl Try.underlying22 info5 rfl (by decide) (by omega) u5 x5_1 t397 [.int .u8 t397] (fun _=>True) (fun _=>False) rfl rfl ?aP (fun _ hk=>hk.elim) ?aF ?aO ?aB ?aS ?aL ?_;(case aP=>exact rfl);(case aB=>exact (zB HB.o));(case aF=>exact (fun _ _=>trivial));(case aO=>exact (zR HO_5.o));(case aS=>exact (zs_ HB.o));(case aL=>have:=LMc9.o;omega);intro v399 w10 ho hb hg hat;rw [← Ny398.o] at ho;replace HB:=am (hb);have HO400:=am (ho);(try clear HO_5);clear ho hb hg hat))
    go_roundg k1
    case measure=>have:=HK1.o;omega
    case rel=>exact ⟨(y398),(wrap64 (x11_1+1)),rfl,H',⟨by have:=HK1.o;omega⟩,⟨zR HO400.o⟩,⟨zB HB.o⟩⟩
   ·rw [if_neg c5] at H;have c5b0:=decide_eq_false c5;clear c5;obtain rfl:=Option.some.inj H
    go_wp2
    go_ret
    exact ⟨_,rfl,zR HO_5.o,zB HB.o⟩

/-! ### impl_added: function 93 -/
def Fay.l0:Nat→List Int→List Int→List Int→Int→Int→Option (List Int)
 | 0,_,_,_,_,_=>none
 | k+1,x1,x5,x9,x10,x11=>if x11<x10 then (if 0≤x11 then (if x11<(x9.length:Int) then (if x11<(x1.length:Int) then (if x5.length<140737488355328 then (Fay.l0 k x1 (x5++[Go.bits .xor .u8 (rd x9 x11) (rd x1 x11)]) x9 x10 (wrap64 (x11+1))) else (none)) else (none)) else (none)) else (none)) else (some x5)
def Fay.f (k:Nat) (l0:List Int) (l1:List Int):Option (List Int):=Fay.l0 k l1 (([]:List Int)) l0 (l0.length:Int) 0
set_option maxHeartbeats 8000000 in
set_option maxRecDepth 100000 in
theorem Fay.calls (k:Nat) (A0:Option Addr) (c0:Nat) (l0:List Int) (A1:Option Addr) (c1:Nat) (l1:List Int) (r:List Int) (w:World) (hr0:Kd.C (Kd.int .u8) w A0 l0.length l0) (hc0:l0.length≤c0) (hr1:Kd.C (Kd.int .u8) w A1 l1.length l1) (hc1:l1.length≤c1) (h:Fay.f k l0 l1=some r) :
  Calls Try.prog 93 #[.slice A0 l0.length c0,.slice A1 l1.length c1] w fun e w'=>∃ v0_:Value,e = .returned (v0_)∧Kd.R (Kd.int .u8) 5 w' w.heap.size (fun _=>True) v0_ r∧Below w.heap.size w w':=by
 have HR0:=am hr0;have HC0:=am hc0;clear hr0 hc0;have HR1:=am hr1;have HC1:=am hc1;clear hr1 hc1;have HB:=am (Below.refl w.heap.size w);have H:(Fay.l0 k l1 (([]:List Int)) l0 (l0.length:Int) 0)=some r:=h;clear h;obtain ⟨y401,hy401⟩:∃ y_:List Int,y_=(([]:List Int)):=⟨_,rfl⟩
 replace H:(Fay.l0 k l1 y401 l0 (l0.length:Int) 0)=some r:=by first|(rw [hy401];exact H)|(have H2_:=(Option.bind_some _ _).symm.trans H;first|exact H2_|(rw [hy401];exact H2_))|exact H
 have Ny401:=am hy401;clear hy401;have H':=am H;clear H
 go_enter Try.func93,Try.ntmps93
 go_wp2_with (first|((with_reducible refine bB_ (N:=8) rfl ?_);refine Kd.R_lit (Kd.int .u8) _ 5 ?hg (N:=8) ?hd (xs:=([]:List Int)) (inner:=[]) (ok:=fun _=>True) (okp:=fun _=>True) ?hr ?hp (fun _ hk=>hk) trivial (Below.refl _ _) (Nat.le_refl _) (by simp) ?_;(case hd=>rfl);(case hg=>rfl);(case hr=>first|(go_simp;done)|(go_simp;rfl));(case hp=>exact (Reps.none _ _));intro v402 w3 ho4 hb hg_ hnew_;clear hg_ hnew_;(first|rw [← Ny401.o] at ho4|(simp only [Int.reduceToNat] at ho4;rw [← Ny401.o] at ho4));have HO403:=am (Kd.bx_ ho4 (zs_ HB.o));replace HB:=am (bh_ (zB HB.o) hb);clear hb ho4))
 go_loopg [5,11] k (fun kq v5 v11 w'=>∃ (x5_1:List Int) (x11_1:Int),v11 = .int .i64 x11_1∧ba_ (Fay.l0 kq l1 x5_1 l0 (l0.length:Int) x11_1=some r)∧ba_ (kq≤k)∧ba_ (Kd.R (Kd.int .u8) 5 w' w.heap.size (fun _=>True) v5 x5_1)∧ba_ (Below w.heap.size w w'))
 case atStart=>exact ⟨(y401),(0),rfl,H',⟨Nat.le_refl _⟩,⟨zR HO403.o⟩,⟨zB HB.o⟩⟩
 case round =>
  clear H';obtain ⟨x5_1,x11_1,rfl,HA,HK1,HO_5,HB⟩:=hrel
  cases gk with
  | zero=>exact absurd HA.o (by simp [Fay.l0])
  | succ k1 =>
   have H:=HA.o;clear HA
   simp only [Fay.l0] at H
   by_cases c5:x11_1<(l0.length:Int)
   ·rw [if_pos c5] at H;have c5b0:=decide_eq_true c5;clear c5
    obtain ⟨c6,H⟩:=it_ H;have c6b0:=decide_eq_true c6;clear c6
    obtain ⟨c7,H⟩:=it_ H;have c7b0:=decide_eq_true c7;clear c7
    obtain ⟨c8,H⟩:=it_ H;have c8b0:=decide_eq_true c8;clear c8
    obtain ⟨c9,H⟩:=it_ H;have LMc9:=am c9;clear c9;obtain ⟨y406,hy406⟩:∃ y_:List Int,y_=(x5_1++[Go.bits .xor .u8 (rd l0 x11_1) (rd l1 x11_1)]):=⟨_,rfl⟩
    replace H:(Fay.l0 k1 l1 y406 l0 (l0.length:Int) (wrap64 (x11_1+1)))=some r:=by first|(rw [hy406];exact H)|(have H2_:=(Option.bind_some _ _).symm.trans H;first|exact H2_|(rw [hy406];exact H2_))|exact H
    have Ny406:=am hy406;clear hy406;have H':=am H;clear H;have p404:0≤(x11_1:Int):=od_;have q404:x11_1<(l0.length:Int):=od_;obtain ⟨ad404,e404,hx404_0⟩:=Kd.bK_ HR0.o x11_1 p404 q404;cases e404;replace hx404_0:=(HB.o.cell (World.block_lt_of_cell? w _ hx404_0)).trans hx404_0;replace p404:=eq_true p404;replace q404:=eq_true q404;have p405:0≤(x11_1:Int):=od_;have q405:x11_1<(l1.length:Int):=od_;obtain ⟨ad405,e405,hx405_0⟩:=Kd.bK_ HR1.o x11_1 p405 q405;cases e405;replace hx405_0:=(HB.o.cell (World.block_lt_of_cell? w _ hx405_0)).trans hx405_0;replace p405:=eq_true p405;replace q405:=eq_true q405
    go_wp2_with (first|((with_reducible refine bE_ (b:=.append) (xs:=#[.tmp 16,.tmp 23]) rfl ?_);at_builtin;refine Kd.cY_ (Kd.int .u8) (w0:=w) w.heap.size rfl (.tmp 16) (.tmp 23) 22 5 (.int .u8 0) 1 rfl Try.underlying22 info5 rfl (by decide) (by omega) u5 x5_1 (Go.bits .xor .u8 (rd l0 x11_1) (rd l1 x11_1)) [.int .u8 (Go.bits .xor .u8 (rd l0 x11_1) (rd l1 x11_1))] (fun _=>True) (fun _=>False) rfl rfl ?aP (fun _ hk=>hk.elim) ?aF ?aO ?aB ?aS ?aL ?_;(case aP=>exact rfl);(case aB=>exact (zB HB.o));(case aF=>exact (fun _ _=>trivial));(case aO=>exact (zR HO_5.o));(case aS=>exact (zs_ HB.o));(case aL=>have:=LMc9.o;omega);intro v407 w10 ho hb hg hat;rw [← Ny406.o] at ho;replace HB:=am (hb);have HO408:=am (ho);(try clear HO_5);clear ho hb hg hat))
    go_roundg k1
    case measure=>have:=HK1.o;omega
    case rel=>exact ⟨(y406),(wrap64 (x11_1+1)),rfl,H',⟨by have:=HK1.o;omega⟩,⟨zR HO408.o⟩,⟨zB HB.o⟩⟩
   ·rw [if_neg c5] at H;have c5b0:=decide_eq_false c5;clear c5;obtain rfl:=Option.some.inj H
    go_wp2
    go_ret
    exact ⟨_,rfl,zR HO_5.o,zB HB.o⟩

end Go.Proofs.Ytbloniemhkfnlaa.PFnCorrected
