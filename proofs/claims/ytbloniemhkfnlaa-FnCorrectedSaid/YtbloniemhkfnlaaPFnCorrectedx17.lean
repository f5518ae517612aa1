/- A law's functions as plain Lean functions, each with the walk that shows that the code computes it: written by this session's program wip/tools/ppmake.py. -/
import Derived.Test.YtbloniemhkfnlaaKZ
import Derived.Test.YtbloniemhkfnlaaPFnCorrectedx0
import Derived.Test.YtbloniemhkfnlaaPFnCorrectedx1
import Derived.Test.YtbloniemhkfnlaaPFnCorrectedx2
import Derived.Test.YtbloniemhkfnlaaPFnCorrectedx4
import Derived.Test.YtbloniemhkfnlaaPFnCorrectedx13
import Derived.Test.YtbloniemhkfnlaaPFnCorrectedx15
import Derived.Test.YtbloniemhkfnlaaPFnCorrectedx16
namespace Go.Proofs.Ytbloniemhkfnlaa.PFnCorrected
open Go.RowKit Go.Proofs.YtbloniemhkfnlaaW.PrintWords Go.Proofs.YtbloniemhkfnlaaW.PrintLast Go.Proofs.YtbloniemhkfnlaaW.PrintMore
attribute [local go_sem] cw_ cy_ cK_ cL_ ci_ ch_ cx_ cv_   -- for this text's walks alone
set_option linter.unusedVariables false
set_option linter.unusedSimpArgs false

/-! ### impl_CorrectWord: function 29 -/
/-- The block that holds the list of places. -/
def Fa.Box (W:World) (g:Nat) (v:Value):Prop:=W.heap[g]? = some (.cells #[v] 46 (0,0))
theorem Fa.Box.cell {W:World} {g:Nat} {v:Value} (h:Fa.Box W g v):W.cell? ⟨g,0,none⟩=some v:=by
 unfold Fa.Box at h
 simp [World.cell?,h]
theorem Fa.Box.frozen {W:World} {g:Nat} {v:Value} (h:Fa.Box W g v):W.frozen? ⟨g,0,none⟩=false:=by
 unfold Fa.Box at h
 simp [World.frozen?,h]
theorem Fa.Box.set {W:World} {g:Nat} {v:Value} (h:Fa.Box W g v) (x:Value):Fa.Box (W.setCell ⟨g,0,none⟩ x) g x:=by
 unfold Fa.Box at *
 simp only [World.setCell,Array.getElem?_modify,if_true,h,Option.map_some]
 rfl
theorem Fa.Box.below {W W':World} {g:Nat} {v:Value} (hb:Below W.heap.size W W') (h:Fa.Box W g v):Fa.Box W' g v:=bm_ h hb
theorem Fa.Box.alloc {W:World} {g:Nat} {v:Value} (h:Fa.Box W g v) (o:Obj):Fa.Box (W.alloc o) g v:=bc_ h o
theorem Fa.Box.drewN {W:World} {g:Nat} {v:Value} (h:Fa.Box W g v) (n:Nat):Fa.Box (W.drewN n) g v:=h
theorem Fa.Box.drew {W:World} {g:Nat} {v:Value} (h:Fa.Box W g v):Fa.Box W.drew g v:=h
theorem Fa.Box.over {W W':World} {g e:Nat} {v u:Value} (h:Fa.Box W g v) (hty:∀ k,u.ownBlock=some k→∃ cells,W.heap[k]? = some (.cells cells e (0,0))) (he:e≠46) (hg:W.grownBy W' u.ownBlock):Fa.Box W' g v:=by
 refine ce_ h hg (fun q=>?_)
 obtain ⟨cells,hc⟩:=hty g q.symm
 unfold Fa.Box at h
 rw [hc] at h
 injection h with h
 injection h with _ h
 exact he h
/-- The power that stands in the matrix of errors. -/
def Fbb.at_ (kk:Nat) (s:List Int) (j i:Int):Option Int:=if 0≤i then (if i<(s.length:Int) then ((Fj.f kk 3 (rd s i)).bind fun t=>Fj.f kk t (wrap64 (j+1))) else none) else none
def Fbb.f (k:Nat) (a0 a1:Int) (s:List Int):Option (List (List Int)):=Fs.f (Fbb.at_ k s) k a0 a1
set_option maxHeartbeats 4000000 in
set_option maxRecDepth 100000 in
theorem Fbb.asks (kk B:Nat) (A0:Option Addr) (c0:Nat) (s:List Int) (w:World) (hb:w.cell? ⟨B,0,none⟩=some (.slice A0 s.length c0)) (hr:Kd.C (Kd.int .i64) w A0 s.length s) (j i b:Int) (h:Fbb.at_ kk s j i=some b) :
  Calls Try.prog 61 #[.int .i64 j,.int .i64 i,.pointer (some ⟨B,0,none⟩)] w fun e w'=>e = .returned (.int .u8 b)∧bp_ w w':=by
 unfold Fbb.at_ at h
 by_cases h0:0≤i
 ·rw [if_pos h0] at h
  by_cases h1:i<(s.length:Int)
  ·rw [if_pos h1] at h;obtain ⟨u,a1,h⟩:=Option.bind_eq_some_iff.mp h;have A1:=am a1;have A2:=am h;clear a1 h;obtain ⟨ad,e1,hx⟩:=Kd.bK_ hr _ h0 h1;cases e1;obtain ⟨y,hwy⟩:∃ y,wrap64 (j+1)=y:=⟨_,rfl⟩;have hwi:IntKind.i64.wrap (j+1)=y:=(bI_ _).trans hwy;rw [hwy] at A2;replace h0:=eq_true h0;replace h1:=eq_true h1;clear hr hwy
   go_enter Try.func61,Try.ntmps61
   go_wp2_with (first|((with_reducible refine bf_ (f:=59) rfl ?_);first|(refine goesL_ (some 10) rfl rfl Try.func59 (by kernel_rfl) rfl #[.int .u8 3,.int .i64 (rd s i)] rfl (by (try simp only [List.map_toArray,List.map_cons,List.map_nil]);first|done|rfl) ?_;(with_reducible refine (Fj.calls kk 3 (rd s i) u _ A1.o).mono ?_);rintro e w' ⟨rfl,⟨nd,rfl⟩⟩;refine ⟨_,rfl,?_⟩)|(refine goesL_ (some 13) rfl rfl Try.func59 (by kernel_rfl) rfl #[.int .u8 u,.int .i64 y] rfl (by (try simp only [List.map_toArray,List.map_cons,List.map_nil]);first|done|rfl) ?_;(with_reducible refine (Fj.calls kk u y b _ A2.o).mono ?_);rintro e w' ⟨rfl,⟨nd2,rfl⟩⟩;refine ⟨_,rfl,?_⟩)))
   go_ret
   first
    | exact ⟨rfl,((bp_.refl _).step _).step _⟩
    | exact ⟨rfl,(bp_.refl _).step _⟩
  ·rw [if_neg h1] at h;cases h
 ·rw [if_neg h0] at h;cases h
theorem Fbb.calls (k:Nat) (a0 a1:Int) (A0:Option Addr) (c0:Nat) (s:List Int) (r:List (List Int)) (w:World) (B:Nat) (hb:w.cell? ⟨B,0,none⟩=some (.slice A0 s.length c0)) (hr:Kd.C (Kd.int .i64) w A0 s.length s) (h:Fbb.f k a0 a1 s=some r) :
  Calls Try.prog 60 #[.int .i64 a0,.int .i64 a1,.func (.func 61) #[] #[.pointer (some ⟨B,0,none⟩)]] w fun e w'=>∃ v0_:Value,e = .returned (v0_)∧Kd.S (Kd.slice 5 (Kd.int .u8)) 22 w' w.heap.size (fun _=>True) v0_ r∧Below w.heap.size w w':=by
 refine Fs.calls (Fbb.at_ k s) 61 #[.pointer (some ⟨B,0,none⟩)] (enters_of Try.func61 (by kernel_rfl) rfl) k a0 a1 r w (fun W i j b hW hq=>?_) h
 exact Fbb.asks k B A0 c0 s W ((hW.cell (World.block_lt_of_cell? w _ hb)).trans hb) (Kd.bH_ hr hW) i j b hq
mutual
def Fa.j1:Nat→List Int→Int→List Int→List Int→List Int→Int→Option (List Int × Int × Bool)
 | 0,_,_,_,_,_,_=>none
 | k+1,x0,x1,x7,x8,x9,x10=>Fa.l1 k x1 x7 x8 x9 x10 (([]:List Int)) (x0.length:Int) 0
def Fa.l1:Nat→Int→List Int→List Int→List Int→Int→List Int→Int→Int→Option (List Int × Int × Bool)
 | 0,_,_,_,_,_,_,_,_=>none
 | k+1,x1,x7,x8,x9,x10,x11,x49,x50=>if x50<x49 then ((Fj.f k 3 x50).bind fun t354=>((Fbg.f k t354).bind fun t355=>((Fas.f k x9 t355).bind fun t356=>(if t356=0 then (if x11.length<17592186044416 then (Fa.l1 k x1 x7 x8 x9 x10 (x11++[x50]) x49 (wrap64 (x50+1))) else (none)) else (Fa.l1 k x1 x7 x8 x9 x10 x11 x49 (wrap64 (x50+1))))))) else (if x10=0 then (Fa.j3 k x1 x7 x8 x10 x11 true) else (Fa.j3 k x1 x7 x8 x10 x11 ((x11.length:Int) != x10)))
def Fa.j3:Nat→Int→List Int→List Int→Int→List Int→Bool→Option (List Int × Int × Bool)
 | 0,_,_,_,_,_,_=>none
 | k+1,x1,x7,x8,x10,x11,x71=>if x71=true then (some (([]:List Int),0,false)) else ((Fbb.f k x10 x10 x11).bind fun t360=>(if 0≤x10 then (if x10≤(x8.length:Int) then ((Fag.f k t360 (x8.take (x10:Int).toNat)).bind fun bt367=>(if bt367.2=true then ((Fbl.f k bt367.1 0).bind fun t371=>(Fa.j4 k x1 x7 x10 x11 bt367.1 t371)) else (Fa.j4 k x1 x7 x10 x11 bt367.1 true))) else (none)) else (none)))
def Fa.j4:Nat→Int→List Int→Int→List Int→List Int→Bool→Option (List Int × Int × Bool)
 | 0,_,_,_,_,_,_=>none
 | k+1,x1,x7,x10,x11,x14,x89=>if x89=true then (some (([]:List Int),0,false)) else (Fa.l2 k x1 x7 x10 x14 x11 (x11.length:Int) 0)
def Fa.l2:Nat→Int→List Int→Int→List Int→List Int→Int→Int→Option (List Int × Int × Bool)
 | 0,_,_,_,_,_,_,_=>none
 | k+1,x1,x7,x10,x14,x90,x91,x92=>if x92<x91 then (if 0≤x92 then (if x92<(x90.length:Int) then (if 0≤(rd x90 x92) then (if (rd x90 x92)<(x7.length:Int) then (if x92<(x14.length:Int) then (Fa.l2 k x1 (x7.set ((rd x90 x92):Int).toNat (Go.bits .xor .u8 (rd x7 (rd x90 x92)) (rd x14 x92))) x10 x14 x90 x91 (wrap64 (x92+1))) else (none)) else (none)) else (none)) else (none)) else (none)) else ((Fad.f k x7 x1).bind fun t376=>(if t376=true then (some (x7,x10,true)) else (some (([]:List Int),0,false))))
def Fa.l0:Nat→List Int→Int→List Int→List Int→List Int→Int→Option (List Int × Int × Bool)
 | 0,_,_,_,_,_,_=>none
 | k+1,x0,x1,x7,x8,x9,x10=>if x10 > 0 then (if 0≤x10 then (if x10<(x9.length:Int) then (if (rd x9 x10)=0 then (Fa.l0 k x0 x1 x7 x8 x9 (wrap64 (x10 - 1))) else (Fa.j1 k x0 x1 x7 x8 x9 x10)) else (none)) else (none)) else (Fa.j1 k x0 x1 x7 x8 x9 x10)
end
def Fa.f (k:Nat) (l0:List Int) (a1:Int):Option (List Int × Int × Bool):=(Fah.f l0 a1).bind fun t339=>(if t339=true then ((Faj.f l0).bind fun t340=>((Fad.f k l0 a1).bind fun t343=>(if t343=true then (some (t340,0,true)) else ((Fx.f k l0 a1).bind fun t344=>((Far.f k t344).bind fun t347=>(Fa.l0 k l0 a1 t340 t344 t347 (wrap64 ((t347.length:Int) - 1)))))))) else (some (([]:List Int),0,false)))
def Fa.T27:Bool × List (List Nat × List Nat):=(true,[([],[]),([],[]),([0,1],[0,1]),([2],[2]),([],[]),([],[]),([4,5],[4,5]),([6],[6]),([3,7],[3,7]),([0,1,0,1,2,3,4,5,6,7,8],[0,1]),([9,8,0,1,2,3,4,5,6,7,8],[8,9])])
def Fa.B27:List Nat:=[0,0,3,7,0,0,48,112,255,511,1023]
theorem Fa.tab27:rtab .any (opsOf Try.f29 27)=Fa.T27:=by kernel_rfl
theorem Fa.bits27:waitsOk Fa.T27.2 Fa.B27=true:=by kernel_rfl
set_option maxHeartbeats 8000000 in
set_option maxRecDepth 100000 in
theorem Fa.calls (k:Nat) (A0:Option Addr) (c0:Nat) (l0:List Int) (a1:Int) (r1:List Int) (r2:Int) (r3:Bool) (w:World) (hr0:Kd.C (Kd.int .u8) w A0 l0.length l0) (hc0:l0.length≤c0) (h:Fa.f k l0 a1=some (r1,r2,r3)) :
  Calls Try.prog 29 #[.slice A0 l0.length c0,.int .i64 a1] w fun e w'=>∃ v0_:Value,e = .returned (.tuple #[v0_,.int .i64 r2,.bool r3])∧Kd.R (Kd.int .u8) 5 w' w.heap.size (fun _=>True) v0_ r1∧Below w.heap.size w w':=by
 have HR0:=am hr0;have HC0:=am hc0;clear hr0 hc0;have HB:=am (Below.refl w.heap.size w);have H:((Fah.f l0 a1).bind fun t339=>(if t339=true then ((Faj.f l0).bind fun t340=>((Fad.f k l0 a1).bind fun t343=>(if t343=true then (some (t340,0,true)) else ((Fx.f k l0 a1).bind fun t344=>((Far.f k t344).bind fun t347=>(Fa.l0 k l0 a1 t340 t344 t347 (wrap64 ((t347.length:Int) - 1)))))))) else (some (([]:List Int),0,false))))=some (r1,r2,r3):=h;clear h;obtain ⟨t339,A3,H⟩:=bi_ H
 by_cases c4:t339=true
 ·subst c4
  have H1:((Faj.f l0).bind fun t340=>((Fad.f k l0 a1).bind fun t343=>(if t343=true then (some (t340,0,true)) else ((Fx.f k l0 a1).bind fun t344=>((Far.f k t344).bind fun t347=>(Fa.l0 k l0 a1 t340 t344 t347 (wrap64 ((t347.length:Int) - 1))))))))=some (r1,r2,r3):=by rw [if_pos rfl] at H;exact H
  clear H;have H:=H1;clear H1;obtain ⟨t340,A5,H⟩:=bi_ H;obtain ⟨t343,A6,H⟩:=bi_ H
  by_cases c7:t343=true
  ·subst c7
   have H1:(some (t340,0,true))=some (r1,r2,r3):=by rw [if_pos rfl] at H;exact H
   clear H;have H:=H1;clear H1
   simp only [Option.some.injEq,Prod.mk.injEq] at H
   obtain ⟨rfl,rfl,rfl⟩:=H
   go_enter Try.func29,Try.ntmps29
   go_wp2_with (first|((with_reducible refine bf_ (f:=42) rfl ?_);refine goL_ (some 20) Try.func42 #[.slice A0 l0.length c0,.int .i64 a1] ?_;(with_reducible refine (Fah.calls _ _ l0 a1 true _ ?side1 ?side2 A3.o).mono ?_);(case side1=>exact zC HR0.o);(case side2=>exact HC0.o);rintro e w' ⟨rfl,⟨nd,rfl⟩⟩;refine ⟨_,rfl,?_⟩)|((with_reducible refine bf_ (f:=49) rfl ?_);refine goL_ (some 23) Try.func49 #[.slice A0 l0.length c0] ?_;(with_reducible refine (Faj.calls _ _ l0 t340 _ ?side1 ?side2 A5.o).mono ?_);(case side1=>exact zC HR0.o);(case side2=>exact HC0.o);rintro e w8 ⟨v341,rfl,ho0,hb⟩;refine ⟨_,rfl,?_⟩;have HO342:=am (Kd.bx_ ho0 (zs_ HB.o));replace HB:=am (bh_ (zB HB.o) hb);(try clear hb);(try clear ho0))|((with_reducible refine bf_ (f:=45) rfl ?_);refine goL_ (some 26) Try.func45 #[.slice A0 l0.length c0,.int .i64 a1] ?_;(with_reducible refine (Fad.calls k _ _ l0 a1 true _ ?side1 ?side2 A6.o).mono ?_);(case side1=>exact zC (Kd.bH_ HR0.o HB.o));(case side2=>exact HC0.o);rintro e w9 ⟨rfl,hb⟩;refine ⟨_,rfl,?_⟩;replace HO342:=am (Kd.bQ_ (zR HO342.o) hb);replace HB:=am (bh_ (zB HB.o) hb);(try clear hb);(try clear hb2);(try clear hk);(try clear hi)))
   go_ret3
   exact ⟨_,rfl,zR HO342.o,zB HB.o⟩
  ·replace c7:=Bool.eq_false_iff.mpr c7
   subst c7
   have H1:((Fx.f k l0 a1).bind fun t344=>((Far.f k t344).bind fun t347=>(Fa.l0 k l0 a1 t340 t344 t347 (wrap64 ((t347.length:Int) - 1)))))=some (r1,r2,r3):=by rw [if_neg (show ¬ (false=true) by decide)] at H;exact H
   clear H;have H:=H1;clear H1;obtain ⟨t344,A10,H⟩:=bi_ H;obtain ⟨t347,A11,H⟩:=bi_ H;have HC12:=am H;clear H
   go_enter Try.func29,Try.ntmps29
   go_upto_block 0 with (first|((with_reducible refine bf_ (f:=42) rfl ?_);refine goL_ (some 20) Try.func42 #[.slice A0 l0.length c0,.int .i64 a1] ?_;(with_reducible refine (Fah.calls _ _ l0 a1 true _ ?side1 ?side2 A3.o).mono ?_);(case side1=>exact zC HR0.o);(case side2=>exact HC0.o);rintro e w' ⟨rfl,⟨nd,rfl⟩⟩;refine ⟨_,rfl,?_⟩)|((with_reducible refine bf_ (f:=49) rfl ?_);refine goL_ (some 23) Try.func49 #[.slice A0 l0.length c0] ?_;(with_reducible refine (Faj.calls _ _ l0 t340 _ ?side1 ?side2 A5.o).mono ?_);(case side1=>exact zC HR0.o);(case side2=>exact HC0.o);rintro e w13 ⟨v341,rfl,ho0,hb⟩;refine ⟨_,rfl,?_⟩;have HO342:=am (Kd.bx_ ho0 (zs_ HB.o));replace HB:=am (bh_ (zB HB.o) hb);(try clear hb);(try clear ho0))|((with_reducible refine bf_ (f:=45) rfl ?_);refine goL_ (some 26) Try.func45 #[.slice A0 l0.length c0,.int .i64 a1] ?_;(with_reducible refine (Fad.calls k _ _ l0 a1 false _ ?side1 ?side2 A6.o).mono ?_);(case side1=>exact zC (Kd.bH_ HR0.o HB.o));(case side2=>exact HC0.o);rintro e w14 ⟨rfl,hb⟩;refine ⟨_,rfl,?_⟩;replace HO342:=am (Kd.bQ_ (zR HO342.o) hb);replace HB:=am (bh_ (zB HB.o) hb);(try clear hb);(try clear hb2);(try clear hk);(try clear hi))|((with_reducible refine bf_ (f:=43) rfl ?_);refine goL_ (some 30) Try.func43 #[.slice A0 l0.length c0,.int .i64 a1] ?_;(with_reducible refine (Fx.calls k _ _ l0 a1 t344 _ ?side1 ?side2 A10.o).mono ?_);(case side1=>exact zC (Kd.bH_ HR0.o HB.o));(case side2=>exact HC0.o);rintro e w15 ⟨v345,rfl,ho0,hb⟩;refine ⟨_,rfl,?_⟩;have HO346:=am (Kd.bx_ (Kd.bX_ ho0 (Kd.R_lt (zR HO342.o))) (zs_ HB.o));replace HO342:=am (Kd.bC_ (zR HO342.o) (Kd.bt_ ho0) hb);replace HB:=am (bh_ (zB HB.o) hb);(try clear hb);(try clear ho0);obtain ⟨Ao16,co16,eo16⟩:=Kd.bv_ HO346.o;subst eo16)|((with_reducible refine bf_ (f:=51) rfl ?_);refine goL_ (some 32) Try.func51 #[.slice Ao16 t344.length co16] ?_;(with_reducible refine (Far.calls k _ _ t344 t347 _ ?side1 ?side2 A11.o).mono ?_);(case side1=>exact zC ((Kd.bj_ HO346.o).2.2));(case side2=>exact (Kd.bj_ HO346.o).2.1);rintro e w17 ⟨v348,rfl,ho0,hb⟩;refine ⟨_,rfl,?_⟩;have HO349:=am (Kd.bx_ (Kd.bX_ (Kd.bX_ ho0 (Kd.R_lt (zR HO342.o))) (Kd.R_lt (zR HO346.o))) (zs_ HB.o));replace HO342:=am (Kd.bC_ (zR HO342.o) (Kd.bt_ ho0) hb);replace HO346:=am (Kd.bC_ (zR HO346.o) (Kd.bt_ ho0) hb);replace HB:=am (bh_ (zB HB.o) hb);(try clear hb);(try clear ho0);obtain ⟨Ao18,co18,eo18⟩:=Kd.bv_ HO349.o;subst eo18))
   (try simp only [Act.put,List.setIfInBounds_toArray,List.set_cons_zero,List.set_cons_succ])
   go_cut [10] (fun v10 wc=>∃ (kq:Nat) (x10_11:Int),v10 = .int .i64 x10_11∧ba_ (Fa.j1 kq l0 a1 t340 t344 t347 x10_11=some (r1,r2,r3))∧ba_ (kq≤k)∧ba_ (Kd.R (Kd.int .u8) 5 wc w.heap.size (fun k_=>some k_≠((.slice Ao16 t344.length co16):Value).ownBlock∧some k_≠((.slice Ao18 t347.length co18):Value).ownBlock) v341 t340)∧ba_ (Kd.R (Kd.int .u8) 5 wc w.heap.size (fun k_=>some k_≠(v341:Value).ownBlock∧some k_≠((.slice Ao18 t347.length co18):Value).ownBlock) (.slice Ao16 t344.length co16) t344)∧ba_ (Kd.R (Kd.int .u8) 5 wc w.heap.size (fun k_=>some k_≠(v341:Value).ownBlock∧some k_≠((.slice Ao16 t344.length co16):Value).ownBlock) (.slice Ao18 t347.length co18) t347)∧ba_ (Below w.heap.size w wc))
   case first =>
    have H:=HC12.o;clear HC12;have H':=am H;clear H
    go_wp2
    go_loopg [10] k (fun kq v10 w'=>∃ (x10_1:Int),v10 = .int .i64 x10_1∧ba_ (Fa.l0 kq l0 a1 t340 t344 t347 x10_1=some (r1,r2,r3))∧ba_ (kq≤k)∧ba_ (Kd.R (Kd.int .u8) 5 w' w.heap.size (fun k_=>some k_≠((.slice Ao16 t344.length co16):Value).ownBlock∧some k_≠((.slice Ao18 t347.length co18):Value).ownBlock) v341 t340)∧ba_ (Kd.R (Kd.int .u8) 5 w' w.heap.size (fun k_=>some k_≠(v341:Value).ownBlock∧some k_≠((.slice Ao18 t347.length co18):Value).ownBlock) (.slice Ao16 t344.length co16) t344)∧ba_ (Kd.R (Kd.int .u8) 5 w' w.heap.size (fun k_=>some k_≠(v341:Value).ownBlock∧some k_≠((.slice Ao16 t344.length co16):Value).ownBlock) (.slice Ao18 t347.length co18) t347)∧ba_ (Below w.heap.size w w'))
    case atStart=>exact ⟨(wrap64 ((t347.length:Int) - 1)),rfl,H',⟨Nat.le_refl _⟩,⟨zR (Kd.bq_ HO342.o (fun _ hk=>⟨hk.1.2,hk.2⟩))⟩,⟨zR (Kd.bq_ HO346.o (fun _ hk=>⟨hk.1.2,hk.2⟩))⟩,⟨zR (Kd.bq_ HO349.o (fun _ hk=>⟨hk.1.2,hk.2⟩))⟩,⟨zB HB.o⟩⟩
    case round =>
     clear H';obtain ⟨x10_1,rfl,HA,HK1,HO_7,HO_8,HO_9,HB⟩:=hrel
     cases gk with
     | zero=>exact absurd HA.o (by simp [Fa.l0])
     | succ k1 =>
      have H:=HA.o;clear HA
      simp only [Fa.l0] at H
      by_cases c19:x10_1 > 0
      ·rw [if_pos c19] at H;have c19b0:decide (0<x10_1)=true:=decide_eq_true c19;clear c19
       (first|rw [c19b0]|(simp only [bI_,bL_];rw [c19b0])|skip)
       obtain ⟨c20,H⟩:=it_ H;have c20b0:=decide_eq_true c20;clear c20
       obtain ⟨c21,H⟩:=it_ H;have c21b0:=decide_eq_true c21;clear c21
       by_cases c22:(rd t347 x10_1)=0
       ·rw [if_pos c22] at H;have c22b0:((rd t347 x10_1) == 0)=true:=beq_iff_eq.mpr c22;have c22b1:((rd t347 x10_1) != 0)=false:=bne_eq_false_iff_eq.mpr c22;clear c22;have H':=am H;clear H;have p350:0≤(x10_1:Int):=od_;have q350:x10_1<(t347.length:Int):=od_;obtain ⟨ad350,e350,hx350_0⟩:=Kd.bK_ (Kd.bj_ HO_9.o).2.2 x10_1 p350 q350;cases e350;replace p350:=eq_true p350;replace q350:=eq_true q350
        go_wp2
        go_roundg k1
        case measure=>have:=HK1.o;omega
        case rel=>exact ⟨(wrap64 (x10_1 - 1)),rfl,H',⟨by have:=HK1.o;omega⟩,⟨zR HO_7.o⟩,⟨zR HO_8.o⟩,⟨zR HO_9.o⟩,⟨zB HB.o⟩⟩
       ·rw [if_neg c22] at H;have c22b0:((rd t347 x10_1) == 0)=false:=beq_eq_false_iff_ne.mpr c22;have c22b1:((rd t347 x10_1) != 0)=true:=bne_iff_ne.mpr c22;have H':=am H;clear H;have p350:0≤(x10_1:Int):=od_;have q350:x10_1<(t347.length:Int):=od_;obtain ⟨ad350,e350,hx350_0⟩:=Kd.bK_ (Kd.bj_ HO_9.o).2.2 x10_1 p350 q350;cases e350;replace p350:=eq_true p350;replace q350:=eq_true q350
        go_wp2
        go_meet
        case rel=>exact ⟨_,(x10_1),rfl,H',⟨by have:=HK1.o;first|omega|exact Nat.le_refl _⟩,⟨zR HO_7.o⟩,⟨zR HO_8.o⟩,⟨zR HO_9.o⟩,⟨zB HB.o⟩⟩
      ·rw [if_neg c19] at H;have c19b0:decide (0<x10_1)=false:=decide_eq_false c19;clear c19
       (first|rw [c19b0]|(simp only [bI_,bL_];rw [c19b0])|skip)
       have H':=am H;clear H
       go_wp2
       go_meet
       case rel=>exact ⟨_,(x10_1),rfl,H',⟨by have:=HK1.o;first|omega|exact Nat.le_refl _⟩,⟨zR HO_7.o⟩,⟨zR HO_8.o⟩,⟨zR HO_9.o⟩,⟨zB HB.o⟩⟩
   case rest =>
    clear HC12;obtain ⟨kq,x10_11,rfl,HA,HJ11,HO_7,HO_8,HO_9,HB⟩:=hcut
    cases kq with
    | zero=>exact absurd HA.o (by simp [Fa.j1])
    | succ kj11 =>
     have H:=HA.o;clear HA
     simp only [Fa.j1] at H
     obtain ⟨y351,hy351⟩:∃ y_:List Int,y_=(([]:List Int)):=⟨_,rfl⟩
     replace H:(Fa.l1 kj11 a1 t340 t344 t347 x10_11 y351 (l0.length:Int) 0)=some (r1,r2,r3):=by first|(rw [hy351];exact H)|(have H2_:=(Option.bind_some _ _).symm.trans H;first|exact H2_|(rw [hy351];exact H2_))|exact H
     have Ny351:=am hy351;clear hy351;have H':=am H;clear H
     go_wp2_with (first|((with_reducible refine bB_ (N:=47) rfl ?_);(try (refine bM_ (by rfl) ?_;dsimp only));refine Kd.R_lit (Kd.int .i64) _ 3 ?hg (N:=47) ?hd (xs:=([]:List Int)) (inner:=[]) (ok:=fun _=>True) (okp:=fun _=>True) ?hr ?hp (fun _ hk=>hk) trivial (Below.refl _ _) (Nat.le_refl _) (by simp) ?_;(case hd=>rfl);(case hg=>rfl);(case hr=>first|(go_simp;done)|(go_simp;rfl));(case hp=>exact (Reps.none _ _));intro v352 w23 ho24 hb hg_ hnew_;clear hg_ hnew_;(first|rw [← Ny351.o] at ho24|(simp only [Int.reduceToNat] at ho24;rw [← Ny351.o] at ho24));replace HO_7:=am (Kd.bQ_ (zR HO_7.o) hb);replace HO_8:=am (Kd.bQ_ (zR HO_8.o) hb);replace HO_9:=am (Kd.bQ_ (zR HO_9.o) hb);have HO353:=am (Kd.bx_ ho24 (zs_ HB.o));replace HB:=am (bh_ (zB HB.o) hb);clear hb ho24)|((with_reducible refine bB_ (N:=11) rfl ?_);refine bU_ ?hg (N:=11) ?hd (cs:=#[.slice none 0 0]) (t:=46) ?hr ?_;(case hd=>rfl);(case hg=>rfl);(case hr=>first|(go_simp;done)|(go_simp;rfl));intro g0_ hg wb0_ hbox hb;have GW0_:=am (show w.heap.size≤g0_ by rw [hg];exact (zs_ HB.o));have n0_:=am (Kd.bQ_ (zR HO_7.o) hb);have n1_:=am (Kd.bQ_ (zR HO_8.o) hb);have n2_:=am (Kd.bQ_ (zR HO_9.o) hb);have n3_:=am (Kd.bQ_ (zR HO353.o) hb);have n4_:=am (bh_ (zB HB.o) hb);clear HO_7 HO_8 HO_9 HO353 HB;have HO_7:=n0_;have HO_8:=n1_;have HO_9:=n2_;have HO353:=n3_;have HB:=n4_;clear n0_ n1_ n2_ n3_ n4_;have BX:=am (show Fa.Box wb0_ g0_ (.slice none 0 0) from hbox);have hz0_:=BX.o.cell;have hf0_:=BX.o.frozen;clear hb hg hbox;obtain ⟨Aq1,cq1,eq1⟩:=Kd.bv_ HO353.o;subst eq1))
     clear hz0_ hf0_
     go_loopg [50] kj11 (fun kq v50 w'=>∃ (u11:Value) (x11_2:List Int) (x50_2:Int),v50 = .int .i64 x50_2∧ba_ (Fa.l1 kq a1 t340 t344 t347 x10_11 x11_2 (l0.length:Int) x50_2=some (r1,r2,r3))∧ba_ (kq≤kj11)∧ba_ (Kd.R (Kd.int .u8) 5 w' w.heap.size (fun k_=>some k_≠((.slice Ao16 t344.length co16):Value).ownBlock∧some k_≠((.slice Ao18 t347.length co18):Value).ownBlock) v341 t340)∧ba_ (Kd.R (Kd.int .u8) 5 w' w.heap.size (fun k_=>some k_≠(v341:Value).ownBlock∧some k_≠((.slice Ao18 t347.length co18):Value).ownBlock) (.slice Ao16 t344.length co16) t344)∧ba_ (Kd.R (Kd.int .u8) 5 w' w.heap.size (fun k_=>some k_≠(v341:Value).ownBlock∧some k_≠((.slice Ao16 t344.length co16):Value).ownBlock) (.slice Ao18 t347.length co18) t347)∧ba_ (Kd.R (Kd.int .i64) 3 w' w.heap.size (fun _=>True) u11 x11_2)∧ba_ (Below w.heap.size w w')∧ba_ (Fa.Box w' g0_ u11))
     case atStart=>exact ⟨_,(y351),(0),(by first|rfl|(simp;done)|(simp [*];done)),H',⟨Nat.le_refl _⟩,⟨by (with_reducible repeat (first|apply Kd.bW_|apply Kd.bV_|apply Kd.bP_));exact Kd.R_set HO_7.o BX.o (by decide) 0 _⟩,⟨by (with_reducible repeat (first|apply Kd.bW_|apply Kd.bV_|apply Kd.bP_));exact Kd.R_set HO_8.o BX.o (by decide) 0 _⟩,⟨by (with_reducible repeat (first|apply Kd.bW_|apply Kd.bV_|apply Kd.bP_));exact Kd.R_set HO_9.o BX.o (by decide) 0 _⟩,⟨by (with_reducible repeat (first|apply Kd.bW_|apply Kd.bV_|apply Kd.bP_));exact Kd.R_set HO353.o BX.o (by decide) 0 _⟩,⟨by repeat (first|(with_reducible first|exact HB.o|apply bk_|apply be_|apply bg_|refine bl_ ?_ GW0_.o)|exact HB.o)⟩,⟨BX.o.set _⟩⟩
     case round =>
      clear H';obtain ⟨u11,x11_2,x50_2,rfl,HA,HK2,HO_7,HO_8,HO_9,HO_11,HB,BX⟩:=hrel
      cases gk with
      | zero=>exact absurd HA.o (by simp [Fa.l1])
      | succ k2 =>
       have H:=HA.o;clear HA
       simp only [Fa.l1] at H
       by_cases c25:x50_2<(l0.length:Int)
       ·rw [if_pos c25] at H;have c25b0:=decide_eq_true c25;clear c25;obtain ⟨t354,A26,H⟩:=bi_ H;obtain ⟨t355,A27,H⟩:=bi_ H;obtain ⟨t356,A28,H⟩:=bi_ H
        by_cases c29:t356=0
        ·rw [if_pos c29] at H;have c29b0:(t356 == 0)=true:=beq_iff_eq.mpr c29;have c29b1:(t356 != 0)=false:=bne_eq_false_iff_eq.mpr c29;clear c29
         obtain ⟨c30,H⟩:=it_ H;have LMc30:=am c30;clear c30;obtain ⟨y357,hy357⟩:∃ y_:List Int,y_=(x11_2++[x50_2]):=⟨_,rfl⟩
         replace H:(Fa.l1 k2 a1 t340 t344 t347 x10_11 y357 (l0.length:Int) (wrap64 (x50_2+1)))=some (r1,r2,r3):=by first|(rw [hy357];exact H)|(have H2_:=(Option.bind_some _ _).symm.trans H;first|exact H2_|(rw [hy357];exact H2_))|exact H
         have Ny357:=am hy357;clear hy357;have H':=am H;clear H;have hz0_:=BX.o.cell;have hf0_:=BX.o.frozen
         go_wp2_with (first|((with_reducible refine bf_ (f:=59) rfl ?_);refine goL_ (some 55) Try.func59 #[.int .u8 3,.int .i64 x50_2] ?_;(with_reducible refine (Fj.calls k2 3 x50_2 t354 _ A26.o).mono ?_);rintro e w' ⟨rfl,⟨nd,rfl⟩⟩;refine ⟨_,rfl,?_⟩)|((with_reducible refine bf_ (f:=58) rfl ?_);refine goL_ (some 56) Try.func58 #[.int .u8 t354] ?_;(with_reducible refine (Fbg.calls k2 t354 t355 _ A27.o).mono ?_);rintro e w' ⟨rfl,⟨nd,rfl⟩⟩;refine ⟨_,rfl,?_⟩)|((with_reducible refine bf_ (f:=57) rfl ?_);refine goL_ (some 57) Try.func57 #[.slice Ao18 t347.length co18,.int .u8 t355] ?_;(with_reducible refine (Fas.calls k2 _ _ t347 t355 t356 _ ?side1 ?side2 A28.o).mono ?_);(case side1=>exact zC ((Kd.bj_ HO_9.o).2.2));(case side2=>exact (Kd.bj_ HO_9.o).2.1);rintro e w' ⟨rfl,⟨nd,rfl⟩⟩;refine ⟨_,rfl,?_⟩)|((with_reducible refine bE_ (b:=.append) (xs:=#[.tmp 59,.tmp 61]) rfl ?_);(try (refine bM_ (by rfl) ?_;dsimp only));at_builtin;refine Kd.cY_ (Kd.int .i64) (w0:=w) w.heap.size rfl (.tmp 59) (.tmp 61) 46 3 (.int .i64 0) 8 rfl Try.underlying46 info3 rfl (by decide) (by omega) u11 x11_2 x50_2 [.int .i64 x50_2] (fun _=>True) (fun _=>False) rfl rfl ?aP (fun _ hk=>hk.elim) ?aF ?aO ?aB ?aS ?aL ?_;(case aP=>exact rfl);(case aB=>exact (zB HB.o));(case aF=>exact (fun _ _=>trivial));(case aO=>exact (zR HO_11.o));(case aS=>exact (zs_ HB.o));(case aL=>have:=LMc30.o;omega);intro v358 w31 ho hb hg hat;rw [← Ny357.o] at ho;have n0_:=am (Kd.R_over' (zR HO_7.o) (Kd.R_typed (zR HO_11.o)) (by decide) hg);have n1_:=am (Kd.R_over' (zR HO_8.o) (Kd.R_typed (zR HO_11.o)) (by decide) hg);have n2_:=am (Kd.R_over' (zR HO_9.o) (Kd.R_typed (zR HO_11.o)) (by decide) hg);have n3_:=am (hb);have n4_:=am (ho);have n5_:=am (Fa.Box.over (e:=3) (by (with_reducible repeat (first|apply Fa.Box.alloc|apply Fa.Box.drewN|apply Fa.Box.drew));exact BX.o) (Kd.R_typed (zR HO_11.o)) (by decide) hg);clear BX hz0_ hf0_;have BX:=n5_;clear n5_;have hz1_:=BX.o.cell;have hf1_:=BX.o.frozen;obtain ⟨Aq2,cq2,eq2⟩:=Kd.bv_ n4_.o;subst eq2;clear HO_7;clear HO_8;clear HO_9;clear HB;clear HO_11;have HO_7:=n0_;have HO_8:=n1_;have HO_9:=n2_;have HB:=n3_;have HO359:=n4_;clear n0_ n1_ n2_ n3_ n4_;clear ho hb hg hat))
         go_roundg k2
         case measure=>have:=HJ11.o;have:=HK2.o;omega
         case rel=>exact ⟨_,(y357),(wrap64 (x50_2+1)),(by first|rfl|(simp;done)|(simp [*];done)),H',⟨by have:=HJ11.o;have:=HK2.o;omega⟩,⟨by (with_reducible repeat (first|apply Kd.bW_|apply Kd.bV_|apply Kd.bP_));exact Kd.R_set HO_7.o BX.o (by decide) 0 _⟩,⟨by (with_reducible repeat (first|apply Kd.bW_|apply Kd.bV_|apply Kd.bP_));exact Kd.R_set HO_8.o BX.o (by decide) 0 _⟩,⟨by (with_reducible repeat (first|apply Kd.bW_|apply Kd.bV_|apply Kd.bP_));exact Kd.R_set HO_9.o BX.o (by decide) 0 _⟩,⟨by (with_reducible repeat (first|apply Kd.bW_|apply Kd.bV_|apply Kd.bP_));exact Kd.R_set HO359.o BX.o (by decide) 0 _⟩,⟨by repeat (first|(with_reducible first|exact HB.o|apply bk_|apply be_|apply bg_|refine bl_ ?_ GW0_.o)|exact HB.o)⟩,⟨BX.o.set _⟩⟩
        ·rw [if_neg c29] at H;have c29b0:(t356 == 0)=false:=beq_eq_false_iff_ne.mpr c29;have c29b1:(t356 != 0)=true:=bne_iff_ne.mpr c29;have H':=am H;clear H
         go_wp2_with (first|((with_reducible refine bf_ (f:=59) rfl ?_);refine goL_ (some 55) Try.func59 #[.int .u8 3,.int .i64 x50_2] ?_;(with_reducible refine (Fj.calls k2 3 x50_2 t354 _ A26.o).mono ?_);rintro e w' ⟨rfl,⟨nd,rfl⟩⟩;refine ⟨_,rfl,?_⟩)|((with_reducible refine bf_ (f:=58) rfl ?_);refine goL_ (some 56) Try.func58 #[.int .u8 t354] ?_;(with_reducible refine (Fbg.calls k2 t354 t355 _ A27.o).mono ?_);rintro e w' ⟨rfl,⟨nd,rfl⟩⟩;refine ⟨_,rfl,?_⟩)|((with_reducible refine bf_ (f:=57) rfl ?_);refine goL_ (some 57) Try.func57 #[.slice Ao18 t347.length co18,.int .u8 t355] ?_;(with_reducible refine (Fas.calls k2 _ _ t347 t355 t356 _ ?side1 ?side2 A28.o).mono ?_);(case side1=>exact zC ((Kd.bj_ HO_9.o).2.2));(case side2=>exact (Kd.bj_ HO_9.o).2.1);rintro e w' ⟨rfl,⟨nd,rfl⟩⟩;refine ⟨_,rfl,?_⟩))
         go_roundg k2
         case measure=>have:=HJ11.o;have:=HK2.o;omega
         case rel=>exact ⟨_,(x11_2),(wrap64 (x50_2+1)),rfl,H',⟨by have:=HJ11.o;have:=HK2.o;omega⟩,⟨zR HO_7.o⟩,⟨zR HO_8.o⟩,⟨zR HO_9.o⟩,⟨zR HO_11.o⟩,⟨zB HB.o⟩,⟨by exact BX.o⟩⟩
       ·rw [if_neg c25] at H;have c25b0:=decide_eq_false c25;clear c25;have HC32:=am H;clear H
        go_upto_region 18 with (fail)
        go_cut [71] (fun v71 wc=>∃ (kq:Nat) (x71_31:Bool),v71 = .bool x71_31∧ba_ (Fa.j3 kq a1 t340 t344 x10_11 x11_2 x71_31=some (r1,r2,r3))∧ba_ (kq≤k2)∧ba_ (Kd.R (Kd.int .u8) 5 wc w.heap.size (fun k_=>some k_≠((.slice Ao16 t344.length co16):Value).ownBlock) v341 t340)∧ba_ (Kd.R (Kd.int .u8) 5 wc w.heap.size (fun k_=>some k_≠(v341:Value).ownBlock) (.slice Ao16 t344.length co16) t344)∧ba_ (Kd.R (Kd.int .i64) 3 wc w.heap.size (fun _=>True) u11 x11_2)∧ba_ (Below w.heap.size w wc)∧ba_ (Fa.Box wc g0_ u11))
        case first =>
         have H:=HC32.o;clear HC32
         by_cases c33:x10_11=0
         ·rw [if_pos c33] at H;have c33b0:(x10_11 == 0)=true:=beq_iff_eq.mpr c33;have c33b1:(x10_11 != 0)=false:=bne_eq_false_iff_eq.mpr c33;clear c33
          (first|rw [c33b0]|(simp only [bI_,bL_];rw [c33b0])|skip)
          have H':=am H;clear H;have hz0_:=BX.o.cell
          go_wp2
          go_meet
          case rel=>exact ⟨_,(true),rfl,H',⟨by have:=HJ11.o;have:=HK2.o;first|omega|exact Nat.le_refl _⟩,⟨zR (Kd.bq_ HO_7.o (fun _ hk=>hk.1))⟩,⟨zR (Kd.bq_ HO_8.o (fun _ hk=>hk.1))⟩,⟨zR HO_11.o⟩,⟨zB HB.o⟩,⟨by exact BX.o⟩⟩
         ·rw [if_neg c33] at H;have c33b0:(x10_11 == 0)=false:=beq_eq_false_iff_ne.mpr c33;have c33b1:(x10_11 != 0)=true:=bne_iff_ne.mpr c33
          (first|rw [c33b0]|(simp only [bI_,bL_];rw [c33b0])|skip)
          have H':=am H;clear H;obtain ⟨Ao34,co34,eo34⟩:=Kd.bv_ HO_11.o
          subst eo34
          have hz0_:=BX.o.cell
          go_wp2
          go_meet
          case rel=>exact ⟨_,(((x11_2.length:Int) != x10_11)),rfl,H',⟨by have:=HJ11.o;have:=HK2.o;first|omega|exact Nat.le_refl _⟩,⟨zR (Kd.bq_ HO_7.o (fun _ hk=>hk.1))⟩,⟨zR (Kd.bq_ HO_8.o (fun _ hk=>hk.1))⟩,⟨zR HO_11.o⟩,⟨zB HB.o⟩,⟨by exact BX.o⟩⟩
        case rest =>
         clear HC32;obtain ⟨kq,x71_31,rfl,HA,HJ31,HO_7,HO_8,HO_11,HB,BX⟩:=hcut
         cases kq with
         | zero=>exact absurd HA.o (by simp [Fa.j3])
         | succ kj31 =>
          have H:=HA.o;clear HA
          simp only [Fa.j3] at H
          by_cases c35:x71_31=true
          ·subst c35
           have H1:(some (([]:List Int),0,false))=some (r1,r2,r3):=by rw [if_pos rfl] at H;exact H
           clear H;have H:=H1;clear H1
           simp only [Option.some.injEq,Prod.mk.injEq] at H
           obtain ⟨rfl,rfl,rfl⟩:=H
           go_wp2
           go_ret3
           exact ⟨_,rfl,by first|apply Kd.di_|apply Kd.N_nil|apply Kd.V_nil|apply Kd.Q_nil|apply Kd.S_nil,zB HB.o⟩
          ·replace c35:=Bool.eq_false_iff.mpr c35
           subst c35
           have H1:((Fbb.f kj31 x10_11 x10_11 x11_2).bind fun t360=>(if 0≤x10_11 then (if x10_11≤(t344.length:Int) then ((Fag.f kj31 t360 (t344.take (x10_11:Int).toNat)).bind fun bt367=>(if bt367.2=true then ((Fbl.f kj31 bt367.1 0).bind fun t371=>(Fa.j4 kj31 a1 t340 x10_11 x11_2 bt367.1 t371)) else (Fa.j4 kj31 a1 t340 x10_11 x11_2 bt367.1 true))) else (none)) else (none)))=some (r1,r2,r3):=by rw [if_neg (show ¬ (false=true) by decide)] at H;exact H
           clear H;have H:=H1;clear H1;obtain ⟨t360,A36,H⟩:=bi_ H
           obtain ⟨c37,H⟩:=it_ H;have c37b0:=eq_true c37;have c37b1:=decide_eq_true c37;clear c37
           obtain ⟨c38,H⟩:=it_ H;have c38b0:=eq_true c38;have c38b1:=decide_eq_true c38;clear c38;obtain ⟨y363,hy363⟩:∃ y_:List Int,y_=(t344.take (x10_11:Int).toNat):=⟨_,rfl⟩
           replace H:((Fag.f kj31 t360 y363).bind fun bt367=>(if bt367.2=true then ((Fbl.f kj31 bt367.1 0).bind fun t371=>(Fa.j4 kj31 a1 t340 x10_11 x11_2 bt367.1 t371)) else (Fa.j4 kj31 a1 t340 x10_11 x11_2 bt367.1 true)))=some (r1,r2,r3):=by first|(rw [hy363];exact H)|(have H2_:=(Option.bind_some _ _).symm.trans H;first|exact H2_|(rw [hy363];exact H2_))|exact H
           have Ny363:=am hy363;clear hy363;obtain ⟨⟨t367,t368⟩,A39,H⟩:=bi_ H;dsimp only at H;have HC40:=am H;clear H;obtain ⟨Ao41,co41,eo41⟩:=Kd.bv_ HO_11.o
           subst eo41
           have hz0_:=BX.o.cell
           go_upto_region 22 with (first|((with_reducible refine bf_ (f:=60) rfl ?_);refine goesL_ (some 75) rfl rfl Try.func60 (by kernel_rfl) rfl #[.int .i64 x10_11,.int .i64 x10_11,.func (.func 61) #[] #[.pointer (some ⟨g0_,0,none⟩)]] rfl (by (try simp only [List.map_toArray,List.map_cons,List.map_nil]);first|done|rfl|(simp only [List.length_drop,List.length_take];rfl)) ?_;(with_reducible refine (Fbb.calls kj31 x10_11 x10_11 Ao41 co41 x11_2 t360 _ g0_ (by first|exact hz0_|simpa using hz0_) ?side1 A36.o).mono ?_);(case side1=>repeat (first|exact (Kd.bj_ HO_11.o).2.2|(with_reducible refine Kd.cJ_ ?_ _)|(with_reducible refine Kd.cI_ ?_ _)|(with_reducible refine Kd.cW_ ?_)));rintro e w42 ⟨v361,rfl,ho0,hb⟩;refine ⟨_,rfl,?_⟩;have n0_:=ba_.mk (Kd.bQ_ (by (with_reducible repeat (first|apply Kd.bW_|apply Kd.bV_|apply Kd.bP_));exact HO_7.o) hb);have n1_:=ba_.mk (Kd.bQ_ (by (with_reducible repeat (first|apply Kd.bW_|apply Kd.bV_|apply Kd.bP_));exact HO_8.o) hb);have n2_:=ba_.mk (Kd.bQ_ (by (with_reducible repeat (first|apply Kd.bW_|apply Kd.bV_|apply Kd.bP_));exact HO_11.o) hb);have n3_:=ba_.mk (Kd.S_lower (Kd.S_new' (Kd.S_new' ho0 (Kd.R_lt (by (with_reducible repeat (first|apply Kd.bW_|apply Kd.bV_|apply Kd.bP_));exact HO_7.o))) (Kd.R_lt (by (with_reducible repeat (first|apply Kd.bW_|apply Kd.bV_|apply Kd.bP_));exact HO_8.o))) (bN_ (by repeat (first|(with_reducible first|exact HB.o|apply bk_|apply be_|apply bg_)|exact HB.o))));have nb_:=ba_.mk (Fa.Box.below hb (by exact BX.o));clear BX hz0_;have BX:=nb_;clear nb_;have hz0_:=BX.o.cell;have n4_:=ba_.mk (bh_ (by repeat (first|(with_reducible first|exact HB.o|apply bk_|apply be_|apply bg_)|exact HB.o)) hb);clear HO_7;clear HO_8;clear HO_11;clear HB;have HO_7:=n0_;have HO_8:=n1_;have HO_11:=n2_;have HO362:=n3_;have HB:=n4_;clear n0_ n1_ n2_ n3_ n4_;(try clear hb);(try clear hb2);(try clear hk);(try clear hi);(try clear ho0);have q43:(x10_11:Int)≤((t344.length:Int):Int):=of_decide_eq_true (by first|(with_reducible assumption)|assumption);obtain ⟨i043,hi043,_,hsz43,_⟩:=info_parts info5;have hroom43:t344.length≤co16:=(Kd.bj_ HO_8.o).2.1;have hC43:Kd.C (Kd.int .u8) _ Ao16 t344.length t344:=(Kd.bj_ HO_8.o).2.2;have hcut43:=cut_to (P:=Try.prog) 22 5 .i64 Try.underlying22 hi043 Ao16 t344.length co16 x10_11 (of_decide_eq_true (by first|(with_reducible assumption)|assumption)) q43 hroom43;have hr43:=Kd.C_take (m:=(x10_11:Int).toNat) hC43 (by omega);have hy43:y363.length=(x10_11:Int).toNat:=(by rw [Ny363.o,List.length_take];omega);rw [← Ny363.o] at hr43;rw [← hy43] at hcut43;have HR366:=ba_.mk hr43;have HC366:=ba_.mk (show y363.length≤co16 from by omega);clear hr43 hC43 hroom43 hi043 hsz43;have KY43:=ba_.mk hy43;clear hy43;have KL43:=ba_.mk (show (x10_11:Int).toNat≤t344.length from by omega);replace q43:=eq_true q43;obtain ⟨Ao44,co44,eo44⟩:=Kd.cP_ HO362.o;subst eo44)|((with_reducible refine bf_ (f:=62) rfl ?_);refine goesL_ (some 81) rfl rfl Try.func62 (by kernel_rfl) rfl #[.slice Ao44 t360.length co44,.slice Ao16 y363.length co16] rfl (by (try simp only [List.map_toArray,List.map_cons,List.map_nil]);first|done|rfl|(simp only [List.length_drop,List.length_take];rfl)) ?_;(with_reducible refine (Fag.calls kj31 _ _ t360 _ _ y363 t367 t368 _ ?side1 ?side2 ?side3 ?side4 A39.o).mono ?_);(case side1=>repeat (first|exact (Kd.cl_ HO362.o).2.2|(with_reducible refine Kd.cJ_ ?_ _)|(with_reducible refine Kd.cI_ ?_ _)|(with_reducible refine Kd.cW_ ?_)));(case side2=>exact (Kd.cl_ HO362.o).2.1);(case side3=>repeat (first|exact (by repeat (first|(with_reducible exact HR366.o)|(with_reducible refine Kd.cJ_ ?_ _)|(with_reducible refine Kd.cI_ ?_ _)|(with_reducible refine Kd.cW_ ?_)|exact HR366.o))|(with_reducible refine Kd.cJ_ ?_ _)|(with_reducible refine Kd.cI_ ?_ _)|(with_reducible refine Kd.cW_ ?_)));(case side4=>exact HC366.o);rintro e w45 ⟨v369,rfl,ho0,hb⟩;refine ⟨_,rfl,?_⟩;have n0_:=ba_.mk (Kd.bC_ (by (with_reducible repeat (first|apply Kd.bW_|apply Kd.bV_|apply Kd.bP_));exact HO_7.o) (Kd.bt_ ho0) hb);have n1_:=ba_.mk (Kd.bC_ (by (with_reducible repeat (first|apply Kd.bW_|apply Kd.bV_|apply Kd.bP_));exact HO_8.o) (Kd.bt_ ho0) hb);have n2_:=ba_.mk (Kd.bQ_ (by (with_reducible repeat (first|apply Kd.bW_|apply Kd.bV_|apply Kd.bP_));exact HO_11.o) hb);have n3_:=ba_.mk (Kd.cZ_ (by (with_reducible repeat (first|apply Kd.S_alloc|apply Kd.S_drewN|apply Kd.S_drew));exact HO362.o) (Kd.bt_ ho0) hb);have n4_:=ba_.mk (Kd.bx_ (Kd.bX_ (Kd.bX_ ho0 (Kd.R_lt (by (with_reducible repeat (first|apply Kd.bW_|apply Kd.bV_|apply Kd.bP_));exact HO_7.o))) (Kd.R_lt (by (with_reducible repeat (first|apply Kd.bW_|apply Kd.bV_|apply Kd.bP_));exact HO_8.o))) (bN_ (by repeat (first|(with_reducible first|exact HB.o|apply bk_|apply be_|apply bg_)|exact HB.o))));have n5_:=ba_.mk (Kd.bH_ (by repeat (first|(with_reducible exact HR366.o)|(with_reducible refine Kd.cJ_ ?_ _)|(with_reducible refine Kd.cI_ ?_ _)|(with_reducible refine Kd.cW_ ?_)|exact HR366.o)) hb);have nb_:=ba_.mk (Fa.Box.below hb (by exact BX.o));clear BX hz0_;have BX:=nb_;clear nb_;have hz0_:=BX.o.cell;have n6_:=ba_.mk (bh_ (by repeat (first|(with_reducible first|exact HB.o|apply bk_|apply be_|apply bg_)|exact HB.o)) hb);clear HO_7;clear HO_8;clear HO_11;clear HO362;clear HR366;clear HB;have HO_7:=n0_;have HO_8:=n1_;have HO_11:=n2_;have HO362:=n3_;have HO370:=n4_;have HR366:=n5_;have HB:=n6_;clear n0_ n1_ n2_ n3_ n4_ n5_ n6_;(try clear hb);(try clear hb2);(try clear hk);(try clear hi);(try clear ho0)))
           (try simp only [Act.put,List.setIfInBounds_toArray,List.set_cons_zero,List.set_cons_succ])
           go_cut [89] (fun v89 wc=>∃ (kq:Nat) (x89_39:Bool),v89 = .bool x89_39∧ba_ (Fa.j4 kq a1 t340 x10_11 x11_2 t367 x89_39=some (r1,r2,r3))∧ba_ (kq≤kj31)∧ba_ (Kd.R (Kd.int .u8) 5 wc w.heap.size (fun k_=>some k_≠(v369:Value).ownBlock) v341 t340)∧ba_ (Kd.R (Kd.int .i64) 3 wc w.heap.size (fun _=>True) (.slice Ao41 x11_2.length co41) x11_2)∧ba_ (Kd.R (Kd.int .u8) 5 wc w.heap.size (fun k_=>some k_≠(v341:Value).ownBlock) v369 t367)∧ba_ (Kd.C (Kd.int .u8) wc Ao16 y363.length y363)∧ba_ (Below w.heap.size w wc)∧ba_ (Fa.Box wc g0_ (.slice Ao41 x11_2.length co41)))
           case first =>
            have H:=HC40.o;clear HC40
            by_cases c46:t368=true
            ·subst c46
             have H1:((Fbl.f kj31 t367 0).bind fun t371=>(Fa.j4 kj31 a1 t340 x10_11 x11_2 t367 t371))=some (r1,r2,r3):=by rw [if_pos rfl] at H;exact H
             clear H;have H:=H1;clear H1;obtain ⟨t371,A47,H⟩:=bi_ H;have H':=am H;clear H;obtain ⟨Ao48,co48,eo48⟩:=Kd.bv_ HO370.o
             subst eo48
             go_wp2_with (first|(go_at_call 63;(with_reducible refine (Fbl.calls kj31 _ _ t367 0 t371 _ ?side1 ?side2 A47.o).mono ?_);(case side1=>exact zC ((Kd.bj_ HO370.o).2.2));(case side2=>exact (Kd.bj_ HO370.o).2.1);rintro e w' ⟨rfl,⟨nd,rfl⟩⟩))
             go_meet
             case rel=>exact ⟨_,(t371),rfl,H',⟨by have:=HJ11.o;have:=HK2.o;have:=HJ31.o;first|omega|exact Nat.le_refl _⟩,⟨zR (Kd.bq_ HO_7.o (fun _ hk=>hk.2))⟩,⟨zR HO_11.o⟩,⟨zR (Kd.bq_ HO370.o (fun _ hk=>hk.1.2))⟩,⟨zC HR366.o⟩,⟨zB HB.o⟩,⟨by exact BX.o⟩⟩
            ·replace c46:=Bool.eq_false_iff.mpr c46
             subst c46
             have H1:(Fa.j4 kj31 a1 t340 x10_11 x11_2 t367 true)=some (r1,r2,r3):=by rw [if_neg (show ¬ (false=true) by decide)] at H;exact H
             clear H;have H:=H1;clear H1;have H':=am H;clear H
             go_wp2
             go_meet
             case rel=>exact ⟨_,(true),rfl,H',⟨by have:=HJ11.o;have:=HK2.o;have:=HJ31.o;first|omega|exact Nat.le_refl _⟩,⟨zR (Kd.bq_ HO_7.o (fun _ hk=>hk.2))⟩,⟨zR HO_11.o⟩,⟨zR (Kd.bq_ HO370.o (fun _ hk=>hk.1.2))⟩,⟨zC HR366.o⟩,⟨zB HB.o⟩,⟨by exact BX.o⟩⟩
           case rest =>
            clear HC40;obtain ⟨kq,x89_39,rfl,HA,HJ39,HO_7,HO_11,HO_14,HR366,HB,BX⟩:=hcut
            cases kq with
            | zero=>exact absurd HA.o (by simp [Fa.j4])
            | succ kj39 =>
             have H:=HA.o;clear HA
             simp only [Fa.j4] at H
             by_cases c49:x89_39=true
             ·subst c49
              have H1:(some (([]:List Int),0,false))=some (r1,r2,r3):=by rw [if_pos rfl] at H;exact H
              clear H;have H:=H1;clear H1
              simp only [Option.some.injEq,Prod.mk.injEq] at H
              obtain ⟨rfl,rfl,rfl⟩:=H
              go_wp2
              go_ret3
              exact ⟨_,rfl,by first|apply Kd.di_|apply Kd.N_nil|apply Kd.V_nil|apply Kd.Q_nil|apply Kd.S_nil,zB HB.o⟩
             ·replace c49:=Bool.eq_false_iff.mpr c49
              subst c49
              have H1:(Fa.l2 kj39 a1 t340 x10_11 t367 x11_2 (x11_2.length:Int) 0)=some (r1,r2,r3):=by rw [if_neg (show ¬ (false=true) by decide)] at H;exact H
              clear H;have H:=H1;clear H1;have H':=am H;clear H;have hz0_:=BX.o.cell
              go_wp2
              go_loopg [92] kj39 (fun kq v92 w'=>∃ (x7_5:List Int) (x92_5:Int),v92 = .int .i64 x92_5∧ba_ (Fa.l2 kq a1 x7_5 x10_11 t367 x11_2 (x11_2.length:Int) x92_5=some (r1,r2,r3))∧ba_ (kq≤kj39)∧ba_ (Kd.R (Kd.int .u8) 5 w' w.heap.size (fun k_=>some k_≠(v369:Value).ownBlock) v341 x7_5)∧ba_ (Kd.R (Kd.int .u8) 5 w' w.heap.size (fun k_=>some k_≠(v341:Value).ownBlock) v369 t367)∧ba_ (Kd.R (Kd.int .i64) 3 w' w.heap.size (fun _=>True) (.slice Ao41 x11_2.length co41) x11_2)∧ba_ (Below w.heap.size w w'))
              case atStart=>exact ⟨(t340),(0),rfl,H',⟨Nat.le_refl _⟩,⟨zR HO_7.o⟩,⟨zR HO_14.o⟩,⟨zR HO_11.o⟩,⟨zB HB.o⟩⟩
              case round =>
               clear H';obtain ⟨x7_5,x92_5,rfl,HA,HK5,HO_7,HO_14,HO_90,HB⟩:=hrel
               cases gk with
               | zero=>exact absurd HA.o (by simp [Fa.l2])
               | succ k5 =>
                have H:=HA.o;clear HA
                simp only [Fa.l2] at H
                by_cases c50:x92_5<(x11_2.length:Int)
                ·rw [if_pos c50] at H;have c50b0:=decide_eq_true c50;clear c50
                 obtain ⟨c51,H⟩:=it_ H;have c51b0:=decide_eq_true c51;clear c51
                 obtain ⟨c52,H⟩:=it_ H;have c52b0:=decide_eq_true c52;clear c52
                 obtain ⟨c53,H⟩:=it_ H;have c53b0:=decide_eq_true c53;clear c53
                 obtain ⟨c54,H⟩:=it_ H;have c54b0:=decide_eq_true c54;clear c54
                 obtain ⟨c55,H⟩:=it_ H;have c55b0:=decide_eq_true c55;clear c55;obtain ⟨y375,hy375⟩:∃ y_:List Int,y_=(x7_5.set ((rd x11_2 x92_5):Int).toNat (Go.bits .xor .u8 (rd x7_5 (rd x11_2 x92_5)) (rd t367 x92_5))):=⟨_,rfl⟩
                 replace H:(Fa.l2 k5 a1 y375 x10_11 t367 x11_2 (x11_2.length:Int) (wrap64 (x92_5+1)))=some (r1,r2,r3):=by first|(rw [hy375];exact H)|(have H2_:=(Option.bind_some _ _).symm.trans H;first|exact H2_|(rw [hy375];exact H2_))|exact H
                 have Ny375:=am hy375;clear hy375;have H':=am H;clear H;have p372:0≤(x92_5:Int):=od_;have q372:x92_5<(x11_2.length:Int):=od_;obtain ⟨ad372,e372,hx372_0⟩:=Kd.bK_ (Kd.bj_ HO_90.o).2.2 x92_5 p372 q372;cases e372;replace p372:=eq_true p372;replace q372:=eq_true q372
                 try go_wp2
                 replace HO_7:=am (Kd.bP_ HO_7.o);replace HO_14:=am (Kd.bP_ HO_14.o);replace HO_90:=am (Kd.bP_ HO_90.o);replace HB:=am (bg_ HB.o);obtain ⟨Ao58,co58,eo58⟩:=Kd.bv_ HO_7.o
                 (first|subst eo58|(injection eo58 with f1_ f2_ f3_;have f4_:=f1_.symm;have f5_:=f3_.symm;clear f1_ f2_ f3_;subst f4_;subst f5_))
                 have p373:0≤((rd x11_2 x92_5):Int):=od_;have q373:(rd x11_2 x92_5)<(x7_5.length:Int):=od_;obtain ⟨ad373,e373,hx373_0⟩:=Kd.bK_ (Kd.bj_ HO_7.o).2.2 (rd x11_2 x92_5) p373 q373;cases e373;replace p373:=eq_true p373;replace q373:=eq_true q373;obtain ⟨Ao59,co59,eo59⟩:=Kd.bv_ HO_14.o
                 (first|subst eo59|(injection eo59 with f1_ f2_ f3_;have f4_:=f1_.symm;have f5_:=f3_.symm;clear f1_ f2_ f3_;subst f4_;subst f5_))
                 have p374:0≤(x92_5:Int):=od_;have q374:x92_5<(t367.length:Int):=od_;obtain ⟨ad374,e374,hx374_0⟩:=Kd.bK_ (Kd.bj_ HO_14.o).2.2 x92_5 p374 q374;cases e374;replace p374:=eq_true p374;replace q374:=eq_true q374;have p56:0≤((rd x11_2 x92_5):Int):=od_;have q56:((rd x11_2 x92_5):Int)<((x7_5.length:Int):Int):=od_;obtain ⟨go56,co56,eo56,gb56,gl56,cl56,HG56⟩:=Kd.R_form HO_7.o (by omega)
                 (first|cases eo56|(injection eo56 with ea_ en_ ec_;(first|subst ea_|(injection ea_ with ea_;subst ea_));subst ec_;clear en_))
                 have GB56:=am gb56;have GG56:=am HG56;clear gb56 gl56 HG56
                 (first|simp only [add_plain] at hx373_0|skip)
                 obtain ⟨hx56_0,hf56_0⟩:=Kd.R_celln 0 HO_7.o ((rd x11_2 x92_5):Int) p56 q56;replace p56:=eq_true p56;replace q56:=eq_true q56;have HP60:=Kd.R_putn HO_7.o ((rd x11_2 x92_5):Int) (Go.bits .xor .u8 (rd x7_5 (rd x11_2 x92_5)) (rd t367 x92_5));rw [← Ny375.o] at HP60;have HQ60:=am HP60;clear HP60
                 refine cS_ (n:=11) (S:=fun w'=>w'.cell? ⟨go56,((rd x11_2 x92_5)).toNat,none⟩=some (.int .u8 (rd x7_5 (rd x11_2 x92_5)))∧w'.cell? (ad374.add (x92_5).toNat)=some (.int .u8 (rd t367 x92_5))) (ds:=[10]) #[false,false,false,false,false,false,false,false,false,false,false] (by kernel_rfl) rfl rfl ⟨hx373_0,hx374_0⟩ (fun hHeld=>?_);refine cc_ Fa.tab27 Fa.bits27 (fun HT_ HW_=>?_)
                 generalize wr.drew=w57 at HO_7 HO_14 HO_90 HB GG56 HQ60 hf56_0 hx373_0 hx374_0 hx56_0 hHeld ⊢
                 refine pu_ (i:=0) (some 97) #[true,false,false,false,false,false,false,false,false,false,false] HT_ ?_
                 refine pu_ (i:=1) (some 98) #[true,true,false,false,false,false,false,false,false,false,false] HT_ ?_
                 refine pu_ (i:=2) (some 99) #[true,true,true,false,false,false,false,false,false,false,false] HT_ ?_
                 refine pu_ (i:=4) (some 101) #[true,true,true,false,true,false,false,false,false,false,false] HT_ ?_
                 refine pu_ (i:=5) (some 102) #[true,true,true,false,true,true,false,false,false,false,false] HT_ ?_
                 refine pu_ (i:=6) (some 103) #[true,true,true,false,true,true,true,false,false,false,false] HT_ ?_
                 refine ta_ (i:=3) (some 100) #[true,true,true,true,true,true,true,false,false,false,false] HT_ HW_ hHeld ?_
                 refine ta_ (i:=7) (some 104) #[true,true,true,true,true,true,true,true,false,false,false] HT_ HW_ hHeld ?_
                 refine pu_ (i:=8) (some 105) #[true,true,true,true,true,true,true,true,true,false,false] HT_ ?_
                 refine pu_ (i:=9) (some 106) #[true,true,true,true,true,true,true,true,true,true,false] HT_ ?_
                 refine last_ (i:=10) (N:=none) #[true,true,true,true,true,true,true,true,true,true,true] rfl rfl (bZ_ HT_.o (by kernel_rfl)) (by decide) (fun K hK=>?_)
                 refine skip_ (w1:=?_) (by rfl) rfl ?_ ?_
                 rotate_left
                 ·go_simp;rfl
                 refine hK.out _ _ ?_
                 clear hK K
                 refine done_ (cD_ HT_.o (by kernel_rfl)) ?_
                 try go_wp2
                 first|go_roundg k5|(try rw [show (⟨go56,(x50_2).toNat,none⟩:Addr)=(⟨go56,0,none⟩:Addr).add (x50_2).toNat from by simp [Addr.add]];go_roundg k5)
                 case measure=>have:=HJ11.o;have:=HK2.o;have:=HJ31.o;have:=HJ39.o;have:=HK5.o;omega
                 case rel=>exact ⟨(y375),(wrap64 (x92_5+1)),rf_,H',⟨by have:=HJ11.o;have:=HK2.o;have:=HJ31.o;have:=HJ39.o;have:=HK5.o;omega⟩,⟨zR HQ60.o⟩,⟨zR (Kd.bq_ (Kd.R_far (p:=⟨go56,((rd x11_2 x92_5):Int).toNat,none⟩) (Kd.bq_ HO_14.o (fun k_ hk=>(⟨hk,fun e_=>hk (by rw [e_];rfl)⟩:_∧k_≠go56))) (fun _ hk=>hk.2) (.int .u8 (Go.bits .xor .u8 (rd x7_5 (rd x11_2 x92_5)) (rd t367 x92_5)))) (fun _ hk=>hk.1))⟩,⟨zR (Kd.bq_ (Kd.R_far (p:=⟨go56,((rd x11_2 x92_5):Int).toNat,none⟩) (Kd.cb_ HO_90.o GG56.o (by decide)) (fun _ hk=>hk.2) (.int .u8 (Go.bits .xor .u8 (rd x7_5 (rd x11_2 x92_5)) (rd t367 x92_5)))) (fun _ hk=>trivial))⟩,⟨by repeat (first|(with_reducible first|exact HB.o|apply bk_|apply be_|apply bg_|refine bl_ ?_ GB56.o)|exact HB.o)⟩⟩
                ·rw [if_neg c50] at H;have c50b0:=decide_eq_false c50;clear c50;obtain ⟨t376,A61,H⟩:=bi_ H
                 by_cases c62:t376=true
                 ·subst c62
                  have H1:(some (x7_5,x10_11,true))=some (r1,r2,r3):=by rw [if_pos rfl] at H;exact H
                  clear H;have H:=H1;clear H1
                  simp only [Option.some.injEq,Prod.mk.injEq] at H
                  obtain ⟨rfl,rfl,rfl⟩:=H;obtain ⟨Ao63,co63,eo63⟩:=Kd.bv_ HO_7.o
                  subst eo63
                  go_wp2_with (first|((with_reducible refine bf_ (f:=45) rfl ?_);refine goL_ (some 110) Try.func45 #[.slice Ao63 x7_5.length co63,.int .i64 a1] ?_;(with_reducible refine (Fad.calls k5 _ _ x7_5 a1 true _ ?side1 ?side2 A61.o).mono ?_);(case side1=>exact zC ((Kd.bj_ HO_7.o).2.2));(case side2=>exact (Kd.bj_ HO_7.o).2.1);rintro e w64 ⟨rfl,hb⟩;refine ⟨_,rfl,?_⟩;replace HO_7:=am (Kd.bQ_ (zR HO_7.o) hb);replace HO_14:=am (Kd.bQ_ (zR HO_14.o) hb);replace HO_90:=am (Kd.bQ_ (zR HO_90.o) hb);replace HB:=am (bh_ (zB HB.o) hb);(try clear hb);(try clear hb2);(try clear hk);(try clear hi)))
                  go_ret3
                  exact ⟨_,rfl,zR (Kd.bq_ HO_7.o (fun _ hk=>trivial)),zB HB.o⟩
                 ·replace c62:=Bool.eq_false_iff.mpr c62
                  subst c62
                  have H1:(some (([]:List Int),0,false))=some (r1,r2,r3):=by rw [if_neg (show ¬ (false=true) by decide)] at H;exact H
                  clear H;have H:=H1;clear H1
                  simp only [Option.some.injEq,Prod.mk.injEq] at H
                  obtain ⟨rfl,rfl,rfl⟩:=H;obtain ⟨Ao65,co65,eo65⟩:=Kd.bv_ HO_7.o
                  subst eo65
                  go_wp2_with (first|((with_reducible refine bf_ (f:=45) rfl ?_);refine goL_ (some 110) Try.func45 #[.slice Ao65 x7_5.length co65,.int .i64 a1] ?_;(with_reducible refine (Fad.calls k5 _ _ x7_5 a1 false _ ?side1 ?side2 A61.o).mono ?_);(case side1=>exact zC ((Kd.bj_ HO_7.o).2.2));(case side2=>exact (Kd.bj_ HO_7.o).2.1);rintro e w66 ⟨rfl,hb⟩;refine ⟨_,rfl,?_⟩;replace HO_7:=am (Kd.bQ_ (zR HO_7.o) hb);replace HO_14:=am (Kd.bQ_ (zR HO_14.o) hb);replace HO_90:=am (Kd.bQ_ (zR HO_90.o) hb);replace HB:=am (bh_ (zB HB.o) hb);(try clear hb);(try clear hb2);(try clear hk);(try clear hi)))
                  go_ret3
                  exact ⟨_,rfl,by first|apply Kd.di_|apply Kd.N_nil|apply Kd.V_nil|apply Kd.Q_nil|apply Kd.S_nil,zB HB.o⟩
 ·replace c4:=Bool.eq_false_iff.mpr c4
  subst c4
  have H1:(some (([]:List Int),0,false))=some (r1,r2,r3):=by rw [if_neg (show ¬ (false=true) by decide)] at H;exact H
  clear H;have H:=H1;clear H1
  simp only [Option.some.injEq,Prod.mk.injEq] at H
  obtain ⟨rfl,rfl,rfl⟩:=H
  go_enter Try.func29,Try.ntmps29
  go_wp2_with (first|((with_reducible refine bf_ (f:=42) rfl ?_);refine goL_ (some 20) Try.func42 #[.slice A0 l0.length c0,.int .i64 a1] ?_;(with_reducible refine (Fah.calls _ _ l0 a1 false _ ?side1 ?side2 A3.o).mono ?_);(case side1=>exact zC HR0.o);(case side2=>exact HC0.o);rintro e w' ⟨rfl,⟨nd,rfl⟩⟩;refine ⟨_,rfl,?_⟩))
  go_ret3
  exact ⟨_,rfl,by first|apply Kd.di_|apply Kd.N_nil|apply Kd.V_nil|apply Kd.Q_nil|apply Kd.S_nil,zB HB.o⟩

end Go.Proofs.Ytbloniemhkfnlaa.PFnCorrected
