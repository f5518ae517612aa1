/- A law's functions as plain Lean functions, each with the walk that shows that the code computes it: written by this session's program wip/tools/ppmake.py. -/
import Derived.Test.YtbloniemhkfnlaaKZ
import Derived.Test.YtbloniemhkfnlaaPFnCorrectedx0
namespace Go.Proofs.Ytbloniemhkfnlaa.PFnCorrected
open Go.RowKit Go.Proofs.YtbloniemhkfnlaaW.PrintWords Go.Proofs.YtbloniemhkfnlaaW.PrintLast Go.Proofs.YtbloniemhkfnlaaW.PrintMore
attribute [local go_sem] cw_ cy_ cK_ cL_ ci_ ch_ cx_ cv_   -- for this text's walks alone
set_option linter.unusedVariables false
set_option linter.unusedSimpArgs false

/-! ### spec_l2Blank: function 87 -/
def Fab.l0:Nat→Int→Int→Int→List (List Int)→Option ((List (List Int)))
 | 0,_,_,_,_=>none
 | k+1,x0,x1,x6,xaa=>if x6<x0 then (if 0≤x1 then (if (x1:Int).toNat≤281474976710656 then (if xaa.length<5864062014805 then (Fab.l0 k x0 x1 (wrap64 (x6+1)) (xaa++[(List.replicate (x1:Int).toNat 0)])) else (none)) else (none)) else (none)) else (some xaa)
def Fab.f (k:Nat) (a0:Int) (a1:Int):Option ((List (List Int))):=Fab.l0 k a0 a1 0 ([]:List (List Int))
def Fab.T5:Bool × List (List Nat × List Nat):=(true,[([],[]),([0],[0]),([],[]),([2,2],[2]),([3],[3]),([1,4],[1,4]),([0,1,2,3,4,5],[]),([6,5,5,0,1,2,3,4,5],[5,6])])
def Fab.B5:List Nat:=[0,1,0,4,12,31,63,127]
theorem Fab.tab5:rtab .any (opsOf Try.f87 5)=Fab.T5:=by kernel_rfl
theorem Fab.bits5:waitsOk Fab.T5.2 Fab.B5=true:=by kernel_rfl
set_option maxHeartbeats 8000000 in
set_option maxRecDepth 100000 in
theorem Fab.calls (k:Nat) (a0:Int) (a1:Int) (r:List (List Int)) (w:World) (h:Fab.f k a0 a1=some r) :
  Calls Try.prog 87 #[.int .i64 a0,.int .i64 a1] w fun e w'=>∃ v0_:Value,e = .returned (.agg #[v0_])∧Kd.S (Kd.slice 5 (Kd.int .u8)) 22 w' w.heap.size (fun _=>True) v0_ r∧Below w.heap.size w w':=by
 have hu52:=Try.underlying52;have HB:=am (Below.refl w.heap.size w);have H:(Fab.l0 k a0 a1 0 ([]:List (List Int)))=some r:=h;clear h;have H':=am H;clear H
 go_enter Try.func87,Try.ntmps87
 go_wp2_with (first|((with_reducible refine bB_ (N:=4) rfl ?_);refine bU_ ?hg (N:=4) ?hd (cs:=#[.slice none 0 0]) (t:=52) ?hr ?_;(case hd=>rfl);(case hg=>rfl);(case hr=>first|(go_simp;done)|(go_simp;rfl));intro gb265 hg w3 hbox hb;have BK265:=am (hbox);have GW265:=am ((gw_ hg HB.o:w.heap.size≤gb265));have GE265:=am ((gw_ hg HB.o:w.heap.size≤gb265));replace HB:=am (bh_ (zB HB.o) hb);clear hb hbox hg)|((with_reducible refine bB_ (N:=5) rfl ?_);refine bU_ ?hg (N:=5) ?hd (cs:=#[.slice none 0 0]) (t:=52) ?hr ?_;(case hd=>rfl);(case hg=>rfl);(case hr=>first|(go_simp;done)|(go_simp;rfl));intro gb266 hg w4 hbox hb;have BK266:=am (hbox);have GW266:=am ((gw_ hg HB.o:w.heap.size≤gb266));have GE266:=am ((gw_ hg HB.o:w.heap.size≤gb266));replace HB:=am (bh_ (zB HB.o) hb);have NB265_266:=am ((by rw [hg];exact Nat.ne_of_lt (bw_ (zK BK265.o)):gb265≠gb266));have NB266_265:=am ((by rw [hg];exact Nat.ne_of_gt (bw_ (zK BK265.o)):gb266≠gb265));replace BK265:=am (bm_ (zK BK265.o) hb);clear hb hbox hg;have hnb5:=NB266_265.o;have hnc5:=NB265_266.o;have hcz6_0:w4.cell? ⟨gb266,0,none⟩=some (.slice none 0 0):=(bo_ BK266.o 0).trans rfl;have hfz6_0:=bs_ BK266.o 0))
 go_loopg [6] k (fun kq v6 w'=>∃ (x6_1:Int) (xaa_1:List (List Int)) (uaa:Value),v6 = .int .i64 x6_1∧ba_ (Fab.l0 kq a0 a1 x6_1 xaa_1=some r)∧ba_ (kq≤k)∧ba_ (Kd.S (Kd.slice 5 (Kd.int .u8)) 22 w' w.heap.size (fun _=>True) uaa xaa_1)∧ba_ (w'.heap[gb265]? = some (.cells #[(.slice none 0 0)] 52 (0,0)))∧ba_ (w'.heap[gb266]? = some (.cells #[uaa] 52 (0,0)))∧ba_ (Below w.heap.size w w'))
 case atStart=>exact ⟨(0),(([]:List (List Int))),(.slice none 0 0),rf_,H',⟨Nat.le_refl _⟩,⟨by first|exact Kd.S_nil _ _ _ _ _|exact Kd.N_nil _ _ _ _ _|exact Kd.V_nil _ _ _ _ _|exact Kd.Q_nil _ _ _ _ _|exact Kd.di_ _ _ _ _ _⟩,⟨by (with_reducible repeat (first|apply bd_|apply bb_|apply bc_));refine bF_ ?_ NB265_266.o _;(with_reducible repeat (first|apply bd_|apply bb_|apply bc_));exact BK265.o⟩,⟨by (with_reducible repeat (first|apply bd_|apply bb_|apply bc_));refine cQ_ (cs:=#[.slice none 0 0]) ?_ 0 _ rfl;(with_reducible repeat (first|apply bd_|apply bb_|apply bc_));exact BK266.o⟩,⟨by repeat (first|(with_reducible first|exact HB.o|apply bk_|apply be_|apply bg_|refine bl_ ?_ GE265.o|refine bl_ ?_ GE266.o)|exact HB.o)⟩⟩
 case round =>
  clear H';(try clear hfz6_0);obtain ⟨x6_1,xaa_1,uaa,rfl,HA,HK1,HO_aa,BK265,BK266,HB⟩:=hrel
  cases gk with
  | zero=>exact absurd HA.o (by simp [Fab.l0])
  | succ k1 =>
   have H:=HA.o;clear HA
   simp only [Fab.l0] at H
   by_cases c7:x6_1<a0
   ·rw [if_pos c7] at H;have c7b0:=decide_eq_true c7;clear c7
    obtain ⟨c8,H⟩:=it_ H;have c8b0:=eq_true c8;have c8b1:=decide_eq_true c8;clear c8
    obtain ⟨c9,H⟩:=it_ H;have c9b0:=eq_true c9;have c9b1:=decide_eq_true c9;clear c9;obtain ⟨y267,hy267⟩:∃ y_:List Int,y_=(List.replicate (a1:Int).toNat 0):=⟨_,rfl⟩
    replace H:(if xaa_1.length<5864062014805 then (Fab.l0 k1 a0 a1 (wrap64 (x6_1+1)) (xaa_1++[y267])) else (none))=some r:=by first|(rw [hy267];exact H)|(have H2_:=(Option.bind_some _ _).symm.trans H;first|exact H2_|(rw [hy267];exact H2_))|exact H
    have Ny267:=am hy267;clear hy267
    obtain ⟨c10,H⟩:=it_ H;have LMc10:=am c10;clear c10;obtain ⟨y270,hy270⟩:∃ y_:List (List Int),y_=(xaa_1++[y267]):=⟨_,rfl⟩
    replace H:(Fab.l0 k1 a0 a1 (wrap64 (x6_1+1)) y270)=some r:=by first|(rw [hy270];exact H)|(have H2_:=(Option.bind_some _ _).symm.trans H;first|exact H2_|(rw [hy270];exact H2_))|exact H
    have Ny270:=am hy270;clear hy270;have H':=am H;clear H
    try go_wp2
    replace HO_aa:=am (Kd.S_drew HO_aa.o);replace BK265:=am (bb_ BK265.o);replace BK266:=am (bb_ BK266.o);replace HB:=am (bg_ HB.o)
    refine cS_ (n:=8) (S:=fun w'=>w'.cell? ⟨gb266,0,none⟩=some (uaa)) (ds:=[7]) #[false,false,false,false,false,false,false,false] (by kernel_rfl) rfl rfl ((bo_ BK266.o 0).trans rfl) (fun hHeld=>?_);refine cc_ Fab.tab5 Fab.bits5 (fun HT_ HW_=>?_)
    generalize wr.drew=w11 at HO_aa BK265 BK266 HB hHeld ⊢
    refine pu_ (i:=0) (some 13) #[true,false,false,false,false,false,false,false] HT_ ?_
    refine pu_ (i:=2) (some 15) #[true,false,true,false,false,false,false,false] HT_ ?_
    refine ta_ (i:=1) (some 14) #[true,true,true,false,false,false,false,false] HT_ HW_ hHeld ?_
    refine one_ (i:=3) (N:=some 16) #[true,true,true,true,false,false,false,false] rfl rfl (bZ_ HT_.o (by kernel_rfl)) (by decide) (fun K hK=>?_)
    refine Kd.R_make_step (Kd.int .u8) _ 5 (by rfl) (N:=16) rfl 22 _ _ rfl a1 rfl rfl Try.underlying22 (.int .u8 0) 1 info5 rfl (by decide) (by omega) 0 (ok:=fun _=>True) (okp:=fun _=>True) rfl (fun _ hk=>hk) trivial (od_) (Nat.le_trans (Nat.mul_le_mul_right _ (od_:a1.toNat≤281474976710656)) (by omega)) (Below.refl _ _) (Nat.le_refl _) ?_
    intro v268 w12 ho13 hb hg_ hnew_;clear hg_ hnew_
    (first|rw [← Ny267.o] at ho13|(simp only [Int.reduceToNat] at ho13;rw [← Ny267.o] at ho13))
    replace HO_aa:=am (Kd.cZ_ (zS HO_aa.o) (Kd.bt_ ho13) hb)
    have HO269:=am (Kd.bx_ ho13 (zs_ HB.o))
    replace BK265:=am (bm_ (zK BK265.o) hb)
    replace BK266:=am (bm_ (zK BK266.o) hb)
    replace HB:=am (bh_ (zB HB.o) hb);clear hb ho13;obtain ⟨Ao15,co15,eo15⟩:=Kd.bv_ HO269.o
    (first|subst eo15|(injection eo15 with f1_ f2_ f3_;have f4_:=f1_.symm;have f5_:=f3_.symm;clear f1_ f2_ f3_;subst f4_;subst f5_))
    refine hK.out _ _ ((bo_ BK266.o 0).trans rfl) (fun hHeld=>?_)
    clear hK K
    refine cp_ (a':=?_) ?_ ?_
    rotate_left
    ·show Act.put _ (some 16) _=_
     simp only [Act.put,List.setIfInBounds_toArray,List.set_cons_zero,List.set_cons_succ,bI_,bL_];rfl
    refine one_ (i:=4) (N:=some 17) #[true,true,true,true,true,false,false,false] rfl rfl (bZ_ HT_.o (by kernel_rfl)) (by decide) (fun K hK=>?_)
    refine value_ (w1:=?_) (v:=?_) (by rfl) rfl ?_ ?_
    rotate_left 2
    ·go_simp
     constructor
     ·rfl
     ·rfl
    refine hK.out _ _ ((bo_ (bc_ BK266.o _) 0).trans rfl) (fun hHeld=>?_)
    clear hK K
    refine cp_ (a':=?_) ?_ ?_
    rotate_left
    ·show Act.put _ (some 17) _=_
     simp only [Act.put,List.setIfInBounds_toArray,List.set_cons_zero,List.set_cons_succ,bI_,bL_];rfl
    refine one_ (i:=5) (N:=some 18) #[true,true,true,true,true,true,false,false] rfl rfl (bZ_ HT_.o (by kernel_rfl)) (by decide) (fun K hK=>?_)
    refine Kd.S_append_step (Kd.slice 5 (Kd.int .u8)) (w0:=w) w.heap.size (by rfl) (.tmp 14) (.tmp 17) 50 22 (.slice none 0 0) 24 rfl Try.underlying50 info22 rfl (by decide) (by omega) uaa xaa_1 y267 [.slice Ao15 y267.length co15] (fun _=>True) (fun k_=>some k_=(.slice Ao15 y267.length co15:Value).ownBlock) rfl rfl ?aP (fun k_ hk_=>((Kd.bq_ (ok':=fun k_=>((fun _=>True)) k_∧some k_≠(uaa:Value).ownBlock) (Kd.cj_ (HO269.o) (Kd.dp_ HO_aa.o) (by decide)) (fun k_ hk=>⟨trivial,hk.2⟩))).1 k_ hk_.symm) ?aF ?aO ?aB ?aS ?aL ?_
    (case aP=>exact Kd.M_row (Kd.bq_ (Kd.R_tight rfl (Kd.bq_ (ok':=fun k_=>((fun _=>True)) k_∧some k_≠(uaa:Value).ownBlock) (Kd.cj_ (HO269.o) (Kd.dp_ HO_aa.o) (by decide)) (fun k_ hk=>⟨trivial,hk.2⟩))) (fun _ h_=>h_)))
    (case aB=>exact (zB HB.o))
    (case aF=>exact (fun _ _=>trivial))
    (case aO=>exact (zS (Kd.cH_ HO_aa.o (fun k_ hk=>⟨trivial,fun e_=>hk.2 e_⟩))))
    (case aS=>exact (zs_ HB.o))
    (case aL=>have:=LMc10.o;omega)
    intro v271 w14 ho hb hg hat;rw [← Ny270.o] at ho
    replace BK265:=am (ce_ (zK BK265.o) hg (Kd.S_ne HO_aa.o BK265.o (by decide)))
    replace BK266:=am (ce_ (zK BK266.o) hg (Kd.S_ne HO_aa.o BK266.o (by decide)))
    replace HB:=am (hb);have HO272:=am (ho);(try clear HO_aa);(try clear HO269);clear ho hb hg hat;obtain ⟨Ao16,co16,eo16⟩:=Kd.cP_ HO272.o
    (first|subst eo16|(injection eo16 with f1_ f2_ f3_;have f4_:=f1_.symm;have f5_:=f3_.symm;clear f1_ f2_ f3_;subst f4_;subst f5_))
    refine hK.out _ _ ((bo_ BK266.o 0).trans rfl) (fun hHeld=>?_)
    clear hK K
    refine cp_ (a':=?_) ?_ ?_
    rotate_left
    ·show Act.put _ (some 18) _=_
     simp only [Act.put,List.setIfInBounds_toArray,List.set_cons_zero,List.set_cons_succ,bI_,bL_];rfl
    refine pu_ (i:=6) (some 19) #[true,true,true,true,true,true,true,false] HT_ ?_
    refine last_ (i:=7) (N:=none) #[true,true,true,true,true,true,true,true] rfl rfl (bZ_ HT_.o (by kernel_rfl)) (by decide) (fun K hK=>?_)
    have hs17:w14.cell? ⟨gb266,0,none⟩=some (uaa):=(bo_ BK266.o 0).trans rfl;have hfs17:=bs_ BK266.o 0;have hns17_0:=NB265_266.o;have hms17_0:=NB266_265.o
    refine skip_ (w1:=?_) (by rfl) rfl ?_ ?_
    rotate_left
    ·go_simp;rfl
    refine hK.out _ _ ?_
    clear hK K
    refine done_ (cD_ HT_.o (by kernel_rfl)) ?_
    try go_wp2
    go_roundg k1
    case measure=>have:=HK1.o;omega
    case rel=>exact ⟨(wrap64 (x6_1+1)),(y270),(.slice Ao16 y270.length co16),rf_,H',⟨by have:=HK1.o;omega⟩,⟨zS (Kd.cH_ (Kd.S_far (p:=⟨gb266,0,none⟩) (Kd.S_types HO272.o BK266.o (by decide)) (fun _ hk=>hk.2) (.slice Ao16 y270.length co16)) (fun _ hk=>trivial))⟩,⟨by (with_reducible repeat (first|apply bd_|apply bb_|apply bc_));refine bF_ ?_ NB265_266.o _;(with_reducible repeat (first|apply bd_|apply bb_|apply bc_));exact BK265.o⟩,⟨by (with_reducible repeat (first|apply bd_|apply bb_|apply bc_));refine cQ_ (cs:=#[uaa]) ?_ 0 _ rfl;(with_reducible repeat (first|apply bd_|apply bb_|apply bc_));exact BK266.o⟩,⟨by repeat (first|(with_reducible first|exact HB.o|apply bk_|apply be_|apply bg_|refine bl_ ?_ GE265.o|refine bl_ ?_ GE266.o)|exact HB.o)⟩⟩
   ·rw [if_neg c7] at H;have c7b0:=decide_eq_false c7;clear c7;obtain rfl:=Option.some.inj H;have hnb18:=NB266_265.o;have hnc18:=NB265_266.o;have hcz19_0:wr.cell? ⟨gb266,0,none⟩=some (uaa):=(bo_ BK266.o 0).trans rfl;have hfz19_0:=bs_ BK266.o 0;obtain ⟨Ao20,co20,eo20⟩:=Kd.cP_ HO_aa.o
    subst eo20
    have hcz21_0:wr.cell? ⟨gb265,0,none⟩=some (.slice none 0 0):=(bo_ BK265.o 0).trans rfl;have hfz21_0:=bs_ BK265.o 0
    go_wp2
    refine bodyPost_ret (results_cell_row rfl _ _ gb265 52 #[.slice Ao20 xaa_1.length co20] (0,0) _ rfl (by (with_reducible repeat (first|apply bd_|apply bb_|apply bc_));refine cQ_ (cs:=#[.slice none 0 0]) ?_ 0 _ rfl;(with_reducible repeat (first|apply bd_|apply bb_|apply bc_));exact BK265.o) Try.underlying52 rfl (by kernel_rfl)) rfl ?_
    exact ⟨_,by first|rfl|(simp [errW_none,errW_some] <;> rfl)|(simp [*,errW_none,errW_some] <;> rfl),zS (Kd.cH_ (Kd.S_far (p:=⟨gb265,0,none⟩) (Kd.S_types HO_aa.o BK265.o (by decide)) (fun _ hk=>hk.2) (.slice Ao20 xaa_1.length co20)) (fun _ hk=>trivial)),by repeat (first|(with_reducible first|exact HB.o|apply bk_|apply be_|apply bg_|refine bl_ ?_ GE265.o|refine bl_ ?_ GE266.o)|exact HB.o)⟩

/-! ### spec_l2Identity: function 77 -/
def Faq.l0:Nat→Int→Int→List (List Int)→Option ((List (List Int)))
 | 0,_,_,_=>none
 | k+1,x10,x11,xbb=>if x11<x10 then (if 0≤x11 then (if x11<(xbb.length:Int) then (if x11<((rd_L1 xbb x11).length:Int) then (Faq.l0 k x10 (wrap64 (x11+1)) (xbb.set (x11:Int).toNat ((rd_L1 xbb x11).set (x11:Int).toNat 1))) else (none)) else (none)) else (none)) else (some xbb)
def Faq.f (k:Nat) (a0:Int):Option ((List (List Int))):=(Fab.f k a0 a0).bind fun t274=>(Faq.l0 k (t274.length:Int) 0 t274)
set_option maxHeartbeats 8000000 in
set_option maxRecDepth 100000 in
theorem Faq.calls (k:Nat) (a0:Int) (r:List (List Int)) (w:World) (h:Faq.f k a0=some r) :
  Calls Try.prog 77 #[.int .i64 a0] w fun e w'=>∃ v0_:Value,e = .returned (.agg #[v0_])∧Kd.S (Kd.slice 5 (Kd.int .u8)) 22 w' w.heap.size (fun _=>True) v0_ r∧Below w.heap.size w w':=by
 have hu52:=Try.underlying52;have HB:=am (Below.refl w.heap.size w);have H:((Fab.f k a0 a0).bind fun t274=>(Faq.l0 k (t274.length:Int) 0 t274))=some r:=h;clear h;obtain ⟨t274,A2,H⟩:=bi_ H;have H':=am H;clear H
 go_enter Try.func77,Try.ntmps77
 go_wp2_with (first|((with_reducible refine bB_ (N:=2) rfl ?_);refine bU_ ?hg (N:=2) ?hd (cs:=#[.slice none 0 0]) (t:=52) ?hr ?_;(case hd=>rfl);(case hg=>rfl);(case hr=>first|(go_simp;done)|(go_simp;rfl));intro gb273 hg w3 hbox hb;have BK273:=am (hbox);have GW273:=am ((gw_ hg HB.o:w.heap.size≤gb273));have GE273:=am ((gw_ hg HB.o:w.heap.size≤gb273));replace HB:=am (bh_ (zB HB.o) hb);clear hb hbox hg)|((with_reducible refine bf_ (f:=87) rfl ?_);refine goL_ (some 7) Try.func87 #[.int .i64 a0,.int .i64 a0] ?_;(with_reducible refine (Fab.calls k a0 a0 t274 _ A2.o).mono ?_);rintro e w4 ⟨v275,rfl,ho0,hb⟩;refine ⟨_,rfl,?_⟩;have HO276:=am (Kd.S_lower ho0 (zs_ HB.o));replace BK273:=am (bm_ (zK BK273.o) hb);replace HB:=am (bh_ (zB HB.o) hb);(try clear hb);(try clear ho0))|((with_reducible refine bB_ (N:=3) rfl ?_);refine bU_ ?hg (N:=3) ?hd (cs:=#[.slice none 0 0]) (t:=52) ?hr ?_;(case hd=>rfl);(case hg=>rfl);(case hr=>first|(go_simp;done)|(go_simp;rfl));intro gb277 hg w5 hbox hb;replace HO276:=am (Kd.cC_ (zS HO276.o) hb);have BK277:=am (hbox);have GW277:=am ((gw_ hg HB.o:w.heap.size≤gb277));have GE277:=am ((gw_ hg HB.o:w.heap.size≤gb277));replace HB:=am (bh_ (zB HB.o) hb);have NB273_277:=am ((by rw [hg];exact Nat.ne_of_lt (bw_ (zK BK273.o)):gb273≠gb277));have NB277_273:=am ((by rw [hg];exact Nat.ne_of_gt (bw_ (zK BK273.o)):gb277≠gb273));replace BK273:=am (bm_ (zK BK273.o) hb);clear hb hbox hg;obtain ⟨Ao6,co6,eo6⟩:=Kd.cP_ HO276.o;subst eo6;have hnb7:=NB277_273.o;have hnc7:=NB273_277.o;have hcz8_0:w5.cell? ⟨gb277,0,none⟩=some (.slice none 0 0):=(bo_ BK277.o 0).trans rfl;have hfz8_0:=bs_ BK277.o 0))
 go_loopg [11] k (fun kq v11 w'=>∃ (x11_1:Int) (xbb_1:List (List Int)) (ubb:Value),v11 = .int .i64 x11_1∧ba_ (Faq.l0 kq (t274.length:Int) x11_1 xbb_1=some r)∧ba_ (kq≤k)∧ba_ (Kd.S (Kd.slice 5 (Kd.int .u8)) 22 w' w.heap.size (fun _=>True) ubb xbb_1)∧ba_ (w'.heap[gb273]? = some (.cells #[(.slice none 0 0)] 52 (0,0)))∧ba_ (w'.heap[gb277]? = some (.cells #[ubb] 52 (0,0)))∧ba_ (Below w.heap.size w w'))
 case atStart=>exact ⟨(0),(t274),(.slice Ao6 t274.length co6),rf_,H',⟨Nat.le_refl _⟩,⟨zS (Kd.cH_ (Kd.S_far (p:=⟨gb277,0,none⟩) (Kd.S_types HO276.o BK277.o (by decide)) (fun _ hk=>hk.2) (.slice Ao6 t274.length co6)) (fun _ hk=>trivial))⟩,⟨by (with_reducible repeat (first|apply bd_|apply bb_|apply bc_));refine bF_ ?_ NB273_277.o _;(with_reducible repeat (first|apply bd_|apply bb_|apply bc_));exact BK273.o⟩,⟨by (with_reducible repeat (first|apply bd_|apply bb_|apply bc_));refine cQ_ (cs:=#[.slice none 0 0]) ?_ 0 _ rfl;(with_reducible repeat (first|apply bd_|apply bb_|apply bc_));exact BK277.o⟩,⟨by repeat (first|(with_reducible first|exact HB.o|apply bk_|apply be_|apply bg_|refine bl_ ?_ GE273.o|refine bl_ ?_ GE277.o)|exact HB.o)⟩⟩
 case round =>
  clear H';(try clear hfz8_0);obtain ⟨x11_1,xbb_1,ubb,rfl,HA,HK1,HO_bb,BK273,BK277,HB⟩:=hrel
  cases gk with
  | zero=>exact absurd HA.o (by simp [Faq.l0])
  | succ k1 =>
   have H:=HA.o;clear HA
   simp only [Faq.l0] at H
   by_cases c9:x11_1<(t274.length:Int)
   ·rw [if_pos c9] at H;have c9b0:=decide_eq_true c9;clear c9
    obtain ⟨c10,H⟩:=it_ H;have c10b0:=decide_eq_true c10;clear c10
    obtain ⟨c11,H⟩:=it_ H;have c11b0:=decide_eq_true c11;clear c11
    obtain ⟨c12,H⟩:=it_ H;have c12b0:=decide_eq_true c12;clear c12;obtain ⟨y279,hy279⟩:∃ y_:List Int,y_=((rd_L1 xbb_1 x11_1).set (x11_1:Int).toNat 1):=⟨_,rfl⟩
    replace H:(Faq.l0 k1 (t274.length:Int) (wrap64 (x11_1+1)) (xbb_1.set (x11_1:Int).toNat y279))=some r:=by first|(rw [hy279];exact H)|(have H2_:=(Option.bind_some _ _).symm.trans H;first|exact H2_|(rw [hy279];exact H2_))|exact H
    have Ny279:=am hy279;clear hy279;(try rw [Option.bind_some] at H);generalize hy281:(xbb_1.set (x11_1:Int).toNat y279)=y281 at H;have Ny281:=am hy281.symm;clear hy281;have H':=am H;clear H;have hnb14:=NB277_273.o;have hnc14:=NB273_277.o;have hcz15_0:wr.cell? ⟨gb277,0,none⟩=some (ubb):=(bo_ BK277.o 0).trans rfl;have hfz15_0:=bs_ BK277.o 0;obtain ⟨Ao16,co16,eo16⟩:=Kd.cP_ HO_bb.o
    subst eo16
    have p278:0≤(x11_1:Int):=od_;have q278:x11_1<(xbb_1.length:Int):=od_;obtain ⟨ad278,A278_0,c278_0,e278,hx278_0,hl278_0,hi278_0⟩:=at_L1 (Kd.cl_ HO_bb.o).2.2 x11_1 p278 q278;cases e278
    obtain ⟨ce278,hce278,hMe278,hcc278⟩:=Kd.S_get HO_bb.o [] x11_1 p278 (by first|exact q278|exact od_|(have e_:=(Kd.cl_ HO_bb.o).1;omega))
    obtain ⟨ve278_0,rfl,ge278_0⟩:=hMe278;have hv278_0:=hcc278 0 _ rfl;rw [Nat.add_zero,show ((Kd.slice 5 (Kd.int .u8))).sz=1 from rfl,Nat.mul_one] at hv278_0;replace hv278_0:=Option.some.inj (hv278_0.symm.trans hx278_0);rw [hv278_0] at ge278_0;have HL278_0:=am (show Kd.R (Kd.int .u8) 5 _ _ _ _ (rd_L1 xbb_1 x11_1) from ge278_0);clear hv278_0 ge278_0;have HX278_0:=am hx278_0;clear hcc278 hce278;have HR278_0:=am hi278_0;have HC278_0:=am hl278_0;clear hi278_0 hl278_0;replace p278:=eq_true p278;replace q278:=eq_true q278;have p13:0≤(x11_1:Int):=od_;have q13:(x11_1:Int)<(((rd_L1 xbb_1 x11_1).length:Int):Int):=od_;obtain ⟨go13,co13,eo13,gb13,gl13,cl13,HG13⟩:=Kd.R_form HL278_0.o (by omega)
    (first|cases eo13|(injection eo13 with ea_ en_ ec_;(first|subst ea_|(injection ea_ with ea_;subst ea_));subst ec_;clear en_))
    have GB13:=am gb13;have GG13:=am HG13;clear gb13 gl13 HG13;obtain ⟨hx13_0,hf13_0⟩:=Kd.R_celln 0 HL278_0.o (x11_1:Int) p13 q13;replace p13:=eq_true p13;replace q13:=eq_true q13
    have hq17:(x11_1:Int)<(xbb_1.length:Int):=(by have h_:(x11_1:Int)<((xbb_1.length:Int):Int):=od_;first|exact h_|(have e_:=(Kd.cl_ HO_bb.o).1;omega)|simpa only [List.length_set,List.length_set] using h_)
    obtain ⟨oki17,ce17,hcl17,hM17,hcc17,hok17,hbk17⟩:=Kd.S_borrow HO_bb.o [] (x11_1:Int) (od_) hq17;obtain ⟨ve17_0,rfl,ge17_0⟩:=hM17;have hv17:=hcc17 0 _ rfl;rw [Nat.add_zero,show ((Kd.slice 5 (Kd.int .u8))).sz=1 from rfl,Nat.mul_one] at hv17;replace hv17:=Option.some.inj (hv17.symm.trans HX278_0.o)
    subst hv17
    clear hcc17 hcl17;replace ge17_0:=(show Kd.R (Kd.int .u8) 5 _ _ _ _ (rd_L1 xbb_1 x11_1) from ge17_0);have HP17:=Kd.R_putg ge17_0 (x11_1:Int) 1
    go_wp2_with (first|((with_reducible refine gate_store (t:=5) (p:=20) rfl ?_);refine store_event (t:=5) (p:=20) (v:=?vo_w18) (w1:=(wr.setCell ⟨go13,(x11_1:Int).toNat,none⟩ (.int .u8 1))) ?hg ?ho ?hn ?hr ?_;(case ho=>rfl);(case hg=>rfl);(case hn=>rfl);(case hr=>first|(go_simp;done)|(go_simp;rfl));intro w18 hw;have hg:wr.grownBy w18 (some go13):=(by rw [hw];exact HP17.2);have hz_:Kd.R (Kd.int .u8) 5 w18 w.heap.size oki17 (.slice (some ⟨go13,0,none⟩) (rd_L1 xbb_1 x11_1).length c278_0) y279:=(by rw [hw,Ny279.o];exact HP17.1);have hp_:Kd.S (Kd.slice 5 (Kd.int .u8)) 22 w18 w.heap.size (fun _=>True) (.slice (some ad278) xbb_1.length co16) y281:=(by rw [Ny281.o];exact hbk17 hg (fun k_ e_=>by injection e_ with e_;subst e_;exact ge17_0.1 _ rfl) (Kd.M_row hz_));have hm_:=Kd.bq_ hz_ hok17;clear HP17 hbk17;replace HO_bb:=am (hp_);replace BK273:=am (ce_ (zK BK273.o) hg (Kd.R_ne HL278_0.o BK273.o (by decide)));replace BK277:=am (ce_ (zK BK277.o) hg (Kd.R_ne HL278_0.o BK277.o (by decide)));replace HB:=am ((by rw [hw];exact bl_ (HB.o) GB13.o:Below w.heap.size w w18));have HL282:=am (hm_);have HC280:=am ((Kd.bj_ hm_).2.1);(try clear HL278_0);clear hg hw hp_ hz_ hm_ hok17))
    go_roundg k1
    case measure=>have:=HK1.o;omega
    case rel=>exact ⟨(wrap64 (x11_1+1)),(y281),(.slice (some ad278) xbb_1.length co16),rfl,H',⟨by have:=HK1.o;omega⟩,⟨zS HO_bb.o⟩,⟨zK BK273.o⟩,⟨zK BK277.o⟩,⟨zB HB.o⟩⟩
   ·rw [if_neg c9] at H;have c9b0:=decide_eq_false c9;clear c9;obtain rfl:=Option.some.inj H;have hnb19:=NB277_273.o;have hnc19:=NB273_277.o;have hcz20_0:wr.cell? ⟨gb277,0,none⟩=some (ubb):=(bo_ BK277.o 0).trans rfl;have hfz20_0:=bs_ BK277.o 0;obtain ⟨Ao21,co21,eo21⟩:=Kd.cP_ HO_bb.o
    subst eo21
    have hcz22_0:wr.cell? ⟨gb273,0,none⟩=some (.slice none 0 0):=(bo_ BK273.o 0).trans rfl;have hfz22_0:=bs_ BK273.o 0
    go_wp2
    refine bodyPost_ret (results_cell_row rfl _ _ gb273 52 #[.slice Ao21 xbb_1.length co21] (0,0) _ rfl (by (with_reducible repeat (first|apply bd_|apply bb_|apply bc_));refine cQ_ (cs:=#[.slice none 0 0]) ?_ 0 _ rfl;(with_reducible repeat (first|apply bd_|apply bb_|apply bc_));exact BK273.o) Try.underlying52 rfl (by kernel_rfl)) rfl ?_
    exact ⟨_,by first|rfl|(simp [errW_none,errW_some] <;> rfl)|(simp [*,errW_none,errW_some] <;> rfl),zS (Kd.cH_ (Kd.S_far (p:=⟨gb273,0,none⟩) (Kd.S_types HO_bb.o BK273.o (by decide)) (fun _ hk=>hk.2) (.slice Ao21 xbb_1.length co21)) (fun _ hk=>trivial)),by repeat (first|(with_reducible first|exact HB.o|apply bk_|apply be_|apply bg_|refine bl_ ?_ GE273.o|refine bl_ ?_ GE277.o)|exact HB.o)⟩

end Go.Proofs.Ytbloniemhkfnlaa.PFnCorrected
