/- A law's functions as plain Lean functions, each with the walk that shows that the code computes it: written by this session's program wip/tools/ppmake.py. -/
import Derived.Test.YtbloniemhkfnlaaKZ
import Derived.Test.YtbloniemhkfnlaaPFnCorrectedx0
import Derived.Test.YtbloniemhkfnlaaPFnCorrectedx1
import Derived.Test.YtbloniemhkfnlaaPFnCorrectedx4
import Derived.Test.YtbloniemhkfnlaaPFnCorrectedx13
import Derived.Test.YtbloniemhkfnlaaPFnCorrectedx14
namespace Go.Proofs.Ytbloniemhkfnlaa.PFnCorrected
open Go.RowKit Go.Proofs.YtbloniemhkfnlaaW.PrintWords Go.Proofs.YtbloniemhkfnlaaW.PrintLast Go.Proofs.YtbloniemhkfnlaaW.PrintMore
attribute [local go_sem] cw_ cy_ cK_ cL_ ci_ ch_ cx_ cv_   -- for this text's walks alone
set_option linter.unusedVariables false
set_option linter.unusedSimpArgs false

/-! ### impl_inverseOf: function 79 -/
mutual
def Fo.l0:Nat→List (List Int)→Int→List (List Int)→List (List Int)→Int→Int→Option ((List (List Int)) × Bool)
 | 0,_,_,_,_,_,_=>none
 | k+1,x0,x4,x5,x15,x16,x17=>if x17<x16 then (if 0≤x17 then (if x17<(x15.length:Int) then (if x17<(x0.length:Int) then ((Faj.f (rd_L1 x0 x17)).bind fun t145=>(if t145.length+(rd_L1 x15 x17).length<140737488355328 then (if x5.length<5864062014805 then (Fo.l0 k x0 x4 (x5++[(t145++(rd_L1 x15 x17))]) x15 x16 (wrap64 (x17+1))) else (none)) else (none))) else (none)) else (none)) else (none)) else ((Fd.f k x5 x4).bind fun bt154=>(if bt154.2<x4 then (some (([]:List (List Int)),false)) else (Fo.l1 k x4 (([]:List (List Int))) bt154.1 (bt154.1.length:Int) 0)))
def Fo.l1:Nat→Int→List (List Int)→List (List Int)→Int→Int→Option ((List (List Int)) × Bool)
 | 0,_,_,_,_,_=>none
 | k+1,x4,x8,x39,x40,x41=>if x41<x40 then (if 0≤x41 then (if x41<(x39.length:Int) then (if 0≤x4 then (if x4≤((rd_L1 x39 x41).length:Int) then ((Faj.f ((rd_L1 x39 x41).drop (x4:Int).toNat)).bind fun t167=>(if x8.length<5864062014805 then (Fo.l1 k x4 (x8++[t167]) x39 x40 (wrap64 (x41+1))) else (none))) else (none)) else (none)) else (none)) else (none)) else (some (x8,true))
end
def Fo.f (k:Nat) (l0:List (List Int)):Option ((List (List Int)) × Bool):=(Fan.f k (l0.length:Int)).bind fun t140=>(Fo.l0 k l0 (l0.length:Int) (([]:List (List Int))) t140 (t140.length:Int) 0)
set_option maxHeartbeats 8000000 in
set_option maxRecDepth 100000 in
theorem Fo.calls0 (k:Nat) (A0:Option Addr) (c0:Nat) (l0:List (List Int)) (r1:List (List Int)) (r2:Bool) (w:World) (hr0:Kd.C (Kd.slice 5 (Kd.int .u8)) w A0 l0.length l0) (hc0:l0.length≤c0) (h:Fo.f k l0=some (r1,r2)) :
  Calls Try.prog 79 #[.slice A0 l0.length c0] w fun e w'=>∃ v0_:Value,e = .returned (.tuple #[v0_,.bool r2])∧Kd.N (Kd.slice 5 (Kd.int .u8)) 22 w' w.heap.size (fun k_=>(w.heap.size≤k_)) v0_ r1∧Below w.heap.size w w':=by
 have HR0:=am hr0;have HC0:=am hc0;clear hr0 hc0;have HB:=am (Below.refl w.heap.size w);have H:((Fan.f k (l0.length:Int)).bind fun t140=>(Fo.l0 k l0 (l0.length:Int) (([]:List (List Int))) t140 (t140.length:Int) 0))=some (r1,r2):=h;clear h;obtain ⟨y137,hy137⟩:∃ y_:List (List Int),y_=(([]:List (List Int))):=⟨_,rfl⟩
 replace H:((Fan.f k (l0.length:Int)).bind fun t140=>(Fo.l0 k l0 (l0.length:Int) y137 t140 (t140.length:Int) 0))=some (r1,r2):=by first|(rw [hy137];exact H)|(have H2_:=(Option.bind_some _ _).symm.trans H;first|exact H2_|(rw [hy137];exact H2_))|exact H
 have Ny137:=am hy137;clear hy137;obtain ⟨t140,A2,H⟩:=bi_ H;have H':=am H;clear H
 go_enter Try.func79,Try.ntmps79
 go_wp2_with (first|((with_reducible refine bB_ (N:=13) rfl ?_);refine Kd.N_lit (Kd.slice 5 (Kd.int .u8)) _ 22 ?hg (N':=13) ?hd (xs:=([]:List (List Int))) (inner:=[]) (ok:=(fun k_=>(w.heap.size≤k_))) (okp:=(fun k_=>(w.heap.size≤k_))) ?hr ?hp (fun _ hk=>hk) ((show ∀ k_,w.heap.size≤k_→(fun k_=>(w.heap.size≤k_)) k_ from fun k_ hk=>(Nat.le_trans (zs_ HB.o) hk)) _ (Nat.le_refl _)) (Below.refl _ _) (Nat.le_refl _) (by simp) ?_;(case hd=>rfl);(case hg=>rfl);(case hr=>first|(go_simp;done)|(go_simp;rfl));(case hp=>exact (Reps.none _ _));intro v138 w3 ho4 hb hg_ hnew_;clear hg_ hnew_;(first|rw [← Ny137.o] at ho4|(simp only [Int.reduceToNat] at ho4;rw [← Ny137.o] at ho4));have HO139:=am (Kd.N_lower ho4 (zs_ HB.o));replace HB:=am (bh_ (zB HB.o) hb);clear hb ho4)|((with_reducible refine bf_ (f:=88) rfl ?_);refine goL_ (some 15) Try.func88 #[.int .i64 (l0.length:Int)] ?_;(with_reducible refine (Fan.calls k (l0.length:Int) t140 _ A2.o).mono ?_);rintro e w5 ⟨v141,rfl,ho0,hb⟩;refine ⟨_,rfl,?_⟩;have HO142:=am (Kd.N_lower (Kd.bR_ (ok':=fun k_=>(w.heap.size≤k_)∧some k_≠(v138:Value).ownBlock) (Kd.S_N (Kd.S_bound ho0)) (fun k_ hk_=>⟨(Nat.le_trans (zs_ HB.o) hk_.2.1),(Kd.fresh' (Kd.N_lt (zN HO139.o)) k_ hk_.2.1)⟩)) (zs_ HB.o));replace HO139:=am (Kd.cz_ (zN HO139.o) (Kd.S_base ho0) hb);replace HB:=am (bh_ (zB HB.o) hb);(try clear hb);(try clear ho0);obtain ⟨Ao6,co6,eo6⟩:=Kd.cR_ HO142.o;subst eo6))
 go_loopg [5,17] k (fun kq v5 v17 w'=>∃ (x5_1:List (List Int)) (x17_1:Int),v17 = .int .i64 x17_1∧ba_ (Fo.l0 kq l0 (l0.length:Int) x5_1 t140 (t140.length:Int) x17_1=some (r1,r2))∧ba_ (kq≤k)∧ba_ (Kd.N (Kd.slice 5 (Kd.int .u8)) 22 w' w.heap.size (fun k_=>(w.heap.size≤k_)∧some k_≠((.slice Ao6 t140.length co6):Value).ownBlock) v5 x5_1)∧ba_ (Kd.N (Kd.slice 5 (Kd.int .u8)) 22 w' w.heap.size (fun k_=>(w.heap.size≤k_)∧some k_≠(v5:Value).ownBlock) (.slice Ao6 t140.length co6) t140)∧ba_ (Below w.heap.size w w'))
 case atStart=>exact ⟨(y137),(0),rfl,H',⟨Nat.le_refl _⟩,⟨zN HO139.o⟩,⟨zN HO142.o⟩,⟨zB HB.o⟩⟩
 case round =>
  clear H';obtain ⟨x5_1,x17_1,rfl,HA,HK1,HO_5,HO_15,HB⟩:=hrel
  cases gk with
  | zero=>exact absurd HA.o (by simp [Fo.l0])
  | succ k1 =>
   have H:=HA.o;clear HA
   simp only [Fo.l0] at H
   by_cases c7:x17_1<(t140.length:Int)
   ·rw [if_pos c7] at H;have c7b0:=decide_eq_true c7;clear c7
    obtain ⟨c8,H⟩:=it_ H;have c8b0:=decide_eq_true c8;clear c8
    obtain ⟨c9,H⟩:=it_ H;have c9b0:=decide_eq_true c9;clear c9
    obtain ⟨c10,H⟩:=it_ H;have c10b0:=decide_eq_true c10;clear c10;obtain ⟨t145,A11,H⟩:=bi_ H
    obtain ⟨c12,H⟩:=it_ H;have LMc12:=am c12;clear c12;obtain ⟨y148,hy148⟩:∃ y_:List Int,y_=(t145++(rd_L1 t140 x17_1)):=⟨_,rfl⟩
    replace H:(if x5_1.length<5864062014805 then (Fo.l0 k1 l0 (l0.length:Int) (x5_1++[y148]) t140 (t140.length:Int) (wrap64 (x17_1+1))) else (none))=some (r1,r2):=by first|(rw [hy148];exact H)|(have H2_:=(Option.bind_some _ _).symm.trans H;first|exact H2_|(rw [hy148];exact H2_))|exact H
    have Ny148:=am hy148;clear hy148
    obtain ⟨c13,H⟩:=it_ H;have LMc13:=am c13;clear c13;obtain ⟨y151,hy151⟩:∃ y_:List (List Int),y_=(x5_1++[y148]):=⟨_,rfl⟩
    replace H:(Fo.l0 k1 l0 (l0.length:Int) y151 t140 (t140.length:Int) (wrap64 (x17_1+1)))=some (r1,r2):=by first|(rw [hy151];exact H)|(have H2_:=(Option.bind_some _ _).symm.trans H;first|exact H2_|(rw [hy151];exact H2_))|exact H
    have Ny151:=am hy151;clear hy151;have H':=am H;clear H;have p143:0≤(x17_1:Int):=od_;have q143:x17_1<(t140.length:Int):=od_;obtain ⟨ad143,A143_0,c143_0,e143,hx143_0,hl143_0,hi143_0⟩:=at_L1 (Kd.bu_ HO_15.o).2.2 x17_1 p143 q143;cases e143
    obtain ⟨ce143,hce143,hMe143,hcc143⟩:=Kd.N_get HO_15.o [] x17_1 p143 (by first|exact q143|exact od_|(have e_:=(Kd.bu_ HO_15.o).1;omega))
    obtain ⟨ua143_0,uc143_0,rfl,ul143_0,ge143_0⟩:=Kd.br_ hMe143;have hv143_0:=hcc143 0 _ rfl;rw [Nat.add_zero,show ((Kd.slice 5 (Kd.int .u8))).sz=1 from rfl,Nat.mul_one] at hv143_0;replace hv143_0:=Option.some.inj (hv143_0.symm.trans hx143_0)
    injection hv143_0 with hva_ hvn_ hvc_
    rw [hva_] at ge143_0;rw [hvc_] at ul143_0;have HL143_0:=am (show Kd.V (Kd.int .u8) 5 _ w.heap.size _ _ (rd_L1 t140 x17_1) from Kd.V_mk ul143_0 ge143_0);clear hva_ hvn_ hvc_ ge143_0 ul143_0;clear hcc143 hce143;have HR143_0:=am hi143_0;have HC143_0:=am hl143_0;clear hi143_0 hl143_0;replace p143:=eq_true p143;replace q143:=eq_true q143;have p144:0≤(x17_1:Int):=od_;have q144:x17_1<(l0.length:Int):=od_;obtain ⟨ad144,A144_0,c144_0,e144,hx144_0,hl144_0,hi144_0⟩:=at_L1 HR0.o x17_1 p144 q144;cases e144;replace hx144_0:=(HB.o.cell (World.block_lt_of_cell? w _ hx144_0)).trans hx144_0;have HR144_0:=am hi144_0;have HC144_0:=am hl144_0;clear hi144_0 hl144_0;replace p144:=eq_true p144;replace q144:=eq_true q144
    go_wp2_with (first|((with_reducible refine bf_ (f:=49) rfl ?_);refine goesL_ (some 27) rfl rfl Try.func49 (by kernel_rfl) rfl #[.slice A144_0 (rd_L1 l0 x17_1).length c144_0] rfl (by (try simp only [List.map_toArray,List.map_cons,List.map_nil]);first|done|rfl|(simp only [List.length_drop,List.length_take];rfl)) ?_;(with_reducible refine (Faj.calls _ _ (rd_L1 l0 x17_1) t145 _ ?side1 ?side2 A11.o).mono ?_);(case side1=>repeat (first|exact (Kd.bH_ HR144_0.o HB.o)|(with_reducible refine Kd.cJ_ ?_ _)|(with_reducible refine Kd.cI_ ?_ _)|(with_reducible refine Kd.cW_ ?_)));(case side2=>exact HC144_0.o);rintro e w14 ⟨v146,rfl,ho0,hb⟩;refine ⟨_,rfl,?_⟩;have n0_:=ba_.mk (Kd.cz_ (by (with_reducible repeat (first|apply Kd.cE_|apply Kd.cA_|apply Kd.cn_));exact HO_5.o) (Kd.bt_ ho0) hb);have n1_:=ba_.mk (Kd.cz_ (by (with_reducible repeat (first|apply Kd.cE_|apply Kd.cA_|apply Kd.cn_));exact HO_15.o) (Kd.bt_ ho0) hb);have n2_:=ba_.mk (Kd.bT_ (by (with_reducible repeat (first|apply Kd.V_alloc|apply Kd.V_drewN|apply Kd.dg_));exact HL143_0.o) (Kd.bt_ ho0) hb);have n3_:=ba_.mk (Kd.bx_ (Kd.R_newM (M:=fun k_=>(w.heap.size≤k_)) ho0 (bN_ (by repeat (first|(with_reducible first|exact HB.o|apply bk_|apply be_|apply bg_)|exact HB.o))) (fun k_ h_=>h_)) (bN_ (by repeat (first|(with_reducible first|exact HB.o|apply bk_|apply be_|apply bg_)|exact HB.o))));have n4_:=ba_.mk (Kd.bH_ (by repeat (first|(with_reducible exact HR143_0.o)|(with_reducible refine Kd.cJ_ ?_ _)|(with_reducible refine Kd.cI_ ?_ _)|(with_reducible refine Kd.cW_ ?_)|exact HR143_0.o)) hb);have n5_:=ba_.mk (bh_ (by repeat (first|(with_reducible first|exact HB.o|apply bk_|apply be_|apply bg_)|exact HB.o)) hb);clear HO_5;clear HO_15;clear HL143_0;clear HR143_0;clear HB;have HO_5:=n0_;have HO_15:=n1_;have HL143_0:=n2_;have HO147:=n3_;have HR143_0:=n4_;have HB:=n5_;clear n0_ n1_ n2_ n3_ n4_ n5_;(try clear hb);(try clear hb2);(try clear hk);(try clear hi);(try clear ho0))|((with_reducible refine bE_ (b:=.append) (xs:=#[.tmp 27,.tmp 28]) rfl ?_);at_builtin;refine Kd.cm_ (Kd.int .u8) (w0:=w) w.heap.size rfl (.tmp 27) (.tmp 28) 22 5 (.int .u8 0) 1 rfl Try.underlying22 info5 rfl (by decide) (by omega) v146 t145 (rd_L1 t140 x17_1) _ _ _ (fun k_=>(w.heap.size≤k_)) (fun _=>False) rfl rfl ?aO ?aR (fun _ _ h=>h) (fun _ h=>h.elim) ?aF ?aB ?aS ?aL ?_;(case aR=>repeat (first|exact (by repeat (first|(with_reducible exact HR143_0.o)|(with_reducible refine Kd.cJ_ ?_ _)|(with_reducible refine Kd.cI_ ?_ _)|(with_reducible refine Kd.cW_ ?_)|exact HR143_0.o))|(with_reducible refine Kd.cJ_ ?_ _)|(with_reducible refine Kd.cI_ ?_ _)|(with_reducible refine Kd.cW_ ?_)));(case aB=>exact (by repeat (first|(with_reducible first|exact HB.o|apply bk_|apply be_|apply bg_)|exact HB.o)));(case aF=>exact (fun k_ hk=>(Nat.le_trans (bN_ (by repeat (first|(with_reducible first|exact HB.o|apply bk_|apply be_|apply bg_)|exact HB.o))) hk)));(case aO=>exact (by (with_reducible repeat (first|apply Kd.bW_|apply Kd.bV_|apply Kd.bP_));exact Kd.bq_ HO147.o (fun _ hk=>hk.1)));(case aS=>exact (bN_ (by repeat (first|(with_reducible first|exact HB.o|apply bk_|apply be_|apply bg_)|exact HB.o))));(case aL=>have:=LMc12.o;omega);intro v149 w15 ho hb hg hat;rw [← Ny148.o] at ho;have n0_:=ba_.mk (Kd.N_afterv (ok:=(fun k_=>(w.heap.size≤k_)∧some k_≠(.slice (some ad143) t140.length co6:Value).ownBlock)) (by (with_reducible repeat (first|apply Kd.cE_|apply Kd.cA_|apply Kd.cn_));exact HO_5.o) hg hat);have n1_:=ba_.mk (Kd.N_afterv (ok:=(fun k_=>(w.heap.size≤k_)∧some k_≠(u5:Value).ownBlock)) (by (with_reducible repeat (first|apply Kd.cE_|apply Kd.cA_|apply Kd.cn_));exact HO_15.o) hg hat);have n2_:=ba_.mk (Kd.V_afterv (ok:=(fun k_=>(w.heap.size≤k_)∧some k_≠(u5:Value).ownBlock∧some k_≠(.slice (some ad143) t140.length co6:Value).ownBlock)) (by (with_reducible repeat (first|apply Kd.V_alloc|apply Kd.V_drewN|apply Kd.dg_));exact Kd.bJ_ HL143_0.o (fun _ hk=>⟨⟨hk.1.1.1,⟨hk.1.1.2,hk.1.2⟩⟩,hk.2⟩)) hg hat);have n3_:=ba_.mk (hb);have n4_:=ba_.mk (ho);clear HO_5;clear HO_15;clear HL143_0;clear HB;clear HO147;have HO_5:=n0_;have HO_15:=n1_;have HL143_0:=n2_;have HB:=n3_;have HO150:=n4_;clear n0_ n1_ n2_ n3_ n4_;clear ho hb hg hat;obtain ⟨Ao17,co17,eo17⟩:=Kd.bv_ HO150.o;subst eo17)|((with_reducible refine bE_ (b:=.append) (xs:=#[.tmp 22,.tmp 30]) rfl ?_);at_builtin;refine Kd.N_append (Kd.slice 5 (Kd.int .u8)) (w0:=w) w.heap.size rfl (.tmp 22) (.tmp 30) 50 22 (.slice none 0 0) 24 rfl Try.underlying50 info22 rfl (by decide) (by omega) u5 x5_1 y148 [.slice Ao17 y148.length co17] (fun k_=>(w.heap.size≤k_)∧some k_≠(.slice (some ad143) t140.length co6:Value).ownBlock) (fun k_=>((fun k_=>(w.heap.size≤k_)∧some k_≠(.slice (some ad143) t140.length co6:Value).ownBlock)) k_∧some k_≠(u5:Value).ownBlock) rfl rfl ?aP (fun _ hk=>hk) ?aF ?aO ?aB ?aS ?aL ?_;(case aP=>exact (Kd.FK_of_M (Kd.M_row (Kd.bq_ (ok':=(fun k_=>((fun k_=>(w.heap.size≤k_)∧some k_≠(.slice (some ad143) t140.length co6:Value).ownBlock)) k_∧some k_≠(u5:Value).ownBlock)) (Kd.cj_ (Kd.cj_ (HO150.o) (Kd.dv_ HO_15.o) (by decide)) (Kd.dv_ HO_5.o) (by decide)) (fun k_ hk=>⟨⟨hk.1.1,hk.1.2⟩,hk.2⟩)))));(case aB=>exact (by repeat (first|(with_reducible first|exact HB.o|apply bk_|apply be_|apply bg_)|exact HB.o)));(case aF=>exact (fun k_ hk=>⟨(Nat.le_trans (bN_ (by repeat (first|(with_reducible first|exact HB.o|apply bk_|apply be_|apply bg_)|exact HB.o))) hk),Kd.fresh' (Kd.N_lt (by (with_reducible repeat (first|apply Kd.cE_|apply Kd.cA_|apply Kd.cn_));exact HO_15.o)) k_ hk⟩));(case aO=>exact (by (with_reducible repeat (first|apply Kd.cE_|apply Kd.cA_|apply Kd.cn_));exact Kd.bR_ HO_5.o (fun _ hk=>⟨hk.1.1,hk.1.2⟩)));(case aS=>exact (bN_ (by repeat (first|(with_reducible first|exact HB.o|apply bk_|apply be_|apply bg_)|exact HB.o))));(case aL=>have:=LMc13.o;omega);intro v152 w16 ho hb hg hat;rw [← Ny151.o] at ho;have n0_:=ba_.mk (Kd.N_afterv (ok:=(fun k_=>(w.heap.size≤k_)∧some k_≠(.slice Ao17 y148.length co17:Value).ownBlock)) (by (with_reducible repeat (first|apply Kd.cE_|apply Kd.cA_|apply Kd.cn_));exact Kd.bR_ HO_15.o (fun _ hk=>⟨⟨hk.1.1,hk.2⟩,hk.1.2⟩)) hg hat);have n1_:=ba_.mk (Kd.V_afterv (ok:=(fun k_=>(w.heap.size≤k_)∧some k_≠(.slice (some ad143) t140.length co6:Value).ownBlock∧some k_≠(.slice Ao17 y148.length co17:Value).ownBlock)) (by (with_reducible repeat (first|apply Kd.V_alloc|apply Kd.V_drewN|apply Kd.dg_));exact Kd.bJ_ HL143_0.o (fun _ hk=>⟨⟨hk.1.1,⟨hk.1.2.2,hk.2⟩⟩,hk.1.2.1⟩)) hg hat);have n2_:=ba_.mk (hb);have n3_:=ba_.mk (ho);clear HO_15;clear HL143_0;clear HB;clear HO_5;clear HO150;have HO_15:=n0_;have HL143_0:=n1_;have HB:=n2_;have HO153:=n3_;clear n0_ n1_ n2_ n3_;clear ho hb hg hat))
    go_roundg k1
    case measure=>have:=HK1.o;omega
    case rel=>exact ⟨(y151),(wrap64 (x17_1+1)),rfl,H',⟨by have:=HK1.o;omega⟩,⟨zN HO153.o⟩,⟨zN (Kd.bR_ HO_15.o (fun _ hk=>⟨hk.1.1,hk.2⟩))⟩,⟨zB HB.o⟩⟩
   ·rw [if_neg c7] at H;have c7b0:=decide_eq_false c7;clear c7;obtain ⟨⟨t154,t155⟩,A18,H⟩:=bi_ H;dsimp only at H
    by_cases c19:t155<(l0.length:Int)
    ·rw [if_pos c19] at H;have c19b0:=decide_eq_true c19;clear c19
     simp only [Option.some.injEq,Prod.mk.injEq] at H
     obtain ⟨rfl,rfl⟩:=H;obtain ⟨Ao20,co20,eo20⟩:=Kd.cR_ HO_5.o
     subst eo20
     go_wp2_with (first|((with_reducible refine bf_ (f:=89) rfl ?_);refine goL_ (some 35) Try.func89 #[.slice Ao20 x5_1.length co20,.int .i64 (l0.length:Int)] ?_;(with_reducible refine (Fd.calls k1 (.slice Ao20 x5_1.length co20) x5_1 (l0.length:Int) t155 t154 w _ ?sB ?sN A18.o).mono ?_);(case sB=>exact (zB HB.o));(case sN=>exact Kd.bR_ HO_5.o (fun _ _=>trivial));rintro e w21 ⟨rfl,ho0,hb⟩;refine ⟨_,rfl,?_⟩;have n2_:=am hb;clear HO_5 HO_15 HB;have HB:=n2_;clear n2_ hb ho0))
     go_ret2
     exact ⟨_,rfl,by first|exact Kd.S_nil _ _ _ _ _|exact Kd.N_nil _ _ _ _ _|exact Kd.V_nil _ _ _ _ _|exact Kd.Q_nil _ _ _ _ _|exact Kd.di_ _ _ _ _ _,zB HB.o⟩
    ·rw [if_neg c19] at H;have c19b0:=decide_eq_false c19;clear c19;obtain ⟨y158,hy158⟩:∃ y_:List (List Int),y_=(([]:List (List Int))):=⟨_,rfl⟩
     replace H:(Fo.l1 k1 (l0.length:Int) y158 t154 (t154.length:Int) 0)=some (r1,r2):=by first|(rw [hy158];exact H)|(have H2_:=(Option.bind_some _ _).symm.trans H;first|exact H2_|(rw [hy158];exact H2_))|exact H
     have Ny158:=am hy158;clear hy158;have H':=am H;clear H;obtain ⟨Ao22,co22,eo22⟩:=Kd.cR_ HO_5.o
     subst eo22
     go_wp2_with (first|((with_reducible refine bf_ (f:=89) rfl ?_);refine goL_ (some 35) Try.func89 #[.slice Ao22 x5_1.length co22,.int .i64 (l0.length:Int)] ?_;(with_reducible refine (Fd.calls k1 (.slice Ao22 x5_1.length co22) x5_1 (l0.length:Int) t155 t154 w _ ?sB ?sN A18.o).mono ?_);(case sB=>exact (zB HB.o));(case sN=>exact Kd.bR_ HO_5.o (fun _ _=>trivial));rintro e w23 ⟨rfl,ho0,hb⟩;refine ⟨_,rfl,?_⟩;have hln_:=(Kd.bu_ ho0).1;rw [hln_] at ho0 ⊢;have n1_:=am (Kd.bR_ ho0 (fun k_ _=>Nat.zero_le k_):Kd.N _ _ _ _ (fun k_=>0≤k_) _ _);have n2_:=am hb;clear HO_5 HO_15 HB;have HO157:=n1_;have HB:=n2_;clear n1_ n2_ hb ho0)|((with_reducible refine bB_ (N:=38) rfl ?_);refine Kd.N_lit (Kd.slice 5 (Kd.int .u8)) _ 22 ?hg (N':=38) ?hd (xs:=([]:List (List Int))) (inner:=[]) (ok:=(fun k_=>(w.heap.size≤k_)∧some k_≠(.slice Ao22 t154.length co22:Value).ownBlock)) (okp:=(fun k_=>(w.heap.size≤k_)∧some k_≠(.slice Ao22 t154.length co22:Value).ownBlock)) ?hr ?hp (fun _ hk=>hk) ((show ∀ k_,w23.heap.size≤k_→(fun k_=>(w.heap.size≤k_)∧some k_≠(.slice Ao22 t154.length co22:Value).ownBlock) k_ from fun k_ hk=>⟨(Nat.le_trans (zs_ HB.o) hk),Kd.fresh' (Kd.N_lt HO157.o) k_ hk⟩) _ (Nat.le_refl _)) (Below.refl _ _) (Nat.le_refl _) (by simp) ?_;(case hd=>rfl);(case hg=>rfl);(case hr=>first|(go_simp;done)|(go_simp;rfl));(case hp=>exact (Reps.none _ _));intro v159 w24 ho25 hb hg_ hnew_;clear hg_ hnew_;(first|rw [← Ny158.o] at ho25|(simp only [Int.reduceToNat] at ho25;rw [← Ny158.o] at ho25));have n2_:=am (Kd.cz_ HO157.o (Kd.N_base ho25) hb);have n3_:=am (Kd.N_lower ho25 (zs_ HB.o));have n4_:=am (bh_ (zB HB.o) hb);clear HO157;clear HB;have HO157:=n2_;have HO160:=n3_;have HB:=n4_;clear n2_ n3_ n4_;clear hb ho25))
     go_loopg [8,41] k1 (fun kq v8 v41 w'=>∃ (x8_2:List (List Int)) (x41_2:Int),v41 = .int .i64 x41_2∧ba_ (Fo.l1 kq (l0.length:Int) x8_2 t154 (t154.length:Int) x41_2=some (r1,r2))∧ba_ (kq≤k1)∧ba_ (Kd.N (Kd.slice 5 (Kd.int .u8)) 22 w' w.heap.size (fun k_=>(w.heap.size≤k_)∧some k_≠((.slice Ao22 t154.length co22):Value).ownBlock) v8 x8_2)∧ba_ (Kd.N (Kd.slice 5 (Kd.int .u8)) 22 w' w.heap.size (fun k_=>(0≤k_)∧some k_≠(v8:Value).ownBlock) (.slice Ao22 t154.length co22) t154)∧ba_ (Below w.heap.size w w'))
     case atStart=>exact ⟨(y158),(0),rfl,H',⟨Nat.le_refl _⟩,⟨zN (Kd.bR_ HO160.o (fun _ hk=>⟨hk.1,hk.2⟩))⟩,⟨zN (Kd.bR_ HO157.o (fun _ hk=>⟨hk.1,hk.2⟩))⟩,⟨zB HB.o⟩⟩
     case round =>
      clear H';obtain ⟨x8_2,x41_2,rfl,HA,HK2,HO_8,HO_39,HB⟩:=hrel
      cases gk with
      | zero=>exact absurd HA.o (by simp [Fo.l1])
      | succ k2 =>
       have H:=HA.o;clear HA
       simp only [Fo.l1] at H
       by_cases c27:x41_2<(t154.length:Int)
       ·rw [if_pos c27] at H;have c27b0:=decide_eq_true c27;clear c27
        obtain ⟨c28,H⟩:=it_ H;have c28b0:=decide_eq_true c28;clear c28
        obtain ⟨c29,H⟩:=it_ H;have c29b0:=decide_eq_true c29;clear c29
        obtain ⟨c30,H⟩:=it_ H;have c30b0:=eq_true c30;have c30b1:=decide_eq_true c30;clear c30
        obtain ⟨c31,H⟩:=it_ H;have c31b0:=eq_true c31;have c31b1:=decide_eq_true c31;clear c31;obtain ⟨y162,hy162⟩:∃ y_:List Int,y_=((rd_L1 t154 x41_2).drop ((l0.length:Int):Int).toNat):=⟨_,rfl⟩
        replace H:((Faj.f y162).bind fun t167=>(if x8_2.length<5864062014805 then (Fo.l1 k2 (l0.length:Int) (x8_2++[t167]) t154 (t154.length:Int) (wrap64 (x41_2+1))) else (none)))=some (r1,r2):=by first|(rw [hy162];exact H)|(have H2_:=(Option.bind_some _ _).symm.trans H;first|exact H2_|(rw [hy162];exact H2_))|exact H
        have Ny162:=am hy162;clear hy162;obtain ⟨t167,A32,H⟩:=bi_ H
        obtain ⟨c33,H⟩:=it_ H;have LMc33:=am c33;clear c33;obtain ⟨y170,hy170⟩:∃ y_:List (List Int),y_=(x8_2++[t167]):=⟨_,rfl⟩
        replace H:(Fo.l1 k2 (l0.length:Int) y170 t154 (t154.length:Int) (wrap64 (x41_2+1)))=some (r1,r2):=by first|(rw [hy170];exact H)|(have H2_:=(Option.bind_some _ _).symm.trans H;first|exact H2_|(rw [hy170];exact H2_))|exact H
        have Ny170:=am hy170;clear hy170;have H':=am H;clear H;have p161:0≤(x41_2:Int):=od_;have q161:x41_2<(t154.length:Int):=od_;obtain ⟨ad161,A161_0,c161_0,e161,hx161_0,hl161_0,hi161_0⟩:=at_L1 (Kd.bu_ HO_39.o).2.2 x41_2 p161 q161;cases e161
        obtain ⟨ce161,hce161,hMe161,hcc161⟩:=Kd.N_get HO_39.o [] x41_2 p161 (by first|exact q161|exact od_|(have e_:=(Kd.bu_ HO_39.o).1;omega))
        obtain ⟨ua161_0,uc161_0,rfl,ul161_0,ge161_0⟩:=Kd.br_ hMe161;have hv161_0:=hcc161 0 _ rfl;rw [Nat.add_zero,show ((Kd.slice 5 (Kd.int .u8))).sz=1 from rfl,Nat.mul_one] at hv161_0;replace hv161_0:=Option.some.inj (hv161_0.symm.trans hx161_0)
        injection hv161_0 with hva_ hvn_ hvc_
        rw [hva_] at ge161_0;rw [hvc_] at ul161_0;have HL161_0:=am (show Kd.V (Kd.int .u8) 5 _ w.heap.size _ _ (rd_L1 t154 x41_2) from Kd.V_mk ul161_0 ge161_0);clear hva_ hvn_ hvc_ ge161_0 ul161_0;clear hcc161 hce161;have HR161_0:=am hi161_0;have HC161_0:=am hl161_0;clear hi161_0 hl161_0;replace p161:=eq_true p161;replace q161:=eq_true q161;have q34:((l0.length:Int):Int)≤(((rd_L1 t154 x41_2).length:Int):Int):=od_;obtain ⟨i034,hi034,_,hsz34,_⟩:=info_parts info5;have hroom34:(rd_L1 t154 x41_2).length≤c161_0:=HC161_0.o;have hC34:Kd.F (Kd.int .u8) _ _ A161_0 (rd_L1 t154 x41_2).length (rd_L1 t154 x41_2):=(Kd.V_at (base:=w.heap.size) HL161_0.o).2.2;have q034:(0:Int)≤((l0.length:Int):Int):=od_;have hcut34:=cut_from (P:=Try.prog) 22 5 .i64 Try.underlying22 hi034 1 hsz34 A161_0 (rd_L1 t154 x41_2).length c161_0 (l0.length:Int) q034 q34;have hr34:=Kd.F_cut (m:=((l0.length:Int):Int).toNat) (c:=c161_0) hC34 (by omega) hroom34;obtain ⟨A34,hA34⟩:∃ A1,A1=(if c161_0=((l0.length:Int):Int).toNat then A161_0 else (A161_0:Option Addr).map (·.add (((l0.length:Int):Int).toNat * 1))):=⟨_,rfl⟩;obtain ⟨c34,hc34⟩:∃ c1,c1=c161_0 - ((l0.length:Int):Int).toNat:=⟨_,rfl⟩;have hy34:y162.length=(rd_L1 t154 x41_2).length - ((l0.length:Int):Int).toNat:=(by rw [Ny162.o,List.length_drop] <;> omega);rw [show (rd_L1 t154 x41_2).drop ((l0.length:Int):Int).toNat=y162 from Ny162.o.symm] at hr34
        replace hr34:Kd.F (Kd.int .u8) _ _ A34 y162.length y162:=(by rw [hA34];exact hr34)
        rw [← hy34,← hA34,← hc34] at hcut34
        have HO166:=am (show Kd.V (Kd.int .u8) 5 _ w.heap.size _ (.slice A34 y162.length c34) y162 from Kd.V_mk (by rw [hy34,hc34];exact Nat.sub_le_sub_right hroom34 _) hr34)
        have HC166:=am (show y162.length≤c34 from by rw [hy34,hc34];exact Nat.sub_le_sub_right hroom34 _)
        clear hr34 hC34 hroom34 hi034 hsz34 hc34;have KY34:=am hy34;have KA34:=am hA34;clear hy34 hA34;replace q34:=eq_true q34
        go_wp2_with (first|((with_reducible refine bf_ (f:=49) rfl ?_);refine goL_ (some 49) Try.func49 #[.slice A34 y162.length c34] ?_;(with_reducible refine (Faj.calls _ _ y162 t167 _ ?side1 ?side2 A32.o).mono ?_);(case side1=>exact zC ((Kd.df_ HO166.o).2.2));(case side2=>exact (Kd.df_ HO166.o).2.1);rintro e w35 ⟨v168,rfl,ho0,hb⟩;refine ⟨_,rfl,?_⟩;replace HO_8:=am (Kd.cz_ (zN HO_8.o) (Kd.bt_ ho0) hb);replace HO_39:=am (Kd.cz_ (zN HO_39.o) (Kd.bt_ ho0) hb);replace HL161_0:=am (Kd.bT_ (zV HL161_0.o) (Kd.bt_ ho0) hb);replace HO166:=am (Kd.bT_ (zV HO166.o) (Kd.bt_ ho0) hb);have HO169:=am (Kd.bx_ (Kd.R_newM (M:=fun k_=>(w.heap.size≤k_)) ho0 (zs_ HB.o) (fun k_ h_=>h_)) (zs_ HB.o));replace HR161_0:=am (Kd.bH_ (zC HR161_0.o) hb);replace HB:=am (bh_ (zB HB.o) hb);(try clear hb);(try clear ho0);obtain ⟨Ao37,co37,eo37⟩:=Kd.bv_ HO169.o;subst eo37)|((with_reducible refine bE_ (b:=.append) (xs:=#[.tmp 45,.tmp 50]) rfl ?_);at_builtin;refine Kd.N_append (Kd.slice 5 (Kd.int .u8)) (w0:=w) w.heap.size rfl (.tmp 45) (.tmp 50) 50 22 (.slice none 0 0) 24 rfl Try.underlying50 info22 rfl (by decide) (by omega) u8 x8_2 t167 [.slice Ao37 t167.length co37] (fun k_=>(w.heap.size≤k_)∧some k_≠(.slice (some ad161) t154.length co22:Value).ownBlock) (fun k_=>((fun k_=>(w.heap.size≤k_)∧some k_≠(.slice (some ad161) t154.length co22:Value).ownBlock)) k_∧some k_≠(u8:Value).ownBlock) rfl rfl ?aP (fun _ hk=>hk) ?aF ?aO ?aB ?aS ?aL ?_;(case aP=>exact (Kd.FK_of_M (Kd.M_row (Kd.bq_ (ok':=(fun k_=>((fun k_=>(w.heap.size≤k_)∧some k_≠(.slice (some ad161) t154.length co22:Value).ownBlock)) k_∧some k_≠(u8:Value).ownBlock)) (Kd.cj_ (Kd.cj_ (HO169.o) (Kd.dv_ HO_39.o) (by decide)) (Kd.dv_ HO_8.o) (by decide)) (fun k_ hk=>⟨⟨hk.1.1.1,hk.1.2⟩,hk.2⟩)))));(case aB=>exact (zB HB.o));(case aF=>exact (fun k_ hk=>⟨(Nat.le_trans (zs_ HB.o) hk),Kd.fresh' (Kd.N_lt (zN HO_39.o)) k_ hk⟩));(case aO=>exact (zN (Kd.bR_ HO_8.o (fun _ hk=>⟨hk.1.1,hk.1.2⟩))));(case aS=>exact (zs_ HB.o));(case aL=>have:=LMc33.o;omega);intro v171 w36 ho hb hg hat;rw [← Ny170.o] at ho;replace HO_39:=am (Kd.N_afterv (ok:=(fun k_=>(0≤k_)∧some k_≠(.slice Ao37 t167.length co37:Value).ownBlock)) (zN (Kd.bR_ HO_39.o (fun _ hk=>⟨⟨hk.1.1,hk.2⟩,hk.1.2⟩))) hg hat);replace HL161_0:=am (Kd.V_afterv (ok:=(fun k_=>(0≤k_)∧some k_≠(.slice (some ad161) t154.length co22:Value).ownBlock∧some k_≠(.slice Ao37 t167.length co37:Value).ownBlock)) (zV (Kd.bJ_ HL161_0.o (fun _ hk=>⟨⟨hk.1.1.1,⟨hk.1.2,hk.2⟩⟩,hk.1.1.2⟩))) hg hat);replace HO166:=am (Kd.V_afterv (ok:=(fun k_=>(0≤k_)∧some k_≠(.slice (some ad161) t154.length co22:Value).ownBlock∧some k_≠(.slice Ao37 t167.length co37:Value).ownBlock)) (zV (Kd.bJ_ HO166.o (fun _ hk=>⟨⟨hk.1.1.1,⟨hk.1.2,hk.2⟩⟩,hk.1.1.2⟩))) hg hat);replace HB:=am (hb);have HO172:=am (ho);(try clear HO_8);(try clear HO169);clear ho hb hg hat))
        go_roundg k2
        case measure=>have:=HK1.o;have:=HK2.o;omega
        case rel=>exact ⟨(y170),(wrap64 (x41_2+1)),rfl,H',⟨by have:=HK1.o;have:=HK2.o;omega⟩,⟨zN HO172.o⟩,⟨zN (Kd.bR_ HO_39.o (fun _ hk=>⟨hk.1.1,hk.2⟩))⟩,⟨zB HB.o⟩⟩
       ·rw [if_neg c27] at H;have c27b0:=decide_eq_false c27;clear c27
        simp only [Option.some.injEq,Prod.mk.injEq] at H
        obtain ⟨rfl,rfl⟩:=H
        go_wp2
        go_ret2
        exact ⟨_,rfl,zN (Kd.bR_ HO_8.o (fun _ hk=>hk.1)),zB HB.o⟩
theorem Fo.calls (k:Nat) (A0:Option Addr) (c0:Nat) (l0:List (List Int)) (r1:List (List Int)) (r2:Bool) (w:World) (hr0:Kd.C (Kd.slice 5 (Kd.int .u8)) w A0 l0.length l0) (hc0:l0.length≤c0) (h:Fo.f k l0=some (r1,r2)) :
  Calls Try.prog 79 #[.slice A0 l0.length c0] w fun e w'=>∃ v0_:Value,e = .returned (.tuple #[v0_,.bool r2])∧Kd.V (Kd.slice 5 (Kd.int .u8)) 22 w' w.heap.size (fun k_=>(w.heap.size≤k_)) v0_ r1∧Below w.heap.size w w':=by
 refine (Fo.calls0 k A0 c0 l0 r1 r2 w hr0 hc0 h).mono ?_
 rintro e w' ⟨v0_,he,h0,hb⟩
 exact ⟨v0_,he,Kd.N_V h0,hb⟩

/-! ### impl_dot: function 80 -/
def Fba.l0:Nat→List Int→Int→List Int→Int→Int→Option (Int)
 | 0,_,_,_,_,_=>none
 | k+1,x1,x5,x8,x9,x10=>if x10<x9 then (if 0≤x10 then (if x10<(x8.length:Int) then (if x10<(x1.length:Int) then ((Fg.f k (rd x8 x10) (rd x1 x10)).bind fun t411=>(Fba.l0 k x1 (Go.bits .xor .u8 x5 t411) x8 x9 (wrap64 (x10+1)))) else (none)) else (none)) else (none)) else (some x5)
def Fba.f (k:Nat) (l0:List Int) (l1:List Int):Option (Int):=Fba.l0 k l1 0 l0 (l0.length:Int) 0
set_option maxHeartbeats 8000000 in
set_option maxRecDepth 100000 in
theorem Fba.calls (k:Nat) (A0:Option Addr) (c0:Nat) (l0:List Int) (A1:Option Addr) (c1:Nat) (l1:List Int) (r:Int) (w:World) (hr0:Kd.C (Kd.int .u8) w A0 l0.length l0) (hc0:l0.length≤c0) (hr1:Kd.C (Kd.int .u8) w A1 l1.length l1) (hc1:l1.length≤c1) (h:Fba.f k l0 l1=some r) :
  Calls Try.prog 80 #[.slice A0 l0.length c0,.slice A1 l1.length c1] w fun e w'=>e = .returned (.int .u8 r)∧bp_ w w':=by
 have HR0:=am hr0;have HC0:=am hc0;clear hr0 hc0;have HR1:=am hr1;have HC1:=am hc1;clear hr1 hc1;have H:(Fba.l0 k l1 0 l0 (l0.length:Int) 0)=some r:=h;clear h;have H':=am H;clear H
 go_enter Try.func80,Try.ntmps80
 go_wp2
 go_loopg [5,10] k (fun kq v5 v10 w'=>∃ (x5_1:Int) (x10_1:Int),v5 = .int .u8 x5_1∧v10 = .int .i64 x10_1∧ba_ (Fba.l0 kq l1 x5_1 l0 (l0.length:Int) x10_1=some r)∧ba_ (kq≤k)∧bp_ w w')
 case atStart=>exact ⟨(0),(0),rfl,rfl,H',⟨Nat.le_refl _⟩,by repeat (first|exact bp_.refl _|apply bp_.step)⟩
 case round =>
  clear H';obtain ⟨x5_1,x10_1,rfl,rfl,HA,HK1,⟨m1,rfl⟩⟩:=hrel
  cases gk with
  | zero=>exact absurd HA.o (by simp [Fba.l0])
  | succ k1 =>
   have H:=HA.o;clear HA
   simp only [Fba.l0] at H
   by_cases c3:x10_1<(l0.length:Int)
   ·rw [if_pos c3] at H;have c3b0:=decide_eq_true c3;clear c3
    obtain ⟨c4,H⟩:=it_ H;have c4b0:=decide_eq_true c4;clear c4
    obtain ⟨c5,H⟩:=it_ H;have c5b0:=decide_eq_true c5;clear c5
    obtain ⟨c6,H⟩:=it_ H;have c6b0:=decide_eq_true c6;clear c6;obtain ⟨t411,A7,H⟩:=bi_ H;have H':=am H;clear H;have p409:0≤(x10_1:Int):=od_;have q409:x10_1<(l0.length:Int):=od_;obtain ⟨ad409,e409,hx409_0⟩:=Kd.bK_ HR0.o x10_1 p409 q409;cases e409;replace p409:=eq_true p409;replace q409:=eq_true q409;have p410:0≤(x10_1:Int):=od_;have q410:x10_1<(l1.length:Int):=od_;obtain ⟨ad410,e410,hx410_0⟩:=Kd.bK_ HR1.o x10_1 p410 q410;cases e410;replace p410:=eq_true p410;replace q410:=eq_true q410
    go_wp2_with (first|((with_reducible refine bf_ (f:=48) rfl ?_);refine goL_ (some 21) Try.func48 #[.int .u8 (rd l0 x10_1),.int .u8 (rd l1 x10_1)] ?_;(with_reducible refine (Fg.calls k1 (rd l0 x10_1) (rd l1 x10_1) t411 _ A7.o).mono ?_);rintro e w' ⟨rfl,⟨nd,rfl⟩⟩;refine ⟨_,rfl,?_⟩))
    go_roundg k1
    case measure=>have:=HK1.o;omega
    case rel=>exact ⟨(Go.bits .xor .u8 x5_1 t411),(wrap64 (x10_1+1)),rfl,rfl,H',⟨by have:=HK1.o;omega⟩,by repeat (first|exact bp_.refl _|apply bp_.step)⟩
   ·rw [if_neg c3] at H;have c3b0:=decide_eq_false c3;clear c3;obtain rfl:=Option.some.inj H
    go_wp2
    go_ret
    exact ⟨by first|rfl|(simp;done)|(simp [*];done),by repeat (first|exact bp_.refl _|apply bp_.step)⟩

/-! ### impl_solve: function 62 -/
def Fag.l0:Nat→List Int→List Int→List (List Int)→Int→Int→Option (List Int × Bool)
 | 0,_,_,_,_,_=>none
 | k+1,x1,x8,x19,x20,x21=>if x21<x20 then (if 0≤x21 then (if x21<(x19.length:Int) then ((Fba.f k (rd_L1 x19 x21) x1).bind fun t420=>(if x8.length<140737488355328 then (Fag.l0 k x1 (x8++[t420]) x19 x20 (wrap64 (x21+1))) else (none))) else (none)) else (none)) else (some (x8,true))
def Fag.f (k:Nat) (l0:List (List Int)) (l1:List Int):Option (List Int × Bool):=(Fo.f k l0).bind fun bt412=>(if bt412.2=true then (Fag.l0 k l1 (([]:List Int)) bt412.1 (bt412.1.length:Int) 0) else (some (([]:List Int),false)))
set_option maxHeartbeats 8000000 in
set_option maxRecDepth 100000 in
theorem Fag.calls (k:Nat) (A0:Option Addr) (c0:Nat) (l0:List (List Int)) (A1:Option Addr) (c1:Nat) (l1:List Int) (r1:List Int) (r2:Bool) (w:World) (hr0:Kd.C (Kd.slice 5 (Kd.int .u8)) w A0 l0.length l0) (hc0:l0.length≤c0) (hr1:Kd.C (Kd.int .u8) w A1 l1.length l1) (hc1:l1.length≤c1) (h:Fag.f k l0 l1=some (r1,r2)) :
  Calls Try.prog 62 #[.slice A0 l0.length c0,.slice A1 l1.length c1] w fun e w'=>∃ v0_:Value,e = .returned (.tuple #[v0_,.bool r2])∧Kd.R (Kd.int .u8) 5 w' w.heap.size (fun _=>True) v0_ r1∧Below w.heap.size w w':=by
 have HR0:=am hr0;have HC0:=am hc0;clear hr0 hc0;have HR1:=am hr1;have HC1:=am hc1;clear hr1 hc1;have HB:=am (Below.refl w.heap.size w);have H:((Fo.f k l0).bind fun bt412=>(if bt412.2=true then (Fag.l0 k l1 (([]:List Int)) bt412.1 (bt412.1.length:Int) 0) else (some (([]:List Int),false))))=some (r1,r2):=h;clear h;obtain ⟨⟨t412,t413⟩,A3,H⟩:=bi_ H;dsimp only at H
 by_cases c4:t413=true
 ·subst c4
  have H1:(Fag.l0 k l1 (([]:List Int)) t412 (t412.length:Int) 0)=some (r1,r2):=by rw [if_pos rfl] at H;exact H
  clear H;have H:=H1;clear H1;obtain ⟨y416,hy416⟩:∃ y_:List Int,y_=(([]:List Int)):=⟨_,rfl⟩
  replace H:(Fag.l0 k l1 y416 t412 (t412.length:Int) 0)=some (r1,r2):=by first|(rw [hy416];exact H)|(have H2_:=(Option.bind_some _ _).symm.trans H;first|exact H2_|(rw [hy416];exact H2_))|exact H
  have Ny416:=am hy416;clear hy416;have H':=am H;clear H
  go_enter Try.func62,Try.ntmps62
  go_wp2_with (first|((with_reducible refine bf_ (f:=79) rfl ?_);refine goL_ (some 13) Try.func79 #[.slice A0 l0.length c0] ?_;(with_reducible refine (Fo.calls k _ _ l0 t412 true _ ?side1 ?side2 A3.o).mono ?_);(case side1=>exact zC HR0.o);(case side2=>exact HC0.o);rintro e w5 ⟨v414,rfl,ho0,hb⟩;refine ⟨_,rfl,?_⟩;have HO415:=am (Kd.dw_ (Kd.bJ_ (ok':=fun k_=>True) (Kd.dx_ ho0) (fun k_ hk0_=>have hk_:=And.intro trivial hk0_;trivial)) (zs_ HB.o));replace HB:=am (bh_ (zB HB.o) hb);(try clear hb);(try clear ho0))|((with_reducible refine bB_ (N:=18) rfl ?_);refine Kd.R_lit (Kd.int .u8) _ 5 ?hg (N:=18) ?hd (xs:=([]:List Int)) (inner:=[]) (ok:=fun _=>True) (okp:=fun _=>True) ?hr ?hp (fun _ hk=>hk) trivial (Below.refl _ _) (Nat.le_refl _) (by simp) ?_;(case hd=>rfl);(case hg=>rfl);(case hr=>first|(go_simp;done)|(go_simp;rfl));(case hp=>exact (Reps.none _ _));intro v417 w6 ho7 hb hg_ hnew_;clear hg_ hnew_;(first|rw [← Ny416.o] at ho7|(simp only [Int.reduceToNat] at ho7;rw [← Ny416.o] at ho7));replace HO415:=am (Kd.bT_ (zV HO415.o) (Kd.bt_ ho7) hb);have HO418:=am (Kd.bx_ ho7 (zs_ HB.o));replace HB:=am (bh_ (zB HB.o) hb);clear hb ho7;obtain ⟨Ao8,co8,eo8⟩:=Kd.V_slice HO415.o;subst eo8))
  go_loopg [8,21] k (fun kq v8 v21 w'=>∃ (x8_1:List Int) (x21_1:Int),v21 = .int .i64 x21_1∧ba_ (Fag.l0 kq l1 x8_1 t412 (t412.length:Int) x21_1=some (r1,r2))∧ba_ (kq≤k)∧ba_ (Kd.R (Kd.int .u8) 5 w' w.heap.size (fun _=>True) v8 x8_1)∧ba_ (Kd.V (Kd.slice 5 (Kd.int .u8)) 22 w' w.heap.size (fun k_=>some k_≠(v8:Value).ownBlock) (.slice Ao8 t412.length co8) t412)∧ba_ (Below w.heap.size w w'))
  case atStart=>exact ⟨(y416),(0),rfl,H',⟨Nat.le_refl _⟩,⟨zR HO418.o⟩,⟨zV (Kd.bJ_ HO415.o (fun _ hk=>hk.2))⟩,⟨zB HB.o⟩⟩
  case round =>
   clear H';obtain ⟨x8_1,x21_1,rfl,HA,HK1,HO_8,HO_19,HB⟩:=hrel
   cases gk with
   | zero=>exact absurd HA.o (by simp [Fag.l0])
   | succ k1 =>
    have H:=HA.o;clear HA
    simp only [Fag.l0] at H
    by_cases c9:x21_1<(t412.length:Int)
    ·rw [if_pos c9] at H;have c9b0:=decide_eq_true c9;clear c9
     obtain ⟨c10,H⟩:=it_ H;have c10b0:=decide_eq_true c10;clear c10
     obtain ⟨c11,H⟩:=it_ H;have c11b0:=decide_eq_true c11;clear c11;obtain ⟨t420,A12,H⟩:=bi_ H
     obtain ⟨c13,H⟩:=it_ H;have LMc13:=am c13;clear c13;obtain ⟨y421,hy421⟩:∃ y_:List Int,y_=(x8_1++[t420]):=⟨_,rfl⟩
     replace H:(Fag.l0 k1 l1 y421 t412 (t412.length:Int) (wrap64 (x21_1+1)))=some (r1,r2):=by first|(rw [hy421];exact H)|(have H2_:=(Option.bind_some _ _).symm.trans H;first|exact H2_|(rw [hy421];exact H2_))|exact H
     have Ny421:=am hy421;clear hy421;have H':=am H;clear H;have p419:0≤(x21_1:Int):=od_;have q419:x21_1<(t412.length:Int):=od_;obtain ⟨ad419,A419_0,c419_0,e419,hx419_0,hl419_0,hi419_0⟩:=at_L1 (Kd.df_ HO_19.o).2.2 x21_1 p419 q419;cases e419
     obtain ⟨ce419,hce419,hMe419,hcc419⟩:=Kd.V_get HO_19.o [] x21_1 p419 (by first|exact q419|exact od_|(have e_:=(Kd.df_ HO_19.o).1;omega))
     obtain ⟨ua419_0,uc419_0,rfl,ul419_0,ge419_0⟩:=Kd.br_ hMe419;have hv419_0:=hcc419 0 _ rfl;rw [Nat.add_zero,show ((Kd.slice 5 (Kd.int .u8))).sz=1 from rfl,Nat.mul_one] at hv419_0;replace hv419_0:=Option.some.inj (hv419_0.symm.trans hx419_0)
     injection hv419_0 with hva_ hvn_ hvc_
     rw [hva_] at ge419_0;rw [hvc_] at ul419_0;have HL419_0:=am (show Kd.V (Kd.int .u8) 5 _ w.heap.size _ _ (rd_L1 t412 x21_1) from Kd.V_mk ul419_0 ge419_0);clear hva_ hvn_ hvc_ ge419_0 ul419_0;clear hcc419 hce419;have HR419_0:=am hi419_0;have HC419_0:=am hl419_0;clear hi419_0 hl419_0;replace p419:=eq_true p419;replace q419:=eq_true q419
     go_wp2_with (first|((with_reducible refine bf_ (f:=80) rfl ?_);refine goesL_ (some 28) rfl rfl Try.func80 (by kernel_rfl) rfl #[.slice A419_0 (rd_L1 t412 x21_1).length c419_0,.slice A1 l1.length c1] rfl (by (try simp only [List.map_toArray,List.map_cons,List.map_nil]);first|done|rfl|(simp only [List.length_drop,List.length_take];rfl)) ?_;(with_reducible refine (Fba.calls k1 _ _ (rd_L1 t412 x21_1) _ _ l1 t420 _ ?side1 ?side2 ?side3 ?side4 A12.o).mono ?_);(case side1=>repeat (first|exact (by repeat (first|(with_reducible exact HR419_0.o)|(with_reducible refine Kd.cJ_ ?_ _)|(with_reducible refine Kd.cI_ ?_ _)|(with_reducible refine Kd.cW_ ?_)|exact HR419_0.o))|(with_reducible refine Kd.cJ_ ?_ _)|(with_reducible refine Kd.cI_ ?_ _)|(with_reducible refine Kd.cW_ ?_)));(case side2=>exact HC419_0.o);(case side3=>repeat (first|exact (Kd.bH_ HR1.o HB.o)|(with_reducible refine Kd.cJ_ ?_ _)|(with_reducible refine Kd.cI_ ?_ _)|(with_reducible refine Kd.cW_ ?_)));(case side4=>exact HC1.o);rintro e w' ⟨rfl,⟨nd,rfl⟩⟩;refine ⟨_,rfl,?_⟩)|((with_reducible refine bE_ (b:=.append) (xs:=#[.tmp 25,.tmp 29]) rfl ?_);at_builtin;refine Kd.cY_ (Kd.int .u8) (w0:=w) w.heap.size rfl (.tmp 25) (.tmp 29) 22 5 (.int .u8 0) 1 rfl Try.underlying22 info5 rfl (by decide) (by omega) u8 x8_1 t420 [.int .u8 t420] (fun _=>True) (fun _=>False) rfl rfl ?aP (fun _ hk=>hk.elim) ?aF ?aO ?aB ?aS ?aL ?_;(case aP=>exact rfl);(case aB=>exact (by repeat (first|(with_reducible first|exact HB.o|apply bk_|apply be_|apply bg_)|exact HB.o)));(case aF=>exact (fun _ _=>trivial));(case aO=>exact (by (with_reducible repeat (first|apply Kd.bW_|apply Kd.bV_|apply Kd.bP_));exact HO_8.o));(case aS=>exact (bN_ (by repeat (first|(with_reducible first|exact HB.o|apply bk_|apply be_|apply bg_)|exact HB.o))));(case aL=>have:=LMc13.o;omega);intro v422 w14 ho hb hg hat;rw [← Ny421.o] at ho;have n0_:=ba_.mk (Kd.V_afterv (ok:=(fun _=>True)) (by (with_reducible repeat (first|apply Kd.V_alloc|apply Kd.V_drewN|apply Kd.dg_));exact Kd.bJ_ HO_19.o (fun _ hk=>⟨trivial,hk⟩)) hg hat);have n1_:=ba_.mk (Kd.V_afterv (ok:=(fun _=>True)) (by (with_reducible repeat (first|apply Kd.V_alloc|apply Kd.V_drewN|apply Kd.dg_));exact Kd.bJ_ HL419_0.o (fun _ hk=>⟨trivial,hk⟩)) hg hat);have n2_:=ba_.mk (hb);have n3_:=ba_.mk (ho);clear HO_19;clear HL419_0;clear HB;clear HO_8;have HO_19:=n0_;have HL419_0:=n1_;have HB:=n2_;have HO423:=n3_;clear n0_ n1_ n2_ n3_;clear ho hb hg hat))
     go_roundg k1
     case measure=>have:=HK1.o;omega
     case rel=>exact ⟨(y421),(wrap64 (x21_1+1)),rfl,H',⟨by have:=HK1.o;omega⟩,⟨zR HO423.o⟩,⟨zV (Kd.bJ_ HO_19.o (fun _ hk=>hk.2))⟩,⟨zB HB.o⟩⟩
    ·rw [if_neg c9] at H;have c9b0:=decide_eq_false c9;clear c9
     simp only [Option.some.injEq,Prod.mk.injEq] at H
     obtain ⟨rfl,rfl⟩:=H
     go_wp2
     go_ret2
     exact ⟨_,rfl,zR HO_8.o,zB HB.o⟩
 ·replace c4:=Bool.eq_false_iff.mpr c4
  subst c4
  have H1:(some (([]:List Int),false))=some (r1,r2):=by rw [if_neg (show ¬ (false=true) by decide)] at H;exact H
  clear H;have H:=H1;clear H1
  simp only [Option.some.injEq,Prod.mk.injEq] at H
  obtain ⟨rfl,rfl⟩:=H
  go_enter Try.func62,Try.ntmps62
  go_wp2_with (first|((with_reducible refine bf_ (f:=79) rfl ?_);refine goL_ (some 13) Try.func79 #[.slice A0 l0.length c0] ?_;(with_reducible refine (Fo.calls k _ _ l0 t412 false _ ?side1 ?side2 A3.o).mono ?_);(case side1=>exact zC HR0.o);(case side2=>exact HC0.o);rintro e w15 ⟨v414,rfl,ho0,hb⟩;refine ⟨_,rfl,?_⟩;have HO415:=am (Kd.dw_ (Kd.bJ_ (ok':=fun k_=>True) (Kd.dx_ ho0) (fun k_ hk0_=>have hk_:=And.intro trivial hk0_;trivial)) (zs_ HB.o));replace HB:=am (bh_ (zB HB.o) hb);(try clear hb);(try clear ho0)))
  go_ret2
  exact ⟨_,rfl,by first|apply Kd.di_|apply Kd.N_nil|apply Kd.V_nil|apply Kd.Q_nil|apply Kd.S_nil,zB HB.o⟩

end Go.Proofs.Ytbloniemhkfnlaa.PFnCorrected
