/- A law's functions as plain Lean functions, each with the walk that shows that the code computes it: written by this session's program wip/tools/ppmake.py. -/
import Derived.Test.YtbloniemhkfnlaaKZ
import Derived.Test.YtbloniemhkfnlaaPFnCorrectedx0
import Derived.Test.YtbloniemhkfnlaaPFnCorrectedx2
import Derived.Test.YtbloniemhkfnlaaPFnCorrectedx3
namespace Go.Proofs.Ytbloniemhkfnlaa.PFnCorrected
open Go.RowKit Go.Proofs.YtbloniemhkfnlaaW.PrintWords Go.Proofs.YtbloniemhkfnlaaW.PrintLast Go.Proofs.YtbloniemhkfnlaaW.PrintMore
attribute [local go_sem] cw_ cy_ cK_ cL_ ci_ ch_ cx_ cv_   -- for this text's walks alone
set_option linter.unusedVariables false
set_option linter.unusedSimpArgs false

/-! ### spec_l8Left: function 46 -/
mutual
def Fm.l0:Nat→List Int→List Int→Int→Option (List Int)
 | 0,_,_,_=>none
 | k+1,x1,x5,x6=>if x6 ≥ (wrap64 ((x1.length:Int) - 1)) then (if 0≤x6 then (if x6<(x5.length:Int) then (Fm.l1 k x1 x5 x6 (rd x5 x6) x1 (x1.length:Int) 0) else (none)) else (none)) else (if 0≤(wrap64 ((x1.length:Int) - 1)) then (if (wrap64 ((x1.length:Int) - 1))≤(x5.length:Int) then (some (x5.take ((wrap64 ((x1.length:Int) - 1)):Int).toNat)) else (none)) else (none))
def Fm.l1:Nat→List Int→List Int→Int→Int→List Int→Int→Int→Option (List Int)
 | 0,_,_,_,_,_,_,_=>none
 | k+1,x1,x5,x6,x7,x27,x28,x29=>if x29<x28 then (if 0≤x29 then (if x29<(x27.length:Int) then (if 0≤(wrap64 ((wrap64 ((wrap64 (x6 - (x1.length:Int)))+1))+x29)) then (if (wrap64 ((wrap64 ((wrap64 (x6 - (x1.length:Int)))+1))+x29))<(x5.length:Int) then ((Fi.f k x7 (rd x27 x29)).bind fun t175=>(Fm.l1 k x1 (x5.set ((wrap64 ((wrap64 ((wrap64 (x6 - (x1.length:Int)))+1))+x29)):Int).toNat (Go.bits .xor .u8 (rd x5 (wrap64 ((wrap64 ((wrap64 (x6 - (x1.length:Int)))+1))+x29))) t175)) x6 x7 x27 x28 (wrap64 (x29+1)))) else (none)) else (none)) else (none)) else (none)) else (Fm.l0 k x1 x5 (wrap64 (x6 - 1)))
end
def Fm.f (k:Nat) (l0:List Int) (l1:List Int):Option (List Int):=(some (([]:List Int):List Int)).bind fun y163=>(if y163.length+l0.length<140737488355328 then ((some (y163++l0:List Int)).bind fun y166=>(Fm.l0 k l1 y166 (wrap64 ((y166.length:Int) - 1)))) else (none))
def Fm.T9:Bool × List (List Nat × List Nat):=(true,[([],[]),([],[]),([],[]),([2],[2]),([1,3],[1,3]),([4],[4]),([],[]),([5,6],[5,6]),([0,7],[0,7]),([8],[8]),([],[]),([],[]),([10,11],[10,11]),([9,12],[9,12]),([0,7,0,1,2,3,4,5,6,7,8,9,10,11,12,13],[0,7]),([14,13,12,0,1,2,3,4,5,6,7,8,9,10,11,12,13],[13,14])])
def Fm.B9:List Nat:=[0,0,0,4,14,30,0,126,255,511,0,0,3072,8191,16383,32767]
theorem Fm.tab9:rtab .any (opsOf Try.f46 9)=Fm.T9:=by kernel_rfl
theorem Fm.bits9:waitsOk Fm.T9.2 Fm.B9=true:=by kernel_rfl
set_option maxHeartbeats 8000000 in
set_option maxRecDepth 100000 in
theorem Fm.calls (k:Nat) (A0:Option Addr) (c0:Nat) (l0:List Int) (A1:Option Addr) (c1:Nat) (l1:List Int) (r:List Int) (w:World) (hr0:Kd.C (Kd.int .u8) w A0 l0.length l0) (hc0:l0.length≤c0) (hr1:Kd.C (Kd.int .u8) w A1 l1.length l1) (hc1:l1.length≤c1) (h:Fm.f k l0 l1=some r) :
  Calls Try.prog 46 #[.slice A0 l0.length c0,.slice A1 l1.length c1] w fun e w'=>∃ v0_:Value,e = .returned (v0_)∧Kd.R (Kd.int .u8) 5 w' w.heap.size (fun _=>True) v0_ r∧Below w.heap.size w w':=by
 have HR0:=am hr0;have HC0:=am hc0;clear hr0 hc0;have HR1:=am hr1;have HC1:=am hc1;clear hr1 hc1;have HB:=am (Below.refl w.heap.size w);have H:((some (([]:List Int):List Int)).bind fun y163=>(if y163.length+l0.length<140737488355328 then ((some (y163++l0:List Int)).bind fun y166=>(Fm.l0 k l1 y166 (wrap64 ((y166.length:Int) - 1)))) else (none)))=some r:=h;clear h;obtain ⟨y163,hy163⟩:∃ y_:List Int,y_=(([]:List Int)):=⟨_,rfl⟩
 replace H:(if y163.length+l0.length<140737488355328 then ((some (y163++l0:List Int)).bind fun y166=>(Fm.l0 k l1 y166 (wrap64 ((y166.length:Int) - 1)))) else (none))=some r:=by first|(rw [hy163];exact H)|(have H2_:=(Option.bind_some _ _).symm.trans H;first|exact H2_|(rw [hy163];exact H2_))|exact H
 have Ny163:=am hy163;clear hy163
 obtain ⟨c3,H⟩:=it_ H;have LMc3:=am c3;clear c3;obtain ⟨y166,hy166⟩:∃ y_:List Int,y_=(y163++l0):=⟨_,rfl⟩
 replace H:(Fm.l0 k l1 y166 (wrap64 ((y166.length:Int) - 1)))=some r:=by first|(rw [hy166];exact H)|(have H2_:=(Option.bind_some _ _).symm.trans H;first|exact H2_|(rw [hy166];exact H2_))|exact H
 have Ny166:=am hy166;clear hy166;have H':=am H;clear H
 go_enter Try.func46,Try.ntmps46
 go_wp2_with (first|((with_reducible refine bB_ (N:=10) rfl ?_);refine Kd.R_lit (Kd.int .u8) _ 5 ?hg (N:=10) ?hd (xs:=([]:List Int)) (inner:=[]) (ok:=fun _=>True) (okp:=fun _=>True) ?hr ?hp (fun _ hk=>hk) trivial (Below.refl _ _) (Nat.le_refl _) (by simp) ?_;(case hd=>rfl);(case hg=>rfl);(case hr=>first|(go_simp;done)|(go_simp;rfl));(case hp=>exact (Reps.none _ _));intro v164 w4 ho5 hb hg_ hnew_;clear hg_ hnew_;(first|rw [← Ny163.o] at ho5|(simp only [Int.reduceToNat] at ho5;rw [← Ny163.o] at ho5));have HO165:=am (Kd.bx_ ho5 (zs_ HB.o));replace HB:=am (bh_ (zB HB.o) hb);clear hb ho5)|((with_reducible refine bE_ (b:=.append) (xs:=#[.tmp 10,.tmp 11]) rfl ?_);at_builtin;refine Kd.cm_ (Kd.int .u8) (w0:=w) w.heap.size rfl (.tmp 10) (.tmp 11) 22 5 (.int .u8 0) 1 rfl Try.underlying22 info5 rfl (by decide) (by omega) v164 y163 l0 _ _ _ (fun _=>True) (fun _=>False) rfl rfl ?aO ?aR (fun _ _ h=>h) (fun _ h=>h.elim) ?aF ?aB ?aS ?aL ?_;(case aR=>exact zC (Kd.bH_ HR0.o HB.o));(case aB=>exact (zB HB.o));(case aF=>exact (fun _ _=>trivial));(case aO=>exact (zR HO165.o));(case aS=>exact (zs_ HB.o));(case aL=>have:=LMc3.o;omega);intro v167 w6 ho hb hg hat;rw [← Ny166.o] at ho;replace HB:=am (hb);have HO168:=am (ho);(try clear HO165);clear ho hb hg hat;obtain ⟨Ao7,co7,eo7⟩:=Kd.bv_ HO168.o;subst eo7))
 go_loopg [6] k (fun kq v6 w'=>∃ (x5_1:List Int) (x6_1:Int),v6 = .int .i64 x6_1∧ba_ (Fm.l0 kq l1 x5_1 x6_1=some r)∧ba_ (kq≤k)∧ba_ (Kd.R (Kd.int .u8) 5 w' w.heap.size (fun _=>True) (.slice Ao7 y166.length co7) x5_1)∧ba_ (Below w.heap.size w w'))
 case atStart=>exact ⟨(y166),(wrap64 ((y166.length:Int) - 1)),rfl,H',⟨Nat.le_refl _⟩,⟨zR HO168.o⟩,⟨zB HB.o⟩⟩
 case round =>
  clear H';obtain ⟨x5_1,x6_1,rfl,HA,HK1,HO_5,HB⟩:=hrel;have hl5_1:=(Kd.bj_ HO_5.o).1;rw [hl5_1] at HO_5
  (try simp only [hl5_1])
  cases gk with
  | zero=>exact absurd HA.o (by simp [Fm.l0])
  | succ k1 =>
   have H:=HA.o;clear HA
   simp only [Fm.l0] at H
   by_cases c8:x6_1 ≥ (wrap64 ((l1.length:Int) - 1))
   ·rw [if_pos c8] at H;have c8b0:decide ((wrap64 ((l1.length:Int) - 1))≤x6_1)=true:=decide_eq_true c8
    try simp only [hl5_1] at c8b0
    clear c8
    obtain ⟨c9,H⟩:=it_ H;have c9b0:=decide_eq_true c9;clear c9
    obtain ⟨c10,H⟩:=it_ H;have c10b0:=decide_eq_true c10
    try simp only [hl5_1] at c10b0
    clear c10;have H':=am H;clear H;have p172:0≤(x6_1:Int):=od_;have q172:x6_1<(x5_1.length:Int):=od_;obtain ⟨ad172,e172,hx172_0⟩:=Kd.bK_ (Kd.bj_ HO_5.o).2.2 x6_1 p172 q172;cases e172;replace p172:=eq_true p172;replace q172:=eq_true q172
    go_wp2
    go_loopg [29] k1 (fun kq v29 w'=>∃ (x5_2:List Int) (x29_2:Int),v29 = .int .i64 x29_2∧ba_ (Fm.l1 kq l1 x5_2 x6_1 (rd x5_1 x6_1) l1 (l1.length:Int) x29_2=some r)∧ba_ (kq≤k1)∧ba_ (Kd.R (Kd.int .u8) 5 w' w.heap.size (fun _=>True) (.slice (some ad172) x5_1.length co7) x5_2)∧ba_ (Below w.heap.size w w'))
    case atStart=>exact ⟨(x5_1),(0),rfl,H',⟨Nat.le_refl _⟩,⟨by (try simp only [hl5_1]);(with_reducible repeat (first|apply Kd.bW_|apply Kd.bV_|apply Kd.bP_));exact HO_5.o⟩,⟨zB HB.o⟩⟩
    case round =>
     clear H';obtain ⟨x5_2,x29_2,rfl,HA,HK2,HO_5,HB⟩:=hrel;have hl5_2:=(Kd.bj_ HO_5.o).1;rw [hl5_2] at HO_5
     (try simp only [hl5_2])
     cases gk with
     | zero=>exact absurd HA.o (by simp [Fm.l1])
     | succ k2 =>
      have H:=HA.o;clear HA
      simp only [Fm.l1] at H
      by_cases c11:x29_2<(l1.length:Int)
      ·rw [if_pos c11] at H;have c11b0:=decide_eq_true c11
       try simp only [hl5_1] at c11b0
       try simp only [hl5_2] at c11b0
       clear c11
       obtain ⟨c12,H⟩:=it_ H;have c12b0:=decide_eq_true c12;clear c12
       obtain ⟨c13,H⟩:=it_ H;have c13b0:=decide_eq_true c13
       try simp only [hl5_1] at c13b0
       try simp only [hl5_2] at c13b0
       clear c13;obtain ⟨ji14,hji14⟩:∃ j_:Int,(wrap64 ((wrap64 ((wrap64 (x6_1 - (l1.length:Int)))+1))+x29_2))=j_:=⟨_,rfl⟩
       replace H:(if 0≤(ji14) then (if (ji14)<(x5_2.length:Int) then ((Fi.f k2 (rd x5_1 x6_1) (rd l1 x29_2)).bind fun t175=>(Fm.l1 k2 l1 (x5_2.set ((ji14):Int).toNat (Go.bits .xor .u8 (rd x5_2 (ji14)) t175)) x6_1 (rd x5_1 x6_1) l1 (l1.length:Int) (wrap64 (x29_2+1)))) else (none)) else (none))=some r:=by first|(rw [hji14] at H;exact H)|(simp only [hji14] at H ⊢;exact H)
       have hji14w:(IntKind.i64.wrap ((wrap64 ((wrap64 (x6_1 - (l1.length:Int)))+1))+x29_2))=ji14:=(bI_ _).trans hji14
       obtain ⟨c15,H⟩:=it_ H;have c15b0:=decide_eq_true c15;clear c15
       obtain ⟨c16,H⟩:=it_ H;have c16b0:=decide_eq_true c16
       try simp only [hl5_1] at c16b0
       try simp only [hl5_2] at c16b0
       clear c16;obtain ⟨t175,A17,H⟩:=bi_ H;(try rw [Option.bind_some] at H);generalize hy176:(x5_2.set ((ji14):Int).toNat (Go.bits .xor .u8 (rd x5_2 (ji14)) t175))=y176 at H;have Ny176:=am hy176.symm;clear hy176;have H':=am H;clear H;have p173:0≤(x29_2:Int):=od_;have q173:x29_2<(l1.length:Int):=od_;obtain ⟨ad173,e173,hx173_0⟩:=Kd.bK_ HR1.o x29_2 p173 q173;cases e173;replace hx173_0:=(HB.o.cell (World.block_lt_of_cell? w _ hx173_0)).trans hx173_0;replace p173:=eq_true p173;replace q173:=eq_true q173
       try go_wp2
       replace HO_5:=am (Kd.bP_ HO_5.o);replace HB:=am (bg_ HB.o);have p174:0≤((ji14):Int):=od_;have q174:(ji14)<(x5_2.length:Int):=od_;obtain ⟨ad174,e174,hx174_0⟩:=Kd.bK_ (Kd.bj_ HO_5.o).2.2 (ji14) p174 q174;obtain rfl:ad172=ad174:=(by injection e174);replace p174:=eq_true p174;replace q174:=eq_true q174
       refine cS_ (n:=16) (S:=fun w'=>w'.cell? (ad172.add ((ji14)).toNat)=some (.int .u8 (rd x5_2 (ji14)))) (ds:=[15]) #[false,false,false,false,false,false,false,false,false,false,false,false,false,false,false,false] (by kernel_rfl) rfl rfl (hx174_0) (fun hHeld=>?_);refine cc_ Fm.tab9 Fm.bits9 (fun HT_ HW_=>?_)
       generalize wr.drew=w19 at HO_5 HB hx174_0 hHeld ⊢
       refine pu_ (i:=0) (some 34) #[true,false,false,false,false,false,false,false,false,false,false,false,false,false,false,false] HT_ ?_
       refine pu_ (i:=1) (some 35) #[true,true,false,false,false,false,false,false,false,false,false,false,false,false,false,false] HT_ ?_
       refine pu_ (i:=2) (some 36) #[true,true,true,false,false,false,false,false,false,false,false,false,false,false,false,false] HT_ ?_
       refine pu_ (i:=3) (some 37) #[true,true,true,true,false,false,false,false,false,false,false,false,false,false,false,false] HT_ ?_
       refine pu_ (i:=4) (some 38) #[true,true,true,true,true,false,false,false,false,false,false,false,false,false,false,false] HT_ ?_
       refine pu_ (i:=5) (some 39) #[true,true,true,true,true,true,false,false,false,false,false,false,false,false,false,false] HT_ ?_
       refine pu_ (i:=6) (some 40) #[true,true,true,true,true,true,true,false,false,false,false,false,false,false,false,false] HT_ ?_
       refine pu_ (i:=7) (some 41) #[true,true,true,true,true,true,true,true,false,false,false,false,false,false,false,false] HT_ ?_
       refine pu_ (i:=8) (some 42) #[true,true,true,true,true,true,true,true,true,false,false,false,false,false,false,false] HT_ ?_
       refine pu_ (i:=10) (some 44) #[true,true,true,true,true,true,true,true,true,false,true,false,false,false,false,false] HT_ ?_
       refine pu_ (i:=11) (some 45) #[true,true,true,true,true,true,true,true,true,false,true,true,false,false,false,false] HT_ ?_
       refine ta_ (i:=9) (some 43) #[true,true,true,true,true,true,true,true,true,true,true,true,false,false,false,false] HT_ HW_ hHeld ?_
       refine one_ (i:=12) (N:=some 46) #[true,true,true,true,true,true,true,true,true,true,true,true,true,false,false,false] rfl rfl (bZ_ HT_.o (by kernel_rfl)) (by decide) (fun K hK=>?_)
       refine goR_ Try.func72 #[.int .u8 (rd x5_1 x6_1),.int .u8 (rd l1 x29_2)] ?_
       with_reducible refine (Fi.calls k2 (rd x5_1 x6_1) (rd l1 x29_2) t175 _ A17.o).mono ?_
       rintro e w' ⟨rfl,⟨nd,rfl⟩⟩
       refine ⟨_,rfl,?_⟩
       have p18:0≤((ji14):Int):=od_;have q18:((ji14):Int)<((x5_2.length:Int):Int):=od_;obtain ⟨go18,co18,eo18,gb18,gl18,cl18,HG18⟩:=Kd.R_form HO_5.o (by omega)
       (first|cases eo18|(injection eo18 with ea_ en_ ec_;(first|subst ea_|(injection ea_ with ea_;subst ea_));subst ec_;clear en_))
       have GB18:=am gb18;have GG18:=am HG18;clear gb18 gl18 HG18
       (first|simp only [add_plain] at hx172_0|skip)
       (first|simp only [add_plain] at hx174_0|skip)
       obtain ⟨hx18_0,hf18_0⟩:=Kd.R_celln 0 HO_5.o ((ji14):Int) p18 q18;replace p18:=eq_true p18;replace q18:=eq_true q18;have HP20:=Kd.R_putn HO_5.o ((ji14):Int) (Go.bits .xor .u8 (rd x5_2 (ji14)) t175);rw [← Ny176.o] at HP20;have HQ20:=am HP20;clear HP20
       refine hK.out _ _ (hHeld) (fun hHeld=>?_)
       clear hK K
       refine cp_ (a':=?_) ?_ ?_
       rotate_left
       ·show Act.put _ (some 46) _=_
        simp only [Act.put,List.setIfInBounds_toArray,List.set_cons_zero,List.set_cons_succ,bI_,bL_];rfl
       refine pu_ (i:=13) (some 47) #[true,true,true,true,true,true,true,true,true,true,true,true,true,true,false,false] HT_ ?_
       refine pu_ (i:=14) (some 48) #[true,true,true,true,true,true,true,true,true,true,true,true,true,true,true,false] HT_ ?_
       refine last_ (i:=15) (N:=none) #[true,true,true,true,true,true,true,true,true,true,true,true,true,true,true,true] rfl rfl (bZ_ HT_.o (by kernel_rfl)) (by decide) (fun K hK=>?_)
       refine skip_ (w1:=?_) (by rfl) rfl ?_ ?_
       rotate_left
       ·go_simp;rfl
       refine hK.out _ _ ?_
       clear hK K
       refine done_ (cD_ HT_.o (by kernel_rfl)) ?_
       try go_wp2
       (try simp only [← hl5_2])
       first|go_roundg k2|(try rw [show (⟨go18,(x6_1).toNat,none⟩:Addr)=(⟨go18,0,none⟩:Addr).add (x6_1).toNat from by simp [Addr.add]];go_roundg k2)
       case measure=>have:=HK1.o;have:=HK2.o;omega
       case rel=>exact ⟨(y176),(wrap64 (x29_2+1)),rf_,(by first|exact H'|(have H2_:=H';simp only [hji14] at H2_ ⊢;exact H2_)),⟨by have:=HK1.o;have:=HK2.o;omega⟩,⟨by (try simp only [hl5_1]);(try simp only [hl5_2]);(with_reducible repeat (first|apply Kd.bW_|apply Kd.bV_|apply Kd.bP_));exact HQ20.o⟩,⟨by repeat (first|(with_reducible first|exact HB.o|apply bk_|apply be_|apply bg_|refine bl_ ?_ GB18.o)|exact HB.o)⟩⟩
      ·rw [if_neg c11] at H;have c11b0:=decide_eq_false c11
       try simp only [hl5_1] at c11b0
       try simp only [hl5_2] at c11b0
       clear c11;have H':=am H;clear H
       go_wp2
       (try simp only [← hl5_1,← hl5_2])
       go_roundg k2
       case measure=>have:=HK1.o;have:=HK2.o;omega
       case rel=>exact ⟨(x5_2),(wrap64 (x6_1 - 1)),rfl,H',⟨by have:=HK1.o;have:=HK2.o;omega⟩,⟨by (try simp only [hl5_1]);(try simp only [hl5_2]);(with_reducible repeat (first|apply Kd.bW_|apply Kd.bV_|apply Kd.bP_));exact HO_5.o⟩,⟨zB HB.o⟩⟩
   ·rw [if_neg c8] at H;have c8b0:decide ((wrap64 ((l1.length:Int) - 1))≤x6_1)=false:=decide_eq_false c8
    try simp only [hl5_1] at c8b0
    clear c8;obtain ⟨ji21,hji21⟩:∃ j_:Int,(wrap64 ((l1.length:Int) - 1))=j_:=⟨_,rfl⟩
    replace H:(if 0≤(ji21) then (if (ji21)≤(x5_1.length:Int) then (some (x5_1.take ((ji21):Int).toNat)) else (none)) else (none))=some r:=by first|(rw [hji21] at H;exact H)|(simp only [hji21] at H ⊢;exact H)
    (try rw [hji21] at c8b0)
    have hji21w:(IntKind.i64.wrap ((l1.length:Int) - 1))=ji21:=(bI_ _).trans hji21
    obtain ⟨c22,H⟩:=it_ H;have c22b0:=eq_true c22;have c22b1:=decide_eq_true c22;clear c22
    obtain ⟨c23,H⟩:=it_ H;have c23b0:=eq_true c23;have c23b1:=decide_eq_true c23
    try simp only [hl5_1] at c23b1
    clear c23;(try rw [Option.bind_some] at H);generalize hy169:(x5_1.take ((ji21):Int).toNat)=y169 at H;have Ny169:=am hy169.symm;clear hy169;obtain rfl:=Option.some.inj H;have q24:((ji21):Int)≤((x5_1.length:Int):Int):=od_;obtain ⟨i024,hi024,_,hsz24,_⟩:=info_parts info5;have hcut24:=cut_to (P:=Try.prog) 22 5 .i64 Try.underlying22 hi024 Ao7 x5_1.length co7 (ji21) (od_) q24 (Kd.bj_ HO_5.o).2.1;have hr24:=Kd.R_take (m:=((ji21):Int).toNat) HO_5.o (by omega)
    have hy24:y169.length=((ji21):Int).toNat:=(by rw [Ny169.o,List.length_take];omega)
    rw [← Ny169.o] at hr24;rw [← hy24] at hr24 hcut24;clear hy24 hi024 hsz24 HO_5;have HO171:=am hr24;clear hr24;replace q24:=eq_true q24
    go_wp2
    go_ret
    exact ⟨_,by first|rfl|(simp [errW_none,errW_some] <;> rfl)|(simp only [← hji21];first|rfl|(simp [errW_none,errW_some] <;> rfl))|(simp [*,errW_none,errW_some] <;> rfl),zR HO171.o,zB HB.o⟩

/-! ### spec_EncodeWord: function 22 -/
def Fv.j0:Nat→List Int→Int→Bool→Option (List Int × Bool)
 | 0,_,_,_=>none
 | k+1,x0,x1,x22=>if x22=true then (some (([]:List Int),false)) else (if 0≤(wrap64 (2 * x1)) then (if (wrap64 (2 * x1):Int).toNat≤281474976710656 then ((some (List.replicate (wrap64 (2 * x1):Int).toNat 0:List Int)).bind fun y178=>(if y178.length+x0.length<140737488355328 then ((Fw.f k x1).bind fun t184=>((Fm.f k (y178++x0) t184).bind fun t187=>(if t187.length+x0.length<140737488355328 then (some ((t187++x0),true)) else (none)))) else (none))) else (none)) else (none))
def Fv.f (k:Nat) (l0:List Int) (a1:Int):Option (List Int × Bool):=(Fav.f a1).bind fun t177=>(if t177=true then (if (l0.length:Int)=0 then (Fv.j0 k l0 a1 true) else (Fv.j0 k l0 a1 (decide ((wrap64 ((l0.length:Int)+(wrap64 (2 * a1)))) > 24)))) else (Fv.j0 k l0 a1 true))
set_option maxHeartbeats 8000000 in
set_option maxRecDepth 100000 in
theorem Fv.calls (k:Nat) (A0:Option Addr) (c0:Nat) (l0:List Int) (a1:Int) (r1:List Int) (r2:Bool) (w:World) (hr0:Kd.C (Kd.int .u8) w A0 l0.length l0) (hc0:l0.length≤c0) (h:Fv.f k l0 a1=some (r1,r2)) :
  Calls Try.prog 22 #[.slice A0 l0.length c0,.int .i64 a1] w fun e w'=>∃ v0_:Value,e = .returned (.tuple #[v0_,.bool r2])∧Kd.R (Kd.int .u8) 5 w' w.heap.size (fun _=>True) v0_ r1∧Below w.heap.size w w':=by
 have HR0:=am hr0;have HC0:=am hc0;clear hr0 hc0;have HB:=am (Below.refl w.heap.size w);have H:((Fav.f a1).bind fun t177=>(if t177=true then (if (l0.length:Int)=0 then (Fv.j0 k l0 a1 true) else (Fv.j0 k l0 a1 (decide ((wrap64 ((l0.length:Int)+(wrap64 (2 * a1)))) > 24)))) else (Fv.j0 k l0 a1 true)))=some (r1,r2):=h;clear h;have HC3:=am H;clear H
 go_enter Try.func22,Try.ntmps22
 go_upto_region 1 with (fail)
 go_cut [22] (fun v22 wc=>∃ (kq:Nat) (x22_2:Bool),v22 = .bool x22_2∧ba_ (Fv.j0 kq l0 a1 x22_2=some (r1,r2))∧ba_ (kq≤k)∧ba_ (Below w.heap.size w wc))
 case first =>
  have H:=HC3.o;clear HC3;obtain ⟨t177,A4,H⟩:=bi_ H
  by_cases c5:t177=true
  ·subst c5
   have H1:(if (l0.length:Int)=0 then (Fv.j0 k l0 a1 true) else (Fv.j0 k l0 a1 (decide ((wrap64 ((l0.length:Int)+(wrap64 (2 * a1)))) > 24))))=some (r1,r2):=by rw [if_pos rfl] at H;exact H
   clear H;have H:=H1;clear H1
   by_cases c6:(l0.length:Int)=0
   ·rw [if_pos c6] at H;have c6b0:((l0.length:Int) == 0)=true:=beq_iff_eq.mpr c6;have c6b1:((l0.length:Int) != 0)=false:=bne_eq_false_iff_eq.mpr c6;clear c6
    (first|rw [c6b0]|(simp only [bI_,bL_];rw [c6b0])|skip)
    have H':=am H;clear H
    go_wp2_with (first|((with_reducible refine bf_ (f:=36) rfl ?_);refine goL_ (some 8) Try.func36 #[.int .i64 a1] ?_;(with_reducible refine (Fav.calls a1 true _ A4.o).mono ?_);rintro e w' ⟨rfl,⟨nd,rfl⟩⟩;refine ⟨_,rfl,?_⟩))
    go_meet
    case rel=>exact ⟨_,(true),rfl,H',⟨by first|omega|exact Nat.le_refl _⟩,⟨zB HB.o⟩⟩
   ·rw [if_neg c6] at H;have c6b0:((l0.length:Int) == 0)=false:=beq_eq_false_iff_ne.mpr c6;have c6b1:((l0.length:Int) != 0)=true:=bne_iff_ne.mpr c6
    have c6b2:¬ (l0=[]):=fun h_=>c6 (by rw [h_];rfl)
    (first|rw [c6b0]|(simp only [bI_,bL_];rw [c6b0])|skip)
    have H':=am H;clear H
    go_wp2_with (first|((with_reducible refine bf_ (f:=36) rfl ?_);refine goL_ (some 8) Try.func36 #[.int .i64 a1] ?_;(with_reducible refine (Fav.calls a1 true _ A4.o).mono ?_);rintro e w' ⟨rfl,⟨nd,rfl⟩⟩;refine ⟨_,rfl,?_⟩))
    go_meet
    case rel=>exact ⟨_,(decide ((wrap64 ((l0.length:Int)+(wrap64 (2 * a1)))) > 24)),rfl,H',⟨by first|omega|exact Nat.le_refl _⟩,⟨zB HB.o⟩⟩
  ·replace c5:=Bool.eq_false_iff.mpr c5
   subst c5
   have H1:(Fv.j0 k l0 a1 true)=some (r1,r2):=by rw [if_neg (show ¬ (false=true) by decide)] at H;exact H
   clear H;have H:=H1;clear H1;have H':=am H;clear H
   go_wp2_with (first|((with_reducible refine bf_ (f:=36) rfl ?_);refine goL_ (some 8) Try.func36 #[.int .i64 a1] ?_;(with_reducible refine (Fav.calls a1 false _ A4.o).mono ?_);rintro e w' ⟨rfl,⟨nd,rfl⟩⟩;refine ⟨_,rfl,?_⟩))
   go_meet
   case rel=>exact ⟨_,(true),rfl,H',⟨by first|omega|exact Nat.le_refl _⟩,⟨zB HB.o⟩⟩
 case rest =>
  clear HC3;obtain ⟨kq,x22_2,rfl,HA,HJ2,HB⟩:=hcut
  cases kq with
  | zero=>exact absurd HA.o (by simp [Fv.j0])
  | succ kj2 =>
   have H:=HA.o;clear HA
   simp only [Fv.j0] at H
   by_cases c7:x22_2=true
   ·subst c7
    have H1:(some (([]:List Int),false))=some (r1,r2):=by rw [if_pos rfl] at H;exact H
    clear H;have H:=H1;clear H1
    simp only [Option.some.injEq,Prod.mk.injEq] at H
    obtain ⟨rfl,rfl⟩:=H
    go_wp2
    go_ret2
    exact ⟨_,rfl,by first|apply Kd.di_|apply Kd.N_nil|apply Kd.V_nil|apply Kd.Q_nil|apply Kd.S_nil,zB HB.o⟩
   ·replace c7:=Bool.eq_false_iff.mpr c7
    subst c7
    have H1:(if 0≤(wrap64 (2 * a1)) then (if (wrap64 (2 * a1):Int).toNat≤281474976710656 then ((some (List.replicate (wrap64 (2 * a1):Int).toNat 0:List Int)).bind fun y178=>(if y178.length+l0.length<140737488355328 then ((Fw.f kj2 a1).bind fun t184=>((Fm.f kj2 (y178++l0) t184).bind fun t187=>(if t187.length+l0.length<140737488355328 then (some ((t187++l0),true)) else (none)))) else (none))) else (none)) else (none))=some (r1,r2):=by rw [if_neg (show ¬ (false=true) by decide)] at H;exact H
    clear H;have H:=H1;clear H1;obtain ⟨ji8,hji8⟩:∃ j_:Int,(wrap64 (2 * a1))=j_:=⟨_,rfl⟩
    replace H:(if 0≤(ji8) then (if (ji8:Int).toNat≤281474976710656 then ((some (List.replicate (ji8:Int).toNat 0:List Int)).bind fun y178=>(if y178.length+l0.length<140737488355328 then ((Fw.f kj2 a1).bind fun t184=>((Fm.f kj2 (y178++l0) t184).bind fun t187=>(if t187.length+l0.length<140737488355328 then (some ((t187++l0),true)) else (none)))) else (none))) else (none)) else (none))=some (r1,r2):=by first|(rw [hji8] at H;exact H)|(simp only [hji8] at H ⊢;exact H)
    have hji8w:(IntKind.i64.wrap (2 * a1))=ji8:=(bI_ _).trans hji8
    obtain ⟨c9,H⟩:=it_ H;have c9b0:=eq_true c9;have c9b1:=decide_eq_true c9;clear c9
    obtain ⟨c10,H⟩:=it_ H;have c10b0:=eq_true c10;have c10b1:=decide_eq_true c10;clear c10;obtain ⟨y178,hy178⟩:∃ y_:List Int,y_=(List.replicate (ji8:Int).toNat 0):=⟨_,rfl⟩
    replace H:(if y178.length+l0.length<140737488355328 then ((Fw.f kj2 a1).bind fun t184=>((Fm.f kj2 (y178++l0) t184).bind fun t187=>(if t187.length+l0.length<140737488355328 then (some ((t187++l0),true)) else (none)))) else (none))=some (r1,r2):=by first|(rw [hy178];exact H)|(have H2_:=(Option.bind_some _ _).symm.trans H;first|exact H2_|(rw [hy178];exact H2_))|exact H
    have Ny178:=am hy178;clear hy178
    obtain ⟨c11,H⟩:=it_ H;have LMc11:=am c11;clear c11;obtain ⟨y181,hy181⟩:∃ y_:List Int,y_=(y178++l0):=⟨_,rfl⟩
    replace H:((Fw.f kj2 a1).bind fun t184=>((Fm.f kj2 y181 t184).bind fun t187=>(if t187.length+l0.length<140737488355328 then (some ((t187++l0),true)) else (none))))=some (r1,r2):=by first|(rw [hy181];exact H)|(have H2_:=(Option.bind_some _ _).symm.trans H;first|exact H2_|(rw [hy181];exact H2_))|exact H
    have Ny181:=am hy181;clear hy181;obtain ⟨t184,A12,H⟩:=bi_ H;obtain ⟨t187,A13,H⟩:=bi_ H
    obtain ⟨c14,H⟩:=it_ H;have LMc14:=am c14;clear c14;obtain ⟨y190,hy190⟩:∃ y_:List Int,y_=(t187++l0):=⟨_,rfl⟩
    replace H:(some (y190,true))=some (r1,r2):=by first|(rw [hy190];exact H)|(have H2_:=(Option.bind_some _ _).symm.trans H;first|exact H2_|(rw [hy190];exact H2_))|exact H
    have Ny190:=am hy190;clear hy190
    simp only [Option.some.injEq,Prod.mk.injEq] at H
    obtain ⟨rfl,rfl⟩:=H
    go_wp2_with (first|((with_reducible refine bB_ (N:=25) rfl ?_);(try (refine bM_ (by rfl) ?_;dsimp only));refine Kd.R_make (Kd.int .u8) _ 5 rfl (N:=25) rfl 22 _ _ rfl ji8 rfl rfl Try.underlying22 (.int .u8 0) 1 info5 rfl (by decide) (by omega) 0 (ok:=fun _=>True) (okp:=fun _=>True) rfl (fun _ hk=>hk) trivial (od_) (Nat.le_trans (Nat.mul_le_mul_right _ (od_:ji8.toNat≤281474976710656)) (by omega)) (Below.refl _ _) (Nat.le_refl _) ?_;intro v179 w15 ho16 hb hg_ hnew_;clear hg_ hnew_;(first|rw [← Ny178.o] at ho16|(simp only [Int.reduceToNat] at ho16;rw [← Ny178.o] at ho16));have HO180:=am (Kd.bx_ ho16 (zs_ HB.o));replace HB:=am (bh_ (zB HB.o) hb);clear hb ho16)|((with_reducible refine bE_ (b:=.append) (xs:=#[.tmp 25,.tmp 26]) rfl ?_);(try (refine bM_ (by rfl) ?_;dsimp only));at_builtin;refine Kd.cm_ (Kd.int .u8) (w0:=w) w.heap.size rfl (.tmp 25) (.tmp 26) 22 5 (.int .u8 0) 1 rfl Try.underlying22 info5 rfl (by decide) (by omega) v179 y178 l0 _ _ _ (fun _=>True) (fun _=>False) rfl rfl ?aO ?aR (fun _ _ h=>h) (fun _ h=>h.elim) ?aF ?aB ?aS ?aL ?_;(case aR=>exact zC (Kd.bH_ HR0.o HB.o));(case aB=>exact (zB HB.o));(case aF=>exact (fun _ _=>trivial));(case aO=>exact (zR HO180.o));(case aS=>exact (zs_ HB.o));(case aL=>have:=LMc11.o;omega);intro v182 w17 ho hb hg hat;rw [← Ny181.o] at ho;replace HB:=am (hb);have HO183:=am (ho);(try clear HO180);clear ho hb hg hat)|((with_reducible refine bf_ (f:=37) rfl ?_);refine goL_ (some 30) Try.func37 #[.int .i64 a1] ?_;(with_reducible refine (Fw.calls kj2 a1 t184 _ A12.o).mono ?_);rintro e w18 ⟨v185,rfl,ho0,hb⟩;refine ⟨_,rfl,?_⟩;have HO186:=am (Kd.bx_ (Kd.bX_ ho0 (Kd.R_lt (zR HO183.o))) (zs_ HB.o));replace HO183:=am (Kd.bC_ (zR HO183.o) (Kd.bt_ ho0) hb);replace HB:=am (bh_ (zB HB.o) hb);(try clear hb);(try clear ho0);obtain ⟨Ao19,co19,eo19⟩:=Kd.bv_ HO183.o;subst eo19;obtain ⟨Ao20,co20,eo20⟩:=Kd.bv_ HO186.o;subst eo20)|((with_reducible refine bf_ (f:=46) rfl ?_);refine goL_ (some 31) Try.func46 #[.slice Ao19 y181.length co19,.slice Ao20 t184.length co20] ?_;(with_reducible refine (Fm.calls kj2 _ _ y181 _ _ t184 t187 _ ?side1 ?side2 ?side3 ?side4 A13.o).mono ?_);(case side1=>exact zC ((Kd.bj_ HO183.o).2.2));(case side2=>exact (Kd.bj_ HO183.o).2.1);(case side3=>exact zC ((Kd.bj_ HO186.o).2.2));(case side4=>exact (Kd.bj_ HO186.o).2.1);rintro e w21 ⟨v188,rfl,ho0,hb⟩;refine ⟨_,rfl,?_⟩;have HO189:=am (Kd.bx_ (Kd.bX_ (Kd.bX_ ho0 (Kd.R_lt (zR HO183.o))) (Kd.R_lt (zR HO186.o))) (zs_ HB.o));replace HO183:=am (Kd.bC_ (zR HO183.o) (Kd.bt_ ho0) hb);replace HO186:=am (Kd.bC_ (zR HO186.o) (Kd.bt_ ho0) hb);replace HB:=am (bh_ (zB HB.o) hb);(try clear hb);(try clear ho0))|((with_reducible refine bE_ (b:=.append) (xs:=#[.tmp 31,.tmp 32]) rfl ?_);(try (refine bM_ (by rfl) ?_;dsimp only));at_builtin;refine Kd.cm_ (Kd.int .u8) (w0:=w) w.heap.size rfl (.tmp 31) (.tmp 32) 22 5 (.int .u8 0) 1 rfl Try.underlying22 info5 rfl (by decide) (by omega) v188 t187 l0 _ _ _ (fun k_=>some k_≠(.slice Ao19 y181.length co19:Value).ownBlock∧some k_≠(.slice Ao20 t184.length co20:Value).ownBlock) (fun _=>False) rfl rfl ?aO ?aR (fun _ _ h=>h) (fun _ h=>h.elim) ?aF ?aB ?aS ?aL ?_;(case aR=>exact zC (Kd.bH_ HR0.o HB.o));(case aB=>exact (zB HB.o));(case aF=>exact (fun k_ hk=>⟨Kd.fresh' (Kd.R_lt (zR HO183.o)) k_ hk,Kd.fresh' (Kd.R_lt (zR HO186.o)) k_ hk⟩));(case aO=>exact (zR (Kd.bq_ HO189.o (fun _ hk=>⟨hk.1.2,hk.2⟩))));(case aS=>exact (zs_ HB.o));(case aL=>have:=LMc14.o;omega);intro v191 w22 ho hb hg hat;rw [← Ny190.o] at ho;replace HO183:=am (Kd.dy_ (ok:=(fun k_=>some k_≠(.slice Ao20 t184.length co20:Value).ownBlock)) (zR (Kd.bq_ HO183.o (fun _ hk=>⟨hk.1.2,hk.2⟩))) hg hat);replace HO186:=am (Kd.dy_ (ok:=(fun k_=>some k_≠(.slice Ao19 y181.length co19:Value).ownBlock)) (zR (Kd.bq_ HO186.o (fun _ hk=>⟨hk.1.2,hk.2⟩))) hg hat);replace HB:=am (hb);have HO192:=am (ho);(try clear HO189);clear ho hb hg hat))
    go_ret2
    exact ⟨_,by first|rfl|(simp [errW_none,errW_some] <;> rfl)|(simp only [← hji8];first|rfl|(simp [errW_none,errW_some] <;> rfl))|(simp [*,errW_none,errW_some] <;> rfl),zR (Kd.bq_ HO192.o (fun _ hk=>trivial)),zB HB.o⟩

/-! ### slices_Clone_byte_byte: function 49 -/
def Faj.f (l0:List Int):Option (List Int):=(some (([]:List Int):List Int)).bind fun y193=>(if y193.length+l0.length<140737488355328 then (some (y193++l0)) else (none))
set_option maxHeartbeats 8000000 in
set_option maxRecDepth 100000 in
theorem Faj.calls (A0:Option Addr) (c0:Nat) (l0:List Int) (r:List Int) (w:World) (hr0:Kd.C (Kd.int .u8) w A0 l0.length l0) (hc0:l0.length≤c0) (h:Faj.f l0=some r) :
  Calls Try.prog 49 #[.slice A0 l0.length c0] w fun e w'=>∃ v0_:Value,e = .returned (v0_)∧Kd.R (Kd.int .u8) 5 w' w.heap.size (fun _=>True) v0_ r∧Below w.heap.size w w':=by
 have HR0:=am hr0;have HC0:=am hc0;clear hr0 hc0;have HB:=am (Below.refl w.heap.size w);have H:((some (([]:List Int):List Int)).bind fun y193=>(if y193.length+l0.length<140737488355328 then (some (y193++l0)) else (none)))=some r:=h;clear h;obtain ⟨y193,hy193⟩:∃ y_:List Int,y_=(([]:List Int)):=⟨_,rfl⟩
 replace H:(if y193.length+l0.length<140737488355328 then (some (y193++l0)) else (none))=some r:=by first|(rw [hy193];exact H)|(have H2_:=(Option.bind_some _ _).symm.trans H;first|exact H2_|(rw [hy193];exact H2_))|exact H
 have Ny193:=am hy193;clear hy193
 obtain ⟨c2,H⟩:=it_ H;have LMc2:=am c2;clear c2;obtain ⟨y196,hy196⟩:∃ y_:List Int,y_=(y193++l0):=⟨_,rfl⟩
 replace H:(some y196)=some r:=by first|(rw [hy196];exact H)|(have H2_:=(Option.bind_some _ _).symm.trans H;first|exact H2_|(rw [hy196];exact H2_))|exact H
 have Ny196:=am hy196;clear hy196;obtain rfl:=Option.some.inj H
 have qN_:∀ (w:World) (a:Option Addr) (n c n' c':Nat),(binOp .eql 22 (.slice a n c) (.slice none n' c')).run Try.prog w = .ok (.bool a.isNone) w:=fun w a n c n' c'=>Lib.run_eql_slice_nil w _ _ a n c n' c' Try.underlying22
 cases A0 with
 | none =>
  have hl0:l0=[]:=by
   cases l0 with
   | nil=>rfl
   | cons a_ l_=>obtain ⟨ad_,e_,_⟩:=HR0.o.2.2 (by simp);cases e_
  subst hl0
  have hy_:=Ny193.o;have hz_:=Ny196.o;rw [hy_] at hz_;have hz2_:y196=[]:=hz_
  go_enter Try.func49,Try.ntmps49
  go_wp2
  go_ret
  exact ⟨_,rfl,by first|exact Kd.di_ _ _ _ _ _|(rw [hz2_];exact Kd.di_ _ _ _ _ _),HB.o⟩
 | some ad0_ =>
 go_enter Try.func49,Try.ntmps49
 go_wp2_with (first|((with_reducible refine bB_ (N:=5) rfl ?_);refine Kd.R_lit (Kd.int .u8) _ 5 ?hg (N:=5) ?hd (xs:=([]:List Int)) (inner:=[]) (ok:=fun _=>True) (okp:=fun _=>True) ?hr ?hp (fun _ hk=>hk) trivial (Below.refl _ _) (Nat.le_refl _) (by simp) ?_;(case hd=>rfl);(case hg=>rfl);(case hr=>first|(go_simp;done)|(go_simp;rfl));(case hp=>exact (Reps.none _ _));intro v194 w3 ho4 hb hg_ hnew_;clear hg_ hnew_;(first|rw [← Ny193.o] at ho4|(simp only [Int.reduceToNat] at ho4;rw [← Ny193.o] at ho4));have HO195:=am (Kd.bx_ ho4 (zs_ HB.o));replace HB:=am (bh_ (zB HB.o) hb);clear hb ho4)|((with_reducible refine bE_ (b:=.append) (xs:=#[.tmp 5,.tmp 6]) rfl ?_);at_builtin;refine Kd.cm_ (Kd.int .u8) (w0:=w) w.heap.size rfl (.tmp 5) (.tmp 6) 22 5 (.int .u8 0) 1 rfl Try.underlying22 info5 rfl (by decide) (by omega) v194 y193 l0 _ _ _ (fun _=>True) (fun _=>False) rfl rfl ?aO ?aR (fun _ _ h=>h) (fun _ h=>h.elim) ?aF ?aB ?aS ?aL ?_;(case aR=>exact zC (Kd.bH_ HR0.o HB.o));(case aB=>exact (zB HB.o));(case aF=>exact (fun _ _=>trivial));(case aO=>exact (zR HO195.o));(case aS=>exact (zs_ HB.o));(case aL=>have:=LMc2.o;omega);intro v197 w5 ho hb hg hat;rw [← Ny196.o] at ho;replace HB:=am (hb);have HO198:=am (ho);(try clear HO195);clear ho hb hg hat))
 go_ret
 exact ⟨_,rfl,zR HO198.o,zB HB.o⟩

end Go.Proofs.Ytbloniemhkfnlaa.PFnCorrected
