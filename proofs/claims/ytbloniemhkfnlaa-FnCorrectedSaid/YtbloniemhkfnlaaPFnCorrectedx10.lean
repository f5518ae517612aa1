/- A law's functions as plain Lean functions, each with the walk that shows that the code computes it: written by this session's program wip/tools/ppmake.py. -/
import Derived.Test.YtbloniemhkfnlaaKZ
import Derived.Test.YtbloniemhkfnlaaPFnCorrectedx0
import Derived.Test.YtbloniemhkfnlaaPFnCorrectedx2
import Derived.Test.YtbloniemhkfnlaaPFnCorrectedx8
import Derived.Test.YtbloniemhkfnlaaPFnCorrectedx9
namespace Go.Proofs.Ytbloniemhkfnlaa.PFnCorrected
open Go.RowKit Go.Proofs.YtbloniemhkfnlaaW.PrintWords Go.Proofs.YtbloniemhkfnlaaW.PrintLast Go.Proofs.YtbloniemhkfnlaaW.PrintMore
attribute [local go_sem] cw_ cy_ cK_ cL_ ci_ ch_ cx_ cv_   -- for this text's walks alone
set_option linter.unusedVariables false
set_option linter.unusedSimpArgs false

/-! ### spec_l2Inverse: function 55 -/
def Fat.f (k:Nat) (l0_0:List (List Int)):Option ((List (List Int)) × Bool):=(Faq.f k (l0_0.length:Int)).bind fun t155=>((Fb.f k l0_0 t155).bind fun bt158=>(some (bt158.2.1,(bt158.2.2 == (l0_0.length:Int)))))
def Fat.T2:Bool × List (List Nat × List Nat):=(true,[([],[]),([],[]),([1],[1]),([0,2,2],[0,2]),([3],[3]),([4],[4]),([4],[4]),([4],[4]),([],[]),([],[]),([8,5,3,0,1,2,3,4,5,8,9],[5,8]),([9,6,10,0,1,2,3,4,5,6,8,9,10],[6,9]),([7,11,0,1,2,3,4,5,6,7,8,9,10,11],[7])])
def Fat.B2:List Nat:=[0,0,2,7,15,31,31,31,0,0,831,1919,4095]
theorem Fat.tab2:rtab .any (opsOf Try.f55 2)=Fat.T2:=by kernel_rfl
theorem Fat.bits2:waitsOk Fat.T2.2 Fat.B2=true:=by kernel_rfl
set_option maxHeartbeats 8000000 in
set_option maxRecDepth 100000 in
theorem Fat.calls (k:Nat) (A0_0:Option Addr) (c0_0:Nat) (l0_0:List (List Int)) (r1:List (List Int)) (r2:Bool) (w:World) (hr0_0:Kd.C (Kd.slice 5 (Kd.int .u8)) w A0_0 l0_0.length l0_0) (hc0_0:l0_0.length≤c0_0) (h:Fat.f k l0_0=some (r1,r2)) :
  Calls Try.prog 55 #[.agg #[.slice A0_0 l0_0.length c0_0]] w fun e w'=>∃ v0_:Value,e = .returned (.tuple #[.agg #[v0_],.bool r2])∧Kd.V (Kd.slice 5 (Kd.int .u8)) 22 w' w.heap.size (fun k_=>(w.heap.size≤k_)) v0_ r1∧Below w.heap.size w w':=by
 have hu52:=Try.underlying52;have HR0_0:=am hr0_0;have HC0_0:=am hc0_0;clear hr0_0 hc0_0;have HB:=am (Below.refl w.heap.size w);have H:((Faq.f k (l0_0.length:Int)).bind fun t155=>((Fb.f k l0_0 t155).bind fun bt158=>(some (bt158.2.1,(bt158.2.2 == (l0_0.length:Int))))))=some (r1,r2):=h;clear h;obtain ⟨t155,A2,H⟩:=bi_ H;obtain ⟨⟨t158,t161,t164⟩,A3,H⟩:=bi_ H;dsimp only at H
 simp only [Option.some.injEq,Prod.mk.injEq] at H
 obtain ⟨rfl,rfl⟩:=H
 go_enter Try.func55,Try.ntmps55
 try go_wp2_with (first|((with_reducible refine bB_ (N:=1) rfl ?_);refine bU_ ?hg (N:=1) ?hd (cs:=#[.slice A0_0 l0_0.length c0_0]) (t:=52) ?hr ?_;(case hd=>rfl);(case hg=>rfl);(case hr=>first|(go_simp;done)|(go_simp;rfl));intro gb153 hg w4 hbox hb;have BK153:=am (hbox);have GW153:=am ((gw_ hg HB.o:w.heap.size≤gb153));have GE153:=am ((gw_ hg HB.o:w.heap.size≤gb153));replace HB:=am (bh_ (zB HB.o) hb);clear hb hbox hg)|((with_reducible refine bB_ (N:=2) rfl ?_);refine bU_ ?hg (N:=2) ?hd (cs:=#[.slice none 0 0]) (t:=52) ?hr ?_;(case hd=>rfl);(case hg=>rfl);(case hr=>first|(go_simp;done)|(go_simp;rfl));intro gb154 hg w5 hbox hb;have BK154:=am (hbox);have GW154:=am ((gw_ hg HB.o:w.heap.size≤gb154));have GE154:=am ((gw_ hg HB.o:w.heap.size≤gb154));replace HB:=am (bh_ (zB HB.o) hb);have NB153_154:=am ((by rw [hg];exact Nat.ne_of_lt (bw_ (zK BK153.o)):gb153≠gb154));have NB154_153:=am ((by rw [hg];exact Nat.ne_of_gt (bw_ (zK BK153.o)):gb154≠gb153));replace BK153:=am (bm_ (zK BK153.o) hb);clear hb hbox hg;have hnb6:=NB153_154.o;have hnc6:=NB154_153.o;have hcz7_0:w5.cell? ⟨gb153,0,none⟩=some (.slice A0_0 l0_0.length c0_0):=(bo_ BK153.o 0).trans rfl;have hfz7_0:=bs_ BK153.o 0))
 replace BK153:=am (bb_ BK153.o);replace BK154:=am (bb_ BK154.o);replace HB:=am (bg_ HB.o)
 refine cS_ (n:=13) (S:=fun w'=>w'.cell? ⟨gb153,0,none⟩=some (.slice A0_0 l0_0.length c0_0)) (ds:=[]) #[false,false,false,false,false,false,false,false,false,false,false,false,false] (by kernel_rfl) rfl rfl ((bo_ BK153.o 0).trans rfl) (fun hHeld=>?_);refine cc_ Fat.tab2 Fat.bits2 (fun HT_ HW_=>?_)
 generalize w5.drew=w8 at BK153 BK154 HB hHeld ⊢
 refine pu_ (i:=1) (some 13) #[false,true,false,false,false,false,false,false,false,false,false,false,false] HT_ ?_
 refine ta_ (i:=0) (some 12) #[true,true,false,false,false,false,false,false,false,false,false,false,false] HT_ HW_ hHeld ?_
 refine join_ (σ:=Value × Value × Value × Nat × Nat) 3 #[true,true,true,true,true,true,true,true,true,true,false,false,false] (fun s_=>[(14,.agg #[s_.1]),(15,.tuple #[.agg #[s_.2.1],.agg #[s_.2.2.1],.int .i64 t164]),(5,.pointer (some ⟨s_.2.2.2.1,0,none⟩)),(6,.pointer (some ⟨s_.2.2.2.2,0,none⟩)),(11,.tuple #[.agg #[s_.2.1],.agg #[s_.2.2.1],.int .i64 t164]),(16,.agg #[s_.2.1]),(17,.agg #[s_.2.2.1]),(18,.int .i64 t164)]) (fun s_ w'=>(w'.cell? ⟨gb153,0,none⟩=some (.slice A0_0 l0_0.length c0_0))∧(Kd.S (Kd.slice 5 (Kd.int .u8)) 22 w' w.heap.size (fun k_=>(w.heap.size≤k_)) s_.1 t155)∧(Kd.V (Kd.slice 5 (Kd.int .u8)) 22 w' w.heap.size (fun k_=>(w.heap.size≤k_)∧some k_≠(s_.1:Value).ownBlock∧k_≠gb153∧k_≠gb154∧k_≠s_.2.2.2.1∧k_≠s_.2.2.2.2) s_.2.1 t158)∧(Kd.V (Kd.slice 5 (Kd.int .u8)) 22 w' w.heap.size (fun k_=>(w.heap.size≤k_)∧some k_≠(s_.1:Value).ownBlock∧k_≠gb153∧k_≠gb154∧k_≠s_.2.2.2.1∧k_≠s_.2.2.2.2) s_.2.2.1 t161)∧(w'.heap[gb153]? = some (.cells #[.slice A0_0 l0_0.length c0_0] 52 (0,0)))∧(w'.heap[gb154]? = some (.cells #[.slice none 0 0] 52 (0,0)))∧(w'.heap[s_.2.2.2.1]? = some (.cells #[.slice none 0 0] 52 (0,0)))∧(w'.heap[s_.2.2.2.2]? = some (.cells #[.slice none 0 0] 52 (0,0)))∧(w.heap.size≤s_.2.2.2.1)∧(w.heap.size≤s_.2.2.2.1)∧(gb153≠s_.2.2.2.1)∧(s_.2.2.2.1≠gb153)∧(gb154≠s_.2.2.2.1)∧(s_.2.2.2.1≠gb154)∧(s_.2.2.2.2≠s_.2.2.2.1)∧(s_.2.2.2.1≠s_.2.2.2.2)∧(w.heap.size≤s_.2.2.2.2)∧(w.heap.size≤s_.2.2.2.2)∧(gb153≠s_.2.2.2.2)∧(s_.2.2.2.2≠gb153)∧(gb154≠s_.2.2.2.2)∧(s_.2.2.2.2≠gb154)∧(Below w.heap.size w w')) ?_ ?_
 rotate_left
 ·intro hJ2_3_8_9
  refine join_ (σ:=Value × Value × Value × Nat) 4 #[true,true,true,true,true,true,true,true,true,false,false,false,false] (fun s_=>[(14,.agg #[s_.1]),(15,.tuple #[.agg #[s_.2.1],.agg #[s_.2.2.1],.int .i64 t164]),(5,.pointer (some ⟨s_.2.2.2,0,none⟩)),(11,.tuple #[.agg #[s_.2.1],.agg #[s_.2.2.1],.int .i64 t164]),(16,.agg #[s_.2.1]),(17,.agg #[s_.2.2.1]),(18,.int .i64 t164)]) (fun s_ w'=>(w'.cell? ⟨gb153,0,none⟩=some (.slice A0_0 l0_0.length c0_0))∧(Kd.S (Kd.slice 5 (Kd.int .u8)) 22 w' w.heap.size (fun k_=>(w.heap.size≤k_)) s_.1 t155)∧(Kd.V (Kd.slice 5 (Kd.int .u8)) 22 w' w.heap.size (fun k_=>(w.heap.size≤k_)∧some k_≠(s_.1:Value).ownBlock∧k_≠gb153∧k_≠gb154∧k_≠s_.2.2.2) s_.2.1 t158)∧(Kd.V (Kd.slice 5 (Kd.int .u8)) 22 w' w.heap.size (fun k_=>(w.heap.size≤k_)∧some k_≠(s_.1:Value).ownBlock∧k_≠gb153∧k_≠gb154∧k_≠s_.2.2.2) s_.2.2.1 t161)∧(w'.heap[gb153]? = some (.cells #[.slice A0_0 l0_0.length c0_0] 52 (0,0)))∧(w'.heap[gb154]? = some (.cells #[.slice none 0 0] 52 (0,0)))∧(w'.heap[s_.2.2.2]? = some (.cells #[.slice none 0 0] 52 (0,0)))∧(w.heap.size≤s_.2.2.2)∧(w.heap.size≤s_.2.2.2)∧(gb153≠s_.2.2.2)∧(s_.2.2.2≠gb153)∧(gb154≠s_.2.2.2)∧(s_.2.2.2≠gb154)∧(Below w.heap.size w w')) ?_ ?_
  rotate_left
  ·intro hJ2_3_8
   refine join_ (σ:=Value × Value × Value × Nat) 4 #[true,true,true,true,true,true,true,true,false,true,false,false,false] (fun s_=>[(14,.agg #[s_.1]),(15,.tuple #[.agg #[s_.2.1],.agg #[s_.2.2.1],.int .i64 t164]),(6,.pointer (some ⟨s_.2.2.2,0,none⟩)),(11,.tuple #[.agg #[s_.2.1],.agg #[s_.2.2.1],.int .i64 t164]),(16,.agg #[s_.2.1]),(17,.agg #[s_.2.2.1]),(18,.int .i64 t164)]) (fun s_ w'=>(w'.cell? ⟨gb153,0,none⟩=some (.slice A0_0 l0_0.length c0_0))∧(Kd.S (Kd.slice 5 (Kd.int .u8)) 22 w' w.heap.size (fun k_=>(w.heap.size≤k_)) s_.1 t155)∧(Kd.V (Kd.slice 5 (Kd.int .u8)) 22 w' w.heap.size (fun k_=>(w.heap.size≤k_)∧some k_≠(s_.1:Value).ownBlock∧k_≠gb153∧k_≠gb154∧k_≠s_.2.2.2) s_.2.1 t158)∧(Kd.V (Kd.slice 5 (Kd.int .u8)) 22 w' w.heap.size (fun k_=>(w.heap.size≤k_)∧some k_≠(s_.1:Value).ownBlock∧k_≠gb153∧k_≠gb154∧k_≠s_.2.2.2) s_.2.2.1 t161)∧(w'.heap[gb153]? = some (.cells #[.slice A0_0 l0_0.length c0_0] 52 (0,0)))∧(w'.heap[gb154]? = some (.cells #[.slice none 0 0] 52 (0,0)))∧(w'.heap[s_.2.2.2]? = some (.cells #[.slice none 0 0] 52 (0,0)))∧(w.heap.size≤s_.2.2.2)∧(w.heap.size≤s_.2.2.2)∧(gb153≠s_.2.2.2)∧(s_.2.2.2≠gb153)∧(gb154≠s_.2.2.2)∧(s_.2.2.2≠gb154)∧(Below w.heap.size w w')) ?_ ?_
   rotate_left
   ·intro hJ2_3_9
    refine join_ (σ:=Value × Nat × Nat) 8 #[true,true,true,false,false,false,false,false,true,true,false,false,false] (fun s_=>[(14,.agg #[s_.1]),(5,.pointer (some ⟨s_.2.1,0,none⟩)),(6,.pointer (some ⟨s_.2.2,0,none⟩))]) (fun s_ w'=>(w'.cell? ⟨gb153,0,none⟩=some (.slice A0_0 l0_0.length c0_0))∧(Kd.S (Kd.slice 5 (Kd.int .u8)) 22 w' w.heap.size (fun k_=>(w.heap.size≤k_)) s_.1 t155)∧(w'.heap[gb153]? = some (.cells #[.slice A0_0 l0_0.length c0_0] 52 (0,0)))∧(w'.heap[gb154]? = some (.cells #[.slice none 0 0] 52 (0,0)))∧(w'.heap[s_.2.1]? = some (.cells #[.slice none 0 0] 52 (0,0)))∧(w'.heap[s_.2.2]? = some (.cells #[.slice none 0 0] 52 (0,0)))∧(w.heap.size≤s_.2.1)∧(w.heap.size≤s_.2.1)∧(gb153≠s_.2.1)∧(s_.2.1≠gb153)∧(gb154≠s_.2.1)∧(s_.2.1≠gb154)∧(s_.2.2≠s_.2.1)∧(s_.2.1≠s_.2.2)∧(w.heap.size≤s_.2.2)∧(w.heap.size≤s_.2.2)∧(gb153≠s_.2.2)∧(s_.2.2≠gb153)∧(gb154≠s_.2.2)∧(s_.2.2≠gb154)∧(Below w.heap.size w w')) ?_ ?_
    rotate_left
    ·intro hJ2_8_9
     refine join_ (σ:=Value × Value × Value) 5 #[true,true,true,true,true,true,true,true,false,false,false,false,false] (fun s_=>[(14,.agg #[s_.1]),(15,.tuple #[.agg #[s_.2.1],.agg #[s_.2.2],.int .i64 t164]),(11,.tuple #[.agg #[s_.2.1],.agg #[s_.2.2],.int .i64 t164]),(16,.agg #[s_.2.1]),(17,.agg #[s_.2.2]),(18,.int .i64 t164)]) (fun s_ w'=>(w'.cell? ⟨gb153,0,none⟩=some (.slice A0_0 l0_0.length c0_0))∧(Kd.S (Kd.slice 5 (Kd.int .u8)) 22 w' w.heap.size (fun k_=>(w.heap.size≤k_)) s_.1 t155)∧(Kd.V (Kd.slice 5 (Kd.int .u8)) 22 w' w.heap.size (fun k_=>(w.heap.size≤k_)∧some k_≠(s_.1:Value).ownBlock∧k_≠gb153∧k_≠gb154) s_.2.1 t158)∧(Kd.V (Kd.slice 5 (Kd.int .u8)) 22 w' w.heap.size (fun k_=>(w.heap.size≤k_)∧some k_≠(s_.1:Value).ownBlock∧k_≠gb153∧k_≠gb154) s_.2.2 t161)∧(w'.heap[gb153]? = some (.cells #[.slice A0_0 l0_0.length c0_0] 52 (0,0)))∧(w'.heap[gb154]? = some (.cells #[.slice none 0 0] 52 (0,0)))∧(Below w.heap.size w w')) ?_ ?_
     rotate_left
     ·intro hJ2_3
      refine join_ (σ:=Value × Nat) 9 #[true,true,true,false,false,false,false,false,true,false,false,false,false] (fun s_=>[(14,.agg #[s_.1]),(5,.pointer (some ⟨s_.2,0,none⟩))]) (fun s_ w'=>(w'.cell? ⟨gb153,0,none⟩=some (.slice A0_0 l0_0.length c0_0))∧(Kd.S (Kd.slice 5 (Kd.int .u8)) 22 w' w.heap.size (fun k_=>(w.heap.size≤k_)) s_.1 t155)∧(w'.heap[gb153]? = some (.cells #[.slice A0_0 l0_0.length c0_0] 52 (0,0)))∧(w'.heap[gb154]? = some (.cells #[.slice none 0 0] 52 (0,0)))∧(w'.heap[s_.2]? = some (.cells #[.slice none 0 0] 52 (0,0)))∧(w.heap.size≤s_.2)∧(w.heap.size≤s_.2)∧(gb153≠s_.2)∧(s_.2≠gb153)∧(gb154≠s_.2)∧(s_.2≠gb154)∧(Below w.heap.size w w')) ?_ ?_
      rotate_left
      ·intro hJ2_8
       refine join_ (σ:=Value × Nat) 9 #[true,true,true,false,false,false,false,false,false,true,false,false,false] (fun s_=>[(14,.agg #[s_.1]),(6,.pointer (some ⟨s_.2,0,none⟩))]) (fun s_ w'=>(w'.cell? ⟨gb153,0,none⟩=some (.slice A0_0 l0_0.length c0_0))∧(Kd.S (Kd.slice 5 (Kd.int .u8)) 22 w' w.heap.size (fun k_=>(w.heap.size≤k_)) s_.1 t155)∧(w'.heap[gb153]? = some (.cells #[.slice A0_0 l0_0.length c0_0] 52 (0,0)))∧(w'.heap[gb154]? = some (.cells #[.slice none 0 0] 52 (0,0)))∧(w'.heap[s_.2]? = some (.cells #[.slice none 0 0] 52 (0,0)))∧(w.heap.size≤s_.2)∧(w.heap.size≤s_.2)∧(gb153≠s_.2)∧(s_.2≠gb153)∧(gb154≠s_.2)∧(s_.2≠gb154)∧(Below w.heap.size w w')) ?_ ?_
       rotate_left
       ·intro hJ2_9
        refine join_ (σ:=Nat × Nat) 9 #[true,true,false,false,false,false,false,false,true,true,false,false,false] (fun s_=>[(5,.pointer (some ⟨s_.1,0,none⟩)),(6,.pointer (some ⟨s_.2,0,none⟩))]) (fun s_ w'=>(w'.cell? ⟨gb153,0,none⟩=some (.slice A0_0 l0_0.length c0_0))∧(w'.heap[gb153]? = some (.cells #[.slice A0_0 l0_0.length c0_0] 52 (0,0)))∧(w'.heap[gb154]? = some (.cells #[.slice none 0 0] 52 (0,0)))∧(w'.heap[s_.1]? = some (.cells #[.slice none 0 0] 52 (0,0)))∧(w'.heap[s_.2]? = some (.cells #[.slice none 0 0] 52 (0,0)))∧(w.heap.size≤s_.1)∧(w.heap.size≤s_.1)∧(gb153≠s_.1)∧(s_.1≠gb153)∧(gb154≠s_.1)∧(s_.1≠gb154)∧(s_.2≠s_.1)∧(s_.1≠s_.2)∧(w.heap.size≤s_.2)∧(w.heap.size≤s_.2)∧(gb153≠s_.2)∧(s_.2≠gb153)∧(gb154≠s_.2)∧(s_.2≠gb154)∧(Below w.heap.size w w')) ?_ ?_
        rotate_left
        ·intro hJ8_9
         refine join_ (σ:=Value) 10 #[true,true,true,false,false,false,false,false,false,false,false,false,false] (fun s_=>[(14,.agg #[s_])]) (fun s_ w'=>(w'.cell? ⟨gb153,0,none⟩=some (.slice A0_0 l0_0.length c0_0))∧(Kd.S (Kd.slice 5 (Kd.int .u8)) 22 w' w.heap.size (fun k_=>(w.heap.size≤k_)) s_ t155)∧(w'.heap[gb153]? = some (.cells #[.slice A0_0 l0_0.length c0_0] 52 (0,0)))∧(w'.heap[gb154]? = some (.cells #[.slice none 0 0] 52 (0,0)))∧(Below w.heap.size w w')) ?_ ?_
         rotate_left
         ·intro hJ2
          refine join_ (σ:=Nat) 10 #[true,true,false,false,false,false,false,false,true,false,false,false,false] (fun s_=>[(5,.pointer (some ⟨s_,0,none⟩))]) (fun s_ w'=>(w'.cell? ⟨gb153,0,none⟩=some (.slice A0_0 l0_0.length c0_0))∧(w'.heap[gb153]? = some (.cells #[.slice A0_0 l0_0.length c0_0] 52 (0,0)))∧(w'.heap[gb154]? = some (.cells #[.slice none 0 0] 52 (0,0)))∧(w'.heap[s_]? = some (.cells #[.slice none 0 0] 52 (0,0)))∧(w.heap.size≤s_)∧(w.heap.size≤s_)∧(gb153≠s_)∧(s_≠gb153)∧(gb154≠s_)∧(s_≠gb154)∧(Below w.heap.size w w')) ?_ ?_
          rotate_left
          ·intro hJ8
           refine join_ (σ:=Nat) 10 #[true,true,false,false,false,false,false,false,false,true,false,false,false] (fun s_=>[(6,.pointer (some ⟨s_,0,none⟩))]) (fun s_ w'=>(w'.cell? ⟨gb153,0,none⟩=some (.slice A0_0 l0_0.length c0_0))∧(w'.heap[gb153]? = some (.cells #[.slice A0_0 l0_0.length c0_0] 52 (0,0)))∧(w'.heap[gb154]? = some (.cells #[.slice none 0 0] 52 (0,0)))∧(w'.heap[s_]? = some (.cells #[.slice none 0 0] 52 (0,0)))∧(w.heap.size≤s_)∧(w.heap.size≤s_)∧(gb153≠s_)∧(s_≠gb153)∧(gb154≠s_)∧(s_≠gb154)∧(Below w.heap.size w w')) ?_ ?_
           rotate_left
           ·intro hJ9
            refine three_ (i:=2) (j:=8) (k:=9) (Ni:=some 14) (Nj:=some 5) (Nk:=some 6) #[true,true,true,false,false,false,false,false,false,false,false,false,false] #[true,true,false,false,false,false,false,false,true,false,false,false,false] #[true,true,false,false,false,false,false,false,false,true,false,false,false] rfl rfl rfl rfl rfl rfl (three_of HT_.o (by kernel_rfl)) (by decide) (by decide) (by decide) (fun K hK=>?_) (fun K hK=>?_) (fun K hK=>?_)
            ·skip
             refine goR_ Try.func77 #[.int .i64 (l0_0.length:Int)] ?_
             with_reducible refine (Faq.calls k (l0_0.length:Int) t155 _ A2.o).mono ?_
             rintro e w9 ⟨v156,rfl,ho0,hb⟩
             refine ⟨_,rfl,?_⟩
             have HO157:=am (Kd.S_lower (Kd.S_newM (M:=fun k_=>(w.heap.size≤k_)) ho0 (zs_ HB.o) (fun k_ h_=>h_)) (zs_ HB.o));replace BK153:=am (bm_ (zK BK153.o) hb)
             replace BK154:=am (bm_ (zK BK154.o) hb)
             replace HB:=am (bh_ (zB HB.o) hb);(try clear hb);(try clear ho0)
             refine hK.out _ _ ((bo_ BK153.o 0).trans rfl) (fun hHeld=>?_)
             clear hK K
             refine cp_ (a':=?_) ?_ ?_
             rotate_left
             ·show Act.put _ (some 14) _=_
              simp only [Act.put,List.setIfInBounds_toArray,List.set_cons_zero,List.set_cons_succ,bI_,bL_];rfl
             exact nm_ (hJ2 (v156) _ ⟨hHeld,(zS (Kd.cH_ HO157.o (fun _ hk=>hk.1))),(zK BK153.o),(zK BK154.o),(zB HB.o)⟩)
            ·skip
             refine dm_ ?hg (N:=5) ?hd (cs:=#[.slice none 0 0]) (t:=52) ?hr ?_;(case hd=>rfl);(case hg=>rfl);(case hr=>first|(go_simp;done)|(go_simp;rfl))
             intro gb165 hg w9 hbox hb;have BK165:=am (hbox);have GW165:=am ((gw_ hg HB.o:w.heap.size≤gb165))
             have GE165:=am ((gw_ hg HB.o:w.heap.size≤gb165))
             replace HB:=am (bh_ (zB HB.o) hb);have NB153_165:=am ((by rw [hg];exact Nat.ne_of_lt (bw_ (zK BK153.o)):gb153≠gb165))
             have NB165_153:=am ((by rw [hg];exact Nat.ne_of_gt (bw_ (zK BK153.o)):gb165≠gb153))
             replace BK153:=am (bm_ (zK BK153.o) hb)
             have NB154_165:=am ((by rw [hg];exact Nat.ne_of_lt (bw_ (zK BK154.o)):gb154≠gb165))
             have NB165_154:=am ((by rw [hg];exact Nat.ne_of_gt (bw_ (zK BK154.o)):gb165≠gb154))
             replace BK154:=am (bm_ (zK BK154.o) hb)
             clear hb hbox hg
             refine hK.out _ _ ((bo_ BK153.o 0).trans rfl) (fun hHeld=>?_)
             clear hK K
             refine cp_ (a':=?_) ?_ ?_
             rotate_left
             ·show Act.put _ (some 5) _=_
              simp only [Act.put,List.setIfInBounds_toArray,List.set_cons_zero,List.set_cons_succ,bI_,bL_];rfl
             exact nm_ (hJ8 (gb165) _ ⟨hHeld,(zK BK153.o),(zK BK154.o),(zK BK165.o),GW165.o,GE165.o,NB153_165.o,NB165_153.o,NB154_165.o,NB165_154.o,(zB HB.o)⟩)
            ·skip
             refine dm_ ?hg (N:=6) ?hd (cs:=#[.slice none 0 0]) (t:=52) ?hr ?_;(case hd=>rfl);(case hg=>rfl);(case hr=>first|(go_simp;done)|(go_simp;rfl))
             intro gb166 hg w9 hbox hb;have BK166:=am (hbox);have GW166:=am ((gw_ hg HB.o:w.heap.size≤gb166))
             have GE166:=am ((gw_ hg HB.o:w.heap.size≤gb166))
             replace HB:=am (bh_ (zB HB.o) hb);have NB153_166:=am ((by rw [hg];exact Nat.ne_of_lt (bw_ (zK BK153.o)):gb153≠gb166))
             have NB166_153:=am ((by rw [hg];exact Nat.ne_of_gt (bw_ (zK BK153.o)):gb166≠gb153))
             replace BK153:=am (bm_ (zK BK153.o) hb)
             have NB154_166:=am ((by rw [hg];exact Nat.ne_of_lt (bw_ (zK BK154.o)):gb154≠gb166))
             have NB166_154:=am ((by rw [hg];exact Nat.ne_of_gt (bw_ (zK BK154.o)):gb166≠gb154))
             replace BK154:=am (bm_ (zK BK154.o) hb)
             clear hb hbox hg
             refine hK.out _ _ ((bo_ BK153.o 0).trans rfl) (fun hHeld=>?_)
             clear hK K
             refine cp_ (a':=?_) ?_ ?_
             rotate_left
             ·show Act.put _ (some 6) _=_
              simp only [Act.put,List.setIfInBounds_toArray,List.set_cons_zero,List.set_cons_succ,bI_,bL_];rfl
             exact nm_ (hJ9 (gb166) _ ⟨hHeld,(zK BK153.o),(zK BK154.o),(zK BK166.o),GW166.o,GE166.o,NB153_166.o,NB166_153.o,NB154_166.o,NB166_154.o,(zB HB.o)⟩)
           ·skip
            rintro gb166 w10 ⟨hS_,h0_,h1_,h2_,h3_,h4_,h5_,h6_,h7_,h8_,h9_⟩;have n0_:ba_ (w10.heap[gb153]? = some (.cells #[.slice A0_0 l0_0.length c0_0] 52 (0,0))):=⟨h0_⟩;have n1_:ba_ (w10.heap[gb154]? = some (.cells #[.slice none 0 0] 52 (0,0))):=⟨h1_⟩;have n2_:ba_ (w10.heap[gb166]? = some (.cells #[.slice none 0 0] 52 (0,0))):=⟨h2_⟩;have n3_:ba_ (w.heap.size≤gb166):=⟨h3_⟩;have n4_:ba_ (w.heap.size≤gb166):=⟨h4_⟩;have n5_:ba_ (gb153≠gb166):=⟨h5_⟩;have n6_:ba_ (gb166≠gb153):=⟨h6_⟩;have n7_:ba_ (gb154≠gb166):=⟨h7_⟩;have n8_:ba_ (gb166≠gb154):=⟨h8_⟩;have n9_:ba_ (Below w.heap.size w w10):=⟨h9_⟩;clear BK153;clear BK154;clear HB;clear h0_ h1_ h2_ h3_ h4_ h5_ h6_ h7_ h8_ h9_;have BK153:=n0_;have BK154:=n1_;have BK166:=n2_;have GW166:=n3_;have GE166:=n4_;have NB153_166:=n5_;have NB166_153:=n6_;have NB154_166:=n7_;have NB166_154:=n8_;have HB:=n9_;clear n0_ n1_ n2_ n3_ n4_ n5_ n6_ n7_ n8_ n9_;have hHeld:w10.cell? ⟨gb153,0,none⟩=some (.slice A0_0 l0_0.length c0_0):=hS_
            refine cp_ (a':=?_) ?_ ?_
            rotate_left
            ·simp only [putAll,Act.put,List.setIfInBounds_toArray,List.set_cons_zero,List.set_cons_succ]
             rfl
            refine two_ (i:=2) (j:=8) (Ni:=some 14) (Nj:=some 5) #[true,true,true,false,false,false,false,false,false,true,false,false,false] #[true,true,false,false,false,false,false,false,true,true,false,false,false] rfl rfl rfl rfl (two_of HT_.o (by kernel_rfl)) (by decide) (by decide) (fun K hK=>?_) (fun K hK=>?_)
            ·skip
             refine goR_ Try.func77 #[.int .i64 (l0_0.length:Int)] ?_
             with_reducible refine (Faq.calls k (l0_0.length:Int) t155 _ A2.o).mono ?_
             rintro e w11 ⟨v156,rfl,ho0,hb⟩
             refine ⟨_,rfl,?_⟩
             have HO157:=am (Kd.S_lower (Kd.S_newM (M:=fun k_=>(w.heap.size≤k_)) ho0 (zs_ HB.o) (fun k_ h_=>h_)) (zs_ HB.o));replace BK153:=am (bm_ (zK BK153.o) hb)
             replace BK154:=am (bm_ (zK BK154.o) hb)
             replace BK166:=am (bm_ (zK BK166.o) hb)
             replace HB:=am (bh_ (zB HB.o) hb);(try clear hb);(try clear ho0)
             refine hK.out _ _ ((bo_ BK153.o 0).trans rfl) (fun hHeld=>?_)
             clear hK K
             refine cp_ (a':=?_) ?_ ?_
             rotate_left
             ·show Act.put _ (some 14) _=_
              simp only [Act.put,List.setIfInBounds_toArray,List.set_cons_zero,List.set_cons_succ,bI_,bL_];rfl
             exact nm_ (hJ2_9 (v156,gb166) _ ⟨hHeld,(zS (Kd.cH_ HO157.o (fun _ hk=>hk.1))),(zK BK153.o),(zK BK154.o),(zK BK166.o),GW166.o,GE166.o,NB153_166.o,NB166_153.o,NB154_166.o,NB166_154.o,(zB HB.o)⟩)
            ·skip
             refine dm_ ?hg (N:=5) ?hd (cs:=#[.slice none 0 0]) (t:=52) ?hr ?_;(case hd=>rfl);(case hg=>rfl);(case hr=>first|(go_simp;done)|(go_simp;rfl))
             intro gb165 hg w11 hbox hb;have BK165:=am (hbox);have GW165:=am ((gw_ hg HB.o:w.heap.size≤gb165))
             have GE165:=am ((gw_ hg HB.o:w.heap.size≤gb165))
             replace HB:=am (bh_ (zB HB.o) hb);have NB153_165:=am ((by rw [hg];exact Nat.ne_of_lt (bw_ (zK BK153.o)):gb153≠gb165))
             have NB165_153:=am ((by rw [hg];exact Nat.ne_of_gt (bw_ (zK BK153.o)):gb165≠gb153))
             replace BK153:=am (bm_ (zK BK153.o) hb)
             have NB154_165:=am ((by rw [hg];exact Nat.ne_of_lt (bw_ (zK BK154.o)):gb154≠gb165))
             have NB165_154:=am ((by rw [hg];exact Nat.ne_of_gt (bw_ (zK BK154.o)):gb165≠gb154))
             replace BK154:=am (bm_ (zK BK154.o) hb)
             have NB166_165:=am ((by rw [hg];exact Nat.ne_of_lt (bw_ (zK BK166.o)):gb166≠gb165))
             have NB165_166:=am ((by rw [hg];exact Nat.ne_of_gt (bw_ (zK BK166.o)):gb165≠gb166))
             replace BK166:=am (bm_ (zK BK166.o) hb)
             clear hb hbox hg
             refine hK.out _ _ ((bo_ BK153.o 0).trans rfl) (fun hHeld=>?_)
             clear hK K
             refine cp_ (a':=?_) ?_ ?_
             rotate_left
             ·show Act.put _ (some 5) _=_
              simp only [Act.put,List.setIfInBounds_toArray,List.set_cons_zero,List.set_cons_succ,bI_,bL_];rfl
             exact nm_ (hJ8_9 (gb165,gb166) _ ⟨hHeld,(zK BK153.o),(zK BK154.o),(zK BK165.o),(zK BK166.o),GW165.o,GE165.o,NB153_165.o,NB165_153.o,NB154_165.o,NB165_154.o,NB166_165.o,NB165_166.o,GW166.o,GE166.o,NB153_166.o,NB166_153.o,NB154_166.o,NB166_154.o,(zB HB.o)⟩)
          ·skip
           rintro gb165 w10 ⟨hS_,h0_,h1_,h2_,h3_,h4_,h5_,h6_,h7_,h8_,h9_⟩;have n0_:ba_ (w10.heap[gb153]? = some (.cells #[.slice A0_0 l0_0.length c0_0] 52 (0,0))):=⟨h0_⟩;have n1_:ba_ (w10.heap[gb154]? = some (.cells #[.slice none 0 0] 52 (0,0))):=⟨h1_⟩;have n2_:ba_ (w10.heap[gb165]? = some (.cells #[.slice none 0 0] 52 (0,0))):=⟨h2_⟩;have n3_:ba_ (w.heap.size≤gb165):=⟨h3_⟩;have n4_:ba_ (w.heap.size≤gb165):=⟨h4_⟩;have n5_:ba_ (gb153≠gb165):=⟨h5_⟩;have n6_:ba_ (gb165≠gb153):=⟨h6_⟩;have n7_:ba_ (gb154≠gb165):=⟨h7_⟩;have n8_:ba_ (gb165≠gb154):=⟨h8_⟩;have n9_:ba_ (Below w.heap.size w w10):=⟨h9_⟩;clear BK153;clear BK154;clear HB;clear h0_ h1_ h2_ h3_ h4_ h5_ h6_ h7_ h8_ h9_;have BK153:=n0_;have BK154:=n1_;have BK165:=n2_;have GW165:=n3_;have GE165:=n4_;have NB153_165:=n5_;have NB165_153:=n6_;have NB154_165:=n7_;have NB165_154:=n8_;have HB:=n9_;clear n0_ n1_ n2_ n3_ n4_ n5_ n6_ n7_ n8_ n9_;have hHeld:w10.cell? ⟨gb153,0,none⟩=some (.slice A0_0 l0_0.length c0_0):=hS_
           refine cp_ (a':=?_) ?_ ?_
           rotate_left
           ·simp only [putAll,Act.put,List.setIfInBounds_toArray,List.set_cons_zero,List.set_cons_succ]
            rfl
           refine two_ (i:=2) (j:=9) (Ni:=some 14) (Nj:=some 6) #[true,true,true,false,false,false,false,false,true,false,false,false,false] #[true,true,false,false,false,false,false,false,true,true,false,false,false] rfl rfl rfl rfl (two_of HT_.o (by kernel_rfl)) (by decide) (by decide) (fun K hK=>?_) (fun K hK=>?_)
           ·skip
            refine goR_ Try.func77 #[.int .i64 (l0_0.length:Int)] ?_
            with_reducible refine (Faq.calls k (l0_0.length:Int) t155 _ A2.o).mono ?_
            rintro e w11 ⟨v156,rfl,ho0,hb⟩
            refine ⟨_,rfl,?_⟩
            have HO157:=am (Kd.S_lower (Kd.S_newM (M:=fun k_=>(w.heap.size≤k_)) ho0 (zs_ HB.o) (fun k_ h_=>h_)) (zs_ HB.o));replace BK153:=am (bm_ (zK BK153.o) hb)
            replace BK154:=am (bm_ (zK BK154.o) hb)
            replace BK165:=am (bm_ (zK BK165.o) hb)
            replace HB:=am (bh_ (zB HB.o) hb);(try clear hb);(try clear ho0)
            refine hK.out _ _ ((bo_ BK153.o 0).trans rfl) (fun hHeld=>?_)
            clear hK K
            refine cp_ (a':=?_) ?_ ?_
            rotate_left
            ·show Act.put _ (some 14) _=_
             simp only [Act.put,List.setIfInBounds_toArray,List.set_cons_zero,List.set_cons_succ,bI_,bL_];rfl
            exact nm_ (hJ2_8 (v156,gb165) _ ⟨hHeld,(zS (Kd.cH_ HO157.o (fun _ hk=>hk.1))),(zK BK153.o),(zK BK154.o),(zK BK165.o),GW165.o,GE165.o,NB153_165.o,NB165_153.o,NB154_165.o,NB165_154.o,(zB HB.o)⟩)
           ·skip
            refine dm_ ?hg (N:=6) ?hd (cs:=#[.slice none 0 0]) (t:=52) ?hr ?_;(case hd=>rfl);(case hg=>rfl);(case hr=>first|(go_simp;done)|(go_simp;rfl))
            intro gb166 hg w11 hbox hb;have BK166:=am (hbox);have GW166:=am ((gw_ hg HB.o:w.heap.size≤gb166))
            have GE166:=am ((gw_ hg HB.o:w.heap.size≤gb166))
            replace HB:=am (bh_ (zB HB.o) hb);have NB153_166:=am ((by rw [hg];exact Nat.ne_of_lt (bw_ (zK BK153.o)):gb153≠gb166))
            have NB166_153:=am ((by rw [hg];exact Nat.ne_of_gt (bw_ (zK BK153.o)):gb166≠gb153))
            replace BK153:=am (bm_ (zK BK153.o) hb)
            have NB154_166:=am ((by rw [hg];exact Nat.ne_of_lt (bw_ (zK BK154.o)):gb154≠gb166))
            have NB166_154:=am ((by rw [hg];exact Nat.ne_of_gt (bw_ (zK BK154.o)):gb166≠gb154))
            replace BK154:=am (bm_ (zK BK154.o) hb)
            have NB165_166:=am ((by rw [hg];exact Nat.ne_of_lt (bw_ (zK BK165.o)):gb165≠gb166))
            have NB166_165:=am ((by rw [hg];exact Nat.ne_of_gt (bw_ (zK BK165.o)):gb166≠gb165))
            replace BK165:=am (bm_ (zK BK165.o) hb)
            clear hb hbox hg
            refine hK.out _ _ ((bo_ BK153.o 0).trans rfl) (fun hHeld=>?_)
            clear hK K
            refine cp_ (a':=?_) ?_ ?_
            rotate_left
            ·show Act.put _ (some 6) _=_
             simp only [Act.put,List.setIfInBounds_toArray,List.set_cons_zero,List.set_cons_succ,bI_,bL_];rfl
            exact nm_ (hJ8_9 (gb165,gb166) _ ⟨hHeld,(zK BK153.o),(zK BK154.o),(zK BK165.o),(zK BK166.o),GW165.o,GE165.o,NB153_165.o,NB165_153.o,NB154_165.o,NB165_154.o,NB166_165.o,NB165_166.o,GW166.o,GE166.o,NB153_166.o,NB166_153.o,NB154_166.o,NB166_154.o,(zB HB.o)⟩)
         ·skip
          rintro v156 w10 ⟨hS_,h0_,h1_,h2_,h3_⟩;have n0_:ba_ (Kd.S (Kd.slice 5 (Kd.int .u8)) 22 w10 w.heap.size (fun k_=>(w.heap.size≤k_)) v156 t155):=⟨h0_⟩;have n1_:ba_ (w10.heap[gb153]? = some (.cells #[.slice A0_0 l0_0.length c0_0] 52 (0,0))):=⟨h1_⟩;have n2_:ba_ (w10.heap[gb154]? = some (.cells #[.slice none 0 0] 52 (0,0))):=⟨h2_⟩;have n3_:ba_ (Below w.heap.size w w10):=⟨h3_⟩;clear BK153;clear BK154;clear HB;clear h0_ h1_ h2_ h3_;have HO157:=n0_;have BK153:=n1_;have BK154:=n2_;have HB:=n3_;clear n0_ n1_ n2_ n3_;have hHeld:w10.cell? ⟨gb153,0,none⟩=some (.slice A0_0 l0_0.length c0_0):=hS_;obtain ⟨Ao11,co11,eo11⟩:=Kd.cP_ HO157.o
          (first|subst eo11|(injection eo11 with f1_ f2_ f3_;have f4_:=f1_.symm;have f5_:=f3_.symm;clear f1_ f2_ f3_;subst f4_;subst f5_))
          refine cp_ (a':=?_) ?_ ?_
          rotate_left
          ·simp only [putAll,Act.put,List.setIfInBounds_toArray,List.set_cons_zero,List.set_cons_succ]
           rfl
          refine three_ (i:=3) (j:=8) (k:=9) (Ni:=some 15) (Nj:=some 5) (Nk:=some 6) #[true,true,true,true,false,false,false,false,false,false,false,false,false] #[true,true,true,false,false,false,false,false,true,false,false,false,false] #[true,true,true,false,false,false,false,false,false,true,false,false,false] rfl rfl rfl rfl rfl rfl (three_of HT_.o (by kernel_rfl)) (by decide) (by decide) (by decide) (fun K hK=>?_) (fun K hK=>?_) (fun K hK=>?_)
          ·skip
           refine goR_ Try.func76 #[.agg #[.slice A0_0 l0_0.length c0_0],.agg #[.slice Ao11 t155.length co11]] ?_
           with_reducible refine (Fb.calls k _ _ l0_0 _ _ t155 t158 t161 t164 _ ?side1 ?side2 ?side3 ?side4 A3.o).mono ?_
           (case side1=>exact zC (Kd.bH_ HR0_0.o HB.o))
           (case side2=>exact HC0_0.o)
           (case side3=>exact zC ((Kd.cl_ HO157.o).2.2))
           (case side4=>exact (Kd.cl_ HO157.o).2.1)
           rintro e w12 ⟨v159,v162,rfl,ho0,ho1,hb⟩
           refine ⟨_,rfl,?_⟩
           have HO160:=am (Kd.dw_ (Kd.bJ_ (ok':=fun k_=>(w.heap.size≤k_)∧some k_≠(.slice Ao11 t155.length co11:Value).ownBlock∧k_≠gb153∧k_≠gb154) (Kd.dx_ ho0) (fun k_ hk0_=>have hk_:=And.intro trivial hk0_;⟨(Nat.le_trans (zs_ HB.o) hk_.2.1),(Kd.fresh' (Kd.S_lt (zS HO157.o)) k_ hk_.2.1),(Kd.freshB (zK BK153.o) k_ hk_.2.1),(Kd.freshB (zK BK154.o) k_ hk_.2.1)⟩)) (zs_ HB.o))
           have HO163:=am (Kd.dw_ (Kd.bJ_ (ok':=fun k_=>(w.heap.size≤k_)∧some k_≠(.slice Ao11 t155.length co11:Value).ownBlock∧k_≠gb153∧k_≠gb154) (Kd.dx_ ho1) (fun k_ hk0_=>have hk_:=And.intro trivial hk0_;⟨(Nat.le_trans (zs_ HB.o) hk_.2.1),(Kd.fresh' (Kd.S_lt (zS HO157.o)) k_ hk_.2.1),(Kd.freshB (zK BK153.o) k_ hk_.2.1),(Kd.freshB (zK BK154.o) k_ hk_.2.1)⟩)) (zs_ HB.o))
           replace HO157:=am (Kd.cC_ (zS HO157.o) hb)
           replace BK153:=am (bm_ (zK BK153.o) hb)
           replace BK154:=am (bm_ (zK BK154.o) hb)
           replace HB:=am (bh_ (zB HB.o) hb);(try clear hb);(try clear ho0);(try clear ho1)
           refine hK.out _ _ ((bo_ BK153.o 0).trans rfl) (fun hHeld=>?_)
           clear hK K
           refine cp_ (a':=?_) ?_ ?_
           rotate_left
           ·show Act.put _ (some 15) _=_
            simp only [Act.put,List.setIfInBounds_toArray,List.set_cons_zero,List.set_cons_succ,bI_,bL_];rfl
           refine pu_ (i:=4) (some 11) #[true,true,true,true,true,false,false,false,false,false,false,false,false] HT_ ?_
           refine pu_ (i:=5) (some 16) #[true,true,true,true,true,true,false,false,false,false,false,false,false] HT_ ?_
           refine pu_ (i:=6) (some 17) #[true,true,true,true,true,true,true,false,false,false,false,false,false] HT_ ?_
           refine pu_ (i:=7) (some 18) #[true,true,true,true,true,true,true,true,false,false,false,false,false] HT_ ?_
           exact nm_ (hJ2_3 (.slice Ao11 t155.length co11,v159,v162) _ ⟨hHeld,(zS HO157.o),(zV HO160.o),(zV HO163.o),(zK BK153.o),(zK BK154.o),(zB HB.o)⟩)
          ·skip
           refine dm_ ?hg (N:=5) ?hd (cs:=#[.slice none 0 0]) (t:=52) ?hr ?_;(case hd=>rfl);(case hg=>rfl);(case hr=>first|(go_simp;done)|(go_simp;rfl))
           intro gb165 hg w11 hbox hb;replace HO157:=am (Kd.cC_ (zS HO157.o) hb)
           have BK165:=am (hbox);have GW165:=am ((gw_ hg HB.o:w.heap.size≤gb165))
           have GE165:=am ((gw_ hg HB.o:w.heap.size≤gb165))
           replace HB:=am (bh_ (zB HB.o) hb);have NB153_165:=am ((by rw [hg];exact Nat.ne_of_lt (bw_ (zK BK153.o)):gb153≠gb165))
           have NB165_153:=am ((by rw [hg];exact Nat.ne_of_gt (bw_ (zK BK153.o)):gb165≠gb153))
           replace BK153:=am (bm_ (zK BK153.o) hb)
           have NB154_165:=am ((by rw [hg];exact Nat.ne_of_lt (bw_ (zK BK154.o)):gb154≠gb165))
           have NB165_154:=am ((by rw [hg];exact Nat.ne_of_gt (bw_ (zK BK154.o)):gb165≠gb154))
           replace BK154:=am (bm_ (zK BK154.o) hb)
           clear hb hbox hg
           refine hK.out _ _ ((bo_ BK153.o 0).trans rfl) (fun hHeld=>?_)
           clear hK K
           refine cp_ (a':=?_) ?_ ?_
           rotate_left
           ·show Act.put _ (some 5) _=_
            simp only [Act.put,List.setIfInBounds_toArray,List.set_cons_zero,List.set_cons_succ,bI_,bL_];rfl
           exact nm_ (hJ2_8 ((.slice Ao11 t155.length co11),gb165) _ ⟨hHeld,(zS HO157.o),(zK BK153.o),(zK BK154.o),(zK BK165.o),GW165.o,GE165.o,NB153_165.o,NB165_153.o,NB154_165.o,NB165_154.o,(zB HB.o)⟩)
          ·skip
           refine dm_ ?hg (N:=6) ?hd (cs:=#[.slice none 0 0]) (t:=52) ?hr ?_;(case hd=>rfl);(case hg=>rfl);(case hr=>first|(go_simp;done)|(go_simp;rfl))
           intro gb166 hg w11 hbox hb;replace HO157:=am (Kd.cC_ (zS HO157.o) hb)
           have BK166:=am (hbox);have GW166:=am ((gw_ hg HB.o:w.heap.size≤gb166))
           have GE166:=am ((gw_ hg HB.o:w.heap.size≤gb166))
           replace HB:=am (bh_ (zB HB.o) hb);have NB153_166:=am ((by rw [hg];exact Nat.ne_of_lt (bw_ (zK BK153.o)):gb153≠gb166))
           have NB166_153:=am ((by rw [hg];exact Nat.ne_of_gt (bw_ (zK BK153.o)):gb166≠gb153))
           replace BK153:=am (bm_ (zK BK153.o) hb)
           have NB154_166:=am ((by rw [hg];exact Nat.ne_of_lt (bw_ (zK BK154.o)):gb154≠gb166))
           have NB166_154:=am ((by rw [hg];exact Nat.ne_of_gt (bw_ (zK BK154.o)):gb166≠gb154))
           replace BK154:=am (bm_ (zK BK154.o) hb)
           clear hb hbox hg
           refine hK.out _ _ ((bo_ BK153.o 0).trans rfl) (fun hHeld=>?_)
           clear hK K
           refine cp_ (a':=?_) ?_ ?_
           rotate_left
           ·show Act.put _ (some 6) _=_
            simp only [Act.put,List.setIfInBounds_toArray,List.set_cons_zero,List.set_cons_succ,bI_,bL_];rfl
           exact nm_ (hJ2_9 ((.slice Ao11 t155.length co11),gb166) _ ⟨hHeld,(zS HO157.o),(zK BK153.o),(zK BK154.o),(zK BK166.o),GW166.o,GE166.o,NB153_166.o,NB166_153.o,NB154_166.o,NB166_154.o,(zB HB.o)⟩)
        ·skip
         rintro ⟨gb165,gb166⟩ w11 ⟨hS_,h0_,h1_,h2_,h3_,h4_,h5_,h6_,h7_,h8_,h9_,h10_,h11_,h12_,h13_,h14_,h15_,h16_,h17_,h18_⟩;have n0_:ba_ (w11.heap[gb153]? = some (.cells #[.slice A0_0 l0_0.length c0_0] 52 (0,0))):=⟨h0_⟩;have n1_:ba_ (w11.heap[gb154]? = some (.cells #[.slice none 0 0] 52 (0,0))):=⟨h1_⟩;have n2_:ba_ (w11.heap[gb165]? = some (.cells #[.slice none 0 0] 52 (0,0))):=⟨h2_⟩;have n3_:ba_ (w11.heap[gb166]? = some (.cells #[.slice none 0 0] 52 (0,0))):=⟨h3_⟩;have n4_:ba_ (w.heap.size≤gb165):=⟨h4_⟩;have n5_:ba_ (w.heap.size≤gb165):=⟨h5_⟩;have n6_:ba_ (gb153≠gb165):=⟨h6_⟩;have n7_:ba_ (gb165≠gb153):=⟨h7_⟩;have n8_:ba_ (gb154≠gb165):=⟨h8_⟩;have n9_:ba_ (gb165≠gb154):=⟨h9_⟩;have n10_:ba_ (gb166≠gb165):=⟨h10_⟩;have n11_:ba_ (gb165≠gb166):=⟨h11_⟩;have n12_:ba_ (w.heap.size≤gb166):=⟨h12_⟩;have n13_:ba_ (w.heap.size≤gb166):=⟨h13_⟩;have n14_:ba_ (gb153≠gb166):=⟨h14_⟩;have n15_:ba_ (gb166≠gb153):=⟨h15_⟩;have n16_:ba_ (gb154≠gb166):=⟨h16_⟩;have n17_:ba_ (gb166≠gb154):=⟨h17_⟩;have n18_:ba_ (Below w.heap.size w w11):=⟨h18_⟩;clear BK153;clear BK154;clear HB;clear h0_ h1_ h2_ h3_ h4_ h5_ h6_ h7_ h8_ h9_ h10_ h11_ h12_ h13_ h14_ h15_ h16_ h17_ h18_;have BK153:=n0_;have BK154:=n1_;have BK165:=n2_;have BK166:=n3_;have GW165:=n4_;have GE165:=n5_;have NB153_165:=n6_;have NB165_153:=n7_;have NB154_165:=n8_;have NB165_154:=n9_;have NB166_165:=n10_;have NB165_166:=n11_;have GW166:=n12_;have GE166:=n13_;have NB153_166:=n14_;have NB166_153:=n15_;have NB154_166:=n16_;have NB166_154:=n17_;have HB:=n18_;clear n0_ n1_ n2_ n3_ n4_ n5_ n6_ n7_ n8_ n9_ n10_ n11_ n12_ n13_ n14_ n15_ n16_ n17_ n18_;have hHeld:w11.cell? ⟨gb153,0,none⟩=some (.slice A0_0 l0_0.length c0_0):=hS_
         refine cp_ (a':=?_) ?_ ?_
         rotate_left
         ·simp only [putAll,Act.put,List.setIfInBounds_toArray,List.set_cons_zero,List.set_cons_succ]
          rfl
         refine one_ (i:=2) (N:=some 14) #[true,true,true,false,false,false,false,false,true,true,false,false,false] rfl rfl (bZ_ HT_.o (by kernel_rfl)) (by decide) (fun K hK=>?_)
         refine goR_ Try.func77 #[.int .i64 (l0_0.length:Int)] ?_
         with_reducible refine (Faq.calls k (l0_0.length:Int) t155 _ A2.o).mono ?_
         rintro e w12 ⟨v156,rfl,ho0,hb⟩
         refine ⟨_,rfl,?_⟩
         have HO157:=am (Kd.S_lower (Kd.S_newM (M:=fun k_=>(w.heap.size≤k_)) ho0 (zs_ HB.o) (fun k_ h_=>h_)) (zs_ HB.o));replace BK153:=am (bm_ (zK BK153.o) hb)
         replace BK154:=am (bm_ (zK BK154.o) hb)
         replace BK165:=am (bm_ (zK BK165.o) hb)
         replace BK166:=am (bm_ (zK BK166.o) hb)
         replace HB:=am (bh_ (zB HB.o) hb);(try clear hb);(try clear ho0)
         refine hK.out _ _ ((bo_ BK153.o 0).trans rfl) (fun hHeld=>?_)
         clear hK K
         refine cp_ (a':=?_) ?_ ?_
         rotate_left
         ·show Act.put _ (some 14) _=_
          simp only [Act.put,List.setIfInBounds_toArray,List.set_cons_zero,List.set_cons_succ,bI_,bL_];rfl
         exact nm_ (hJ2_8_9 (v156,gb165,gb166) _ ⟨hHeld,(zS (Kd.cH_ HO157.o (fun _ hk=>hk.1))),(zK BK153.o),(zK BK154.o),(zK BK165.o),(zK BK166.o),GW165.o,GE165.o,NB153_165.o,NB165_153.o,NB154_165.o,NB165_154.o,NB166_165.o,NB165_166.o,GW166.o,GE166.o,NB153_166.o,NB166_153.o,NB154_166.o,NB166_154.o,(zB HB.o)⟩)
       ·skip
        rintro ⟨v156,gb166⟩ w11 ⟨hS_,h0_,h1_,h2_,h3_,h4_,h5_,h6_,h7_,h8_,h9_,h10_⟩;have n0_:ba_ (Kd.S (Kd.slice 5 (Kd.int .u8)) 22 w11 w.heap.size (fun k_=>(w.heap.size≤k_)) v156 t155):=⟨h0_⟩;have n1_:ba_ (w11.heap[gb153]? = some (.cells #[.slice A0_0 l0_0.length c0_0] 52 (0,0))):=⟨h1_⟩;have n2_:ba_ (w11.heap[gb154]? = some (.cells #[.slice none 0 0] 52 (0,0))):=⟨h2_⟩;have n3_:ba_ (w11.heap[gb166]? = some (.cells #[.slice none 0 0] 52 (0,0))):=⟨h3_⟩;have n4_:ba_ (w.heap.size≤gb166):=⟨h4_⟩;have n5_:ba_ (w.heap.size≤gb166):=⟨h5_⟩;have n6_:ba_ (gb153≠gb166):=⟨h6_⟩;have n7_:ba_ (gb166≠gb153):=⟨h7_⟩;have n8_:ba_ (gb154≠gb166):=⟨h8_⟩;have n9_:ba_ (gb166≠gb154):=⟨h9_⟩;have n10_:ba_ (Below w.heap.size w w11):=⟨h10_⟩;clear BK153;clear BK154;clear HB;clear h0_ h1_ h2_ h3_ h4_ h5_ h6_ h7_ h8_ h9_ h10_;have HO157:=n0_;have BK153:=n1_;have BK154:=n2_;have BK166:=n3_;have GW166:=n4_;have GE166:=n5_;have NB153_166:=n6_;have NB166_153:=n7_;have NB154_166:=n8_;have NB166_154:=n9_;have HB:=n10_;clear n0_ n1_ n2_ n3_ n4_ n5_ n6_ n7_ n8_ n9_ n10_;have hHeld:w11.cell? ⟨gb153,0,none⟩=some (.slice A0_0 l0_0.length c0_0):=hS_;obtain ⟨Ao12,co12,eo12⟩:=Kd.cP_ HO157.o
        (first|subst eo12|(injection eo12 with f1_ f2_ f3_;have f4_:=f1_.symm;have f5_:=f3_.symm;clear f1_ f2_ f3_;subst f4_;subst f5_))
        refine cp_ (a':=?_) ?_ ?_
        rotate_left
        ·simp only [putAll,Act.put,List.setIfInBounds_toArray,List.set_cons_zero,List.set_cons_succ]
         rfl
        refine two_ (i:=3) (j:=8) (Ni:=some 15) (Nj:=some 5) #[true,true,true,true,false,false,false,false,false,true,false,false,false] #[true,true,true,false,false,false,false,false,true,true,false,false,false] rfl rfl rfl rfl (two_of HT_.o (by kernel_rfl)) (by decide) (by decide) (fun K hK=>?_) (fun K hK=>?_)
        ·skip
         refine goR_ Try.func76 #[.agg #[.slice A0_0 l0_0.length c0_0],.agg #[.slice Ao12 t155.length co12]] ?_
         with_reducible refine (Fb.calls k _ _ l0_0 _ _ t155 t158 t161 t164 _ ?side1 ?side2 ?side3 ?side4 A3.o).mono ?_
         (case side1=>exact zC (Kd.bH_ HR0_0.o HB.o))
         (case side2=>exact HC0_0.o)
         (case side3=>exact zC ((Kd.cl_ HO157.o).2.2))
         (case side4=>exact (Kd.cl_ HO157.o).2.1)
         rintro e w13 ⟨v159,v162,rfl,ho0,ho1,hb⟩
         refine ⟨_,rfl,?_⟩
         have HO160:=am (Kd.dw_ (Kd.bJ_ (ok':=fun k_=>(w.heap.size≤k_)∧some k_≠(.slice Ao12 t155.length co12:Value).ownBlock∧k_≠gb153∧k_≠gb154∧k_≠gb166) (Kd.dx_ ho0) (fun k_ hk0_=>have hk_:=And.intro trivial hk0_;⟨(Nat.le_trans (zs_ HB.o) hk_.2.1),(Kd.fresh' (Kd.S_lt (zS HO157.o)) k_ hk_.2.1),(Kd.freshB (zK BK153.o) k_ hk_.2.1),(Kd.freshB (zK BK154.o) k_ hk_.2.1),(Kd.freshB (zK BK166.o) k_ hk_.2.1)⟩)) (zs_ HB.o))
         have HO163:=am (Kd.dw_ (Kd.bJ_ (ok':=fun k_=>(w.heap.size≤k_)∧some k_≠(.slice Ao12 t155.length co12:Value).ownBlock∧k_≠gb153∧k_≠gb154∧k_≠gb166) (Kd.dx_ ho1) (fun k_ hk0_=>have hk_:=And.intro trivial hk0_;⟨(Nat.le_trans (zs_ HB.o) hk_.2.1),(Kd.fresh' (Kd.S_lt (zS HO157.o)) k_ hk_.2.1),(Kd.freshB (zK BK153.o) k_ hk_.2.1),(Kd.freshB (zK BK154.o) k_ hk_.2.1),(Kd.freshB (zK BK166.o) k_ hk_.2.1)⟩)) (zs_ HB.o))
         replace HO157:=am (Kd.cC_ (zS HO157.o) hb)
         replace BK153:=am (bm_ (zK BK153.o) hb)
         replace BK154:=am (bm_ (zK BK154.o) hb)
         replace BK166:=am (bm_ (zK BK166.o) hb)
         replace HB:=am (bh_ (zB HB.o) hb);(try clear hb);(try clear ho0);(try clear ho1)
         refine hK.out _ _ ((bo_ BK153.o 0).trans rfl) (fun hHeld=>?_)
         clear hK K
         refine cp_ (a':=?_) ?_ ?_
         rotate_left
         ·show Act.put _ (some 15) _=_
          simp only [Act.put,List.setIfInBounds_toArray,List.set_cons_zero,List.set_cons_succ,bI_,bL_];rfl
         refine pu_ (i:=4) (some 11) #[true,true,true,true,true,false,false,false,false,true,false,false,false] HT_ ?_
         refine pu_ (i:=5) (some 16) #[true,true,true,true,true,true,false,false,false,true,false,false,false] HT_ ?_
         refine pu_ (i:=6) (some 17) #[true,true,true,true,true,true,true,false,false,true,false,false,false] HT_ ?_
         refine pu_ (i:=7) (some 18) #[true,true,true,true,true,true,true,true,false,true,false,false,false] HT_ ?_
         exact nm_ (hJ2_3_9 (.slice Ao12 t155.length co12,v159,v162,gb166) _ ⟨hHeld,(zS HO157.o),(zV HO160.o),(zV HO163.o),(zK BK153.o),(zK BK154.o),(zK BK166.o),GW166.o,GE166.o,NB153_166.o,NB166_153.o,NB154_166.o,NB166_154.o,(zB HB.o)⟩)
        ·skip
         refine dm_ ?hg (N:=5) ?hd (cs:=#[.slice none 0 0]) (t:=52) ?hr ?_;(case hd=>rfl);(case hg=>rfl);(case hr=>first|(go_simp;done)|(go_simp;rfl))
         intro gb165 hg w12 hbox hb;replace HO157:=am (Kd.cC_ (zS HO157.o) hb)
         have BK165:=am (hbox);have GW165:=am ((gw_ hg HB.o:w.heap.size≤gb165))
         have GE165:=am ((gw_ hg HB.o:w.heap.size≤gb165))
         replace HB:=am (bh_ (zB HB.o) hb);have NB153_165:=am ((by rw [hg];exact Nat.ne_of_lt (bw_ (zK BK153.o)):gb153≠gb165))
         have NB165_153:=am ((by rw [hg];exact Nat.ne_of_gt (bw_ (zK BK153.o)):gb165≠gb153))
         replace BK153:=am (bm_ (zK BK153.o) hb)
         have NB154_165:=am ((by rw [hg];exact Nat.ne_of_lt (bw_ (zK BK154.o)):gb154≠gb165))
         have NB165_154:=am ((by rw [hg];exact Nat.ne_of_gt (bw_ (zK BK154.o)):gb165≠gb154))
         replace BK154:=am (bm_ (zK BK154.o) hb)
         have NB166_165:=am ((by rw [hg];exact Nat.ne_of_lt (bw_ (zK BK166.o)):gb166≠gb165))
         have NB165_166:=am ((by rw [hg];exact Nat.ne_of_gt (bw_ (zK BK166.o)):gb165≠gb166))
         replace BK166:=am (bm_ (zK BK166.o) hb)
         clear hb hbox hg
         refine hK.out _ _ ((bo_ BK153.o 0).trans rfl) (fun hHeld=>?_)
         clear hK K
         refine cp_ (a':=?_) ?_ ?_
         rotate_left
         ·show Act.put _ (some 5) _=_
          simp only [Act.put,List.setIfInBounds_toArray,List.set_cons_zero,List.set_cons_succ,bI_,bL_];rfl
         exact nm_ (hJ2_8_9 ((.slice Ao12 t155.length co12),gb165,gb166) _ ⟨hHeld,(zS HO157.o),(zK BK153.o),(zK BK154.o),(zK BK165.o),(zK BK166.o),GW165.o,GE165.o,NB153_165.o,NB165_153.o,NB154_165.o,NB165_154.o,NB166_165.o,NB165_166.o,GW166.o,GE166.o,NB153_166.o,NB166_153.o,NB154_166.o,NB166_154.o,(zB HB.o)⟩)
      ·skip
       rintro ⟨v156,gb165⟩ w11 ⟨hS_,h0_,h1_,h2_,h3_,h4_,h5_,h6_,h7_,h8_,h9_,h10_⟩;have n0_:ba_ (Kd.S (Kd.slice 5 (Kd.int .u8)) 22 w11 w.heap.size (fun k_=>(w.heap.size≤k_)) v156 t155):=⟨h0_⟩;have n1_:ba_ (w11.heap[gb153]? = some (.cells #[.slice A0_0 l0_0.length c0_0] 52 (0,0))):=⟨h1_⟩;have n2_:ba_ (w11.heap[gb154]? = some (.cells #[.slice none 0 0] 52 (0,0))):=⟨h2_⟩;have n3_:ba_ (w11.heap[gb165]? = some (.cells #[.slice none 0 0] 52 (0,0))):=⟨h3_⟩;have n4_:ba_ (w.heap.size≤gb165):=⟨h4_⟩;have n5_:ba_ (w.heap.size≤gb165):=⟨h5_⟩;have n6_:ba_ (gb153≠gb165):=⟨h6_⟩;have n7_:ba_ (gb165≠gb153):=⟨h7_⟩;have n8_:ba_ (gb154≠gb165):=⟨h8_⟩;have n9_:ba_ (gb165≠gb154):=⟨h9_⟩;have n10_:ba_ (Below w.heap.size w w11):=⟨h10_⟩;clear BK153;clear BK154;clear HB;clear h0_ h1_ h2_ h3_ h4_ h5_ h6_ h7_ h8_ h9_ h10_;have HO157:=n0_;have BK153:=n1_;have BK154:=n2_;have BK165:=n3_;have GW165:=n4_;have GE165:=n5_;have NB153_165:=n6_;have NB165_153:=n7_;have NB154_165:=n8_;have NB165_154:=n9_;have HB:=n10_;clear n0_ n1_ n2_ n3_ n4_ n5_ n6_ n7_ n8_ n9_ n10_;have hHeld:w11.cell? ⟨gb153,0,none⟩=some (.slice A0_0 l0_0.length c0_0):=hS_;obtain ⟨Ao12,co12,eo12⟩:=Kd.cP_ HO157.o
       (first|subst eo12|(injection eo12 with f1_ f2_ f3_;have f4_:=f1_.symm;have f5_:=f3_.symm;clear f1_ f2_ f3_;subst f4_;subst f5_))
       refine cp_ (a':=?_) ?_ ?_
       rotate_left
       ·simp only [putAll,Act.put,List.setIfInBounds_toArray,List.set_cons_zero,List.set_cons_succ]
        rfl
       refine two_ (i:=3) (j:=9) (Ni:=some 15) (Nj:=some 6) #[true,true,true,true,false,false,false,false,true,false,false,false,false] #[true,true,true,false,false,false,false,false,true,true,false,false,false] rfl rfl rfl rfl (two_of HT_.o (by kernel_rfl)) (by decide) (by decide) (fun K hK=>?_) (fun K hK=>?_)
       ·skip
        refine goR_ Try.func76 #[.agg #[.slice A0_0 l0_0.length c0_0],.agg #[.slice Ao12 t155.length co12]] ?_
        with_reducible refine (Fb.calls k _ _ l0_0 _ _ t155 t158 t161 t164 _ ?side1 ?side2 ?side3 ?side4 A3.o).mono ?_
        (case side1=>exact zC (Kd.bH_ HR0_0.o HB.o))
        (case side2=>exact HC0_0.o)
        (case side3=>exact zC ((Kd.cl_ HO157.o).2.2))
        (case side4=>exact (Kd.cl_ HO157.o).2.1)
        rintro e w13 ⟨v159,v162,rfl,ho0,ho1,hb⟩
        refine ⟨_,rfl,?_⟩
        have HO160:=am (Kd.dw_ (Kd.bJ_ (ok':=fun k_=>(w.heap.size≤k_)∧some k_≠(.slice Ao12 t155.length co12:Value).ownBlock∧k_≠gb153∧k_≠gb154∧k_≠gb165) (Kd.dx_ ho0) (fun k_ hk0_=>have hk_:=And.intro trivial hk0_;⟨(Nat.le_trans (zs_ HB.o) hk_.2.1),(Kd.fresh' (Kd.S_lt (zS HO157.o)) k_ hk_.2.1),(Kd.freshB (zK BK153.o) k_ hk_.2.1),(Kd.freshB (zK BK154.o) k_ hk_.2.1),(Kd.freshB (zK BK165.o) k_ hk_.2.1)⟩)) (zs_ HB.o))
        have HO163:=am (Kd.dw_ (Kd.bJ_ (ok':=fun k_=>(w.heap.size≤k_)∧some k_≠(.slice Ao12 t155.length co12:Value).ownBlock∧k_≠gb153∧k_≠gb154∧k_≠gb165) (Kd.dx_ ho1) (fun k_ hk0_=>have hk_:=And.intro trivial hk0_;⟨(Nat.le_trans (zs_ HB.o) hk_.2.1),(Kd.fresh' (Kd.S_lt (zS HO157.o)) k_ hk_.2.1),(Kd.freshB (zK BK153.o) k_ hk_.2.1),(Kd.freshB (zK BK154.o) k_ hk_.2.1),(Kd.freshB (zK BK165.o) k_ hk_.2.1)⟩)) (zs_ HB.o))
        replace HO157:=am (Kd.cC_ (zS HO157.o) hb)
        replace BK153:=am (bm_ (zK BK153.o) hb)
        replace BK154:=am (bm_ (zK BK154.o) hb)
        replace BK165:=am (bm_ (zK BK165.o) hb)
        replace HB:=am (bh_ (zB HB.o) hb);(try clear hb);(try clear ho0);(try clear ho1)
        refine hK.out _ _ ((bo_ BK153.o 0).trans rfl) (fun hHeld=>?_)
        clear hK K
        refine cp_ (a':=?_) ?_ ?_
        rotate_left
        ·show Act.put _ (some 15) _=_
         simp only [Act.put,List.setIfInBounds_toArray,List.set_cons_zero,List.set_cons_succ,bI_,bL_];rfl
        refine pu_ (i:=4) (some 11) #[true,true,true,true,true,false,false,false,true,false,false,false,false] HT_ ?_
        refine pu_ (i:=5) (some 16) #[true,true,true,true,true,true,false,false,true,false,false,false,false] HT_ ?_
        refine pu_ (i:=6) (some 17) #[true,true,true,true,true,true,true,false,true,false,false,false,false] HT_ ?_
        refine pu_ (i:=7) (some 18) #[true,true,true,true,true,true,true,true,true,false,false,false,false] HT_ ?_
        exact nm_ (hJ2_3_8 (.slice Ao12 t155.length co12,v159,v162,gb165) _ ⟨hHeld,(zS HO157.o),(zV HO160.o),(zV HO163.o),(zK BK153.o),(zK BK154.o),(zK BK165.o),GW165.o,GE165.o,NB153_165.o,NB165_153.o,NB154_165.o,NB165_154.o,(zB HB.o)⟩)
       ·skip
        refine dm_ ?hg (N:=6) ?hd (cs:=#[.slice none 0 0]) (t:=52) ?hr ?_;(case hd=>rfl);(case hg=>rfl);(case hr=>first|(go_simp;done)|(go_simp;rfl))
        intro gb166 hg w12 hbox hb;replace HO157:=am (Kd.cC_ (zS HO157.o) hb)
        have BK166:=am (hbox);have GW166:=am ((gw_ hg HB.o:w.heap.size≤gb166))
        have GE166:=am ((gw_ hg HB.o:w.heap.size≤gb166))
        replace HB:=am (bh_ (zB HB.o) hb);have NB153_166:=am ((by rw [hg];exact Nat.ne_of_lt (bw_ (zK BK153.o)):gb153≠gb166))
        have NB166_153:=am ((by rw [hg];exact Nat.ne_of_gt (bw_ (zK BK153.o)):gb166≠gb153))
        replace BK153:=am (bm_ (zK BK153.o) hb)
        have NB154_166:=am ((by rw [hg];exact Nat.ne_of_lt (bw_ (zK BK154.o)):gb154≠gb166))
        have NB166_154:=am ((by rw [hg];exact Nat.ne_of_gt (bw_ (zK BK154.o)):gb166≠gb154))
        replace BK154:=am (bm_ (zK BK154.o) hb)
        have NB165_166:=am ((by rw [hg];exact Nat.ne_of_lt (bw_ (zK BK165.o)):gb165≠gb166))
        have NB166_165:=am ((by rw [hg];exact Nat.ne_of_gt (bw_ (zK BK165.o)):gb166≠gb165))
        replace BK165:=am (bm_ (zK BK165.o) hb)
        clear hb hbox hg
        refine hK.out _ _ ((bo_ BK153.o 0).trans rfl) (fun hHeld=>?_)
        clear hK K
        refine cp_ (a':=?_) ?_ ?_
        rotate_left
        ·show Act.put _ (some 6) _=_
         simp only [Act.put,List.setIfInBounds_toArray,List.set_cons_zero,List.set_cons_succ,bI_,bL_];rfl
        exact nm_ (hJ2_8_9 ((.slice Ao12 t155.length co12),gb165,gb166) _ ⟨hHeld,(zS HO157.o),(zK BK153.o),(zK BK154.o),(zK BK165.o),(zK BK166.o),GW165.o,GE165.o,NB153_165.o,NB165_153.o,NB154_165.o,NB165_154.o,NB166_165.o,NB165_166.o,GW166.o,GE166.o,NB153_166.o,NB166_153.o,NB154_166.o,NB166_154.o,(zB HB.o)⟩)
     ·skip
      rintro ⟨v156,v159,v162⟩ w12 ⟨hS_,h0_,h1_,h2_,h3_,h4_,h5_⟩;have n0_:ba_ (Kd.S (Kd.slice 5 (Kd.int .u8)) 22 w12 w.heap.size (fun k_=>(w.heap.size≤k_)) v156 t155):=⟨h0_⟩;have n1_:ba_ (Kd.V (Kd.slice 5 (Kd.int .u8)) 22 w12 w.heap.size (fun k_=>(w.heap.size≤k_)∧some k_≠(v156:Value).ownBlock∧k_≠gb153∧k_≠gb154) v159 t158):=⟨h1_⟩;have n2_:ba_ (Kd.V (Kd.slice 5 (Kd.int .u8)) 22 w12 w.heap.size (fun k_=>(w.heap.size≤k_)∧some k_≠(v156:Value).ownBlock∧k_≠gb153∧k_≠gb154) v162 t161):=⟨h2_⟩;have n3_:ba_ (w12.heap[gb153]? = some (.cells #[.slice A0_0 l0_0.length c0_0] 52 (0,0))):=⟨h3_⟩;have n4_:ba_ (w12.heap[gb154]? = some (.cells #[.slice none 0 0] 52 (0,0))):=⟨h4_⟩;have n5_:ba_ (Below w.heap.size w w12):=⟨h5_⟩;clear BK153;clear BK154;clear HB;clear h0_ h1_ h2_ h3_ h4_ h5_;have HO157:=n0_;have HO160:=n1_;have HO163:=n2_;have BK153:=n3_;have BK154:=n4_;have HB:=n5_;clear n0_ n1_ n2_ n3_ n4_ n5_;have hHeld:w12.cell? ⟨gb153,0,none⟩=some (.slice A0_0 l0_0.length c0_0):=hS_
      refine cp_ (a':=?_) ?_ ?_
      rotate_left
      ·simp only [putAll,Act.put,List.setIfInBounds_toArray,List.set_cons_zero,List.set_cons_succ]
       rfl
      refine two_ (i:=8) (j:=9) (Ni:=some 5) (Nj:=some 6) #[true,true,true,true,true,true,true,true,true,false,false,false,false] #[true,true,true,true,true,true,true,true,false,true,false,false,false] rfl rfl rfl rfl (two_of HT_.o (by kernel_rfl)) (by decide) (by decide) (fun K hK=>?_) (fun K hK=>?_)
      ·skip
       refine dm_ ?hg (N:=5) ?hd (cs:=#[.slice none 0 0]) (t:=52) ?hr ?_;(case hd=>rfl);(case hg=>rfl);(case hr=>first|(go_simp;done)|(go_simp;rfl))
       intro gb165 hg w13 hbox hb;replace HO157:=am (Kd.cC_ (zS HO157.o) hb)
       replace HO160:=am (Kd.V_below (Kd.dl_ (zV HO160.o) gb165 (Nat.le_of_eq hg.symm)) hb)
       replace HO163:=am (Kd.V_below (Kd.dl_ (zV HO163.o) gb165 (Nat.le_of_eq hg.symm)) hb)
       have BK165:=am (hbox);have GW165:=am ((gw_ hg HB.o:w.heap.size≤gb165))
       have GE165:=am ((gw_ hg HB.o:w.heap.size≤gb165))
       replace HB:=am (bh_ (zB HB.o) hb);have NB153_165:=am ((by rw [hg];exact Nat.ne_of_lt (bw_ (zK BK153.o)):gb153≠gb165))
       have NB165_153:=am ((by rw [hg];exact Nat.ne_of_gt (bw_ (zK BK153.o)):gb165≠gb153))
       replace BK153:=am (bm_ (zK BK153.o) hb)
       have NB154_165:=am ((by rw [hg];exact Nat.ne_of_lt (bw_ (zK BK154.o)):gb154≠gb165))
       have NB165_154:=am ((by rw [hg];exact Nat.ne_of_gt (bw_ (zK BK154.o)):gb165≠gb154))
       replace BK154:=am (bm_ (zK BK154.o) hb)
       clear hb hbox hg
       refine hK.out _ _ ((bo_ BK153.o 0).trans rfl) (fun hHeld=>?_)
       clear hK K
       refine cp_ (a':=?_) ?_ ?_
       rotate_left
       ·show Act.put _ (some 5) _=_
        simp only [Act.put,List.setIfInBounds_toArray,List.set_cons_zero,List.set_cons_succ,bI_,bL_];rfl
       exact nm_ (hJ2_3_8 (v156,v159,v162,gb165) _ ⟨hHeld,(zS HO157.o),(zV (Kd.bJ_ HO160.o (fun _ hk=>⟨hk.1.1,⟨hk.1.2.1,⟨hk.1.2.2.1,⟨hk.1.2.2.2,hk.2⟩⟩⟩⟩))),(zV (Kd.bJ_ HO163.o (fun _ hk=>⟨hk.1.1,⟨hk.1.2.1,⟨hk.1.2.2.1,⟨hk.1.2.2.2,hk.2⟩⟩⟩⟩))),(zK BK153.o),(zK BK154.o),(zK BK165.o),GW165.o,GE165.o,NB153_165.o,NB165_153.o,NB154_165.o,NB165_154.o,(zB HB.o)⟩)
      ·skip
       refine dm_ ?hg (N:=6) ?hd (cs:=#[.slice none 0 0]) (t:=52) ?hr ?_;(case hd=>rfl);(case hg=>rfl);(case hr=>first|(go_simp;done)|(go_simp;rfl))
       intro gb166 hg w13 hbox hb;replace HO157:=am (Kd.cC_ (zS HO157.o) hb)
       replace HO160:=am (Kd.V_below (Kd.dl_ (zV HO160.o) gb166 (Nat.le_of_eq hg.symm)) hb)
       replace HO163:=am (Kd.V_below (Kd.dl_ (zV HO163.o) gb166 (Nat.le_of_eq hg.symm)) hb)
       have BK166:=am (hbox);have GW166:=am ((gw_ hg HB.o:w.heap.size≤gb166))
       have GE166:=am ((gw_ hg HB.o:w.heap.size≤gb166))
       replace HB:=am (bh_ (zB HB.o) hb);have NB153_166:=am ((by rw [hg];exact Nat.ne_of_lt (bw_ (zK BK153.o)):gb153≠gb166))
       have NB166_153:=am ((by rw [hg];exact Nat.ne_of_gt (bw_ (zK BK153.o)):gb166≠gb153))
       replace BK153:=am (bm_ (zK BK153.o) hb)
       have NB154_166:=am ((by rw [hg];exact Nat.ne_of_lt (bw_ (zK BK154.o)):gb154≠gb166))
       have NB166_154:=am ((by rw [hg];exact Nat.ne_of_gt (bw_ (zK BK154.o)):gb166≠gb154))
       replace BK154:=am (bm_ (zK BK154.o) hb)
       clear hb hbox hg
       refine hK.out _ _ ((bo_ BK153.o 0).trans rfl) (fun hHeld=>?_)
       clear hK K
       refine cp_ (a':=?_) ?_ ?_
       rotate_left
       ·show Act.put _ (some 6) _=_
        simp only [Act.put,List.setIfInBounds_toArray,List.set_cons_zero,List.set_cons_succ,bI_,bL_];rfl
       exact nm_ (hJ2_3_9 (v156,v159,v162,gb166) _ ⟨hHeld,(zS HO157.o),(zV (Kd.bJ_ HO160.o (fun _ hk=>⟨hk.1.1,⟨hk.1.2.1,⟨hk.1.2.2.1,⟨hk.1.2.2.2,hk.2⟩⟩⟩⟩))),(zV (Kd.bJ_ HO163.o (fun _ hk=>⟨hk.1.1,⟨hk.1.2.1,⟨hk.1.2.2.1,⟨hk.1.2.2.2,hk.2⟩⟩⟩⟩))),(zK BK153.o),(zK BK154.o),(zK BK166.o),GW166.o,GE166.o,NB153_166.o,NB166_153.o,NB154_166.o,NB166_154.o,(zB HB.o)⟩)
    ·skip
     rintro ⟨v156,gb165,gb166⟩ w12 ⟨hS_,h0_,h1_,h2_,h3_,h4_,h5_,h6_,h7_,h8_,h9_,h10_,h11_,h12_,h13_,h14_,h15_,h16_,h17_,h18_,h19_⟩;have n0_:ba_ (Kd.S (Kd.slice 5 (Kd.int .u8)) 22 w12 w.heap.size (fun k_=>(w.heap.size≤k_)) v156 t155):=⟨h0_⟩;have n1_:ba_ (w12.heap[gb153]? = some (.cells #[.slice A0_0 l0_0.length c0_0] 52 (0,0))):=⟨h1_⟩;have n2_:ba_ (w12.heap[gb154]? = some (.cells #[.slice none 0 0] 52 (0,0))):=⟨h2_⟩;have n3_:ba_ (w12.heap[gb165]? = some (.cells #[.slice none 0 0] 52 (0,0))):=⟨h3_⟩;have n4_:ba_ (w12.heap[gb166]? = some (.cells #[.slice none 0 0] 52 (0,0))):=⟨h4_⟩;have n5_:ba_ (w.heap.size≤gb165):=⟨h5_⟩;have n6_:ba_ (w.heap.size≤gb165):=⟨h6_⟩;have n7_:ba_ (gb153≠gb165):=⟨h7_⟩;have n8_:ba_ (gb165≠gb153):=⟨h8_⟩;have n9_:ba_ (gb154≠gb165):=⟨h9_⟩;have n10_:ba_ (gb165≠gb154):=⟨h10_⟩;have n11_:ba_ (gb166≠gb165):=⟨h11_⟩;have n12_:ba_ (gb165≠gb166):=⟨h12_⟩;have n13_:ba_ (w.heap.size≤gb166):=⟨h13_⟩;have n14_:ba_ (w.heap.size≤gb166):=⟨h14_⟩;have n15_:ba_ (gb153≠gb166):=⟨h15_⟩;have n16_:ba_ (gb166≠gb153):=⟨h16_⟩;have n17_:ba_ (gb154≠gb166):=⟨h17_⟩;have n18_:ba_ (gb166≠gb154):=⟨h18_⟩;have n19_:ba_ (Below w.heap.size w w12):=⟨h19_⟩;clear BK153;clear BK154;clear HB;clear h0_ h1_ h2_ h3_ h4_ h5_ h6_ h7_ h8_ h9_ h10_ h11_ h12_ h13_ h14_ h15_ h16_ h17_ h18_ h19_;have HO157:=n0_;have BK153:=n1_;have BK154:=n2_;have BK165:=n3_;have BK166:=n4_;have GW165:=n5_;have GE165:=n6_;have NB153_165:=n7_;have NB165_153:=n8_;have NB154_165:=n9_;have NB165_154:=n10_;have NB166_165:=n11_;have NB165_166:=n12_;have GW166:=n13_;have GE166:=n14_;have NB153_166:=n15_;have NB166_153:=n16_;have NB154_166:=n17_;have NB166_154:=n18_;have HB:=n19_;clear n0_ n1_ n2_ n3_ n4_ n5_ n6_ n7_ n8_ n9_ n10_ n11_ n12_ n13_ n14_ n15_ n16_ n17_ n18_ n19_;have hHeld:w12.cell? ⟨gb153,0,none⟩=some (.slice A0_0 l0_0.length c0_0):=hS_;obtain ⟨Ao13,co13,eo13⟩:=Kd.cP_ HO157.o
     (first|subst eo13|(injection eo13 with f1_ f2_ f3_;have f4_:=f1_.symm;have f5_:=f3_.symm;clear f1_ f2_ f3_;subst f4_;subst f5_))
     refine cp_ (a':=?_) ?_ ?_
     rotate_left
     ·simp only [putAll,Act.put,List.setIfInBounds_toArray,List.set_cons_zero,List.set_cons_succ]
      rfl
     refine one_ (i:=3) (N:=some 15) #[true,true,true,true,false,false,false,false,true,true,false,false,false] rfl rfl (bZ_ HT_.o (by kernel_rfl)) (by decide) (fun K hK=>?_)
     refine goR_ Try.func76 #[.agg #[.slice A0_0 l0_0.length c0_0],.agg #[.slice Ao13 t155.length co13]] ?_
     with_reducible refine (Fb.calls k _ _ l0_0 _ _ t155 t158 t161 t164 _ ?side1 ?side2 ?side3 ?side4 A3.o).mono ?_
     (case side1=>exact zC (Kd.bH_ HR0_0.o HB.o))
     (case side2=>exact HC0_0.o)
     (case side3=>exact zC ((Kd.cl_ HO157.o).2.2))
     (case side4=>exact (Kd.cl_ HO157.o).2.1)
     rintro e w14 ⟨v159,v162,rfl,ho0,ho1,hb⟩
     refine ⟨_,rfl,?_⟩
     have HO160:=am (Kd.dw_ (Kd.bJ_ (ok':=fun k_=>(w.heap.size≤k_)∧some k_≠(.slice Ao13 t155.length co13:Value).ownBlock∧k_≠gb153∧k_≠gb154∧k_≠gb165∧k_≠gb166) (Kd.dx_ ho0) (fun k_ hk0_=>have hk_:=And.intro trivial hk0_;⟨(Nat.le_trans (zs_ HB.o) hk_.2.1),(Kd.fresh' (Kd.S_lt (zS HO157.o)) k_ hk_.2.1),(Kd.freshB (zK BK153.o) k_ hk_.2.1),(Kd.freshB (zK BK154.o) k_ hk_.2.1),(Kd.freshB (zK BK165.o) k_ hk_.2.1),(Kd.freshB (zK BK166.o) k_ hk_.2.1)⟩)) (zs_ HB.o))
     have HO163:=am (Kd.dw_ (Kd.bJ_ (ok':=fun k_=>(w.heap.size≤k_)∧some k_≠(.slice Ao13 t155.length co13:Value).ownBlock∧k_≠gb153∧k_≠gb154∧k_≠gb165∧k_≠gb166) (Kd.dx_ ho1) (fun k_ hk0_=>have hk_:=And.intro trivial hk0_;⟨(Nat.le_trans (zs_ HB.o) hk_.2.1),(Kd.fresh' (Kd.S_lt (zS HO157.o)) k_ hk_.2.1),(Kd.freshB (zK BK153.o) k_ hk_.2.1),(Kd.freshB (zK BK154.o) k_ hk_.2.1),(Kd.freshB (zK BK165.o) k_ hk_.2.1),(Kd.freshB (zK BK166.o) k_ hk_.2.1)⟩)) (zs_ HB.o))
     replace HO157:=am (Kd.cC_ (zS HO157.o) hb)
     replace BK153:=am (bm_ (zK BK153.o) hb)
     replace BK154:=am (bm_ (zK BK154.o) hb)
     replace BK165:=am (bm_ (zK BK165.o) hb)
     replace BK166:=am (bm_ (zK BK166.o) hb)
     replace HB:=am (bh_ (zB HB.o) hb);(try clear hb);(try clear ho0);(try clear ho1)
     refine hK.out _ _ ((bo_ BK153.o 0).trans rfl) (fun hHeld=>?_)
     clear hK K
     refine cp_ (a':=?_) ?_ ?_
     rotate_left
     ·show Act.put _ (some 15) _=_
      simp only [Act.put,List.setIfInBounds_toArray,List.set_cons_zero,List.set_cons_succ,bI_,bL_];rfl
     refine pu_ (i:=4) (some 11) #[true,true,true,true,true,false,false,false,true,true,false,false,false] HT_ ?_
     refine pu_ (i:=5) (some 16) #[true,true,true,true,true,true,false,false,true,true,false,false,false] HT_ ?_
     refine pu_ (i:=6) (some 17) #[true,true,true,true,true,true,true,false,true,true,false,false,false] HT_ ?_
     refine pu_ (i:=7) (some 18) #[true,true,true,true,true,true,true,true,true,true,false,false,false] HT_ ?_
     exact nm_ (hJ2_3_8_9 (.slice Ao13 t155.length co13,v159,v162,gb165,gb166) _ ⟨hHeld,(zS HO157.o),(zV HO160.o),(zV HO163.o),(zK BK153.o),(zK BK154.o),(zK BK165.o),(zK BK166.o),GW165.o,GE165.o,NB153_165.o,NB165_153.o,NB154_165.o,NB165_154.o,NB166_165.o,NB165_166.o,GW166.o,GE166.o,NB153_166.o,NB166_153.o,NB154_166.o,NB166_154.o,(zB HB.o)⟩)
   ·skip
    rintro ⟨v156,v159,v162,gb166⟩ w13 ⟨hS_,h0_,h1_,h2_,h3_,h4_,h5_,h6_,h7_,h8_,h9_,h10_,h11_,h12_⟩;have n0_:ba_ (Kd.S (Kd.slice 5 (Kd.int .u8)) 22 w13 w.heap.size (fun k_=>(w.heap.size≤k_)) v156 t155):=⟨h0_⟩;have n1_:ba_ (Kd.V (Kd.slice 5 (Kd.int .u8)) 22 w13 w.heap.size (fun k_=>(w.heap.size≤k_)∧some k_≠(v156:Value).ownBlock∧k_≠gb153∧k_≠gb154∧k_≠gb166) v159 t158):=⟨h1_⟩;have n2_:ba_ (Kd.V (Kd.slice 5 (Kd.int .u8)) 22 w13 w.heap.size (fun k_=>(w.heap.size≤k_)∧some k_≠(v156:Value).ownBlock∧k_≠gb153∧k_≠gb154∧k_≠gb166) v162 t161):=⟨h2_⟩;have n3_:ba_ (w13.heap[gb153]? = some (.cells #[.slice A0_0 l0_0.length c0_0] 52 (0,0))):=⟨h3_⟩;have n4_:ba_ (w13.heap[gb154]? = some (.cells #[.slice none 0 0] 52 (0,0))):=⟨h4_⟩;have n5_:ba_ (w13.heap[gb166]? = some (.cells #[.slice none 0 0] 52 (0,0))):=⟨h5_⟩;have n6_:ba_ (w.heap.size≤gb166):=⟨h6_⟩;have n7_:ba_ (w.heap.size≤gb166):=⟨h7_⟩;have n8_:ba_ (gb153≠gb166):=⟨h8_⟩;have n9_:ba_ (gb166≠gb153):=⟨h9_⟩;have n10_:ba_ (gb154≠gb166):=⟨h10_⟩;have n11_:ba_ (gb166≠gb154):=⟨h11_⟩;have n12_:ba_ (Below w.heap.size w w13):=⟨h12_⟩;clear BK153;clear BK154;clear HB;clear h0_ h1_ h2_ h3_ h4_ h5_ h6_ h7_ h8_ h9_ h10_ h11_ h12_;have HO157:=n0_;have HO160:=n1_;have HO163:=n2_;have BK153:=n3_;have BK154:=n4_;have BK166:=n5_;have GW166:=n6_;have GE166:=n7_;have NB153_166:=n8_;have NB166_153:=n9_;have NB154_166:=n10_;have NB166_154:=n11_;have HB:=n12_;clear n0_ n1_ n2_ n3_ n4_ n5_ n6_ n7_ n8_ n9_ n10_ n11_ n12_;have hHeld:w13.cell? ⟨gb153,0,none⟩=some (.slice A0_0 l0_0.length c0_0):=hS_
    refine cp_ (a':=?_) ?_ ?_
    rotate_left
    ·simp only [putAll,Act.put,List.setIfInBounds_toArray,List.set_cons_zero,List.set_cons_succ]
     rfl
    refine one_ (i:=8) (N:=some 5) #[true,true,true,true,true,true,true,true,true,true,false,false,false] rfl rfl (bZ_ HT_.o (by kernel_rfl)) (by decide) (fun K hK=>?_)
    refine dm_ ?hg (N:=5) ?hd (cs:=#[.slice none 0 0]) (t:=52) ?hr ?_;(case hd=>rfl);(case hg=>rfl);(case hr=>first|(go_simp;done)|(go_simp;rfl))
    intro gb165 hg w14 hbox hb;replace HO157:=am (Kd.cC_ (zS HO157.o) hb)
    replace HO160:=am (Kd.V_below (Kd.dl_ (zV HO160.o) gb165 (Nat.le_of_eq hg.symm)) hb)
    replace HO163:=am (Kd.V_below (Kd.dl_ (zV HO163.o) gb165 (Nat.le_of_eq hg.symm)) hb)
    have BK165:=am (hbox);have GW165:=am ((gw_ hg HB.o:w.heap.size≤gb165))
    have GE165:=am ((gw_ hg HB.o:w.heap.size≤gb165))
    replace HB:=am (bh_ (zB HB.o) hb);have NB153_165:=am ((by rw [hg];exact Nat.ne_of_lt (bw_ (zK BK153.o)):gb153≠gb165))
    have NB165_153:=am ((by rw [hg];exact Nat.ne_of_gt (bw_ (zK BK153.o)):gb165≠gb153))
    replace BK153:=am (bm_ (zK BK153.o) hb)
    have NB154_165:=am ((by rw [hg];exact Nat.ne_of_lt (bw_ (zK BK154.o)):gb154≠gb165))
    have NB165_154:=am ((by rw [hg];exact Nat.ne_of_gt (bw_ (zK BK154.o)):gb165≠gb154))
    replace BK154:=am (bm_ (zK BK154.o) hb)
    have NB166_165:=am ((by rw [hg];exact Nat.ne_of_lt (bw_ (zK BK166.o)):gb166≠gb165))
    have NB165_166:=am ((by rw [hg];exact Nat.ne_of_gt (bw_ (zK BK166.o)):gb165≠gb166))
    replace BK166:=am (bm_ (zK BK166.o) hb)
    clear hb hbox hg
    refine hK.out _ _ ((bo_ BK153.o 0).trans rfl) (fun hHeld=>?_)
    clear hK K
    refine cp_ (a':=?_) ?_ ?_
    rotate_left
    ·show Act.put _ (some 5) _=_
     simp only [Act.put,List.setIfInBounds_toArray,List.set_cons_zero,List.set_cons_succ,bI_,bL_];rfl
    exact nm_ (hJ2_3_8_9 (v156,v159,v162,gb165,gb166) _ ⟨hHeld,(zS HO157.o),(zV (Kd.bJ_ HO160.o (fun _ hk=>⟨hk.1.1,⟨hk.1.2.1,⟨hk.1.2.2.1,⟨hk.1.2.2.2.1,⟨hk.2,hk.1.2.2.2.2⟩⟩⟩⟩⟩))),(zV (Kd.bJ_ HO163.o (fun _ hk=>⟨hk.1.1,⟨hk.1.2.1,⟨hk.1.2.2.1,⟨hk.1.2.2.2.1,⟨hk.2,hk.1.2.2.2.2⟩⟩⟩⟩⟩))),(zK BK153.o),(zK BK154.o),(zK BK165.o),(zK BK166.o),GW165.o,GE165.o,NB153_165.o,NB165_153.o,NB154_165.o,NB165_154.o,NB166_165.o,NB165_166.o,GW166.o,GE166.o,NB153_166.o,NB166_153.o,NB154_166.o,NB166_154.o,(zB HB.o)⟩)
  ·skip
   rintro ⟨v156,v159,v162,gb165⟩ w13 ⟨hS_,h0_,h1_,h2_,h3_,h4_,h5_,h6_,h7_,h8_,h9_,h10_,h11_,h12_⟩;have n0_:ba_ (Kd.S (Kd.slice 5 (Kd.int .u8)) 22 w13 w.heap.size (fun k_=>(w.heap.size≤k_)) v156 t155):=⟨h0_⟩;have n1_:ba_ (Kd.V (Kd.slice 5 (Kd.int .u8)) 22 w13 w.heap.size (fun k_=>(w.heap.size≤k_)∧some k_≠(v156:Value).ownBlock∧k_≠gb153∧k_≠gb154∧k_≠gb165) v159 t158):=⟨h1_⟩;have n2_:ba_ (Kd.V (Kd.slice 5 (Kd.int .u8)) 22 w13 w.heap.size (fun k_=>(w.heap.size≤k_)∧some k_≠(v156:Value).ownBlock∧k_≠gb153∧k_≠gb154∧k_≠gb165) v162 t161):=⟨h2_⟩;have n3_:ba_ (w13.heap[gb153]? = some (.cells #[.slice A0_0 l0_0.length c0_0] 52 (0,0))):=⟨h3_⟩;have n4_:ba_ (w13.heap[gb154]? = some (.cells #[.slice none 0 0] 52 (0,0))):=⟨h4_⟩;have n5_:ba_ (w13.heap[gb165]? = some (.cells #[.slice none 0 0] 52 (0,0))):=⟨h5_⟩;have n6_:ba_ (w.heap.size≤gb165):=⟨h6_⟩;have n7_:ba_ (w.heap.size≤gb165):=⟨h7_⟩;have n8_:ba_ (gb153≠gb165):=⟨h8_⟩;have n9_:ba_ (gb165≠gb153):=⟨h9_⟩;have n10_:ba_ (gb154≠gb165):=⟨h10_⟩;have n11_:ba_ (gb165≠gb154):=⟨h11_⟩;have n12_:ba_ (Below w.heap.size w w13):=⟨h12_⟩;clear BK153;clear BK154;clear HB;clear h0_ h1_ h2_ h3_ h4_ h5_ h6_ h7_ h8_ h9_ h10_ h11_ h12_;have HO157:=n0_;have HO160:=n1_;have HO163:=n2_;have BK153:=n3_;have BK154:=n4_;have BK165:=n5_;have GW165:=n6_;have GE165:=n7_;have NB153_165:=n8_;have NB165_153:=n9_;have NB154_165:=n10_;have NB165_154:=n11_;have HB:=n12_;clear n0_ n1_ n2_ n3_ n4_ n5_ n6_ n7_ n8_ n9_ n10_ n11_ n12_;have hHeld:w13.cell? ⟨gb153,0,none⟩=some (.slice A0_0 l0_0.length c0_0):=hS_
   refine cp_ (a':=?_) ?_ ?_
   rotate_left
   ·simp only [putAll,Act.put,List.setIfInBounds_toArray,List.set_cons_zero,List.set_cons_succ]
    rfl
   refine one_ (i:=9) (N:=some 6) #[true,true,true,true,true,true,true,true,true,true,false,false,false] rfl rfl (bZ_ HT_.o (by kernel_rfl)) (by decide) (fun K hK=>?_)
   refine dm_ ?hg (N:=6) ?hd (cs:=#[.slice none 0 0]) (t:=52) ?hr ?_;(case hd=>rfl);(case hg=>rfl);(case hr=>first|(go_simp;done)|(go_simp;rfl))
   intro gb166 hg w14 hbox hb;replace HO157:=am (Kd.cC_ (zS HO157.o) hb)
   replace HO160:=am (Kd.V_below (Kd.dl_ (zV HO160.o) gb166 (Nat.le_of_eq hg.symm)) hb)
   replace HO163:=am (Kd.V_below (Kd.dl_ (zV HO163.o) gb166 (Nat.le_of_eq hg.symm)) hb)
   have BK166:=am (hbox);have GW166:=am ((gw_ hg HB.o:w.heap.size≤gb166))
   have GE166:=am ((gw_ hg HB.o:w.heap.size≤gb166))
   replace HB:=am (bh_ (zB HB.o) hb);have NB153_166:=am ((by rw [hg];exact Nat.ne_of_lt (bw_ (zK BK153.o)):gb153≠gb166))
   have NB166_153:=am ((by rw [hg];exact Nat.ne_of_gt (bw_ (zK BK153.o)):gb166≠gb153))
   replace BK153:=am (bm_ (zK BK153.o) hb)
   have NB154_166:=am ((by rw [hg];exact Nat.ne_of_lt (bw_ (zK BK154.o)):gb154≠gb166))
   have NB166_154:=am ((by rw [hg];exact Nat.ne_of_gt (bw_ (zK BK154.o)):gb166≠gb154))
   replace BK154:=am (bm_ (zK BK154.o) hb)
   have NB165_166:=am ((by rw [hg];exact Nat.ne_of_lt (bw_ (zK BK165.o)):gb165≠gb166))
   have NB166_165:=am ((by rw [hg];exact Nat.ne_of_gt (bw_ (zK BK165.o)):gb166≠gb165))
   replace BK165:=am (bm_ (zK BK165.o) hb)
   clear hb hbox hg
   refine hK.out _ _ ((bo_ BK153.o 0).trans rfl) (fun hHeld=>?_)
   clear hK K
   refine cp_ (a':=?_) ?_ ?_
   rotate_left
   ·show Act.put _ (some 6) _=_
    simp only [Act.put,List.setIfInBounds_toArray,List.set_cons_zero,List.set_cons_succ,bI_,bL_];rfl
   exact nm_ (hJ2_3_8_9 (v156,v159,v162,gb165,gb166) _ ⟨hHeld,(zS HO157.o),(zV (Kd.bJ_ HO160.o (fun _ hk=>⟨hk.1.1,⟨hk.1.2.1,⟨hk.1.2.2.1,⟨hk.1.2.2.2.1,⟨hk.1.2.2.2.2,hk.2⟩⟩⟩⟩⟩))),(zV (Kd.bJ_ HO163.o (fun _ hk=>⟨hk.1.1,⟨hk.1.2.1,⟨hk.1.2.2.1,⟨hk.1.2.2.2.1,⟨hk.1.2.2.2.2,hk.2⟩⟩⟩⟩⟩))),(zK BK153.o),(zK BK154.o),(zK BK165.o),(zK BK166.o),GW165.o,GE165.o,NB153_165.o,NB165_153.o,NB154_165.o,NB165_154.o,NB166_165.o,NB165_166.o,GW166.o,GE166.o,NB153_166.o,NB166_153.o,NB154_166.o,NB166_154.o,(zB HB.o)⟩)
 rintro ⟨v156,v159,v162,gb165,gb166⟩ w14 ⟨hS_,h0_,h1_,h2_,h3_,h4_,h5_,h6_,h7_,h8_,h9_,h10_,h11_,h12_,h13_,h14_,h15_,h16_,h17_,h18_,h19_,h20_,h21_⟩;have n0_:ba_ (Kd.S (Kd.slice 5 (Kd.int .u8)) 22 w14 w.heap.size (fun k_=>(w.heap.size≤k_)) v156 t155):=⟨h0_⟩;have n1_:ba_ (Kd.V (Kd.slice 5 (Kd.int .u8)) 22 w14 w.heap.size (fun k_=>(w.heap.size≤k_)∧some k_≠(v156:Value).ownBlock∧k_≠gb153∧k_≠gb154∧k_≠gb165∧k_≠gb166) v159 t158):=⟨h1_⟩;have n2_:ba_ (Kd.V (Kd.slice 5 (Kd.int .u8)) 22 w14 w.heap.size (fun k_=>(w.heap.size≤k_)∧some k_≠(v156:Value).ownBlock∧k_≠gb153∧k_≠gb154∧k_≠gb165∧k_≠gb166) v162 t161):=⟨h2_⟩;have n3_:ba_ (w14.heap[gb153]? = some (.cells #[.slice A0_0 l0_0.length c0_0] 52 (0,0))):=⟨h3_⟩;have n4_:ba_ (w14.heap[gb154]? = some (.cells #[.slice none 0 0] 52 (0,0))):=⟨h4_⟩;have n5_:ba_ (w14.heap[gb165]? = some (.cells #[.slice none 0 0] 52 (0,0))):=⟨h5_⟩;have n6_:ba_ (w14.heap[gb166]? = some (.cells #[.slice none 0 0] 52 (0,0))):=⟨h6_⟩;have n7_:ba_ (w.heap.size≤gb165):=⟨h7_⟩;have n8_:ba_ (w.heap.size≤gb165):=⟨h8_⟩;have n9_:ba_ (gb153≠gb165):=⟨h9_⟩;have n10_:ba_ (gb165≠gb153):=⟨h10_⟩;have n11_:ba_ (gb154≠gb165):=⟨h11_⟩;have n12_:ba_ (gb165≠gb154):=⟨h12_⟩;have n13_:ba_ (gb166≠gb165):=⟨h13_⟩;have n14_:ba_ (gb165≠gb166):=⟨h14_⟩;have n15_:ba_ (w.heap.size≤gb166):=⟨h15_⟩;have n16_:ba_ (w.heap.size≤gb166):=⟨h16_⟩;have n17_:ba_ (gb153≠gb166):=⟨h17_⟩;have n18_:ba_ (gb166≠gb153):=⟨h18_⟩;have n19_:ba_ (gb154≠gb166):=⟨h19_⟩;have n20_:ba_ (gb166≠gb154):=⟨h20_⟩;have n21_:ba_ (Below w.heap.size w w14):=⟨h21_⟩;clear BK153;clear BK154;clear HB;clear h0_ h1_ h2_ h3_ h4_ h5_ h6_ h7_ h8_ h9_ h10_ h11_ h12_ h13_ h14_ h15_ h16_ h17_ h18_ h19_ h20_ h21_;have HO157:=n0_;have HO160:=n1_;have HO163:=n2_;have BK153:=n3_;have BK154:=n4_;have BK165:=n5_;have BK166:=n6_;have GW165:=n7_;have GE165:=n8_;have NB153_165:=n9_;have NB165_153:=n10_;have NB154_165:=n11_;have NB165_154:=n12_;have NB166_165:=n13_;have NB165_166:=n14_;have GW166:=n15_;have GE166:=n16_;have NB153_166:=n17_;have NB166_153:=n18_;have NB154_166:=n19_;have NB166_154:=n20_;have HB:=n21_;clear n0_ n1_ n2_ n3_ n4_ n5_ n6_ n7_ n8_ n9_ n10_ n11_ n12_ n13_ n14_ n15_ n16_ n17_ n18_ n19_ n20_ n21_;have hHeld:w14.cell? ⟨gb153,0,none⟩=some (.slice A0_0 l0_0.length c0_0):=hS_;obtain ⟨Ao15,co15,eo15⟩:=Kd.V_slice HO160.o
 (first|subst eo15|(injection eo15 with f1_ f2_ f3_;have f4_:=f1_.symm;have f5_:=f3_.symm;clear f1_ f2_ f3_;subst f4_;subst f5_))
 obtain ⟨Ao17,co17,eo17⟩:=Kd.V_slice HO163.o
 (first|subst eo17|(injection eo17 with f1_ f2_ f3_;have f4_:=f1_.symm;have f5_:=f3_.symm;clear f1_ f2_ f3_;subst f4_;subst f5_))
 refine cp_ (a':=?_) ?_ ?_
 rotate_left
 ·simp only [putAll,Act.put,List.setIfInBounds_toArray,List.set_cons_zero,List.set_cons_succ]
  rfl
 refine one_ (i:=10) (N:=none) #[true,true,true,true,true,true,true,true,true,true,true,false,false] rfl rfl (bZ_ HT_.o (by kernel_rfl)) (by decide) (fun K hK=>?_)
 have hs16:w14.cell? ⟨gb165,0,none⟩=some (.slice none 0 0):=(bo_ BK165.o 0).trans rfl;have hfs16:=bs_ BK165.o 0;have hns16_0:=NB153_165.o;have hns16_1:=NB154_165.o;have hns16_3:=NB166_165.o;have hms16_0:=NB165_153.o;have hms16_1:=NB165_154.o;have hms16_3:=NB165_166.o
 refine skip_ (w1:=?_) (by rfl) rfl ?_ ?_
 rotate_left
 ·go_simp;rfl
 refine hK.out _ _ (((cell_far (p:=⟨gb165,_,none⟩) NB153_165.o _).trans (hHeld))) (fun hHeld=>?_)
 clear hK K
 refine one_ (i:=11) (N:=none) #[true,true,true,true,true,true,true,true,true,true,true,true,false] rfl rfl (bZ_ HT_.o (by kernel_rfl)) (by decide) (fun K hK=>?_)
 have hs18:w14.cell? ⟨gb166,0,none⟩=some (.slice none 0 0):=(bo_ BK166.o 0).trans rfl;have hfs18:=bs_ BK166.o 0;have hns18_0:=NB153_166.o;have hns18_1:=NB154_166.o;have hns18_2:=NB165_166.o;have hms18_0:=NB166_153.o;have hms18_1:=NB166_154.o;have hms18_2:=NB166_165.o
 refine skip_ (w1:=?_) (by rfl) rfl ?_ ?_
 rotate_left
 ·go_simp;rfl
 refine hK.out _ _ (((cell_far (p:=⟨gb166,_,none⟩) NB153_166.o _).trans (hHeld))) (fun hHeld=>?_)
 clear hK K
 refine pu_ (i:=12) (some 7) #[true,true,true,true,true,true,true,true,true,true,true,true,true] HT_ ?_
 refine done_ (cD_ HT_.o (by kernel_rfl)) ?_
 have hnb19:=NB166_153.o;have hnc19:=NB153_166.o;have hnb20:=NB166_154.o;have hnc20:=NB154_166.o;have hnb21:=NB166_165.o;have hnc21:=NB165_166.o;have hcz22_0:w14.cell? ⟨gb166,0,none⟩=some (.slice none 0 0):=(bo_ BK166.o 0).trans rfl;have hfz22_0:=bs_ BK166.o 0;have hnb23:=NB154_165.o;have hnc23:=NB165_154.o;have hcz24_0:w14.cell? ⟨gb154,0,none⟩=some (.slice none 0 0):=(bo_ BK154.o 0).trans rfl;have hfz24_0:=bs_ BK154.o 0
 try go_wp2
 refine bodyPost_ret (results_ct rfl _ _ gb154 52 #[.slice Ao17 t161.length co17] (0,0) _ rfl (by (with_reducible repeat (first|apply bd_|apply bb_|apply bc_));refine cQ_ (cs:=#[.slice none 0 0]) ?_ 0 _ rfl;(with_reducible repeat (first|apply bd_|apply bb_|apply bc_));refine bF_ ?_ NB154_166.o _;(with_reducible repeat (first|apply bd_|apply bb_|apply bc_));refine bF_ ?_ NB154_165.o _;(with_reducible repeat (first|apply bd_|apply bb_|apply bc_));exact BK154.o) Try.underlying52 rfl (by kernel_rfl)) rfl ?_
 exact ⟨_,by first|rfl|(simp [errW_none,errW_some] <;> rfl)|(simp [*,errW_none,errW_some] <;> rfl),zV (Kd.bJ_ (Kd.V_far (p:=⟨gb154,0,none⟩) (Kd.V_far (p:=⟨gb166,0,none⟩) (Kd.V_far (p:=⟨gb165,0,none⟩) (Kd.bJ_ (Kd.bJ_ (Kd.bJ_ HO163.o (fun k_ hk=>(⟨hk,hk.2.2.2.2.1⟩:_∧k_≠gb165))) (fun k_ hk=>(⟨hk,hk.1.2.2.2.2.2⟩:_∧k_≠gb166))) (fun k_ hk=>(⟨hk,hk.1.1.2.2.2.1⟩:_∧k_≠gb154))) (fun _ hk=>hk.1.1.2) (.slice Ao15 t158.length co15)) (fun _ hk=>hk.1.2) (.slice Ao17 t161.length co17)) (fun _ hk=>hk.2) (.slice Ao17 t161.length co17)) (fun _ hk=>hk.1.1.1.1)),by repeat (first|(with_reducible first|exact HB.o|apply bk_|apply be_|apply bg_|refine bl_ ?_ GE153.o|refine bl_ ?_ GE154.o|refine bl_ ?_ GE165.o|refine bl_ ?_ GE166.o)|exact HB.o)⟩


/-! ### spec_l1Dot: function 78 -/
def Fbc.l0:Nat→List Int→List Int→Int→Int→Int→Option (Int)
 | 0,_,_,_,_,_=>none
 | k+1,x0,x1,x5,x8,x9=>if x9<x8 then (if 0≤x9 then (if x9<(x0.length:Int) then (if x9<(x1.length:Int) then ((Fi.f k (rd x0 x9) (rd x1 x9)).bind fun t285=>(Fbc.l0 k x0 x1 (Go.bits .xor .u8 x5 t285) x8 (wrap64 (x9+1)))) else (none)) else (none)) else (none)) else (some x5)
def Fbc.f (k:Nat) (l0:List Int) (l1:List Int):Option (Int):=Fbc.l0 k l0 l1 0 (l0.length:Int) 0
set_option maxHeartbeats 8000000 in
set_option maxRecDepth 100000 in
theorem Fbc.calls (k:Nat) (A0:Option Addr) (c0:Nat) (l0:List Int) (A1:Option Addr) (c1:Nat) (l1:List Int) (r:Int) (w:World) (hr0:Kd.C (Kd.int .u8) w A0 l0.length l0) (hc0:l0.length≤c0) (hr1:Kd.C (Kd.int .u8) w A1 l1.length l1) (hc1:l1.length≤c1) (h:Fbc.f k l0 l1=some r) :
  Calls Try.prog 78 #[.slice A0 l0.length c0,.slice A1 l1.length c1] w fun e w'=>e = .returned (.int .u8 r)∧bp_ w w':=by
 have HR0:=am hr0;have HC0:=am hc0;clear hr0 hc0;have HR1:=am hr1;have HC1:=am hc1;clear hr1 hc1;have H:(Fbc.l0 k l0 l1 0 (l0.length:Int) 0)=some r:=h;clear h;have H':=am H;clear H
 go_enter Try.func78,Try.ntmps78
 go_wp2
 repeat (go_quiet (fail);try go_wp2)
 go_loopg [5,9] k (fun kq v5 v9 w'=>∃ (x5_1:Int) (x9_1:Int),v5 = .int .u8 x5_1∧v9 = .int .i64 x9_1∧ba_ (Fbc.l0 kq l0 l1 x5_1 (l0.length:Int) x9_1=some r)∧ba_ (kq≤k)∧bp_ w w')
 case atStart=>exact ⟨(0),(0),rfl,rfl,H',⟨Nat.le_refl _⟩,by repeat (first|exact bp_.refl _|apply bp_.step)⟩
 case round =>
  clear H';obtain ⟨x5_1,x9_1,rfl,rfl,HA,HK1,⟨m1,rfl⟩⟩:=hrel
  cases gk with
  | zero=>exact absurd HA.o (by simp [Fbc.l0])
  | succ k1 =>
   have H:=HA.o;clear HA
   simp only [Fbc.l0] at H
   by_cases c3:x9_1<(l0.length:Int)
   ·rw [if_pos c3] at H;have c3b0:=decide_eq_true c3;clear c3
    obtain ⟨c4,H⟩:=it_ H;have c4b0:=decide_eq_true c4;clear c4
    obtain ⟨c5,H⟩:=it_ H;have c5b0:=decide_eq_true c5;clear c5
    obtain ⟨c6,H⟩:=it_ H;have c6b0:=decide_eq_true c6;clear c6;obtain ⟨t285,A7,H⟩:=bi_ H;have H':=am H;clear H;have p283:0≤(x9_1:Int):=od_;have q283:x9_1<(l0.length:Int):=od_;obtain ⟨ad283,e283,hx283_0⟩:=Kd.bK_ HR0.o x9_1 p283 q283;cases e283;replace p283:=eq_true p283;replace q283:=eq_true q283;have p284:0≤(x9_1:Int):=od_;have q284:x9_1<(l1.length:Int):=od_;obtain ⟨ad284,e284,hx284_0⟩:=Kd.bK_ HR1.o x9_1 p284 q284;cases e284;replace p284:=eq_true p284;replace q284:=eq_true q284
    go_wp2_with (first|(go_at_call 72;(with_reducible refine (Fi.calls k1 (rd l0 x9_1) (rd l1 x9_1) t285 _ A7.o).mono ?_);rintro e w' ⟨rfl,⟨nd,rfl⟩⟩;(try first|exact ⟨rfl,_,World.drewN_drewN _ _ _⟩|exact ⟨rfl,_,Eq.trans (World.drewN_drewN _ _ _) (congrArg (World.drewN _) (Nat.add_assoc _ _ _))⟩)))
    repeat (go_quiet (first|(go_at_call 72;(with_reducible refine (Fi.calls k1 (rd l0 x9_1) (rd l1 x9_1) t285 _ A7.o).mono ?_);rintro e w' ⟨rfl,⟨nd,rfl⟩⟩;(try first|exact ⟨rfl,_,World.drewN_drewN _ _ _⟩|exact ⟨rfl,_,Eq.trans (World.drewN_drewN _ _ _) (congrArg (World.drewN _) (Nat.add_assoc _ _ _))⟩)));try go_wp2_with (first|(go_at_call 72;(with_reducible refine (Fi.calls k1 (rd l0 x9_1) (rd l1 x9_1) t285 _ A7.o).mono ?_);rintro e w' ⟨rfl,⟨nd,rfl⟩⟩;(try first|exact ⟨rfl,_,World.drewN_drewN _ _ _⟩|exact ⟨rfl,_,Eq.trans (World.drewN_drewN _ _ _) (congrArg (World.drewN _) (Nat.add_assoc _ _ _))⟩))))
    go_roundg k1
    case measure=>have:=HK1.o;omega
    case rel=>exact ⟨(Go.bits .xor .u8 x5_1 t285),(wrap64 (x9_1+1)),rfl,rfl,H',⟨by have:=HK1.o;omega⟩,by repeat (first|exact bp_.refl _|apply bp_.step)⟩
   ·rw [if_neg c3] at H;have c3b0:=decide_eq_false c3;clear c3;obtain rfl:=Option.some.inj H
    go_wp2
    repeat (go_quiet (fail);try go_wp2)
    go_ret
    exact ⟨by first|rfl|(simp;done)|(simp [*];done),by repeat (first|exact bp_.refl _|apply bp_.step)⟩

end Go.Proofs.Ytbloniemhkfnlaa.PFnCorrected
