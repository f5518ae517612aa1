/- A law's functions as plain Lean functions, each with the walk that shows that the code computes it: written by this session's program wip/tools/ppmake.py. -/
import Derived.Test.YtbloniemhkfnlaaKZ
import Derived.Test.YtbloniemhkfnlaaPFnCorrectedx0
namespace Go.Proofs.Ytbloniemhkfnlaa.PFnCorrected
open Go.RowKit Go.Proofs.YtbloniemhkfnlaaW.PrintWords Go.Proofs.YtbloniemhkfnlaaW.PrintLast Go.Proofs.YtbloniemhkfnlaaW.PrintMore
attribute [local go_sem] cw_ cy_ cK_ cL_ ci_ ch_ cx_ cv_   -- for this text's walks alone
set_option linter.unusedVariables false
set_option linter.unusedSimpArgs false

/-- A state of type 63 at block g of W; what its slices lead to came in by w0. -/
def IsS63 (w0 W:World) (g:Nat) (f0:List Int) (f1:Int) (f2:Int):Prop:=∃ A0 c0,W.heap[g]? = some (.cells #[.slice A0 f0.length c0,.int .i64 f1,.int .u64 f2] 63 (0,0))∧w0.heap.size≤g∧Kd.C (Kd.int .u8) w0 A0 f0.length f0
theorem IsS63.grown {w0 W:World} {g:Nat} {f0:List Int} {f1:Int} {f2:Int} {W1:World} {row:Option Nat} (h:IsS63 w0 W g f0 f1 f2) (hw:W.grownBy W1 row) (hne:some g≠row):IsS63 w0 W1 g f0 f1 f2:=by
 obtain ⟨A0,c0,hb,hg,hr0⟩:=h
 exact ⟨A0,c0,ce_ hb hw hne,hg,hr0⟩
theorem IsS63.own_neN {w0 W:World} {g:Nat} {f0:List Int} {f1:Int} {f2:Int} {α:Type} {d:Kd α} {e:Nat} {base:Nat} {ok:Nat→Prop} {v:Value} {xs:List α} (h:IsS63 w0 W g f0 f1 f2) (ho:Kd.N d e W base ok v xs) (ht:e≠63):some g≠v.ownBlock:=by
 obtain ⟨A0,c0,hb,hg,hr0⟩:=h
 exact Kd.N_ne ho hb ht
theorem IsS63.fresh {w0 W:World} {g:Nat} {f0:List Int} {f1:Int} {f2:Int} (h:IsS63 w0 W g f0 f1 f2):∀ k,W.heap.size≤k→k≠g:=by
 obtain ⟨A0,c0,hb,hg,hr0⟩:=h
 exact Kd.freshB hb
theorem IsS63.kept {w0 W:World} {g:Nat} {f0:List Int} {f1:Int} {f2:Int} {W1:World} {S:Nat→Prop} (h:IsS63 w0 W g f0 f1 f2) (hk:Kept W W1 S) (hne:¬ S g):IsS63 w0 W1 g f0 f1 f2:=by
 obtain ⟨A0,c0,hb,hg,hr0⟩:=h
 exact ⟨A0,c0,blk_kept hb hk hne,hg,hr0⟩
theorem IsS63.below {w0 W:World} {g:Nat} {f0:List Int} {f1:Int} {f2:Int} {W1:World} (h:IsS63 w0 W g f0 f1 f2) (hw:Below W.heap.size W W1):IsS63 w0 W1 g f0 f1 f2:=h.grown (grown_of_below hw none) (by simp)
theorem IsS63.alloc {w0 W:World} {g:Nat} {f0:List Int} {f1:Int} {f2:Int} (h:IsS63 w0 W g f0 f1 f2) (o:Obj):IsS63 w0 (W.alloc o) g f0 f1 f2:=h.below (bk_ (Below.refl _ _) o)
theorem IsS63.drewN {w0 W:World} {g:Nat} {f0:List Int} {f1:Int} {f2:Int} (h:IsS63 w0 W g f0 f1 f2) (m:Nat):IsS63 w0 (W.drewN m) g f0 f1 f2:=h
theorem IsS63.drew {w0 W:World} {g:Nat} {f0:List Int} {f1:Int} {f2:Int} (h:IsS63 w0 W g f0 f1 f2):IsS63 w0 W.drew g f0 f1 f2:=h
theorem IsS63.at_ {w0 W:World} {g:Nat} {f0:List Int} {f1:Int} {f2:Int} {w':World} {m:Nat} (hq:W.drewN m=w') (h:IsS63 w0 W g f0 f1 f2):IsS63 w0 w' g f0 f1 f2:=by subst hq;exact IsS63.drewN h m
theorem IsS63.apart {w0 W:World} {g:Nat} {f0:List Int} {f1:Int} {f2:Int} {α:Type} {d:Kd α} {e:Nat} {base:Nat} {ok:Nat→Prop} {v:Value} {xs:List α} (h:IsS63 w0 W g f0 f1 f2) (ho:d.R e W base ok v xs) (ht:∀ q,q∈e :: d.E→q≠63):d.R e W base (fun k=>ok k∧k≠g) v xs:=by
 obtain ⟨A0,c0,hb,hg,hr0⟩:=h
 exact Kd.cb_ ho hb ht
theorem IsS63.own_ne {w0 W:World} {g:Nat} {f0:List Int} {f1:Int} {f2:Int} {α:Type} {d:Kd α} {e:Nat} {base:Nat} {ok:Nat→Prop} {v:Value} {xs:List α} (h:IsS63 w0 W g f0 f1 f2) (ho:d.R e W base ok v xs) (ht:e≠63):some g≠v.ownBlock:=by
 obtain ⟨A0,c0,hb,hg,hr0⟩:=h
 exact Kd.R_ne ho hb ht
theorem IsS63.apartQ {w0 W:World} {g:Nat} {f0:List Int} {f1:Int} {f2:Int} {α:Type} {d:Kd α} {e:Nat} {base:Nat} {ok:Nat→Prop} {v:Value} {xs:List α} (h:IsS63 w0 W g f0 f1 f2) (ho:d.Q e W base ok v xs) (ht:∀ q,q∈e :: d.E→q≠63):d.Q e W base (fun k=>ok k∧k≠g) v xs:=by
 obtain ⟨A0,c0,hb,hg,hr0⟩:=h
 exact Kd.Q_types ho hb ht
theorem IsS63.own_neQ {w0 W:World} {g:Nat} {f0:List Int} {f1:Int} {f2:Int} {α:Type} {d:Kd α} {e:Nat} {base:Nat} {ok:Nat→Prop} {v:Value} {xs:List α} (h:IsS63 w0 W g f0 f1 f2) (ho:d.Q e W base ok v xs) (ht:e≠63):some g≠v.ownBlock:=by
 obtain ⟨A0,c0,hb,hg,hr0⟩:=h
 exact Kd.Q_ne ho hb ht
theorem IsS63.apartS {w0 W:World} {g:Nat} {f0:List Int} {f1:Int} {f2:Int} {α:Type} {d:Kd α} {e:Nat} {base:Nat} {ok:Nat→Prop} {v:Value} {xs:List α} (h:IsS63 w0 W g f0 f1 f2) (ho:d.S e W base ok v xs) (ht:∀ q,q∈e :: d.E→q≠63):d.S e W base (fun k=>ok k∧k≠g) v xs:=by
 obtain ⟨A0,c0,hb,hg,hr0⟩:=h
 exact Kd.S_types ho hb ht
theorem IsS63.own_neS {w0 W:World} {g:Nat} {f0:List Int} {f1:Int} {f2:Int} {α:Type} {d:Kd α} {e:Nat} {base:Nat} {ok:Nat→Prop} {v:Value} {xs:List α} (h:IsS63 w0 W g f0 f1 f2) (ho:d.S e W base ok v xs) (ht:e≠63):some g≠v.ownBlock:=by
 obtain ⟨A0,c0,hb,hg,hr0⟩:=h
 exact Kd.S_ne ho hb ht
theorem IsS63.lt {w0 W:World} {g:Nat} {f0:List Int} {f1:Int} {f2:Int} (h:IsS63 w0 W g f0 f1 f2):g<W.heap.size:=by
 obtain ⟨A0,c0,hb,hg,hr0⟩:=h
 exact bw_ hb
theorem IsS63.ge {w0 W:World} {g:Nat} {f0:List Int} {f1:Int} {f2:Int} (h:IsS63 w0 W g f0 f1 f2):w0.heap.size≤g:=by
 obtain ⟨A0,c0,hb,hg,hr0⟩:=h
 exact hg
theorem IsS63.ne_blk {w0 W:World} {g:Nat} {f0:List Int} {f1:Int} {f2:Int} {a:Nat} {cs:Array Value} {t:TypeId} {fr:Nat × Nat} (h:IsS63 w0 W g f0 f1 f2) (hb2:W.heap[a]? = some (.cells cs t fr)) (ht:t≠63):g≠a:=by
 obtain ⟨A0,c0,hb,hg,hr0⟩:=h;rintro rfl;rw [hb] at hb2
 injection hb2 with hb2
 injection hb2 with _ ht2
 exact ht ht2.symm
theorem IsS63.far {w0 W:World} {g:Nat} {f0:List Int} {f1:Int} {f2:Int} {p:Addr} (h:IsS63 w0 W g f0 f1 f2) (hne:g≠p.block) (u:Value):IsS63 w0 (W.setCell p u) g f0 f1 f2:=by
 obtain ⟨A0,c0,hb,hg,hr0⟩:=h
 exact ⟨A0,c0,bF_ hb hne u,hg,hr0⟩
theorem cellS63_0 {W:World} {g:Nat} {A0:Option Addr} {c0:Nat} {f0:List Int} {f1:Int} {f2:Int} (h:W.heap[g]? = some (.cells #[.slice A0 f0.length c0,.int .i64 f1,.int .u64 f2] 63 (0,0))):W.cell? ⟨g,0,none⟩=some (.slice A0 f0.length c0):=(bo_ h 0).trans rfl
theorem cellS63_1 {W:World} {g:Nat} {A0:Option Addr} {c0:Nat} {f0:List Int} {f1:Int} {f2:Int} (h:W.heap[g]? = some (.cells #[.slice A0 f0.length c0,.int .i64 f1,.int .u64 f2] 63 (0,0))):W.cell? ⟨g,1,none⟩=some (.int .i64 f1):=(bo_ h 1).trans rfl
theorem IsS63.set_1 {w0 W:World} {g:Nat} {f0:List Int} {f1:Int} {f2:Int} (h:IsS63 w0 W g f0 f1 f2) (x:Int):IsS63 w0 (W.setCell ⟨g,1,none⟩ (.int .i64 x)) g f0 x f2:=by
 obtain ⟨A0,c0,hb,hg,hr0⟩:=h
 exact ⟨A0,c0,by simpa using blk_set hb 1 (.int .i64 x),hg,hr0⟩
theorem cellS63_2 {W:World} {g:Nat} {A0:Option Addr} {c0:Nat} {f0:List Int} {f1:Int} {f2:Int} (h:W.heap[g]? = some (.cells #[.slice A0 f0.length c0,.int .i64 f1,.int .u64 f2] 63 (0,0))):W.cell? ⟨g,2,none⟩=some (.int .u64 f2):=(bo_ h 2).trans rfl
theorem IsS63.set_2 {w0 W:World} {g:Nat} {f0:List Int} {f1:Int} {f2:Int} (h:IsS63 w0 W g f0 f1 f2) (x:Int):IsS63 w0 (W.setCell ⟨g,2,none⟩ (.int .u64 x)) g f0 f1 x:=by
 obtain ⟨A0,c0,hb,hg,hr0⟩:=h
 exact ⟨A0,c0,by simpa using blk_set hb 2 (.int .u64 x),hg,hr0⟩
theorem IsS63.new (w0 W:World) (A0:Option Addr) (c0:Nat) (f0:List Int) (f1:Int) (f2:Int) (hB:Below w0.heap.size w0 W) (hr0:Kd.C (Kd.int .u8) w0 A0 f0.length f0):IsS63 w0 (W.alloc (.cells #[.slice A0 f0.length c0,.int .i64 f1,.int .u64 f2] 63)) W.heap.size f0 f1 f2:=⟨A0,c0,by simpa using heap_alloc_new W _,hB.size,hr0⟩

/-! ### spec_l1Cur_next: function 83 -/
def Fbf.f (s0_0:List Int) (s0_1:Int) (s0_2:Int):Option (Int × Int × Int):=if s0_1<(s0_0.length:Int) then (if 0≤s0_1 then (if (wrap64 (s0_1+1))≤(s0_0.length:Int) then (some (wrap64 (rd s0_0 s0_1),wrap64 (s0_1+1),IntKind.u64.wrap ((IntKind.u64.wrap ((IntKind.u64.wrap (s0_2 * 6364136223846793005))+(IntKind.u64.wrap (wrap64 (rd s0_0 s0_1)))))+1442695040888963407))) else (some (wrap64 (Go.bits .and .u64 ((IntKind.u64.wrap ((IntKind.u64.wrap ((IntKind.u64.wrap (s0_2 * 6364136223846793005))+(IntKind.u64.wrap (wrap64 (rd s0_0 s0_1)))))+1442695040888963407)) / 1099511627776) 255),wrap64 (s0_1+1),IntKind.u64.wrap ((IntKind.u64.wrap ((IntKind.u64.wrap (s0_2 * 6364136223846793005))+(IntKind.u64.wrap (wrap64 (rd s0_0 s0_1)))))+1442695040888963407)))) else (none)) else (if (wrap64 (s0_1+1))≤(s0_0.length:Int) then (some (0,wrap64 (s0_1+1),IntKind.u64.wrap ((IntKind.u64.wrap ((IntKind.u64.wrap (s0_2 * 6364136223846793005))+0))+1442695040888963407))) else (some (wrap64 (Go.bits .and .u64 ((IntKind.u64.wrap ((IntKind.u64.wrap ((IntKind.u64.wrap (s0_2 * 6364136223846793005))+0))+1442695040888963407)) / 1099511627776) 255),wrap64 (s0_1+1),IntKind.u64.wrap ((IntKind.u64.wrap ((IntKind.u64.wrap (s0_2 * 6364136223846793005))+0))+1442695040888963407))))
set_option maxHeartbeats 8000000 in
set_option maxRecDepth 100000 in
theorem Fbf.calls (g:Nat) (s0_0:List Int) (s0_1:Int) (s0_2:Int) (r1:Int) (r2:Int) (r3:Int) (w0 w:World) (hI:IsS63 w0 w g s0_0 s0_1 s0_2) (hB:Below w0.heap.size w0 w) (h:Fbf.f s0_0 s0_1 s0_2=some (r1,r2,r3)) :
  Calls Try.prog 83 #[.pointer (some ⟨g,0,none⟩)] w fun e w'=>e = .returned (.int .i64 r1)∧IsS63 w0 w' g s0_0 r2 r3∧Below w0.heap.size w0 w'∧KeepBut w w' g none:=by
 have HI0:=am hI;have HK:=am (KeepBut.refl w g none);have HL:=am hB.size;clear hI;have HW0:=am hB.size;have HB:=am hB;clear hB;have H:(if s0_1<(s0_0.length:Int) then (if 0≤s0_1 then (if (wrap64 (s0_1+1))≤(s0_0.length:Int) then (some (wrap64 (rd s0_0 s0_1),wrap64 (s0_1+1),IntKind.u64.wrap ((IntKind.u64.wrap ((IntKind.u64.wrap (s0_2 * 6364136223846793005))+(IntKind.u64.wrap (wrap64 (rd s0_0 s0_1)))))+1442695040888963407))) else (some (wrap64 (Go.bits .and .u64 ((IntKind.u64.wrap ((IntKind.u64.wrap ((IntKind.u64.wrap (s0_2 * 6364136223846793005))+(IntKind.u64.wrap (wrap64 (rd s0_0 s0_1)))))+1442695040888963407)) / 1099511627776) 255),wrap64 (s0_1+1),IntKind.u64.wrap ((IntKind.u64.wrap ((IntKind.u64.wrap (s0_2 * 6364136223846793005))+(IntKind.u64.wrap (wrap64 (rd s0_0 s0_1)))))+1442695040888963407)))) else (none)) else (if (wrap64 (s0_1+1))≤(s0_0.length:Int) then (some (0,wrap64 (s0_1+1),IntKind.u64.wrap ((IntKind.u64.wrap ((IntKind.u64.wrap (s0_2 * 6364136223846793005))+0))+1442695040888963407))) else (some (wrap64 (Go.bits .and .u64 ((IntKind.u64.wrap ((IntKind.u64.wrap ((IntKind.u64.wrap (s0_2 * 6364136223846793005))+0))+1442695040888963407)) / 1099511627776) 255),wrap64 (s0_1+1),IntKind.u64.wrap ((IntKind.u64.wrap ((IntKind.u64.wrap (s0_2 * 6364136223846793005))+0))+1442695040888963407)))))=some (r1,r2,r3):=h;clear h
 by_cases c2:s0_1<(s0_0.length:Int)
 ·rw [if_pos c2] at H;have c2b0:=decide_eq_true c2;clear c2
  obtain ⟨c3,H⟩:=it_ H;have c3b0:=decide_eq_true c3;clear c3
  by_cases c4:(wrap64 (s0_1+1))≤(s0_0.length:Int)
  ·rw [if_pos c4] at H;have c4b0:=decide_eq_true c4;clear c4
   simp only [Option.some.injEq,Prod.mk.injEq] at H
   obtain ⟨rfl,rfl,rfl⟩:=H;obtain ⟨ASz5_0,cSz5_0,HGz5,hgz5,HSz5_0⟩:=HI0.o;have hcz5_0:=cellS63_0 HGz5;have hcz5_1:=cellS63_1 HGz5;have hcz5_2:=cellS63_2 HGz5;have hfz5_1:=bs_ HGz5 1;have hfz5_2:=bs_ HGz5 2;clear HGz5 hgz5;have p430:0≤(s0_1:Int):=od_;have q430:s0_1<(s0_0.length:Int):=od_;obtain ⟨ad430,e430,hx430_0⟩:=Kd.bK_ HSz5_0 s0_1 p430 q430;cases e430;replace hx430_0:=du_ HB.o hx430_0;replace p430:=eq_true p430;replace q430:=eq_true q430
   go_enter Try.func83,Try.ntmps83
   go_wp2
   repeat (go_quiet (fail);try go_wp2)
   go_ret
   exact ⟨rfl,by (try simp only [Int.add_zero]);repeat (first|(with_reducible first|exact HI0.o|apply IsS63.alloc|apply IsS63.drewN|apply IsS63.drew|apply IsS63.set_1|apply IsS63.set_2)|exact HI0.o),by (try simp only [Int.add_zero]);repeat (first|(with_reducible first|exact HB.o|apply bk_|apply be_|apply bg_|refine bl_ ?_ (IsS63.ge HI0.o))|exact HB.o),by (try simp only [Int.add_zero]);repeat (first|(with_reducible first|exact HK.o|apply KeepBut.set_|apply bA_|apply bG_|apply bz_)|exact HK.o)⟩
  ·rw [if_neg c4] at H;have c4b0:=decide_eq_false c4;clear c4
   simp only [Option.some.injEq,Prod.mk.injEq] at H
   obtain ⟨rfl,rfl,rfl⟩:=H;obtain ⟨ASz6_0,cSz6_0,HGz6,hgz6,HSz6_0⟩:=HI0.o;have hcz6_0:=cellS63_0 HGz6;have hcz6_1:=cellS63_1 HGz6;have hcz6_2:=cellS63_2 HGz6;have hfz6_1:=bs_ HGz6 1;have hfz6_2:=bs_ HGz6 2;clear HGz6 hgz6;have p430:0≤(s0_1:Int):=od_;have q430:s0_1<(s0_0.length:Int):=od_;obtain ⟨ad430,e430,hx430_0⟩:=Kd.bK_ HSz6_0 s0_1 p430 q430;cases e430;replace hx430_0:=du_ HB.o hx430_0;replace p430:=eq_true p430;replace q430:=eq_true q430
   go_enter Try.func83,Try.ntmps83
   go_wp2
   repeat (go_quiet (fail);try go_wp2)
   go_ret
   exact ⟨rfl,by (try simp only [Int.add_zero]);repeat (first|(with_reducible first|exact HI0.o|apply IsS63.alloc|apply IsS63.drewN|apply IsS63.drew|apply IsS63.set_1|apply IsS63.set_2)|exact HI0.o),by (try simp only [Int.add_zero]);repeat (first|(with_reducible first|exact HB.o|apply bk_|apply be_|apply bg_|refine bl_ ?_ (IsS63.ge HI0.o))|exact HB.o),by (try simp only [Int.add_zero]);repeat (first|(with_reducible first|exact HK.o|apply KeepBut.set_|apply bA_|apply bG_|apply bz_)|exact HK.o)⟩
 ·rw [if_neg c2] at H;have c2b0:=decide_eq_false c2;clear c2
  by_cases c7:(wrap64 (s0_1+1))≤(s0_0.length:Int)
  ·rw [if_pos c7] at H;have c7b0:=decide_eq_true c7;clear c7
   simp only [Option.some.injEq,Prod.mk.injEq] at H
   obtain ⟨rfl,rfl,rfl⟩:=H;obtain ⟨ASz8_0,cSz8_0,HGz8,hgz8,HSz8_0⟩:=HI0.o;have hcz8_0:=cellS63_0 HGz8;have hcz8_1:=cellS63_1 HGz8;have hcz8_2:=cellS63_2 HGz8;have hfz8_1:=bs_ HGz8 1;have hfz8_2:=bs_ HGz8 2;clear HGz8 hgz8
   go_enter Try.func83,Try.ntmps83
   go_wp2
   repeat (go_quiet (fail);try go_wp2)
   go_ret
   exact ⟨rfl,by (try simp only [Int.add_zero]);repeat (first|(with_reducible first|exact HI0.o|apply IsS63.alloc|apply IsS63.drewN|apply IsS63.drew|apply IsS63.set_1|apply IsS63.set_2)|exact HI0.o),by (try simp only [Int.add_zero]);repeat (first|(with_reducible first|exact HB.o|apply bk_|apply be_|apply bg_|refine bl_ ?_ (IsS63.ge HI0.o))|exact HB.o),by (try simp only [Int.add_zero]);repeat (first|(with_reducible first|exact HK.o|apply KeepBut.set_|apply bA_|apply bG_|apply bz_)|exact HK.o)⟩
  ·rw [if_neg c7] at H;have c7b0:=decide_eq_false c7;clear c7
   simp only [Option.some.injEq,Prod.mk.injEq] at H
   obtain ⟨rfl,rfl,rfl⟩:=H;obtain ⟨ASz9_0,cSz9_0,HGz9,hgz9,HSz9_0⟩:=HI0.o;have hcz9_0:=cellS63_0 HGz9;have hcz9_1:=cellS63_1 HGz9;have hcz9_2:=cellS63_2 HGz9;have hfz9_1:=bs_ HGz9 1;have hfz9_2:=bs_ HGz9 2;clear HGz9 hgz9
   go_enter Try.func83,Try.ntmps83
   go_wp2
   repeat (go_quiet (fail);try go_wp2)
   go_ret
   exact ⟨by first|rfl|(simp [errW_none,errW_some] <;> rfl)|(simp [*,errW_none,errW_some] <;> rfl),by (try simp only [Int.add_zero]);repeat (first|(with_reducible first|exact HI0.o|apply IsS63.alloc|apply IsS63.drewN|apply IsS63.drew|apply IsS63.set_1|apply IsS63.set_2)|exact HI0.o),by (try simp only [Int.add_zero]);repeat (first|(with_reducible first|exact HB.o|apply bk_|apply be_|apply bg_|refine bl_ ?_ (IsS63.ge HI0.o))|exact HB.o),by (try simp only [Int.add_zero]);repeat (first|(with_reducible first|exact HK.o|apply KeepBut.set_|apply bA_|apply bG_|apply bz_)|exact HK.o)⟩

/-! ### spec_l1Cur_pick: function 66 -/
def Fq.f (s0_0:List Int) (s0_1:Int) (s0_2:Int) (a1:Int):Option (Int × Int × Int):=if a1≤1 then (some (0,s0_1,s0_2)) else ((Fbf.f s0_0 s0_1 s0_2).bind fun bt431=>(if a1 > 200 then ((Fbf.f s0_0 bt431.2.1 bt431.2.2).bind fun bt434=>(if a1=0 then (none) else (some (Int.tmod (wrap64 ((wrap64 (bt431.1 * 256))+bt434.1)) a1,bt434.2.1,bt434.2.2)))) else (if a1=0 then (none) else (some (Int.tmod bt431.1 a1,bt431.2.1,bt431.2.2)))))
set_option maxHeartbeats 8000000 in
set_option maxRecDepth 100000 in
theorem Fq.calls (g:Nat) (s0_0:List Int) (s0_1:Int) (s0_2:Int) (a1:Int) (r1:Int) (r2:Int) (r3:Int) (w0 w:World) (hI:IsS63 w0 w g s0_0 s0_1 s0_2) (hB:Below w0.heap.size w0 w) (h:Fq.f s0_0 s0_1 s0_2 a1=some (r1,r2,r3)) :
  Calls Try.prog 66 #[.pointer (some ⟨g,0,none⟩),.int .i64 a1] w fun e w'=>e = .returned (.int .i64 r1)∧IsS63 w0 w' g s0_0 r2 r3∧Below w0.heap.size w0 w'∧KeepBut w w' g none:=by
 have HI0:=am hI;have HK:=am (KeepBut.refl w g none);have HL:=am hB.size;clear hI;have HW0:=am hB.size;have HB:=am hB;clear hB;have H:(if a1≤1 then (some (0,s0_1,s0_2)) else ((Fbf.f s0_0 s0_1 s0_2).bind fun bt431=>(if a1 > 200 then ((Fbf.f s0_0 bt431.2.1 bt431.2.2).bind fun bt434=>(if a1=0 then (none) else (some (Int.tmod (wrap64 ((wrap64 (bt431.1 * 256))+bt434.1)) a1,bt434.2.1,bt434.2.2)))) else (if a1=0 then (none) else (some (Int.tmod bt431.1 a1,bt431.2.1,bt431.2.2))))))=some (r1,r2,r3):=h;clear h
 by_cases c3:a1≤1
 ·rw [if_pos c3] at H;have c3b0:=decide_eq_true c3;clear c3
  simp only [Option.some.injEq,Prod.mk.injEq] at H
  obtain ⟨rfl,rfl,rfl⟩:=H
  go_enter Try.func66,Try.ntmps66
  go_wp2
  go_ret
  exact ⟨rfl,by repeat (first|(with_reducible first|exact HI0.o|apply IsS63.alloc|apply IsS63.drewN|apply IsS63.drew|apply IsS63.set_1|apply IsS63.set_2)|exact HI0.o),zB HB.o,by repeat (first|(with_reducible first|exact HK.o|apply KeepBut.set_|apply bA_|apply bG_|apply bz_)|exact HK.o)⟩
 ·rw [if_neg c3] at H;have c3b0:=decide_eq_false c3;clear c3;obtain ⟨⟨t431,t432,t433⟩,A4,H⟩:=bi_ H;dsimp only at H
  by_cases c5:a1 > 200
  ·rw [if_pos c5] at H;have c5b0:decide (200<a1)=true:=decide_eq_true c5;clear c5;obtain ⟨⟨t434,t435,t436⟩,A6,H⟩:=bi_ H;dsimp only at H
   by_cases c7:a1=0
   ·rw [if_pos c7] at H
    exact absurd H (by simp)
   ·rw [if_neg c7] at H;have c7b0:(a1 == 0)=false:=beq_eq_false_iff_ne.mpr c7;have c7b1:(a1 != 0)=true:=bne_iff_ne.mpr c7
    simp only [Option.some.injEq,Prod.mk.injEq] at H
    obtain ⟨rfl,rfl,rfl⟩:=H
    go_enter Try.func66,Try.ntmps66
    go_wp2_with (first|((with_reducible refine bf_ (f:=83) rfl ?_);refine goL_ (some 9) Try.func83 #[.pointer (some ⟨g,0,none⟩)] ?_;(with_reducible refine (Fbf.calls g s0_0 s0_1 s0_2 t431 t432 t433 w0 _ ?side1 ?side2 A4.o).mono ?_);(case side1=>repeat (first|(with_reducible first|exact HI0.o|apply IsS63.alloc|apply IsS63.drewN|apply IsS63.drew|apply IsS63.set_1|apply IsS63.set_2)|exact HI0.o));(case side2=>repeat (first|(with_reducible first|exact HB.o|apply bk_|apply be_|apply bg_|refine bl_ ?_ (IsS63.ge HI0.o))|exact HB.o));rintro e w8 ⟨rfl,hi,hb,hk⟩;refine ⟨_,rfl,?_⟩;replace HK:=am (KeepBut.trans (by repeat (first|(with_reducible first|exact HK.o|apply KeepBut.set_|apply bA_|apply bG_|apply bz_)|exact HK.o)) hk (.inl rfl));replace HB:=am (hb);replace HI0:=am (hi);(try clear hb);(try clear hb2);(try clear hk);(try clear hi))|((with_reducible refine bf_ (f:=83) rfl ?_);refine goL_ (some 15) Try.func83 #[.pointer (some ⟨g,0,none⟩)] ?_;(with_reducible refine (Fbf.calls g s0_0 t432 t433 t434 t435 t436 w0 _ ?side1 ?side2 A6.o).mono ?_);(case side1=>repeat (first|(with_reducible first|exact HI0.o|apply IsS63.alloc|apply IsS63.drewN|apply IsS63.drew|apply IsS63.set_1|apply IsS63.set_2)|exact HI0.o));(case side2=>repeat (first|(with_reducible first|exact HB.o|apply bk_|apply be_|apply bg_|refine bl_ ?_ (IsS63.ge HI0.o))|exact HB.o));rintro e w9 ⟨rfl,hi,hb,hk⟩;refine ⟨_,rfl,?_⟩;replace HK:=am (KeepBut.trans (by repeat (first|(with_reducible first|exact HK.o|apply KeepBut.set_|apply bA_|apply bG_|apply bz_)|exact HK.o)) hk (.inl rfl));replace HB:=am (hb);replace HI0:=am (hi);(try clear hb);(try clear hb2);(try clear hk);(try clear hi)))
    go_ret
    exact ⟨rfl,by repeat (first|(with_reducible first|exact HI0.o|apply IsS63.alloc|apply IsS63.drewN|apply IsS63.drew|apply IsS63.set_1|apply IsS63.set_2)|exact HI0.o),zB HB.o,by repeat (first|(with_reducible first|exact HK.o|apply KeepBut.set_|apply bA_|apply bG_|apply bz_)|exact HK.o)⟩
  ·rw [if_neg c5] at H;have c5b0:decide (200<a1)=false:=decide_eq_false c5;clear c5
   by_cases c10:a1=0
   ·rw [if_pos c10] at H
    exact absurd H (by simp)
   ·rw [if_neg c10] at H;have c10b0:(a1 == 0)=false:=beq_eq_false_iff_ne.mpr c10;have c10b1:(a1 != 0)=true:=bne_iff_ne.mpr c10
    simp only [Option.some.injEq,Prod.mk.injEq] at H
    obtain ⟨rfl,rfl,rfl⟩:=H
    go_enter Try.func66,Try.ntmps66
    go_wp2_with (first|((with_reducible refine bf_ (f:=83) rfl ?_);refine goL_ (some 9) Try.func83 #[.pointer (some ⟨g,0,none⟩)] ?_;(with_reducible refine (Fbf.calls g s0_0 s0_1 s0_2 t431 t432 t433 w0 _ ?side1 ?side2 A4.o).mono ?_);(case side1=>repeat (first|(with_reducible first|exact HI0.o|apply IsS63.alloc|apply IsS63.drewN|apply IsS63.drew|apply IsS63.set_1|apply IsS63.set_2)|exact HI0.o));(case side2=>repeat (first|(with_reducible first|exact HB.o|apply bk_|apply be_|apply bg_|refine bl_ ?_ (IsS63.ge HI0.o))|exact HB.o));rintro e w11 ⟨rfl,hi,hb,hk⟩;refine ⟨_,rfl,?_⟩;replace HK:=am (KeepBut.trans (by repeat (first|(with_reducible first|exact HK.o|apply KeepBut.set_|apply bA_|apply bG_|apply bz_)|exact HK.o)) hk (.inl rfl));replace HB:=am (hb);replace HI0:=am (hi);(try clear hb);(try clear hb2);(try clear hk);(try clear hi)))
    go_ret
    exact ⟨rfl,by repeat (first|(with_reducible first|exact HI0.o|apply IsS63.alloc|apply IsS63.drewN|apply IsS63.drew|apply IsS63.set_1|apply IsS63.set_2)|exact HI0.o),zB HB.o,by repeat (first|(with_reducible first|exact HK.o|apply KeepBut.set_|apply bA_|apply bG_|apply bz_)|exact HK.o)⟩

/-! ### spec_l1Cur_among: function 65 -/
def Fbh.f (s0_0:List Int) (s0_1:Int) (s0_2:Int) (l1:List Int):Option (Int × Int × Int):=(Fq.f s0_0 s0_1 s0_2 (l1.length:Int)).bind fun bt437=>(if 0≤bt437.1 then (if bt437.1<(l1.length:Int) then (some (rd l1 bt437.1,bt437.2.1,bt437.2.2)) else (none)) else (none))
set_option maxHeartbeats 8000000 in
set_option maxRecDepth 100000 in
theorem Fbh.calls (g:Nat) (s0_0:List Int) (s0_1:Int) (s0_2:Int) (A1:Option Addr) (c1:Nat) (l1:List Int) (r1:Int) (r2:Int) (r3:Int) (w0 w:World) (hI:IsS63 w0 w g s0_0 s0_1 s0_2) (hB:Below w0.heap.size w0 w) (hr1:Kd.C (Kd.int .i64) w A1 l1.length l1) (hc1:l1.length≤c1) (hf1:∀ ad,A1=some ad→0<l1.length→ad.block≠g) (h:Fbh.f s0_0 s0_1 s0_2 l1=some (r1,r2,r3)) :
  Calls Try.prog 65 #[.pointer (some ⟨g,0,none⟩),.slice A1 l1.length c1] w fun e w'=>e = .returned (.int .i64 r1)∧IsS63 w0 w' g s0_0 r2 r3∧Below w0.heap.size w0 w'∧KeepBut w w' g none:=by
 have HR1:=am hr1;have HC1:=am hc1;clear hr1 hc1;have HI0:=am hI;have HK:=am (KeepBut.refl w g none);have HL:=am hB.size;clear hI;have HW0:=am hB.size;have HB:=am hB;clear hB;have H:((Fq.f s0_0 s0_1 s0_2 (l1.length:Int)).bind fun bt437=>(if 0≤bt437.1 then (if bt437.1<(l1.length:Int) then (some (rd l1 bt437.1,bt437.2.1,bt437.2.2)) else (none)) else (none)))=some (r1,r2,r3):=h;clear h;obtain ⟨⟨t437,t438,t439⟩,A3,H⟩:=bi_ H;dsimp only at H
 obtain ⟨c4,H⟩:=it_ H;have c4b0:=decide_eq_true c4;clear c4
 obtain ⟨c5,H⟩:=it_ H;have c5b0:=decide_eq_true c5;clear c5
 simp only [Option.some.injEq,Prod.mk.injEq] at H
 obtain ⟨rfl,rfl,rfl⟩:=H
 go_enter Try.func65,Try.ntmps65
 go_wp2_with (first|((with_reducible refine bf_ (f:=66) rfl ?_);refine goL_ (some 9) Try.func66 #[.pointer (some ⟨g,0,none⟩),.int .i64 (l1.length:Int)] ?_;(with_reducible refine (Fq.calls g s0_0 s0_1 s0_2 (l1.length:Int) t437 t438 t439 w0 _ ?side1 ?side2 A3.o).mono ?_);(case side1=>repeat (first|(with_reducible first|exact HI0.o|apply IsS63.alloc|apply IsS63.drewN|apply IsS63.drew|apply IsS63.set_1|apply IsS63.set_2)|exact HI0.o));(case side2=>repeat (first|(with_reducible first|exact HB.o|apply bk_|apply be_|apply bg_|refine bl_ ?_ (IsS63.ge HI0.o))|exact HB.o));rintro e w6 ⟨rfl,hi,hb,hk⟩;refine ⟨_,rfl,?_⟩;replace HK:=am (KeepBut.trans (by repeat (first|(with_reducible first|exact HK.o|apply KeepBut.set_|apply bA_|apply bG_|apply bz_)|exact HK.o)) hk (.inl rfl));replace HB:=am (hb);replace HI0:=am (hi);(try clear hb);(try clear hb2);(try clear hk);(try clear hi);have p440:0≤(t437:Int):=od_;have q440:t437<(l1.length:Int):=od_;obtain ⟨ad440,e440,hx440_0⟩:=Kd.bK_ HR1.o t437 p440 q440;cases e440;replace hx440_0:=keep_cell HK.o hx440_0 (by first|(rw [add_block];exact hf1 _ rfl (by omega))|exact hf1 _ rfl (by omega)|exact hf1 ad440 rfl (by omega));replace p440:=eq_true p440;replace q440:=eq_true q440))
 go_ret
 exact ⟨rfl,by repeat (first|(with_reducible first|exact HI0.o|apply IsS63.alloc|apply IsS63.drewN|apply IsS63.drew|apply IsS63.set_1|apply IsS63.set_2)|exact HI0.o),zB HB.o,by repeat (first|(with_reducible first|exact HK.o|apply KeepBut.set_|apply bA_|apply bG_|apply bz_)|exact HK.o)⟩

/-! ### spec_l1Cur_one: function 68 -/
def Fbi.f (s0_0:List Int) (s0_1:Int) (s0_2:Int) (a1:Int):Option (Bool × Int × Int):=(Fq.f s0_0 s0_1 s0_2 a1).bind fun bt441=>(some ((bt441.1 == 0),bt441.2.1,bt441.2.2))
set_option maxHeartbeats 8000000 in
set_option maxRecDepth 100000 in
theorem Fbi.calls (g:Nat) (s0_0:List Int) (s0_1:Int) (s0_2:Int) (a1:Int) (r1:Bool) (r2:Int) (r3:Int) (w0 w:World) (hI:IsS63 w0 w g s0_0 s0_1 s0_2) (hB:Below w0.heap.size w0 w) (h:Fbi.f s0_0 s0_1 s0_2 a1=some (r1,r2,r3)) :
  Calls Try.prog 68 #[.pointer (some ⟨g,0,none⟩),.int .i64 a1] w fun e w'=>e = .returned (.bool r1)∧IsS63 w0 w' g s0_0 r2 r3∧Below w0.heap.size w0 w'∧KeepBut w w' g none:=by
 have HI0:=am hI;have HK:=am (KeepBut.refl w g none);have HL:=am hB.size;clear hI;have HW0:=am hB.size;have HB:=am hB;clear hB;have H:((Fq.f s0_0 s0_1 s0_2 a1).bind fun bt441=>(some ((bt441.1 == 0),bt441.2.1,bt441.2.2)))=some (r1,r2,r3):=h;clear h;obtain ⟨⟨t441,t442,t443⟩,A3,H⟩:=bi_ H;dsimp only at H
 simp only [Option.some.injEq,Prod.mk.injEq] at H
 obtain ⟨rfl,rfl,rfl⟩:=H
 go_enter Try.func68,Try.ntmps68
 go_wp2_with (first|((with_reducible refine bf_ (f:=66) rfl ?_);refine goL_ (some 7) Try.func66 #[.pointer (some ⟨g,0,none⟩),.int .i64 a1] ?_;(with_reducible refine (Fq.calls g s0_0 s0_1 s0_2 a1 t441 t442 t443 w0 _ ?side1 ?side2 A3.o).mono ?_);(case side1=>repeat (first|(with_reducible first|exact HI0.o|apply IsS63.alloc|apply IsS63.drewN|apply IsS63.drew|apply IsS63.set_1|apply IsS63.set_2)|exact HI0.o));(case side2=>repeat (first|(with_reducible first|exact HB.o|apply bk_|apply be_|apply bg_|refine bl_ ?_ (IsS63.ge HI0.o))|exact HB.o));rintro e w4 ⟨rfl,hi,hb,hk⟩;refine ⟨_,rfl,?_⟩;replace HK:=am (KeepBut.trans (by repeat (first|(with_reducible first|exact HK.o|apply KeepBut.set_|apply bA_|apply bG_|apply bz_)|exact HK.o)) hk (.inl rfl));replace HB:=am (hb);replace HI0:=am (hi);(try clear hb);(try clear hb2);(try clear hk);(try clear hi)))
 go_ret
 exact ⟨rfl,by repeat (first|(with_reducible first|exact HI0.o|apply IsS63.alloc|apply IsS63.drewN|apply IsS63.drew|apply IsS63.set_1|apply IsS63.set_2)|exact HI0.o),zB HB.o,by repeat (first|(with_reducible first|exact HK.o|apply KeepBut.set_|apply bA_|apply bG_|apply bz_)|exact HK.o)⟩

/-! ### spec_l1Cur_byte: function 82 -/
def Fbk.f (s0_0:List Int) (s0_1:Int) (s0_2:Int):Option (Int × Int × Int):=(Fbi.f s0_0 s0_1 s0_2 5).bind fun bt444=>(if bt444.1=true then ((Fbh.f s0_0 bt444.2.1 bt444.2.2 (([0,1,2,3,255,27]:List Int))).bind fun bt450=>(some ((bt450.1) % 256,bt450.2.1,bt450.2.2))) else ((Fq.f s0_0 bt444.2.1 bt444.2.2 256).bind fun bt453=>(some ((bt453.1) % 256,bt453.2.1,bt453.2.2))))
set_option maxHeartbeats 8000000 in
set_option maxRecDepth 100000 in
theorem Fbk.calls (g:Nat) (s0_0:List Int) (s0_1:Int) (s0_2:Int) (r1:Int) (r2:Int) (r3:Int) (w0 w:World) (hI:IsS63 w0 w g s0_0 s0_1 s0_2) (hB:Below w0.heap.size w0 w) (h:Fbk.f s0_0 s0_1 s0_2=some (r1,r2,r3)) :
  Calls Try.prog 82 #[.pointer (some ⟨g,0,none⟩)] w fun e w'=>e = .returned (.int .u8 r1)∧IsS63 w0 w' g s0_0 r2 r3∧Below w0.heap.size w0 w'∧KeepBut w w' g none:=by
 have HI0:=am hI;have HK:=am (KeepBut.refl w g none);have HL:=am hB.size;clear hI;have HW0:=am hB.size;have HB:=am hB;clear hB;have H:((Fbi.f s0_0 s0_1 s0_2 5).bind fun bt444=>(if bt444.1=true then ((Fbh.f s0_0 bt444.2.1 bt444.2.2 (([0,1,2,3,255,27]:List Int))).bind fun bt450=>(some ((bt450.1) % 256,bt450.2.1,bt450.2.2))) else ((Fq.f s0_0 bt444.2.1 bt444.2.2 256).bind fun bt453=>(some ((bt453.1) % 256,bt453.2.1,bt453.2.2)))))=some (r1,r2,r3):=h;clear h;obtain ⟨⟨t444,t445,t446⟩,A2,H⟩:=bi_ H;dsimp only at H
 by_cases c3:t444=true
 ·subst c3
  have H1:((Fbh.f s0_0 t445 t446 (([0,1,2,3,255,27]:List Int))).bind fun bt450=>(some ((bt450.1) % 256,bt450.2.1,bt450.2.2)))=some (r1,r2,r3):=by rw [if_pos rfl] at H;exact H
  clear H;have H:=H1;clear H1;(try rw [Option.bind_some] at H);generalize hy447:(([0,1,2,3,255,27]:List Int))=y447 at H;have Ny447:=am hy447.symm;clear hy447;obtain ⟨⟨t450,t451,t452⟩,A4,H⟩:=bi_ H;dsimp only at H
  simp only [Option.some.injEq,Prod.mk.injEq] at H
  obtain ⟨rfl,rfl,rfl⟩:=H
  go_enter Try.func82,Try.ntmps82
  go_wp2_with (first|((with_reducible refine bf_ (f:=68) rfl ?_);refine goL_ (some 4) Try.func68 #[.pointer (some ⟨g,0,none⟩),.int .i64 5] ?_;(with_reducible refine (Fbi.calls g s0_0 s0_1 s0_2 5 true t445 t446 w0 _ ?side1 ?side2 A2.o).mono ?_);(case side1=>repeat (first|(with_reducible first|exact HI0.o|apply IsS63.alloc|apply IsS63.drewN|apply IsS63.drew|apply IsS63.set_1|apply IsS63.set_2)|exact HI0.o));(case side2=>repeat (first|(with_reducible first|exact HB.o|apply bk_|apply be_|apply bg_|refine bl_ ?_ (IsS63.ge HI0.o))|exact HB.o));rintro e w5 ⟨rfl,hi,hb,hk⟩;refine ⟨_,rfl,?_⟩;replace HK:=am (KeepBut.trans (by repeat (first|(with_reducible first|exact HK.o|apply KeepBut.set_|apply bA_|apply bG_|apply bz_)|exact HK.o)) hk (.inl rfl));replace HB:=am (hb);replace HI0:=am (hi);(try clear hb);(try clear hb2);(try clear hk);(try clear hi))|((with_reducible refine bB_ (N:=6) rfl ?_);refine Kd.R_lit (Kd.int .i64) _ 3 ?hg (N:=6) ?hd (xs:=([0,1,2,3,255,27]:List Int)) (inner:=[.int .i64 0,.int .i64 1,.int .i64 2,.int .i64 3,.int .i64 255,.int .i64 27]) (ok:=fun _=>True) (okp:=fun _=>True) ?hr ?hp (fun _ hk=>hk) trivial (Below.refl _ _) (Nat.le_refl _) (by simp) ?_;(case hd=>rfl);(case hg=>rfl);(case hr=>first|(go_simp;done)|(go_simp;rfl));(case hp=>exact (Reps.one (show Kd.M (Kd.int .i64) _ _ _ 0 [.int .i64 0] from rfl) (Reps.one (show Kd.M (Kd.int .i64) _ _ _ 1 [.int .i64 1] from rfl) (Reps.one (show Kd.M (Kd.int .i64) _ _ _ 2 [.int .i64 2] from rfl) (Reps.one (show Kd.M (Kd.int .i64) _ _ _ 3 [.int .i64 3] from rfl) (Reps.one (show Kd.M (Kd.int .i64) _ _ _ 255 [.int .i64 255] from rfl) (Reps.one (show Kd.M (Kd.int .i64) _ _ _ 27 [.int .i64 27] from rfl) (Reps.none _ _))))))));intro v448 w6 ho7 hb hg_ hnew_;clear hg_ hnew_;(first|rw [← Ny447.o] at ho7|(simp only [Int.reduceToNat] at ho7;rw [← Ny447.o] at ho7));have HO449:=am (Kd.bx_ ho7 (keep_size (w:=w) (g:=g) (row:=none) (by repeat (first|(with_reducible first|exact HK.o|apply KeepBut.set_|apply bA_|apply bG_|apply bz_)|exact HK.o))));replace HI0:=am (IsS63.below (by repeat (first|(with_reducible first|exact HI0.o|apply IsS63.alloc|apply IsS63.drewN|apply IsS63.drew|apply IsS63.set_1|apply IsS63.set_2)|exact HI0.o)) hb);replace HK:=am (KeepBut.trans (by repeat (first|(with_reducible first|exact HK.o|apply KeepBut.set_|apply bA_|apply bG_|apply bz_)|exact HK.o)) (KeepBut.of_below hb g none) (.inl rfl));replace HB:=am (bh_ (zB HB.o) hb);clear hb ho7;obtain ⟨Ao8,co8,eo8⟩:=Kd.bv_ HO449.o;subst eo8)|((with_reducible refine bf_ (f:=65) rfl ?_);refine goL_ (some 7) Try.func65 #[.pointer (some ⟨g,0,none⟩),.slice Ao8 y447.length co8] ?_;(with_reducible refine (Fbh.calls g s0_0 t445 t446 _ _ y447 t450 t451 t452 w0 _ ?side1 ?side2 ?side3 ?side4 ?side5 A4.o).mono ?_);(case side1=>repeat (first|(with_reducible first|exact HI0.o|apply IsS63.alloc|apply IsS63.drewN|apply IsS63.drew|apply IsS63.set_1|apply IsS63.set_2)|exact HI0.o));(case side2=>repeat (first|(with_reducible first|exact HB.o|apply bk_|apply be_|apply bg_|refine bl_ ?_ (IsS63.ge HI0.o))|exact HB.o));(case side3=>exact zC ((Kd.bj_ HO449.o).2.2));(case side4=>exact (Kd.bj_ HO449.o).2.1);(case side5=>exact far_slice (IsS63.own_ne HI0.o HO449.o (by decide)));rintro e w9 ⟨rfl,hi,hb,hk⟩;refine ⟨_,rfl,?_⟩;replace HO449:=am (Kd.bq_ (Kd.R_keep (IsS63.apart (show IsS63 w0 _ g s0_0 t445 t446 from by repeat (first|(with_reducible first|exact HI0.o|apply IsS63.alloc|apply IsS63.drewN|apply IsS63.drew|apply IsS63.set_1|apply IsS63.set_2)|exact HI0.o)) (zR HO449.o) (by decide)) hk (fun _ h=>h.2)) (fun _ h=>h.1));replace HK:=am (KeepBut.trans (by repeat (first|(with_reducible first|exact HK.o|apply KeepBut.set_|apply bA_|apply bG_|apply bz_)|exact HK.o)) hk (.inl rfl));replace HB:=am (hb);replace HI0:=am (hi);(try clear hb);(try clear hb2);(try clear hk);(try clear hi)))
  go_ret
  exact ⟨rfl,by repeat (first|(with_reducible first|exact HI0.o|apply IsS63.alloc|apply IsS63.drewN|apply IsS63.drew|apply IsS63.set_1|apply IsS63.set_2)|exact HI0.o),zB HB.o,by repeat (first|(with_reducible first|exact HK.o|apply KeepBut.set_|apply bA_|apply bG_|apply bz_)|exact HK.o)⟩
 ·replace c3:=Bool.eq_false_iff.mpr c3
  subst c3
  have H1:((Fq.f s0_0 t445 t446 256).bind fun bt453=>(some ((bt453.1) % 256,bt453.2.1,bt453.2.2)))=some (r1,r2,r3):=by rw [if_neg (show ¬ (false=true) by decide)] at H;exact H
  clear H;have H:=H1;clear H1;obtain ⟨⟨t453,t454,t455⟩,A10,H⟩:=bi_ H;dsimp only at H
  simp only [Option.some.injEq,Prod.mk.injEq] at H
  obtain ⟨rfl,rfl,rfl⟩:=H
  go_enter Try.func82,Try.ntmps82
  go_wp2_with (first|((with_reducible refine bf_ (f:=68) rfl ?_);refine goL_ (some 4) Try.func68 #[.pointer (some ⟨g,0,none⟩),.int .i64 5] ?_;(with_reducible refine (Fbi.calls g s0_0 s0_1 s0_2 5 false t445 t446 w0 _ ?side1 ?side2 A2.o).mono ?_);(case side1=>repeat (first|(with_reducible first|exact HI0.o|apply IsS63.alloc|apply IsS63.drewN|apply IsS63.drew|apply IsS63.set_1|apply IsS63.set_2)|exact HI0.o));(case side2=>repeat (first|(with_reducible first|exact HB.o|apply bk_|apply be_|apply bg_|refine bl_ ?_ (IsS63.ge HI0.o))|exact HB.o));rintro e w11 ⟨rfl,hi,hb,hk⟩;refine ⟨_,rfl,?_⟩;replace HK:=am (KeepBut.trans (by repeat (first|(with_reducible first|exact HK.o|apply KeepBut.set_|apply bA_|apply bG_|apply bz_)|exact HK.o)) hk (.inl rfl));replace HB:=am (hb);replace HI0:=am (hi);(try clear hb);(try clear hb2);(try clear hk);(try clear hi))|((with_reducible refine bf_ (f:=66) rfl ?_);refine goL_ (some 10) Try.func66 #[.pointer (some ⟨g,0,none⟩),.int .i64 256] ?_;(with_reducible refine (Fq.calls g s0_0 t445 t446 256 t453 t454 t455 w0 _ ?side1 ?side2 A10.o).mono ?_);(case side1=>repeat (first|(with_reducible first|exact HI0.o|apply IsS63.alloc|apply IsS63.drewN|apply IsS63.drew|apply IsS63.set_1|apply IsS63.set_2)|exact HI0.o));(case side2=>repeat (first|(with_reducible first|exact HB.o|apply bk_|apply be_|apply bg_|refine bl_ ?_ (IsS63.ge HI0.o))|exact HB.o));rintro e w12 ⟨rfl,hi,hb,hk⟩;refine ⟨_,rfl,?_⟩;replace HK:=am (KeepBut.trans (by repeat (first|(with_reducible first|exact HK.o|apply KeepBut.set_|apply bA_|apply bG_|apply bz_)|exact HK.o)) hk (.inl rfl));replace HB:=am (hb);replace HI0:=am (hi);(try clear hb);(try clear hb2);(try clear hk);(try clear hi)))
  go_ret
  exact ⟨rfl,by repeat (first|(with_reducible first|exact HI0.o|apply IsS63.alloc|apply IsS63.drewN|apply IsS63.drew|apply IsS63.set_1|apply IsS63.set_2)|exact HI0.o),zB HB.o,by repeat (first|(with_reducible first|exact HK.o|apply KeepBut.set_|apply bA_|apply bG_|apply bz_)|exact HK.o)⟩

/-! ### spec_l1Cur_vector: function 64 -/
def Fap.l0:Nat→Int→List Int→List Int→Int→Int→Option (List Int × Int × Int)
 | 0,_,_,_,_,_=>none
 | k+1,x1,x5,x1000,x1001,x1002=>if x1 > 0 then ((Fbk.f x1000 x1001 x1002).bind fun bt456=>(if x5.length<140737488355328 then (Fap.l0 k (wrap64 (x1 - 1)) (x5++[bt456.1]) x1000 bt456.2.1 bt456.2.2) else (none))) else (some (x5,x1001,x1002))
def Fap.f (k:Nat) (s0_0:List Int) (s0_1:Int) (s0_2:Int) (a1:Int):Option (List Int × Int × Int):=Fap.l0 k a1 ([]:List Int) s0_0 s0_1 s0_2
set_option maxHeartbeats 8000000 in
set_option maxRecDepth 100000 in
theorem Fap.calls (k:Nat) (g:Nat) (s0_0:List Int) (s0_1:Int) (s0_2:Int) (a1:Int) (r1:List Int) (r2:Int) (r3:Int) (w0 w:World) (hI:IsS63 w0 w g s0_0 s0_1 s0_2) (hB:Below w0.heap.size w0 w) (h:Fap.f k s0_0 s0_1 s0_2 a1=some (r1,r2,r3)) :
  Calls Try.prog 64 #[.pointer (some ⟨g,0,none⟩),.int .i64 a1] w fun e w'=>∃ v0_:Value,e = .returned (v0_)∧Kd.R (Kd.int .u8) 5 w' w.heap.size (fun _=>True) v0_ r1∧IsS63 w0 w' g s0_0 r2 r3∧Below w0.heap.size w0 w'∧KeepBut w w' g none:=by
 have HI0:=am hI;have HK:=am (KeepBut.refl w g none);have HL:=am hB.size;clear hI;have HW0:=am hB.size;have HB:=am hB;clear hB;have H:(Fap.l0 k a1 ([]:List Int) s0_0 s0_1 s0_2)=some (r1,r2,r3):=h;clear h;have H':=am H;clear H
 go_enter Try.func64,Try.ntmps64
 go_wp2
 go_loopg [1,5] k (fun kq v1 v5 w'=>∃ (x1_1:Int) (x5_1:List Int) (x1001_1:Int) (x1002_1:Int),v1 = .int .i64 x1_1∧ba_ (Fap.l0 kq x1_1 x5_1 s0_0 x1001_1 x1002_1=some (r1,r2,r3))∧ba_ (kq≤k)∧ba_ (Kd.R (Kd.int .u8) 5 w' w.heap.size (fun _=>True) v5 x5_1)∧ba_ (IsS63 w0 w' g s0_0 x1001_1 x1002_1)∧ba_ (KeepBut w w' g none)∧ba_ (Below w0.heap.size w0 w'))
 case atStart=>exact ⟨(a1),(([]:List Int)),(s0_1),(s0_2),rfl,H',⟨Nat.le_refl _⟩,⟨by first|apply Kd.di_|apply Kd.N_nil|apply Kd.V_nil|apply Kd.Q_nil|apply Kd.S_nil⟩,⟨by repeat (first|(with_reducible first|exact HI0.o|apply IsS63.alloc|apply IsS63.drewN|apply IsS63.drew|apply IsS63.set_1|apply IsS63.set_2)|exact HI0.o)⟩,⟨by repeat (first|(with_reducible first|exact HK.o|apply KeepBut.set_|apply bA_|apply bG_|apply bz_)|exact HK.o)⟩,⟨zB HB.o⟩⟩
 case round =>
  clear H';obtain ⟨x1_1,x5_1,x1001_1,x1002_1,rfl,HA,HK1,HO_5,HI0,HK,HB⟩:=hrel
  cases gk with
  | zero=>exact absurd HA.o (by simp [Fap.l0])
  | succ k1 =>
   have H:=HA.o;clear HA
   simp only [Fap.l0] at H
   by_cases c3:x1_1 > 0
   ·rw [if_pos c3] at H;have c3b0:decide (0<x1_1)=true:=decide_eq_true c3;clear c3;obtain ⟨⟨t456,t457,t458⟩,A4,H⟩:=bi_ H;dsimp only at H
    obtain ⟨c5,H⟩:=it_ H;have LMc5:=am c5;clear c5;obtain ⟨y459,hy459⟩:∃ y_:List Int,y_=(x5_1++[t456]):=⟨_,rfl⟩
    replace H:(Fap.l0 k1 (wrap64 (x1_1 - 1)) y459 s0_0 t457 t458)=some (r1,r2,r3):=by first|(rw [hy459];exact H)|(have H2_:=(Option.bind_some _ _).symm.trans H;first|exact H2_|(rw [hy459];exact H2_))|exact H
    have Ny459:=am hy459;clear hy459;have H':=am H;clear H
    go_wp2_with (first|((with_reducible refine bf_ (f:=82) rfl ?_);refine goL_ (some 12) Try.func82 #[.pointer (some ⟨g,0,none⟩)] ?_;(with_reducible refine (Fbk.calls g s0_0 x1001_1 x1002_1 t456 t457 t458 w0 _ ?side1 ?side2 A4.o).mono ?_);(case side1=>repeat (first|(with_reducible first|exact HI0.o|apply IsS63.alloc|apply IsS63.drewN|apply IsS63.drew|apply IsS63.set_1|apply IsS63.set_2)|exact HI0.o));(case side2=>repeat (first|(with_reducible first|exact HB.o|apply bk_|apply be_|apply bg_|refine bl_ ?_ (IsS63.ge HI0.o))|exact HB.o));rintro e w6 ⟨rfl,hi,hb,hk⟩;refine ⟨_,rfl,?_⟩;replace HO_5:=am (Kd.bq_ (Kd.R_keep (IsS63.apart (show IsS63 w0 _ g s0_0 x1001_1 x1002_1 from by repeat (first|(with_reducible first|exact HI0.o|apply IsS63.alloc|apply IsS63.drewN|apply IsS63.drew|apply IsS63.set_1|apply IsS63.set_2)|exact HI0.o)) (zR HO_5.o) (by decide)) hk (fun _ h=>h.2)) (fun _ h=>h.1));replace HK:=am (KeepBut.trans (by repeat (first|(with_reducible first|exact HK.o|apply KeepBut.set_|apply bA_|apply bG_|apply bz_)|exact HK.o)) hk (.inl rfl));replace HB:=am (hb);replace HI0:=am (hi);(try clear hb);(try clear hb2);(try clear hk);(try clear hi))|((with_reducible refine bE_ (b:=.append) (xs:=#[.tmp 10,.tmp 13]) rfl ?_);at_builtin;refine Kd.cY_ (Kd.int .u8) w.heap.size rfl (.tmp 10) (.tmp 13) 22 5 (.int .u8 0) 1 rfl Try.underlying22 info5 rfl (by decide) (by omega) u5 x5_1 t456 [.int .u8 t456] (fun _=>True) (fun _=>False) rfl rfl ?aP (fun _ hk=>hk.elim) ?aF ?aO (Below.refl _ _) ?aS ?aL ?_;(case aP=>exact rfl);(case aF=>exact (fun _ _=>trivial));(case aO=>exact (zR HO_5.o));(case aS=>exact (keep_size (w:=w) (g:=g) (row:=none) (by repeat (first|(with_reducible first|exact HK.o|apply KeepBut.set_|apply bA_|apply bG_|apply bz_)|exact HK.o))));(case aL=>have:=LMc5.o;omega);intro v460 w7 ho hb hg hat;rw [← Ny459.o] at ho;replace HI0:=am (IsS63.grown (by repeat (first|(with_reducible first|exact HI0.o|apply IsS63.alloc|apply IsS63.drewN|apply IsS63.drew|apply IsS63.set_1|apply IsS63.set_2)|exact HI0.o)) hg (IsS63.own_ne HI0.o HO_5.o (by decide)));replace HB:=am (below_weaken (zB HB.o) HL.o hb);replace HK:=am (KeepBut.trans (by repeat (first|(with_reducible first|exact HK.o|apply KeepBut.set_|apply bA_|apply bG_|apply bz_)|exact HK.o)) (KeepBut.of_grown hg g) (Kd.R_base2 HO_5.o));have HO461:=am (ho);(try clear HO_5);clear ho hb hg hat))
    go_roundg k1
    case measure=>have:=HK1.o;omega
    case rel=>exact ⟨(wrap64 (x1_1 - 1)),(y459),(t457),(t458),rfl,H',⟨by have:=HK1.o;omega⟩,⟨zR HO461.o⟩,⟨by repeat (first|(with_reducible first|exact HI0.o|apply IsS63.alloc|apply IsS63.drewN|apply IsS63.drew|apply IsS63.set_1|apply IsS63.set_2)|exact HI0.o)⟩,⟨by repeat (first|(with_reducible first|exact HK.o|apply KeepBut.set_|apply bA_|apply bG_|apply bz_)|exact HK.o)⟩,⟨zB HB.o⟩⟩
   ·rw [if_neg c3] at H;have c3b0:decide (0<x1_1)=false:=decide_eq_false c3;clear c3
    simp only [Option.some.injEq,Prod.mk.injEq] at H
    obtain ⟨rfl,rfl,rfl⟩:=H
    go_wp2
    go_ret
    exact ⟨_,rfl,zR HO_5.o,by repeat (first|(with_reducible first|exact HI0.o|apply IsS63.alloc|apply IsS63.drewN|apply IsS63.drew|apply IsS63.set_1|apply IsS63.set_2)|exact HI0.o),zB HB.o,by repeat (first|(with_reducible first|exact HK.o|apply KeepBut.set_|apply bA_|apply bG_|apply bz_)|exact HK.o)⟩

/-! ### spec_DrawEncodeWord: function 30 -/
def Fbo.f (k:Nat) (l0:List Int):Option (List Int × Int):=(Fbh.f l0 0 0 (([0,1,2,5,8,16,17,22,23]:List Int))).bind fun bt466=>((Fap.f k l0 bt466.2.1 bt466.2.2 bt466.1).bind fun bt469=>((Fq.f l0 bt469.2.1 bt469.2.2 6).bind fun bt474=>(some (bt469.1,bt474.1))))
set_option maxHeartbeats 8000000 in
set_option maxRecDepth 100000 in
theorem Fbo.calls (k:Nat) (A0:Option Addr) (c0:Nat) (l0:List Int) (r1:List Int) (r2:Int) (w:World) (hr0:Kd.C (Kd.int .u8) w A0 l0.length l0) (hc0:l0.length≤c0) (h:Fbo.f k l0=some (r1,r2)) :
  Calls Try.prog 30 #[.slice A0 l0.length c0] w fun e w'=>∃ v0_:Value,e = .returned (.tuple #[v0_,.int .i64 r2])∧Kd.R (Kd.int .u8) 5 w' w.heap.size (fun _=>True) v0_ r1∧Below w.heap.size w w':=by
 have hu63:=Try.underlying63;have HR0:=am hr0;have HC0:=am hc0;clear hr0 hc0;have HB:=am (Below.refl w.heap.size w);have H:((Fbh.f l0 0 0 (([0,1,2,5,8,16,17,22,23]:List Int))).bind fun bt466=>((Fap.f k l0 bt466.2.1 bt466.2.2 bt466.1).bind fun bt469=>((Fq.f l0 bt469.2.1 bt469.2.2 6).bind fun bt474=>(some (bt469.1,bt474.1)))))=some (r1,r2):=h;clear h;(try rw [Option.bind_some] at H);generalize hy463:(([0,1,2,5,8,16,17,22,23]:List Int))=y463 at H;have Ny463:=am hy463.symm;clear hy463;obtain ⟨⟨t466,t467,t468⟩,A2,H⟩:=bi_ H;dsimp only at H;obtain ⟨⟨t469,t472,t473⟩,A3,H⟩:=bi_ H;dsimp only at H;obtain ⟨⟨t474,t475,t476⟩,A4,H⟩:=bi_ H;dsimp only at H
 simp only [Option.some.injEq,Prod.mk.injEq] at H
 obtain ⟨rfl,rfl⟩:=H
 go_enter Try.func30,Try.ntmps30
 go_wp2_with (first|((with_reducible refine bB_ (N:=7) rfl ?_);refine bU_ ?hg (N:=7) ?hd (cs:=#[.slice A0 l0.length c0,.int .i64 0,.int .u64 0]) (t:=63) ?hr ?_;(case hd=>rfl);(case hg=>rfl);(case hr=>first|(go_simp;done)|(go_simp;rfl));intro gb462 hg w5 hbox hb;have HI462:=am ((show IsS63 w w5 gb462 l0 0 0 from ⟨_,_,hbox,(gw_ hg HB.o:w.heap.size≤gb462),HR0.o⟩));replace HB:=am (bh_ (zB HB.o) hb);clear hb hbox hg)|((with_reducible refine bB_ (N:=10) rfl ?_);refine Kd.R_lit (Kd.int .i64) _ 3 ?hg (N:=10) ?hd (xs:=([0,1,2,5,8,16,17,22,23]:List Int)) (inner:=[.int .i64 0,.int .i64 1,.int .i64 2,.int .i64 5,.int .i64 8,.int .i64 16,.int .i64 17,.int .i64 22,.int .i64 23]) (ok:=fun _=>True) (okp:=fun _=>True) ?hr ?hp (fun _ hk=>hk) trivial (Below.refl _ _) (Nat.le_refl _) (by simp) ?_;(case hd=>rfl);(case hg=>rfl);(case hr=>first|(go_simp;done)|(go_simp;rfl));(case hp=>exact (Reps.one (show Kd.M (Kd.int .i64) _ _ _ 0 [.int .i64 0] from rfl) (Reps.one (show Kd.M (Kd.int .i64) _ _ _ 1 [.int .i64 1] from rfl) (Reps.one (show Kd.M (Kd.int .i64) _ _ _ 2 [.int .i64 2] from rfl) (Reps.one (show Kd.M (Kd.int .i64) _ _ _ 5 [.int .i64 5] from rfl) (Reps.one (show Kd.M (Kd.int .i64) _ _ _ 8 [.int .i64 8] from rfl) (Reps.one (show Kd.M (Kd.int .i64) _ _ _ 16 [.int .i64 16] from rfl) (Reps.one (show Kd.M (Kd.int .i64) _ _ _ 17 [.int .i64 17] from rfl) (Reps.one (show Kd.M (Kd.int .i64) _ _ _ 22 [.int .i64 22] from rfl) (Reps.one (show Kd.M (Kd.int .i64) _ _ _ 23 [.int .i64 23] from rfl) (Reps.none _ _)))))))))));intro v464 w6 ho7 hb hg_ hnew_;clear hg_ hnew_;(first|rw [← Ny463.o] at ho7|(simp only [Int.reduceToNat] at ho7;rw [← Ny463.o] at ho7));have HO465:=am (Kd.bx_ ho7 (zs_ HB.o));replace HI462:=am (IsS63.below (by repeat (first|(with_reducible first|exact HI462.o|apply IsS63.alloc|apply IsS63.drewN|apply IsS63.drew|apply IsS63.set_1|apply IsS63.set_2)|exact HI462.o)) hb);replace HB:=am (bh_ (zB HB.o) hb);clear hb ho7;obtain ⟨Ao8,co8,eo8⟩:=Kd.bv_ HO465.o;subst eo8)|((with_reducible refine bf_ (f:=65) rfl ?_);refine goL_ (some 11) Try.func65 #[.pointer (some ⟨gb462,0,none⟩),.slice Ao8 y463.length co8] ?_;(with_reducible refine (Fbh.calls gb462 l0 0 0 _ _ y463 t466 t467 t468 w _ ?side1 ?side2 ?side3 ?side4 ?side5 A2.o).mono ?_);(case side1=>repeat (first|(with_reducible first|exact HI462.o|apply IsS63.alloc|apply IsS63.drewN|apply IsS63.drew|apply IsS63.set_1|apply IsS63.set_2)|exact HI462.o));(case side2=>repeat (first|(with_reducible first|exact HB.o|apply bk_|apply be_|apply bg_|refine bl_ ?_ (IsS63.ge HI462.o))|exact HB.o));(case side3=>exact zC ((Kd.bj_ HO465.o).2.2));(case side4=>exact (Kd.bj_ HO465.o).2.1);(case side5=>exact far_slice (IsS63.own_ne HI462.o HO465.o (by decide)));rintro e w9 ⟨rfl,hi,hb,hk⟩;refine ⟨_,rfl,?_⟩;replace HO465:=am (Kd.bq_ (Kd.R_keep (IsS63.apart (show IsS63 w _ gb462 l0 0 0 from by repeat (first|(with_reducible first|exact HI462.o|apply IsS63.alloc|apply IsS63.drewN|apply IsS63.drew|apply IsS63.set_1|apply IsS63.set_2)|exact HI462.o)) (zR HO465.o) (by decide)) hk (fun _ h=>h.2)) (fun _ h=>h.1));replace HB:=am (hb);replace HI462:=am (hi);(try clear hb);(try clear hb2);(try clear hk);(try clear hi))|((with_reducible refine bf_ (f:=64) rfl ?_);refine goL_ (some 12) Try.func64 #[.pointer (some ⟨gb462,0,none⟩),.int .i64 t466] ?_;(with_reducible refine (Fap.calls k gb462 l0 t467 t468 t466 t469 t472 t473 w _ ?side1 ?side2 A3.o).mono ?_);(case side1=>repeat (first|(with_reducible first|exact HI462.o|apply IsS63.alloc|apply IsS63.drewN|apply IsS63.drew|apply IsS63.set_1|apply IsS63.set_2)|exact HI462.o));(case side2=>repeat (first|(with_reducible first|exact HB.o|apply bk_|apply be_|apply bg_|refine bl_ ?_ (IsS63.ge HI462.o))|exact HB.o));rintro e w10 ⟨v470,rfl,ho0,hi,hb,hk⟩;refine ⟨_,rfl,?_⟩;replace HO465:=am (Kd.bq_ (Kd.R_keep (IsS63.apart (show IsS63 w _ gb462 l0 t467 t468 from by repeat (first|(with_reducible first|exact HI462.o|apply IsS63.alloc|apply IsS63.drewN|apply IsS63.drew|apply IsS63.set_1|apply IsS63.set_2)|exact HI462.o)) (zR HO465.o) (by decide)) hk (fun _ h=>h.2)) (fun _ h=>h.1));have HO471:=am (Kd.bx_ ho0 (zs_ HB.o));replace HB:=am (hb);replace HI462:=am (hi);(try clear hb);(try clear ho0))|((with_reducible refine bf_ (f:=66) rfl ?_);refine goL_ (some 14) Try.func66 #[.pointer (some ⟨gb462,0,none⟩),.int .i64 6] ?_;(with_reducible refine (Fq.calls gb462 l0 t472 t473 6 t474 t475 t476 w _ ?side1 ?side2 A4.o).mono ?_);(case side1=>repeat (first|(with_reducible first|exact HI462.o|apply IsS63.alloc|apply IsS63.drewN|apply IsS63.drew|apply IsS63.set_1|apply IsS63.set_2)|exact HI462.o));(case side2=>repeat (first|(with_reducible first|exact HB.o|apply bk_|apply be_|apply bg_|refine bl_ ?_ (IsS63.ge HI462.o))|exact HB.o));rintro e w11 ⟨rfl,hi,hb,hk⟩;refine ⟨_,rfl,?_⟩;replace HO465:=am (Kd.bq_ (Kd.R_keep (IsS63.apart (show IsS63 w _ gb462 l0 t472 t473 from by repeat (first|(with_reducible first|exact HI462.o|apply IsS63.alloc|apply IsS63.drewN|apply IsS63.drew|apply IsS63.set_1|apply IsS63.set_2)|exact HI462.o)) (zR HO465.o) (by decide)) hk (fun _ h=>h.2)) (fun _ h=>h.1));replace HO471:=am (Kd.bq_ (Kd.R_keep (IsS63.apart (show IsS63 w _ gb462 l0 t472 t473 from by repeat (first|(with_reducible first|exact HI462.o|apply IsS63.alloc|apply IsS63.drewN|apply IsS63.drew|apply IsS63.set_1|apply IsS63.set_2)|exact HI462.o)) (zR HO471.o) (by decide)) hk (fun _ h=>h.2)) (fun _ h=>h.1));replace HB:=am (hb);replace HI462:=am (hi);(try clear hb);(try clear hb2);(try clear hk);(try clear hi)))
 go_ret2
 exact ⟨_,rfl,zR HO471.o,zB HB.o⟩

/-! ### impl_DistanceOf: function 31 -/
mutual
def Fn.j0:Nat→List Int→List Int→Bool→Option (Int × Bool)
 | 0,_,_,_=>none
 | k+1,x0,x1,x18=>if x18=true then (some (0,false)) else (Fn.l0 k x1 0 x0 (x0.length:Int) 0)
def Fn.l0:Nat→List Int→Int→List Int→Int→Int→Option (Int × Bool)
 | 0,_,_,_,_,_=>none
 | k+1,x1,x6,x19,x20,x21=>if x21<x20 then (if 0≤x21 then (if x21<(x19.length:Int) then (if x21<(x1.length:Int) then (if (rd x19 x21)=(rd x1 x21) then (Fn.l0 k x1 x6 x19 x20 (wrap64 (x21+1))) else (Fn.l0 k x1 (wrap64 (x6+1)) x19 x20 (wrap64 (x21+1)))) else (none)) else (none)) else (none)) else (some (x6,true))
end
def Fn.f (k:Nat) (l0:List Int) (l1:List Int):Option (Int × Bool):=if (l0.length:Int)=(l1.length:Int) then (Fn.j0 k l0 l1 (decide ((l0.length:Int) > 24))) else (Fn.j0 k l0 l1 true)
set_option maxHeartbeats 8000000 in
set_option maxRecDepth 100000 in
theorem Fn.calls (k:Nat) (A0:Option Addr) (c0:Nat) (l0:List Int) (A1:Option Addr) (c1:Nat) (l1:List Int) (r1:Int) (r2:Bool) (w:World) (hr0:Kd.C (Kd.int .u8) w A0 l0.length l0) (hc0:l0.length≤c0) (hr1:Kd.C (Kd.int .u8) w A1 l1.length l1) (hc1:l1.length≤c1) (h:Fn.f k l0 l1=some (r1,r2)) :
  Calls Try.prog 31 #[.slice A0 l0.length c0,.slice A1 l1.length c1] w fun e w'=>e = .returned (.tuple #[.int .i64 r1,.bool r2])∧bp_ w w':=by
 have HR0:=am hr0;have HC0:=am hc0;clear hr0 hc0;have HR1:=am hr1;have HC1:=am hc1;clear hr1 hc1;have H:(if (l0.length:Int)=(l1.length:Int) then (Fn.j0 k l0 l1 (decide ((l0.length:Int) > 24))) else (Fn.j0 k l0 l1 true))=some (r1,r2):=h;clear h;have HC3:=am H;clear H
 go_enter Try.func31,Try.ntmps31
 go_upto_region 1 with (fail)
 go_cut [18] (fun v18 wc=>∃ (kq:Nat) (x18_2:Bool),v18 = .bool x18_2∧ba_ (Fn.j0 kq l0 l1 x18_2=some (r1,r2))∧ba_ (kq≤k)∧bp_ w wc)
 case first =>
  have H:=HC3.o;clear HC3
  by_cases c4:(l0.length:Int)=(l1.length:Int)
  ·rw [if_pos c4] at H;have c4b0:((l0.length:Int) == (l1.length:Int))=true:=beq_iff_eq.mpr c4;have c4b1:((l0.length:Int) != (l1.length:Int))=false:=bne_eq_false_iff_eq.mpr c4
   have c4b2:(l0.length == l1.length)=true:=by first|simpa using c4|(simp at c4 ⊢;omega)
   clear c4
   (first|rw [c4b0]|(simp only [bI_,bL_];rw [c4b0])|skip)
   have H':=am H;clear H
   go_wp2
   go_meet
   case rel=>exact ⟨_,(decide ((l0.length:Int) > 24)),rfl,H',⟨by first|omega|exact Nat.le_refl _⟩,by repeat (first|exact bp_.refl _|apply bp_.step)⟩
  ·rw [if_neg c4] at H;have c4b0:((l0.length:Int) == (l1.length:Int))=false:=beq_eq_false_iff_ne.mpr c4;have c4b1:((l0.length:Int) != (l1.length:Int))=true:=bne_iff_ne.mpr c4
   have c4b2:(l0.length == l1.length)=false:=by first|simpa using c4|(simp at c4 ⊢;omega)
   (first|rw [c4b0]|(simp only [bI_,bL_];rw [c4b0])|skip)
   have H':=am H;clear H
   go_wp2
   go_meet
   case rel=>exact ⟨_,(true),rfl,H',⟨by first|omega|exact Nat.le_refl _⟩,by repeat (first|exact bp_.refl _|apply bp_.step)⟩
 case rest =>
  clear HC3;obtain ⟨kq,x18_2,rfl,HA,HJ2,⟨mc2,rfl⟩⟩:=hcut
  cases kq with
  | zero=>exact absurd HA.o (by simp [Fn.j0])
  | succ kj2 =>
   have H:=HA.o;clear HA
   simp only [Fn.j0] at H
   by_cases c5:x18_2=true
   ·subst c5
    have H1:(some (0,false))=some (r1,r2):=by rw [if_pos rfl] at H;exact H
    clear H;have H:=H1;clear H1
    simp only [Option.some.injEq,Prod.mk.injEq] at H
    obtain ⟨rfl,rfl⟩:=H
    go_wp2
    go_ret2
    exact ⟨by first|rfl|(simp;done)|(simp [*];done),by repeat (first|exact bp_.refl _|apply bp_.step)⟩
   ·replace c5:=Bool.eq_false_iff.mpr c5
    subst c5
    have H1:(Fn.l0 kj2 l1 0 l0 (l0.length:Int) 0)=some (r1,r2):=by rw [if_neg (show ¬ (false=true) by decide)] at H;exact H
    clear H;have H:=H1;clear H1;have H':=am H;clear H
    go_wp2
    go_loopg [6,21] kj2 (fun kq v6 v21 w'=>∃ (x6_2:Int) (x21_2:Int),v6 = .int .i64 x6_2∧v21 = .int .i64 x21_2∧ba_ (Fn.l0 kq l1 x6_2 l0 (l0.length:Int) x21_2=some (r1,r2))∧ba_ (kq≤kj2)∧bp_ w w')
    case atStart=>exact ⟨(0),(0),rfl,rfl,H',⟨Nat.le_refl _⟩,by repeat (first|exact bp_.refl _|apply bp_.step)⟩
    case round =>
     clear H';obtain ⟨x6_2,x21_2,rfl,rfl,HA,HK2,⟨m2,rfl⟩⟩:=hrel
     cases gk with
     | zero=>exact absurd HA.o (by simp [Fn.l0])
     | succ k2 =>
      have H:=HA.o;clear HA
      simp only [Fn.l0] at H
      by_cases c6:x21_2<(l0.length:Int)
      ·rw [if_pos c6] at H;have c6b0:=decide_eq_true c6;clear c6
       obtain ⟨c7,H⟩:=it_ H;have c7b0:=decide_eq_true c7;clear c7
       obtain ⟨c8,H⟩:=it_ H;have c8b0:=decide_eq_true c8;clear c8
       obtain ⟨c9,H⟩:=it_ H;have c9b0:=decide_eq_true c9;clear c9
       by_cases c10:(rd l0 x21_2)=(rd l1 x21_2)
       ·rw [if_pos c10] at H;have c10b0:((rd l0 x21_2) == (rd l1 x21_2))=true:=beq_iff_eq.mpr c10;have c10b1:((rd l0 x21_2) != (rd l1 x21_2))=false:=bne_eq_false_iff_eq.mpr c10;clear c10;have H':=am H;clear H;have p477:0≤(x21_2:Int):=od_;have q477:x21_2<(l0.length:Int):=od_;obtain ⟨ad477,e477,hx477_0⟩:=Kd.bK_ HR0.o x21_2 p477 q477;cases e477;replace p477:=eq_true p477;replace q477:=eq_true q477;have p478:0≤(x21_2:Int):=od_;have q478:x21_2<(l1.length:Int):=od_;obtain ⟨ad478,e478,hx478_0⟩:=Kd.bK_ HR1.o x21_2 p478 q478;cases e478;replace p478:=eq_true p478;replace q478:=eq_true q478
        go_wp2
        go_roundg k2
        case measure=>have:=HJ2.o;have:=HK2.o;omega
        case rel=>exact ⟨(x6_2),(wrap64 (x21_2+1)),rfl,rfl,H',⟨by have:=HJ2.o;have:=HK2.o;omega⟩,by repeat (first|exact bp_.refl _|apply bp_.step)⟩
       ·rw [if_neg c10] at H;have c10b0:((rd l0 x21_2) == (rd l1 x21_2))=false:=beq_eq_false_iff_ne.mpr c10;have c10b1:((rd l0 x21_2) != (rd l1 x21_2))=true:=bne_iff_ne.mpr c10;have H':=am H;clear H;have p477:0≤(x21_2:Int):=od_;have q477:x21_2<(l0.length:Int):=od_;obtain ⟨ad477,e477,hx477_0⟩:=Kd.bK_ HR0.o x21_2 p477 q477;cases e477;replace p477:=eq_true p477;replace q477:=eq_true q477;have p478:0≤(x21_2:Int):=od_;have q478:x21_2<(l1.length:Int):=od_;obtain ⟨ad478,e478,hx478_0⟩:=Kd.bK_ HR1.o x21_2 p478 q478;cases e478;replace p478:=eq_true p478;replace q478:=eq_true q478
        go_wp2
        go_roundg k2
        case measure=>have:=HJ2.o;have:=HK2.o;omega
        case rel=>exact ⟨(wrap64 (x6_2+1)),(wrap64 (x21_2+1)),rfl,rfl,H',⟨by have:=HJ2.o;have:=HK2.o;omega⟩,by repeat (first|exact bp_.refl _|apply bp_.step)⟩
      ·rw [if_neg c6] at H;have c6b0:=decide_eq_false c6;clear c6
       simp only [Option.some.injEq,Prod.mk.injEq] at H
       obtain ⟨rfl,rfl⟩:=H
       go_wp2
       go_ret2
       exact ⟨by first|rfl|(simp;done)|(simp [*];done),by repeat (first|exact bp_.refl _|apply bp_.step)⟩

/-! ### laws_sameBytes: function 32 -/
def Faa.f (l0:List Int) (l1:List Int):Option (Bool):=some ((strOfNums l0).toList == (strOfNums l1).toList)
set_option maxHeartbeats 8000000 in
set_option maxRecDepth 100000 in
theorem Faa.calls (A0:Option Addr) (c0:Nat) (l0:List Int) (A1:Option Addr) (c1:Nat) (l1:List Int) (r:Bool) (w:World) (hr0:Kd.C (Kd.int .u8) w A0 l0.length l0) (hc0:l0.length≤c0) (hr1:Kd.C (Kd.int .u8) w A1 l1.length l1) (hc1:l1.length≤c1) (h:Faa.f l0 l1=some r) :
  Calls Try.prog 32 #[.slice A0 l0.length c0,.slice A1 l1.length c1] w fun e w'=>e = .returned (.bool r)∧bp_ w w':=by
 have HR0:=am hr0;have HC0:=am hc0;clear hr0 hc0;have HR1:=am hr1;have HC1:=am hc1;clear hr1 hc1;have H:(some ((strOfNums l0).toList == (strOfNums l1).toList))=some r:=h;clear h;obtain rfl:=Option.some.inj H;have hcv3:=Kd.C_string (P:=Try.prog) (A:=A0) (c:=c0) Try.underlying22 Try.underlying5 Try.underlying9 HR0.o;have hcv4:=Kd.C_string (P:=Try.prog) (A:=A1) (c:=c1) Try.underlying22 Try.underlying5 Try.underlying9 HR1.o
 go_enter Try.func32,Try.ntmps32
 go_wp2
 go_ret
 exact ⟨by first|rfl|(simp;done)|(simp [*];done),by repeat (first|exact bp_.refl _|apply bp_.step)⟩

end Go.Proofs.Ytbloniemhkfnlaa.PFnCorrected
