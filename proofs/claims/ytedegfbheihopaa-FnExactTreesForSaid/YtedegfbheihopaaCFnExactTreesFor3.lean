/- Functions, walks and plain lemmas that the law FnExactTreesFor reaches, part 3. -/
import Derived.Test.YtedegfbheihopaaCFnExactTreesFor2
import Derived.WalkKit
import Derived.ProofKit
import Derived.OpenShut
import Derived.ChangeOld
import Derived.Below
import Derived.SizedLaws
import Derived.ChangeArms
import Derived.DataElems
import Derived.Deep.Draws
import Derived.Deep.AppendLies
import Derived.Maps.AppendAt
import Derived.OwnWalk
import Derived.Laws.BytesArg
import Derived.Laws.MakeOwn
import Derived.Laws.OwnMore
import Derived.Deep.OwnRows
import Derived.Tactics
import Derived.Lib.ConvBytes
import Derived.Laws.Slices
import Derived.KernelRfl
import Derived.RowKit3
import Derived.Deep.LoopGhost
import Derived.Deep.QuietTactic
import Derived.BigQuiet
import Derived.WideLaws
import Derived.Deep.DeepCutAuto
import Derived.Deep.CutBlock
import Derived.Deep.RegionHeld3
import Derived.Laws.Rows
import Derived.Lib.AppendStr
import Derived.ArgAppend
import Derived.Laws.IdiomCopy
import Derived.OrdersHeld
import Derived.Laws.BitsLemmas
import Derived.RowKit
import Derived.WalkSpells
import Derived.Lib.SliceRun
import Derived.Shelf.Abstract
import Derived.ShutString
namespace Go.Proofs.Ytedegfbheihopaa.P
open Go.RowKit Go.Proofs.YtedegfbheihopaaW.PrintWords Go.Proofs.YtedegfbheihopaaW.PrintLast Go.Proofs.YtedegfbheihopaaW.PrintMore
attribute [local go_sem] max2_int min2_int max_two min_two max_three min_three max_four min_four   -- for this text's walks alone
set_option linter.unusedVariables false
set_option linter.unusedSimpArgs false
def impl_cost.l0:Nat→Int→Int→List (S79)→Int→Int→Option (Int)
 | 0,_,_,_,_,_=>none
 |k+1,x1,x2,x9,x10,x11=>if x11<x10 then(if 0≤x11 then(if x11< (x9.length:Int) then(if ((rd_T79 x9 x11).f0)= (mn x1 x2) then(if ((rd_T79 x9 x11).f1)= (mx x1 x2) then(some ((rd_T79 x9 x11).f2)) else(impl_cost.l0 k x1 x2 x9 x10 (wrap64 (x11+1)))) else(impl_cost.l0 k x1 x2 x9 x10 (wrap64 (x11+1)))) else(none)) else(none)) else(some 0)
def impl_cost.f (k:Nat) (l0:List (S79)) (a1:Int) (a2:Int):Option (Int):=impl_cost.l0 k a1 a2 l0 (l0.length:Int) 0
set_option maxHeartbeats 8000000 in
set_option maxRecDepth 100000 in
theorem impl_cost.calls (k:Nat) (A0:Option Addr) (c0:Nat) (l0:List (S79)) (a1:Int) (a2:Int) (r:Int) (w:World) (hr0:Kd.C k79 w A0 l0.length l0) (hc0:l0.length≤c0) (h:impl_cost.f k l0 a1 a2=some r):
  Calls Try.prog 70 #[.slice A0 l0.length c0,.int .i64 a1,.int .i64 a2] w fun e w'=>e= .returned (.int .i64 r)∧Below w.heap.size w w':=by
 have hu79:=Try.underlying79
 have HR0:=Aside0.mk hr0
 have HC0:=Aside0.mk hc0
 clear hr0 hc0
 have HB:=Aside0.mk (Below.refl w.heap.size w)
 have H:(impl_cost.l0 k a1 a2 l0 (l0.length:Int) 0)=some r:=h
 clear h
 have H':=Aside0.mk H
 clear H
 go_enter Try.func70,Try.ntmps70
 go_wp2
 go_loopg [11] k (fun kq v11 w'=> ∃ (x11_1:Int),v11= .int .i64 x11_1∧Aside0 (impl_cost.l0 kq a1 a2 l0 (l0.length:Int) x11_1=some r)∧Aside0 (kq≤k)∧Aside0 (Below w.heap.size w w'))
 case atStart=>exact⟨(0),(by first|rfl|(simp;done)|(simp [*];done)),H',⟨Nat.le_refl _⟩,⟨by repeat(first|(with_reducible first|exact HB.out|apply below_alloc|apply pw_below_drewN|apply below_drew1)|exact HB.out)⟩⟩
 case round=>
  clear H'
  try clear p2
  obtain⟨x11_1,rfl,HA,HK1,HB⟩:=hrel
  cases gk with
  |zero=>exact absurd HA.out (by simp [impl_cost.l0])
  |succ k1=>
   have H:=HA.out
   clear HA
   simp only [impl_cost.l0] at H
   by_cases c4:x11_1< (l0.length:Int)
   ·rw [if_pos c4] at H
    have c4b0:decide (x11_1< (l0.length:Int))=true:=decide_eq_true c4
    clear c4
    by_cases c5: 0≤x11_1
    ·rw [if_pos c5] at H
     have c5b0:decide (0≤x11_1)=true:=decide_eq_true c5
     clear c5
     by_cases c6:x11_1< (l0.length:Int)
     ·rw [if_pos c6] at H
      have c6b0:decide (x11_1< (l0.length:Int))=true:=decide_eq_true c6
      clear c6
      obtain⟨ji7,hji7⟩ :∃ j_:Int,(mn a1 a2)=j_:=⟨_,rfl⟩
      replace H:(if ((rd_T79 l0 x11_1).f0)= (ji7) then(if ((rd_T79 l0 x11_1).f1)= (mx a1 a2) then(some ((rd_T79 l0 x11_1).f2)) else(impl_cost.l0 k1 a1 a2 l0 (l0.length:Int) (wrap64 (x11_1+1)))) else(impl_cost.l0 k1 a1 a2 l0 (l0.length:Int) (wrap64 (x11_1+1))))=some r:=by first|(rw [hji7] at H;exact H)|(simp only [hji7] at H ⊢;exact H)
      have hji7_:(if a2<a1 then a2 else a1)=ji7:=hji7
      by_cases c8:((rd_T79 l0 x11_1).f0)= (ji7)
      ·rw [if_pos c8] at H
       have c8b0:(((rd_T79 l0 x11_1).f0)== (ji7))=true:=beq_iff_eq.mpr c8
       have c8b1:(((rd_T79 l0 x11_1).f0) != (ji7))=false:=bne_eq_false_iff_eq.mpr c8
       clear c8
       obtain⟨ji9,hji9⟩ :∃ j_:Int,(mx a1 a2)=j_:=⟨_,rfl⟩
       replace H:(if ((rd_T79 l0 x11_1).f1)= (ji9) then(some ((rd_T79 l0 x11_1).f2)) else(impl_cost.l0 k1 a1 a2 l0 (l0.length:Int) (wrap64 (x11_1+1))))=some r:=by first|(rw [hji9] at H;exact H)|(simp only [hji9] at H ⊢;exact H)
       have hji9_:(if a1<a2 then a2 else a1)=ji9:=hji9
       by_cases c10:((rd_T79 l0 x11_1).f1)= (ji9)
       ·rw [if_pos c10] at H
        have c10b0:(((rd_T79 l0 x11_1).f1)== (ji9))=true:=beq_iff_eq.mpr c10
        have c10b1:(((rd_T79 l0 x11_1).f1) != (ji9))=false:=bne_eq_false_iff_eq.mpr c10
        clear c10
        obtain rfl:=Option.some.inj H
        have p264: 0≤ (x11_1:Int):=of_decide_eq_true zq1
        have q264:x11_1< (l0.length:Int):=of_decide_eq_true zq1
        obtain⟨ad264,e264,hx264_0,hx264_1,hx264_2⟩:=at_T79 HR0.out x11_1 p264 q264
        cases e264
        replace hx264_0:=(HB.out.cell (World.block_lt_of_cell? w _ hx264_0)).trans hx264_0
        replace hx264_1:=(HB.out.cell (World.block_lt_of_cell? w _ hx264_1)).trans hx264_1
        replace hx264_2:=(HB.out.cell (World.block_lt_of_cell? w _ hx264_2)).trans hx264_2
        replace p264:=eq_true p264
        replace q264:=eq_true q264
        go_wp2_with (first|((with_reducible refine gate_dst (N:=8) rfl ?_);(try(refine gate_guard (by rfl) ?_;dsimp only));refine box_event ?hg (N:=8) ?hd (cs:= #[.int .i64 0,.int .i64 0,.int .i64 0]) (t:=79) ?hr ?_;(case hd=>rfl);(case hg=>rfl);(case hr=>first|(go_simp;done)|(go_simp;rfl));intro gb265 hg w11 hbox hb;have n0_:=Aside0.mk (below_step (zb0 HB) hb);have n1_:=Aside0.mk (hbox);have n2_:=Aside0.mk ((by rw [hg];exact(below_size (zb0 HB)):w.heap.size≤gb265));have n3_:=Aside0.mk ((by rw [hg];exact(below_size (zb0 HB)):w.heap.size≤gb265));clear HB;have HB:=n0_;have BK265:=n1_;have GW265:=n2_;have GE265:=n3_;clear n0_ n1_ n2_ n3_;clear hb hbox hg;have hcz12_0:w11.cell? ⟨gb265,0,none⟩=some (.int .i64 0):=(blk_cell BK265.out 0).trans rfl;have hcz12_1:w11.cell? ⟨gb265,1,none⟩=some (.int .i64 0):=(blk_cell BK265.out 1).trans rfl;have hcz12_2:w11.cell? ⟨gb265,2,none⟩=some (.int .i64 0):=(blk_cell BK265.out 2).trans rfl;have hfz12_0:=blk_frozen BK265.out 0;have hfz12_1:=blk_frozen BK265.out 1;have hfz12_2:=blk_frozen BK265.out 2))
        go_ret
        exact⟨by first|rfl|(simp [errW_none,errW_some]<;>rfl)|(simp only [← hji7,← hji9];first|rfl|(simp [errW_none,errW_some]<;>rfl))|(simp [*,errW_none,errW_some]<;>rfl),by repeat(first|(with_reducible first|exact HB.out|apply below_alloc|apply pw_below_drewN|apply below_drew1|refine below_set ?_ GE265.out)|exact HB.out)⟩
       ·rw [if_neg c10] at H
        have c10b0:(((rd_T79 l0 x11_1).f1)== (ji9))=false:=beq_eq_false_iff_ne.mpr c10
        have c10b1:(((rd_T79 l0 x11_1).f1) != (ji9))=true:=bne_iff_ne.mpr c10
        have H':=Aside0.mk H
        clear H
        have p264: 0≤ (x11_1:Int):=of_decide_eq_true zq1
        have q264:x11_1< (l0.length:Int):=of_decide_eq_true zq1
        obtain⟨ad264,e264,hx264_0,hx264_1,hx264_2⟩:=at_T79 HR0.out x11_1 p264 q264
        cases e264
        replace hx264_0:=(HB.out.cell (World.block_lt_of_cell? w _ hx264_0)).trans hx264_0
        replace hx264_1:=(HB.out.cell (World.block_lt_of_cell? w _ hx264_1)).trans hx264_1
        replace hx264_2:=(HB.out.cell (World.block_lt_of_cell? w _ hx264_2)).trans hx264_2
        replace p264:=eq_true p264
        replace q264:=eq_true q264
        go_wp2_with (first|((with_reducible refine gate_dst (N:=8) rfl ?_);(try(refine gate_guard (by rfl) ?_;dsimp only));refine box_event ?hg (N:=8) ?hd (cs:= #[.int .i64 0,.int .i64 0,.int .i64 0]) (t:=79) ?hr ?_;(case hd=>rfl);(case hg=>rfl);(case hr=>first|(go_simp;done)|(go_simp;rfl));intro gb265 hg w13 hbox hb;have n0_:=Aside0.mk (below_step (zb0 HB) hb);have n1_:=Aside0.mk (hbox);have n2_:=Aside0.mk ((by rw [hg];exact(below_size (zb0 HB)):w.heap.size≤gb265));have n3_:=Aside0.mk ((by rw [hg];exact(below_size (zb0 HB)):w.heap.size≤gb265));clear HB;have HB:=n0_;have BK265:=n1_;have GW265:=n2_;have GE265:=n3_;clear n0_ n1_ n2_ n3_;clear hb hbox hg;have hcz14_0:w13.cell? ⟨gb265,0,none⟩=some (.int .i64 0):=(blk_cell BK265.out 0).trans rfl;have hcz14_1:w13.cell? ⟨gb265,1,none⟩=some (.int .i64 0):=(blk_cell BK265.out 1).trans rfl;have hcz14_2:w13.cell? ⟨gb265,2,none⟩=some (.int .i64 0):=(blk_cell BK265.out 2).trans rfl;have hfz14_0:=blk_frozen BK265.out 0;have hfz14_1:=blk_frozen BK265.out 1;have hfz14_2:=blk_frozen BK265.out 2))
        go_roundg k1
        case measure=>have:=HK1.out;omega
        case rel=>exact⟨(wrap64 (x11_1+1)),(by first|rfl|(simp;done)|(simp [*];done)),H',⟨by have:=HK1.out;omega⟩,⟨by repeat(first|(with_reducible first|exact HB.out|apply below_alloc|apply pw_below_drewN|apply below_drew1|refine below_set ?_ GE265.out)|exact HB.out)⟩⟩
      ·rw [if_neg c8] at H
       have c8b0:(((rd_T79 l0 x11_1).f0)== (ji7))=false:=beq_eq_false_iff_ne.mpr c8
       have c8b1:(((rd_T79 l0 x11_1).f0) != (ji7))=true:=bne_iff_ne.mpr c8
       have H':=Aside0.mk H
       clear H
       have p264: 0≤ (x11_1:Int):=of_decide_eq_true zq1
       have q264:x11_1< (l0.length:Int):=of_decide_eq_true zq1
       obtain⟨ad264,e264,hx264_0,hx264_1,hx264_2⟩:=at_T79 HR0.out x11_1 p264 q264
       cases e264
       replace hx264_0:=(HB.out.cell (World.block_lt_of_cell? w _ hx264_0)).trans hx264_0
       replace hx264_1:=(HB.out.cell (World.block_lt_of_cell? w _ hx264_1)).trans hx264_1
       replace hx264_2:=(HB.out.cell (World.block_lt_of_cell? w _ hx264_2)).trans hx264_2
       replace p264:=eq_true p264
       replace q264:=eq_true q264
       go_wp2_with (first|((with_reducible refine gate_dst (N:=8) rfl ?_);(try(refine gate_guard (by rfl) ?_;dsimp only));refine box_event ?hg (N:=8) ?hd (cs:= #[.int .i64 0,.int .i64 0,.int .i64 0]) (t:=79) ?hr ?_;(case hd=>rfl);(case hg=>rfl);(case hr=>first|(go_simp;done)|(go_simp;rfl));intro gb265 hg w15 hbox hb;have n0_:=Aside0.mk (below_step (zb0 HB) hb);have n1_:=Aside0.mk (hbox);have n2_:=Aside0.mk ((by rw [hg];exact(below_size (zb0 HB)):w.heap.size≤gb265));have n3_:=Aside0.mk ((by rw [hg];exact(below_size (zb0 HB)):w.heap.size≤gb265));clear HB;have HB:=n0_;have BK265:=n1_;have GW265:=n2_;have GE265:=n3_;clear n0_ n1_ n2_ n3_;clear hb hbox hg;have hcz16_0:w15.cell? ⟨gb265,0,none⟩=some (.int .i64 0):=(blk_cell BK265.out 0).trans rfl;have hcz16_1:w15.cell? ⟨gb265,1,none⟩=some (.int .i64 0):=(blk_cell BK265.out 1).trans rfl;have hcz16_2:w15.cell? ⟨gb265,2,none⟩=some (.int .i64 0):=(blk_cell BK265.out 2).trans rfl;have hfz16_0:=blk_frozen BK265.out 0;have hfz16_1:=blk_frozen BK265.out 1;have hfz16_2:=blk_frozen BK265.out 2))
       go_roundg k1
       case measure=>have:=HK1.out;omega
       case rel=>exact⟨(wrap64 (x11_1+1)),(by first|rfl|(simp;done)|(simp [*];done)),H',⟨by have:=HK1.out;omega⟩,⟨by repeat(first|(with_reducible first|exact HB.out|apply below_alloc|apply pw_below_drewN|apply below_drew1|refine below_set ?_ GE265.out)|exact HB.out)⟩⟩
     ·rw [if_neg c6] at H
      exact absurd H (by simp)
    ·rw [if_neg c5] at H
     exact absurd H (by simp)
   ·rw [if_neg c4] at H
    have c4b0:decide (x11_1< (l0.length:Int))=false:=decide_eq_false c4
    clear c4
    obtain rfl:=Option.some.inj H
    go_wp2
    go_ret
    exact⟨by first|rfl|(simp [errW_none,errW_some]<;>rfl)|(simp [*,errW_none,errW_some]<;>rfl),by repeat(first|(with_reducible first|exact HB.out|apply below_alloc|apply pw_below_drewN|apply below_drew1)|exact HB.out)⟩
def laws_eqEdge.f (a0_0:Int) (a0_1:Int) (a0_2:Int) (a1_0:Int) (a1_1:Int) (a1_2:Int):Option (Bool):=if a0_0=a1_0 then(if a0_1=a1_1 then(if a0_2=a1_2 then(some true) else(some false)) else(some false)) else(some false)
set_option maxHeartbeats 8000000 in
set_option maxRecDepth 100000 in
theorem laws_eqEdge.calls (a0_0:Int) (a0_1:Int) (a0_2:Int) (a1_0:Int) (a1_1:Int) (a1_2:Int) (r:Bool) (w:World) (h:laws_eqEdge.f a0_0 a0_1 a0_2 a1_0 a1_1 a1_2=some r):
  Calls Try.prog 71 #[.agg #[.int .i64 a0_0,.int .i64 a0_1,.int .i64 a0_2],.agg #[.int .i64 a1_0,.int .i64 a1_1,.int .i64 a1_2]] w fun e w'=>e= .returned (.bool r)∧Below w.heap.size w w':=by
 have hu79:=Try.underlying79
 have HB:=Aside0.mk (Below.refl w.heap.size w)
 have H:(if a0_0=a1_0 then(if a0_1=a1_1 then(if a0_2=a1_2 then(some true) else(some false)) else(some false)) else(some false))=some r:=h
 clear h
 by_cases c3:a0_0=a1_0
 ·rw [if_pos c3] at H
  have c3b0:(a0_0==a1_0)=true:=beq_iff_eq.mpr c3
  have c3b1:(a0_0 !=a1_0)=false:=bne_eq_false_iff_eq.mpr c3
  clear c3
  by_cases c4:a0_1=a1_1
  ·rw [if_pos c4] at H
   have c4b0:(a0_1==a1_1)=true:=beq_iff_eq.mpr c4
   have c4b1:(a0_1 !=a1_1)=false:=bne_eq_false_iff_eq.mpr c4
   clear c4
   by_cases c5:a0_2=a1_2
   ·rw [if_pos c5] at H
    have c5b0:(a0_2==a1_2)=true:=beq_iff_eq.mpr c5
    have c5b1:(a0_2 !=a1_2)=false:=bne_eq_false_iff_eq.mpr c5
    clear c5
    obtain rfl:=Option.some.inj H
    go_enter Try.func71,Try.ntmps71
    go_wp2_with (first|((with_reducible refine gate_dst (N:=2) rfl ?_);refine box_event ?hg (N:=2) ?hd (cs:= #[.int .i64 a0_0,.int .i64 a0_1,.int .i64 a0_2]) (t:=79) ?hr ?_;(case hd=>rfl);(case hg=>rfl);(case hr=>first|(go_simp;done)|(go_simp;rfl));intro gb270 hg w6 hbox hb;have n0_:=Aside0.mk (below_step (zb0 HB) hb);have n1_:=Aside0.mk (hbox);have n2_:=Aside0.mk ((by rw [hg];exact(below_size (zb0 HB)):w.heap.size≤gb270));have n3_:=Aside0.mk ((by rw [hg];exact(below_size (zb0 HB)):w.heap.size≤gb270));clear HB;have HB:=n0_;have BK270:=n1_;have GW270:=n2_;have GE270:=n3_;clear n0_ n1_ n2_ n3_;clear hb hbox hg)|((with_reducible refine gate_dst (N:=3) rfl ?_);refine box_event ?hg (N:=3) ?hd (cs:= #[.int .i64 a1_0,.int .i64 a1_1,.int .i64 a1_2]) (t:=79) ?hr ?_;(case hd=>rfl);(case hg=>rfl);(case hr=>first|(go_simp;done)|(go_simp;rfl));intro gb271 hg w7 hbox hb;have n0_:=Aside0.mk (blk_below (g:=gb270) (o:= .cells #[.int .i64 a0_0,.int .i64 a0_1,.int .i64 a0_2] 79 (0,0)) (zq3 BK270) hb);have n1_:=Aside0.mk (below_step (zb1 HB GE270) hb);have n2_:=Aside0.mk (hbox);have n3_:=Aside0.mk ((by rw [hg];exact(below_size (zb1 HB GE270)):w.heap.size≤gb271));have n4_:=Aside0.mk ((by rw [hg];exact(below_size (zb1 HB GE270)):w.heap.size≤gb271));have n5_:=Aside0.mk ((by rw [hg];exact Nat.ne_of_lt (blk_lt (g:=gb270) (o:= .cells #[.int .i64 a0_0,.int .i64 a0_1,.int .i64 a0_2] 79 (0,0)) (zq3 BK270)):gb270≠gb271));have n6_:=Aside0.mk ((by rw [hg];exact Nat.ne_of_gt (blk_lt (g:=gb270) (o:= .cells #[.int .i64 a0_0,.int .i64 a0_1,.int .i64 a0_2] 79 (0,0)) (zq3 BK270)):gb271≠gb270));clear BK270;clear HB;have BK270:=n0_;have HB:=n1_;have BK271:=n2_;have GW271:=n3_;have GE271:=n4_;have NB270_271:=n5_;have NB271_270:=n6_;clear n0_ n1_ n2_ n3_ n4_ n5_ n6_;clear hb hbox hg;have hnb8:=NB270_271.out;have hnc8:=NB271_270.out;have hcz9_0:w7.cell? ⟨gb270,0,none⟩=some (.int .i64 a0_0):=(blk_cell BK270.out 0).trans rfl;have hcz9_1:w7.cell? ⟨gb270,1,none⟩=some (.int .i64 a0_1):=(blk_cell BK270.out 1).trans rfl;have hcz9_2:w7.cell? ⟨gb270,2,none⟩=some (.int .i64 a0_2):=(blk_cell BK270.out 2).trans rfl;have hfz9_0:=blk_frozen BK270.out 0;have hfz9_1:=blk_frozen BK270.out 1;have hfz9_2:=blk_frozen BK270.out 2;have hcz10_0:w7.cell? ⟨gb271,0,none⟩=some (.int .i64 a1_0):=(blk_cell BK271.out 0).trans rfl;have hcz10_1:w7.cell? ⟨gb271,1,none⟩=some (.int .i64 a1_1):=(blk_cell BK271.out 1).trans rfl;have hcz10_2:w7.cell? ⟨gb271,2,none⟩=some (.int .i64 a1_2):=(blk_cell BK271.out 2).trans rfl;have hfz10_0:=blk_frozen BK271.out 0;have hfz10_1:=blk_frozen BK271.out 1;have hfz10_2:=blk_frozen BK271.out 2))
    go_ret
    exact⟨by first|rfl|(simp [errW_none,errW_some]<;>rfl)|(simp [*,errW_none,errW_some]<;>rfl),by repeat(first|(with_reducible first|exact HB.out|apply below_alloc|apply pw_below_drewN|apply below_drew1|refine below_set ?_ GE270.out|refine below_set ?_ GE271.out)|exact HB.out)⟩
   ·rw [if_neg c5] at H
    have c5b0:(a0_2==a1_2)=false:=beq_eq_false_iff_ne.mpr c5
    have c5b1:(a0_2 !=a1_2)=true:=bne_iff_ne.mpr c5
    obtain rfl:=Option.some.inj H
    go_enter Try.func71,Try.ntmps71
    go_wp2_with (first|((with_reducible refine gate_dst (N:=2) rfl ?_);refine box_event ?hg (N:=2) ?hd (cs:= #[.int .i64 a0_0,.int .i64 a0_1,.int .i64 a0_2]) (t:=79) ?hr ?_;(case hd=>rfl);(case hg=>rfl);(case hr=>first|(go_simp;done)|(go_simp;rfl));intro gb270 hg w11 hbox hb;have n0_:=Aside0.mk (below_step (zb0 HB) hb);have n1_:=Aside0.mk (hbox);have n2_:=Aside0.mk ((by rw [hg];exact(below_size (zb0 HB)):w.heap.size≤gb270));have n3_:=Aside0.mk ((by rw [hg];exact(below_size (zb0 HB)):w.heap.size≤gb270));clear HB;have HB:=n0_;have BK270:=n1_;have GW270:=n2_;have GE270:=n3_;clear n0_ n1_ n2_ n3_;clear hb hbox hg)|((with_reducible refine gate_dst (N:=3) rfl ?_);refine box_event ?hg (N:=3) ?hd (cs:= #[.int .i64 a1_0,.int .i64 a1_1,.int .i64 a1_2]) (t:=79) ?hr ?_;(case hd=>rfl);(case hg=>rfl);(case hr=>first|(go_simp;done)|(go_simp;rfl));intro gb271 hg w12 hbox hb;have n0_:=Aside0.mk (blk_below (g:=gb270) (o:= .cells #[.int .i64 a0_0,.int .i64 a0_1,.int .i64 a0_2] 79 (0,0)) (zq3 BK270) hb);have n1_:=Aside0.mk (below_step (zb1 HB GE270) hb);have n2_:=Aside0.mk (hbox);have n3_:=Aside0.mk ((by rw [hg];exact(below_size (zb1 HB GE270)):w.heap.size≤gb271));have n4_:=Aside0.mk ((by rw [hg];exact(below_size (zb1 HB GE270)):w.heap.size≤gb271));have n5_:=Aside0.mk ((by rw [hg];exact Nat.ne_of_lt (blk_lt (g:=gb270) (o:= .cells #[.int .i64 a0_0,.int .i64 a0_1,.int .i64 a0_2] 79 (0,0)) (zq3 BK270)):gb270≠gb271));have n6_:=Aside0.mk ((by rw [hg];exact Nat.ne_of_gt (blk_lt (g:=gb270) (o:= .cells #[.int .i64 a0_0,.int .i64 a0_1,.int .i64 a0_2] 79 (0,0)) (zq3 BK270)):gb271≠gb270));clear BK270;clear HB;have BK270:=n0_;have HB:=n1_;have BK271:=n2_;have GW271:=n3_;have GE271:=n4_;have NB270_271:=n5_;have NB271_270:=n6_;clear n0_ n1_ n2_ n3_ n4_ n5_ n6_;clear hb hbox hg;have hnb13:=NB270_271.out;have hnc13:=NB271_270.out;have hcz14_0:w12.cell? ⟨gb270,0,none⟩=some (.int .i64 a0_0):=(blk_cell BK270.out 0).trans rfl;have hcz14_1:w12.cell? ⟨gb270,1,none⟩=some (.int .i64 a0_1):=(blk_cell BK270.out 1).trans rfl;have hcz14_2:w12.cell? ⟨gb270,2,none⟩=some (.int .i64 a0_2):=(blk_cell BK270.out 2).trans rfl;have hfz14_0:=blk_frozen BK270.out 0;have hfz14_1:=blk_frozen BK270.out 1;have hfz14_2:=blk_frozen BK270.out 2;have hcz15_0:w12.cell? ⟨gb271,0,none⟩=some (.int .i64 a1_0):=(blk_cell BK271.out 0).trans rfl;have hcz15_1:w12.cell? ⟨gb271,1,none⟩=some (.int .i64 a1_1):=(blk_cell BK271.out 1).trans rfl;have hcz15_2:w12.cell? ⟨gb271,2,none⟩=some (.int .i64 a1_2):=(blk_cell BK271.out 2).trans rfl;have hfz15_0:=blk_frozen BK271.out 0;have hfz15_1:=blk_frozen BK271.out 1;have hfz15_2:=blk_frozen BK271.out 2))
    go_ret
    exact⟨by first|rfl|(simp [errW_none,errW_some]<;>rfl)|(simp [*,errW_none,errW_some]<;>rfl),by repeat(first|(with_reducible first|exact HB.out|apply below_alloc|apply pw_below_drewN|apply below_drew1|refine below_set ?_ GE270.out|refine below_set ?_ GE271.out)|exact HB.out)⟩
  ·rw [if_neg c4] at H
   have c4b0:(a0_1==a1_1)=false:=beq_eq_false_iff_ne.mpr c4
   have c4b1:(a0_1 !=a1_1)=true:=bne_iff_ne.mpr c4
   obtain rfl:=Option.some.inj H
   go_enter Try.func71,Try.ntmps71
   go_wp2_with (first|((with_reducible refine gate_dst (N:=2) rfl ?_);refine box_event ?hg (N:=2) ?hd (cs:= #[.int .i64 a0_0,.int .i64 a0_1,.int .i64 a0_2]) (t:=79) ?hr ?_;(case hd=>rfl);(case hg=>rfl);(case hr=>first|(go_simp;done)|(go_simp;rfl));intro gb270 hg w16 hbox hb;have n0_:=Aside0.mk (below_step (zb0 HB) hb);have n1_:=Aside0.mk (hbox);have n2_:=Aside0.mk ((by rw [hg];exact(below_size (zb0 HB)):w.heap.size≤gb270));have n3_:=Aside0.mk ((by rw [hg];exact(below_size (zb0 HB)):w.heap.size≤gb270));clear HB;have HB:=n0_;have BK270:=n1_;have GW270:=n2_;have GE270:=n3_;clear n0_ n1_ n2_ n3_;clear hb hbox hg)|((with_reducible refine gate_dst (N:=3) rfl ?_);refine box_event ?hg (N:=3) ?hd (cs:= #[.int .i64 a1_0,.int .i64 a1_1,.int .i64 a1_2]) (t:=79) ?hr ?_;(case hd=>rfl);(case hg=>rfl);(case hr=>first|(go_simp;done)|(go_simp;rfl));intro gb271 hg w17 hbox hb;have n0_:=Aside0.mk (blk_below (g:=gb270) (o:= .cells #[.int .i64 a0_0,.int .i64 a0_1,.int .i64 a0_2] 79 (0,0)) (zq3 BK270) hb);have n1_:=Aside0.mk (below_step (zb1 HB GE270) hb);have n2_:=Aside0.mk (hbox);have n3_:=Aside0.mk ((by rw [hg];exact(below_size (zb1 HB GE270)):w.heap.size≤gb271));have n4_:=Aside0.mk ((by rw [hg];exact(below_size (zb1 HB GE270)):w.heap.size≤gb271));have n5_:=Aside0.mk ((by rw [hg];exact Nat.ne_of_lt (blk_lt (g:=gb270) (o:= .cells #[.int .i64 a0_0,.int .i64 a0_1,.int .i64 a0_2] 79 (0,0)) (zq3 BK270)):gb270≠gb271));have n6_:=Aside0.mk ((by rw [hg];exact Nat.ne_of_gt (blk_lt (g:=gb270) (o:= .cells #[.int .i64 a0_0,.int .i64 a0_1,.int .i64 a0_2] 79 (0,0)) (zq3 BK270)):gb271≠gb270));clear BK270;clear HB;have BK270:=n0_;have HB:=n1_;have BK271:=n2_;have GW271:=n3_;have GE271:=n4_;have NB270_271:=n5_;have NB271_270:=n6_;clear n0_ n1_ n2_ n3_ n4_ n5_ n6_;clear hb hbox hg;have hnb18:=NB270_271.out;have hnc18:=NB271_270.out;have hcz19_0:w17.cell? ⟨gb270,0,none⟩=some (.int .i64 a0_0):=(blk_cell BK270.out 0).trans rfl;have hcz19_1:w17.cell? ⟨gb270,1,none⟩=some (.int .i64 a0_1):=(blk_cell BK270.out 1).trans rfl;have hcz19_2:w17.cell? ⟨gb270,2,none⟩=some (.int .i64 a0_2):=(blk_cell BK270.out 2).trans rfl;have hfz19_0:=blk_frozen BK270.out 0;have hfz19_1:=blk_frozen BK270.out 1;have hfz19_2:=blk_frozen BK270.out 2;have hcz20_0:w17.cell? ⟨gb271,0,none⟩=some (.int .i64 a1_0):=(blk_cell BK271.out 0).trans rfl;have hcz20_1:w17.cell? ⟨gb271,1,none⟩=some (.int .i64 a1_1):=(blk_cell BK271.out 1).trans rfl;have hcz20_2:w17.cell? ⟨gb271,2,none⟩=some (.int .i64 a1_2):=(blk_cell BK271.out 2).trans rfl;have hfz20_0:=blk_frozen BK271.out 0;have hfz20_1:=blk_frozen BK271.out 1;have hfz20_2:=blk_frozen BK271.out 2))
   go_ret
   exact⟨by first|rfl|(simp [errW_none,errW_some]<;>rfl)|(simp [*,errW_none,errW_some]<;>rfl),by repeat(first|(with_reducible first|exact HB.out|apply below_alloc|apply pw_below_drewN|apply below_drew1|refine below_set ?_ GE270.out|refine below_set ?_ GE271.out)|exact HB.out)⟩
 ·rw [if_neg c3] at H
  have c3b0:(a0_0==a1_0)=false:=beq_eq_false_iff_ne.mpr c3
  have c3b1:(a0_0 !=a1_0)=true:=bne_iff_ne.mpr c3
  obtain rfl:=Option.some.inj H
  go_enter Try.func71,Try.ntmps71
  go_wp2_with (first|((with_reducible refine gate_dst (N:=2) rfl ?_);refine box_event ?hg (N:=2) ?hd (cs:= #[.int .i64 a0_0,.int .i64 a0_1,.int .i64 a0_2]) (t:=79) ?hr ?_;(case hd=>rfl);(case hg=>rfl);(case hr=>first|(go_simp;done)|(go_simp;rfl));intro gb270 hg w21 hbox hb;have n0_:=Aside0.mk (below_step (zb0 HB) hb);have n1_:=Aside0.mk (hbox);have n2_:=Aside0.mk ((by rw [hg];exact(below_size (zb0 HB)):w.heap.size≤gb270));have n3_:=Aside0.mk ((by rw [hg];exact(below_size (zb0 HB)):w.heap.size≤gb270));clear HB;have HB:=n0_;have BK270:=n1_;have GW270:=n2_;have GE270:=n3_;clear n0_ n1_ n2_ n3_;clear hb hbox hg)|((with_reducible refine gate_dst (N:=3) rfl ?_);refine box_event ?hg (N:=3) ?hd (cs:= #[.int .i64 a1_0,.int .i64 a1_1,.int .i64 a1_2]) (t:=79) ?hr ?_;(case hd=>rfl);(case hg=>rfl);(case hr=>first|(go_simp;done)|(go_simp;rfl));intro gb271 hg w22 hbox hb;have n0_:=Aside0.mk (blk_below (g:=gb270) (o:= .cells #[.int .i64 a0_0,.int .i64 a0_1,.int .i64 a0_2] 79 (0,0)) (zq3 BK270) hb);have n1_:=Aside0.mk (below_step (zb1 HB GE270) hb);have n2_:=Aside0.mk (hbox);have n3_:=Aside0.mk ((by rw [hg];exact(below_size (zb1 HB GE270)):w.heap.size≤gb271));have n4_:=Aside0.mk ((by rw [hg];exact(below_size (zb1 HB GE270)):w.heap.size≤gb271));have n5_:=Aside0.mk ((by rw [hg];exact Nat.ne_of_lt (blk_lt (g:=gb270) (o:= .cells #[.int .i64 a0_0,.int .i64 a0_1,.int .i64 a0_2] 79 (0,0)) (zq3 BK270)):gb270≠gb271));have n6_:=Aside0.mk ((by rw [hg];exact Nat.ne_of_gt (blk_lt (g:=gb270) (o:= .cells #[.int .i64 a0_0,.int .i64 a0_1,.int .i64 a0_2] 79 (0,0)) (zq3 BK270)):gb271≠gb270));clear BK270;clear HB;have BK270:=n0_;have HB:=n1_;have BK271:=n2_;have GW271:=n3_;have GE271:=n4_;have NB270_271:=n5_;have NB271_270:=n6_;clear n0_ n1_ n2_ n3_ n4_ n5_ n6_;clear hb hbox hg;have hnb23:=NB270_271.out;have hnc23:=NB271_270.out;have hcz24_0:w22.cell? ⟨gb270,0,none⟩=some (.int .i64 a0_0):=(blk_cell BK270.out 0).trans rfl;have hcz24_1:w22.cell? ⟨gb270,1,none⟩=some (.int .i64 a0_1):=(blk_cell BK270.out 1).trans rfl;have hcz24_2:w22.cell? ⟨gb270,2,none⟩=some (.int .i64 a0_2):=(blk_cell BK270.out 2).trans rfl;have hfz24_0:=blk_frozen BK270.out 0;have hfz24_1:=blk_frozen BK270.out 1;have hfz24_2:=blk_frozen BK270.out 2;have hcz25_0:w22.cell? ⟨gb271,0,none⟩=some (.int .i64 a1_0):=(blk_cell BK271.out 0).trans rfl;have hcz25_1:w22.cell? ⟨gb271,1,none⟩=some (.int .i64 a1_1):=(blk_cell BK271.out 1).trans rfl;have hcz25_2:w22.cell? ⟨gb271,2,none⟩=some (.int .i64 a1_2):=(blk_cell BK271.out 2).trans rfl;have hfz25_0:=blk_frozen BK271.out 0;have hfz25_1:=blk_frozen BK271.out 1;have hfz25_2:=blk_frozen BK271.out 2))
  go_ret
  exact⟨by first|rfl|(simp [errW_none,errW_some]<;>rfl)|(simp [*,errW_none,errW_some]<;>rfl),by repeat(first|(with_reducible first|exact HB.out|apply below_alloc|apply pw_below_drewN|apply below_drew1|refine below_set ?_ GE270.out|refine below_set ?_ GE271.out)|exact HB.out)⟩
end Go.Proofs.Ytedegfbheihopaa.P

namespace Go.Proofs.Ytedegfbheihopaa.P
open Go.RowKit Go.Proofs.YtedegfbheihopaaW.PrintWords Go.Proofs.YtedegfbheihopaaW.PrintLast Go.Proofs.YtedegfbheihopaaW.PrintMore
attribute [local go_sem] max2_int min2_int max_two min_two max_three min_three max_four min_four   -- for this text's walks alone
set_option linter.unusedVariables false
set_option linter.unusedSimpArgs false
def laws_eqEdgeS.l0:Nat→List (S79)→List (S79)→Int→Option (Bool)
 | 0,_,_,_=>none
 |k+1,x0,x1,x5=>if x5< (x0.length:Int) then(if 0≤x5 then(if x5< (x1.length:Int) then((laws_eqEdge.f ((rd_T79 x0 x5).f0) ((rd_T79 x0 x5).f1) ((rd_T79 x0 x5).f2) ((rd_T79 x1 x5).f0) ((rd_T79 x1 x5).f1) ((rd_T79 x1 x5).f2)).bind fun t274=>(if t274=true then(laws_eqEdgeS.l0 k x0 x1 (wrap64 (x5+1))) else(some false))) else(none)) else(none)) else(some true)
def laws_eqEdgeS.f (k:Nat) (l0:List (S79)) (l1:List (S79)):Option (Bool):=if (l0.length:Int)= (l1.length:Int) then(laws_eqEdgeS.l0 k l0 l1 0) else(some false)
def laws_eqEdgeS.T6:Bool × List (List Nat × List Nat):=(true,[([],[]),([],[]),([0,1],[0,1]),([2],[2]),([],[]),([],[]),([4,5],[4,5]),([6],[6]),([3,7],[3,7]),([8],[8])])
def laws_eqEdgeS.B6:List Nat:= [0,0,3,7,0,0,48,112,255,511]
theorem laws_eqEdgeS.tab6:rtab .any (opsOf Try.f27 6)=laws_eqEdgeS.T6:=by kernel_rfl
theorem laws_eqEdgeS.bits6:waitsOk laws_eqEdgeS.T6.2 laws_eqEdgeS.B6=true:=by kernel_rfl
set_option maxHeartbeats 8000000 in
set_option maxRecDepth 100000 in
theorem laws_eqEdgeS.calls (k:Nat) (A0:Option Addr) (c0:Nat) (l0:List (S79)) (A1:Option Addr) (c1:Nat) (l1:List (S79)) (r:Bool) (w:World) (hr0:Kd.C k79 w A0 l0.length l0) (hc0:l0.length≤c0) (hr1:Kd.C k79 w A1 l1.length l1) (hc1:l1.length≤c1) (h:laws_eqEdgeS.f k l0 l1=some r):
  Calls Try.prog 27 #[.slice A0 l0.length c0,.slice A1 l1.length c1] w fun e w'=>e= .returned (.bool r)∧Below w.heap.size w w':=by
 have hu79:=Try.underlying79
 have HR0:=Aside0.mk hr0
 have HC0:=Aside0.mk hc0
 clear hr0 hc0
 have HR1:=Aside0.mk hr1
 have HC1:=Aside0.mk hc1
 clear hr1 hc1
 have HB:=Aside0.mk (Below.refl w.heap.size w)
 have H:(if (l0.length:Int)= (l1.length:Int) then(laws_eqEdgeS.l0 k l0 l1 0) else(some false))=some r:=h
 clear h
 by_cases c3:(l0.length:Int)= (l1.length:Int)
 ·rw [if_pos c3] at H
  have c3b0:((l0.length:Int)== (l1.length:Int))=true:=beq_iff_eq.mpr c3
  have c3b1:((l0.length:Int) != (l1.length:Int))=false:=bne_eq_false_iff_eq.mpr c3
  have c3b2:(l0.length==l1.length)=true:=by first|simpa using c3|(simp at c3 ⊢;omega)
  clear c3
  have H':=Aside0.mk H
  clear H
  go_enter Try.func27,Try.ntmps27
  go_wp2
  go_loopg [5] k (fun kq v5 w'=> ∃ (x5_1:Int),v5= .int .i64 x5_1∧Aside0 (laws_eqEdgeS.l0 kq l0 l1 x5_1=some r)∧Aside0 (kq≤k)∧Aside0 (Below w.heap.size w w'))
  case atStart=>exact⟨(0),(by first|rfl|(simp;done)|(simp [*];done)),H',⟨Nat.le_refl _⟩,⟨by repeat(first|(with_reducible first|exact HB.out|apply below_alloc|apply pw_below_drewN|apply below_drew1)|exact HB.out)⟩⟩
  case round=>
   clear H'
   try clear c1
   try clear c2
   try clear p2
   try clear c3
   try clear c3b0
   try clear c3b1
   try clear c3b2
   obtain⟨x5_1,rfl,HA,HK1,HB⟩:=hrel
   cases gk with
   |zero=>exact absurd HA.out (by simp [laws_eqEdgeS.l0])
   |succ k1=>
    have H:=HA.out
    clear HA
    simp only [laws_eqEdgeS.l0] at H
    by_cases c4:x5_1< (l0.length:Int)
    ·rw [if_pos c4] at H
     have c4b0:decide (x5_1< (l0.length:Int))=true:=decide_eq_true c4
     clear c4
     by_cases c5: 0≤x5_1
     ·rw [if_pos c5] at H
      have c5b0:decide (0≤x5_1)=true:=decide_eq_true c5
      clear c5
      by_cases c6:x5_1< (l1.length:Int)
      ·rw [if_pos c6] at H
       have c6b0:decide (x5_1< (l1.length:Int))=true:=decide_eq_true c6
       clear c6
       replace H:=Option.bind_eq_some_iff.mp H
       obtain⟨t274,A70,H⟩:=H
       replace H:(if t274=true then(laws_eqEdgeS.l0 k1 l0 l1 (wrap64 (x5_1+1))) else(some false))=some r:=H
       have A7:=Aside0.mk A70
       clear A70
       by_cases c8:t274=true
       ·subst c8
        have H1:(laws_eqEdgeS.l0 k1 l0 l1 (wrap64 (x5_1+1)))=some r:=by rw [if_pos rfl] at H;exact H
        clear H
        have H:=H1
        clear H1
        have H':=Aside0.mk H
        clear H
        try go_wp2
        have n0_:=Aside0.mk (below_drew1 HB.out)
        clear HB
        have HB:=n0_
        clear n0_
        have p272: 0≤ (x5_1:Int):=of_decide_eq_true zq1
        have q272:x5_1< (l0.length:Int):=of_decide_eq_true zq1
        obtain⟨ad272,e272,hx272_0,hx272_1,hx272_2⟩:=at_T79 HR0.out x5_1 p272 q272
        have hw272_2:=hx272_2
        have hw272_1:=hx272_1
        have hw272_0:=hx272_0
        cases e272
        replace hx272_0:=(HB.out.cell (World.block_lt_of_cell? w _ hx272_0)).trans hx272_0
        replace hx272_1:=(HB.out.cell (World.block_lt_of_cell? w _ hx272_1)).trans hx272_1
        replace hx272_2:=(HB.out.cell (World.block_lt_of_cell? w _ hx272_2)).trans hx272_2
        replace p272:=eq_true p272
        replace q272:=eq_true q272
        have p273: 0≤ (x5_1:Int):=of_decide_eq_true zq1
        have q273:x5_1< (l1.length:Int):=of_decide_eq_true zq1
        obtain⟨ad273,e273,hx273_0,hx273_1,hx273_2⟩:=at_T79 HR1.out x5_1 p273 q273
        have hw273_2:=hx273_2
        have hw273_1:=hx273_1
        have hw273_0:=hx273_0
        cases e273
        replace hx273_0:=(HB.out.cell (World.block_lt_of_cell? w _ hx273_0)).trans hx273_0
        replace hx273_1:=(HB.out.cell (World.block_lt_of_cell? w _ hx273_1)).trans hx273_1
        replace hx273_2:=(HB.out.cell (World.block_lt_of_cell? w _ hx273_2)).trans hx273_2
        replace p273:=eq_true p273
        replace q273:=eq_true q273
        refine start_ (n:=10) (S:=fun w'=>w'.cell? (ad272.add ((x5_1).toNat * 3))=some (.int .i64 ((rd_T79 l0 x5_1).f0))∧w'.cell? ⟨(ad272.add ((x5_1).toNat * 3)).block,(ad272.add ((x5_1).toNat * 3)).off+1,none⟩=some (.int .i64 ((rd_T79 l0 x5_1).f1))∧w'.cell? ⟨(ad272.add ((x5_1).toNat * 3)).block,(ad272.add ((x5_1).toNat * 3)).off+2,none⟩=some (.int .i64 ((rd_T79 l0 x5_1).f2))∧w'.cell? (ad273.add ((x5_1).toNat * 3))=some (.int .i64 ((rd_T79 l1 x5_1).f0))∧w'.cell? ⟨(ad273.add ((x5_1).toNat * 3)).block,(ad273.add ((x5_1).toNat * 3)).off+1,none⟩=some (.int .i64 ((rd_T79 l1 x5_1).f1))∧w'.cell? ⟨(ad273.add ((x5_1).toNat * 3)).block,(ad273.add ((x5_1).toNat * 3)).off+2,none⟩=some (.int .i64 ((rd_T79 l1 x5_1).f2))) (ds:= []) #[false,false,false,false,false,false,false,false,false,false] (by kernel_rfl) rfl rfl ⟨((HB.out.cell (World.block_lt_of_cell? w _ hw272_0)).trans hw272_0),((HB.out.cell (World.block_lt_of_cell? w _ hw272_1)).trans hw272_1),((HB.out.cell (World.block_lt_of_cell? w _ hw272_2)).trans hw272_2),((HB.out.cell (World.block_lt_of_cell? w _ hw273_0)).trans hw273_0),((HB.out.cell (World.block_lt_of_cell? w _ hw273_1)).trans hw273_1),((HB.out.cell (World.block_lt_of_cell? w _ hw273_2)).trans hw273_2)⟩ (fun hHeld=>?_);refine with_tabW laws_eqEdgeS.tab6 laws_eqEdgeS.bits6 (fun HT_ HW_=>?_)
        generalize wr.drew=w9 at HB hx272_0 hx272_1 hx272_2 hx273_0 hx273_1 hx273_2 hHeld ⊢
        refine pure_ (i:=0) (N:=some 17) (v:=?_) (a':=?_) #[true,false,false,false,false,false,false,false,false,false] rfl rfl (any_of HT_.out (by kernel_rfl)) (fun _ _ _ h=>h) (Or.inl ⟨by rfl,?_⟩) ?_ ?_
        rotate_left
        ·intro w'
         go_simp
         with_reducible rfl
        rotate_left
        ·simp only [Act.put,List.setIfInBounds_toArray,List.set_cons_zero,List.set_cons_succ,i64_w,i32_w]
         rfl
        refine pure_ (i:=1) (N:=some 18) (v:=?_) (a':=?_) #[true,true,false,false,false,false,false,false,false,false] rfl rfl (any_of HT_.out (by kernel_rfl)) (fun _ _ _ h=>h) (Or.inl ⟨by rfl,?_⟩) ?_ ?_
        rotate_left
        ·intro w'
         go_simp
         with_reducible rfl
        rotate_left
        ·simp only [Act.put,List.setIfInBounds_toArray,List.set_cons_zero,List.set_cons_succ,i64_w,i32_w]
         rfl
        refine pure_ (i:=2) (N:=some 19) (v:=?_) (a':=?_) #[true,true,true,false,false,false,false,false,false,false] rfl rfl (any_of HT_.out (by kernel_rfl)) (fun _ _ _ h=>h) (Or.inl ⟨by rfl,?_⟩) ?_ ?_
        rotate_left
        ·intro w'
         go_simp
         with_reducible rfl
        rotate_left
        ·simp only [Act.put,List.setIfInBounds_toArray,List.set_cons_zero,List.set_cons_succ,i64_w,i32_w]
         rfl
        refine pure_ (i:=4) (N:=some 21) (v:=?_) (a':=?_) #[true,true,true,false,true,false,false,false,false,false] rfl rfl (any_of HT_.out (by kernel_rfl)) (fun _ _ _ h=>h) (Or.inl ⟨by rfl,?_⟩) ?_ ?_
        rotate_left
        ·intro w'
         go_simp
         with_reducible rfl
        rotate_left
        ·simp only [Act.put,List.setIfInBounds_toArray,List.set_cons_zero,List.set_cons_succ,i64_w,i32_w]
         rfl
        refine pure_ (i:=5) (N:=some 22) (v:=?_) (a':=?_) #[true,true,true,false,true,true,false,false,false,false] rfl rfl (any_of HT_.out (by kernel_rfl)) (fun _ _ _ h=>h) (Or.inl ⟨by rfl,?_⟩) ?_ ?_
        rotate_left
        ·intro w'
         go_simp
         with_reducible rfl
        rotate_left
        ·simp only [Act.put,List.setIfInBounds_toArray,List.set_cons_zero,List.set_cons_succ,i64_w,i32_w]
         rfl
        refine pure_ (i:=6) (N:=some 23) (v:=?_) (a':=?_) #[true,true,true,false,true,true,true,false,false,false] rfl rfl (any_of HT_.out (by kernel_rfl)) (fun _ _ _ h=>h) (Or.inl ⟨by rfl,?_⟩) ?_ ?_
        rotate_left
        ·intro w'
         go_simp
         with_reducible rfl
        rotate_left
        ·simp only [Act.put,List.setIfInBounds_toArray,List.set_cons_zero,List.set_cons_succ,i64_w,i32_w]
         rfl
        refine take_ (i:=3) (N:=some 20) (v:=?_) (a':=?_) #[true,true,true,true,true,true,true,false,false,false] rfl rfl (take_ofW HT_.out HW_.out (by kernel_rfl)) (fun _ _ _ h=>h) (Or.inl ⟨by rfl,?_⟩) hHeld ?_ ?_
        rotate_left
        ·rintro w' ⟨s0,s1,s2,s3,s4,s5⟩
         go_simp
         with_reducible rfl
        rotate_left
        ·simp only [Act.put,List.setIfInBounds_toArray,List.set_cons_zero,List.set_cons_succ,i64_w,i32_w]
         rfl
        refine take_ (i:=7) (N:=some 24) (v:=?_) (a':=?_) #[true,true,true,true,true,true,true,true,false,false] rfl rfl (take_ofW HT_.out HW_.out (by kernel_rfl)) (fun _ _ _ h=>h) (Or.inl ⟨by rfl,?_⟩) hHeld ?_ ?_
        rotate_left
        ·rintro w' ⟨s0,s1,s2,s3,s4,s5⟩
         go_simp
         with_reducible rfl
        rotate_left
        ·simp only [Act.put,List.setIfInBounds_toArray,List.set_cons_zero,List.set_cons_succ,i64_w,i32_w]
         rfl
        refine one_ (i:=8) (N:=some 25) #[true,true,true,true,true,true,true,true,true,false] rfl rfl (one_of HT_.out (by kernel_rfl)) (by decide) (fun K hK=>?_)
        refine goes_ Try.func71 (by kernel_rfl) rfl #[.agg #[.int .i64 ((rd_T79 l0 x5_1).f0),.int .i64 ((rd_T79 l0 x5_1).f1),.int .i64 ((rd_T79 l0 x5_1).f2)],.agg #[.int .i64 ((rd_T79 l1 x5_1).f0),.int .i64 ((rd_T79 l1 x5_1).f1),.int .i64 ((rd_T79 l1 x5_1).f2)]] (by rfl) rfl rfl zq2 ?_
        with_reducible refine(laws_eqEdge.calls ((rd_T79 l0 x5_1).f0) ((rd_T79 l0 x5_1).f1) ((rd_T79 l0 x5_1).f2) ((rd_T79 l1 x5_1).f0) ((rd_T79 l1 x5_1).f1) ((rd_T79 l1 x5_1).f2) true _ A7.out).mono ?_
        rintro e w10 ⟨rfl,hb⟩
        refine⟨_,rfl,?_⟩
        have n0_:=Aside0.mk (below_step (zb0 HB) hb)
        clear HB
        have HB:=n0_
        clear n0_
        (try clear hb)
        (try clear hb2)
        (try clear hk)
        (try clear hi)
        refine hK.out _ _ ⟨((HB.out.cell (World.block_lt_of_cell? w _ hw272_0)).trans hw272_0),((HB.out.cell (World.block_lt_of_cell? w _ hw272_1)).trans hw272_1),((HB.out.cell (World.block_lt_of_cell? w _ hw272_2)).trans hw272_2),((HB.out.cell (World.block_lt_of_cell? w _ hw273_0)).trans hw273_0),((HB.out.cell (World.block_lt_of_cell? w _ hw273_1)).trans hw273_1),((HB.out.cell (World.block_lt_of_cell? w _ hw273_2)).trans hw273_2)⟩ (fun hHeld=>?_)
        clear hK K
        refine norm_ (a':=?_) ?_ ?_
        rotate_left
        ·show Act.put _ (some 25) _=_
         simp only [Act.put,List.setIfInBounds_toArray,List.set_cons_zero,List.set_cons_succ,i64_w,i32_w]
         rfl
        refine pure_ (i:=9) (N:=some 26) (v:=?_) (a':=?_) #[true,true,true,true,true,true,true,true,true,true] rfl rfl (any_of HT_.out (by kernel_rfl)) (fun _ _ _ h=>h) (Or.inl ⟨by rfl,?_⟩) ?_ ?_
        rotate_left
        ·intro w'
         go_simp
         with_reducible rfl
        rotate_left
        ·simp only [Act.put,List.setIfInBounds_toArray,List.set_cons_zero,List.set_cons_succ,i64_w,i32_w]
         rfl
        refine done_ (done_of HT_.out (by kernel_rfl)) ?_
        try go_wp2
        go_roundg k1
        case measure=>have:=HK1.out;omega
        case rel=>exact⟨(wrap64 (x5_1+1)),(by first|rfl|(simp;done)|(simp [*];done)),H',⟨by have:=HK1.out;omega⟩,⟨by repeat(first|(with_reducible first|exact HB.out|apply below_alloc|apply pw_below_drewN|apply below_drew1)|exact HB.out)⟩⟩
       ·replace c8:=Bool.eq_false_iff.mpr c8
        subst c8
        have H1:(some false)=some r:=by rw [if_neg (show ¬ (false=true) by decide)] at H;exact H
        clear H
        have H:=H1
        clear H1
        obtain rfl:=Option.some.inj H
        try go_wp2
        have n0_:=Aside0.mk (below_drew1 HB.out)
        clear HB
        have HB:=n0_
        clear n0_
        have p272: 0≤ (x5_1:Int):=of_decide_eq_true zq1
        have q272:x5_1< (l0.length:Int):=of_decide_eq_true zq1
        obtain⟨ad272,e272,hx272_0,hx272_1,hx272_2⟩:=at_T79 HR0.out x5_1 p272 q272
        have hw272_2:=hx272_2
        have hw272_1:=hx272_1
        have hw272_0:=hx272_0
        cases e272
        replace hx272_0:=(HB.out.cell (World.block_lt_of_cell? w _ hx272_0)).trans hx272_0
        replace hx272_1:=(HB.out.cell (World.block_lt_of_cell? w _ hx272_1)).trans hx272_1
        replace hx272_2:=(HB.out.cell (World.block_lt_of_cell? w _ hx272_2)).trans hx272_2
        replace p272:=eq_true p272
        replace q272:=eq_true q272
        have p273: 0≤ (x5_1:Int):=of_decide_eq_true zq1
        have q273:x5_1< (l1.length:Int):=of_decide_eq_true zq1
        obtain⟨ad273,e273,hx273_0,hx273_1,hx273_2⟩:=at_T79 HR1.out x5_1 p273 q273
        have hw273_2:=hx273_2
        have hw273_1:=hx273_1
        have hw273_0:=hx273_0
        cases e273
        replace hx273_0:=(HB.out.cell (World.block_lt_of_cell? w _ hx273_0)).trans hx273_0
        replace hx273_1:=(HB.out.cell (World.block_lt_of_cell? w _ hx273_1)).trans hx273_1
        replace hx273_2:=(HB.out.cell (World.block_lt_of_cell? w _ hx273_2)).trans hx273_2
        replace p273:=eq_true p273
        replace q273:=eq_true q273
        refine start_ (n:=10) (S:=fun w'=>w'.cell? (ad272.add ((x5_1).toNat * 3))=some (.int .i64 ((rd_T79 l0 x5_1).f0))∧w'.cell? ⟨(ad272.add ((x5_1).toNat * 3)).block,(ad272.add ((x5_1).toNat * 3)).off+1,none⟩=some (.int .i64 ((rd_T79 l0 x5_1).f1))∧w'.cell? ⟨(ad272.add ((x5_1).toNat * 3)).block,(ad272.add ((x5_1).toNat * 3)).off+2,none⟩=some (.int .i64 ((rd_T79 l0 x5_1).f2))∧w'.cell? (ad273.add ((x5_1).toNat * 3))=some (.int .i64 ((rd_T79 l1 x5_1).f0))∧w'.cell? ⟨(ad273.add ((x5_1).toNat * 3)).block,(ad273.add ((x5_1).toNat * 3)).off+1,none⟩=some (.int .i64 ((rd_T79 l1 x5_1).f1))∧w'.cell? ⟨(ad273.add ((x5_1).toNat * 3)).block,(ad273.add ((x5_1).toNat * 3)).off+2,none⟩=some (.int .i64 ((rd_T79 l1 x5_1).f2))) (ds:= []) #[false,false,false,false,false,false,false,false,false,false] (by kernel_rfl) rfl rfl ⟨((HB.out.cell (World.block_lt_of_cell? w _ hw272_0)).trans hw272_0),((HB.out.cell (World.block_lt_of_cell? w _ hw272_1)).trans hw272_1),((HB.out.cell (World.block_lt_of_cell? w _ hw272_2)).trans hw272_2),((HB.out.cell (World.block_lt_of_cell? w _ hw273_0)).trans hw273_0),((HB.out.cell (World.block_lt_of_cell? w _ hw273_1)).trans hw273_1),((HB.out.cell (World.block_lt_of_cell? w _ hw273_2)).trans hw273_2)⟩ (fun hHeld=>?_);refine with_tabW laws_eqEdgeS.tab6 laws_eqEdgeS.bits6 (fun HT_ HW_=>?_)
        generalize wr.drew=w11 at HB hx272_0 hx272_1 hx272_2 hx273_0 hx273_1 hx273_2 hHeld ⊢
        refine pure_ (i:=0) (N:=some 17) (v:=?_) (a':=?_) #[true,false,false,false,false,false,false,false,false,false] rfl rfl (any_of HT_.out (by kernel_rfl)) (fun _ _ _ h=>h) (Or.inl ⟨by rfl,?_⟩) ?_ ?_
        rotate_left
        ·intro w'
         go_simp
         with_reducible rfl
        rotate_left
        ·simp only [Act.put,List.setIfInBounds_toArray,List.set_cons_zero,List.set_cons_succ,i64_w,i32_w]
         rfl
        refine pure_ (i:=1) (N:=some 18) (v:=?_) (a':=?_) #[true,true,false,false,false,false,false,false,false,false] rfl rfl (any_of HT_.out (by kernel_rfl)) (fun _ _ _ h=>h) (Or.inl ⟨by rfl,?_⟩) ?_ ?_
        rotate_left
        ·intro w'
         go_simp
         with_reducible rfl
        rotate_left
        ·simp only [Act.put,List.setIfInBounds_toArray,List.set_cons_zero,List.set_cons_succ,i64_w,i32_w]
         rfl
        refine pure_ (i:=2) (N:=some 19) (v:=?_) (a':=?_) #[true,true,true,false,false,false,false,false,false,false] rfl rfl (any_of HT_.out (by kernel_rfl)) (fun _ _ _ h=>h) (Or.inl ⟨by rfl,?_⟩) ?_ ?_
        rotate_left
        ·intro w'
         go_simp
         with_reducible rfl
        rotate_left
        ·simp only [Act.put,List.setIfInBounds_toArray,List.set_cons_zero,List.set_cons_succ,i64_w,i32_w]
         rfl
        refine pure_ (i:=4) (N:=some 21) (v:=?_) (a':=?_) #[true,true,true,false,true,false,false,false,false,false] rfl rfl (any_of HT_.out (by kernel_rfl)) (fun _ _ _ h=>h) (Or.inl ⟨by rfl,?_⟩) ?_ ?_
        rotate_left
        ·intro w'
         go_simp
         with_reducible rfl
        rotate_left
        ·simp only [Act.put,List.setIfInBounds_toArray,List.set_cons_zero,List.set_cons_succ,i64_w,i32_w]
         rfl
        refine pure_ (i:=5) (N:=some 22) (v:=?_) (a':=?_) #[true,true,true,false,true,true,false,false,false,false] rfl rfl (any_of HT_.out (by kernel_rfl)) (fun _ _ _ h=>h) (Or.inl ⟨by rfl,?_⟩) ?_ ?_
        rotate_left
        ·intro w'
         go_simp
         with_reducible rfl
        rotate_left
        ·simp only [Act.put,List.setIfInBounds_toArray,List.set_cons_zero,List.set_cons_succ,i64_w,i32_w]
         rfl
        refine pure_ (i:=6) (N:=some 23) (v:=?_) (a':=?_) #[true,true,true,false,true,true,true,false,false,false] rfl rfl (any_of HT_.out (by kernel_rfl)) (fun _ _ _ h=>h) (Or.inl ⟨by rfl,?_⟩) ?_ ?_
        rotate_left
        ·intro w'
         go_simp
         with_reducible rfl
        rotate_left
        ·simp only [Act.put,List.setIfInBounds_toArray,List.set_cons_zero,List.set_cons_succ,i64_w,i32_w]
         rfl
        refine take_ (i:=3) (N:=some 20) (v:=?_) (a':=?_) #[true,true,true,true,true,true,true,false,false,false] rfl rfl (take_ofW HT_.out HW_.out (by kernel_rfl)) (fun _ _ _ h=>h) (Or.inl ⟨by rfl,?_⟩) hHeld ?_ ?_
        rotate_left
        ·rintro w' ⟨s0,s1,s2,s3,s4,s5⟩
         go_simp
         with_reducible rfl
        rotate_left
        ·simp only [Act.put,List.setIfInBounds_toArray,List.set_cons_zero,List.set_cons_succ,i64_w,i32_w]
         rfl
        refine take_ (i:=7) (N:=some 24) (v:=?_) (a':=?_) #[true,true,true,true,true,true,true,true,false,false] rfl rfl (take_ofW HT_.out HW_.out (by kernel_rfl)) (fun _ _ _ h=>h) (Or.inl ⟨by rfl,?_⟩) hHeld ?_ ?_
        rotate_left
        ·rintro w' ⟨s0,s1,s2,s3,s4,s5⟩
         go_simp
         with_reducible rfl
        rotate_left
        ·simp only [Act.put,List.setIfInBounds_toArray,List.set_cons_zero,List.set_cons_succ,i64_w,i32_w]
         rfl
        refine one_ (i:=8) (N:=some 25) #[true,true,true,true,true,true,true,true,true,false] rfl rfl (one_of HT_.out (by kernel_rfl)) (by decide) (fun K hK=>?_)
        refine goes_ Try.func71 (by kernel_rfl) rfl #[.agg #[.int .i64 ((rd_T79 l0 x5_1).f0),.int .i64 ((rd_T79 l0 x5_1).f1),.int .i64 ((rd_T79 l0 x5_1).f2)],.agg #[.int .i64 ((rd_T79 l1 x5_1).f0),.int .i64 ((rd_T79 l1 x5_1).f1),.int .i64 ((rd_T79 l1 x5_1).f2)]] (by rfl) rfl rfl zq2 ?_
        with_reducible refine(laws_eqEdge.calls ((rd_T79 l0 x5_1).f0) ((rd_T79 l0 x5_1).f1) ((rd_T79 l0 x5_1).f2) ((rd_T79 l1 x5_1).f0) ((rd_T79 l1 x5_1).f1) ((rd_T79 l1 x5_1).f2) false _ A7.out).mono ?_
        rintro e w12 ⟨rfl,hb⟩
        refine⟨_,rfl,?_⟩
        have n0_:=Aside0.mk (below_step (zb0 HB) hb)
        clear HB
        have HB:=n0_
        clear n0_
        (try clear hb)
        (try clear hb2)
        (try clear hk)
        (try clear hi)
        refine hK.out _ _ ⟨((HB.out.cell (World.block_lt_of_cell? w _ hw272_0)).trans hw272_0),((HB.out.cell (World.block_lt_of_cell? w _ hw272_1)).trans hw272_1),((HB.out.cell (World.block_lt_of_cell? w _ hw272_2)).trans hw272_2),((HB.out.cell (World.block_lt_of_cell? w _ hw273_0)).trans hw273_0),((HB.out.cell (World.block_lt_of_cell? w _ hw273_1)).trans hw273_1),((HB.out.cell (World.block_lt_of_cell? w _ hw273_2)).trans hw273_2)⟩ (fun hHeld=>?_)
        clear hK K
        refine norm_ (a':=?_) ?_ ?_
        rotate_left
        ·show Act.put _ (some 25) _=_
         simp only [Act.put,List.setIfInBounds_toArray,List.set_cons_zero,List.set_cons_succ,i64_w,i32_w]
         rfl
        refine pure_ (i:=9) (N:=some 26) (v:=?_) (a':=?_) #[true,true,true,true,true,true,true,true,true,true] rfl rfl (any_of HT_.out (by kernel_rfl)) (fun _ _ _ h=>h) (Or.inl ⟨by rfl,?_⟩) ?_ ?_
        rotate_left
        ·intro w'
         go_simp
         with_reducible rfl
        rotate_left
        ·simp only [Act.put,List.setIfInBounds_toArray,List.set_cons_zero,List.set_cons_succ,i64_w,i32_w]
         rfl
        refine done_ (done_of HT_.out (by kernel_rfl)) ?_
        try go_wp2
        go_ret
        exact⟨by first|rfl|(simp [errW_none,errW_some]<;>rfl)|(simp [*,errW_none,errW_some]<;>rfl),by repeat(first|(with_reducible first|exact HB.out|apply below_alloc|apply pw_below_drewN|apply below_drew1)|exact HB.out)⟩
      ·rw [if_neg c6] at H
       exact absurd H (by simp)
     ·rw [if_neg c5] at H
      exact absurd H (by simp)
    ·rw [if_neg c4] at H
     have c4b0:decide (x5_1< (l0.length:Int))=false:=decide_eq_false c4
     clear c4
     obtain rfl:=Option.some.inj H
     go_wp2
     go_ret
     exact⟨by first|rfl|(simp [errW_none,errW_some]<;>rfl)|(simp [*,errW_none,errW_some]<;>rfl),by repeat(first|(with_reducible first|exact HB.out|apply below_alloc|apply pw_below_drewN|apply below_drew1)|exact HB.out)⟩
 ·rw [if_neg c3] at H
  have c3b0:((l0.length:Int)== (l1.length:Int))=false:=beq_eq_false_iff_ne.mpr c3
  have c3b1:((l0.length:Int) != (l1.length:Int))=true:=bne_iff_ne.mpr c3
  have c3b2:(l0.length==l1.length)=false:=by first|simpa using c3|(simp at c3 ⊢;omega)
  obtain rfl:=Option.some.inj H
  go_enter Try.func27,Try.ntmps27
  go_wp2
  go_ret
  exact⟨by first|rfl|(simp [errW_none,errW_some]<;>rfl)|(simp [*,errW_none,errW_some]<;>rfl),by repeat(first|(with_reducible first|exact HB.out|apply below_alloc|apply pw_below_drewN|apply below_drew1)|exact HB.out)⟩
end Go.Proofs.Ytedegfbheihopaa.P

namespace Go.Proofs.Ytedegfbheihopaa.P
open Go.RowKit Go.Proofs.YtedegfbheihopaaW.PrintWords Go.Proofs.YtedegfbheihopaaW.PrintLast Go.Proofs.YtedegfbheihopaaW.PrintMore
attribute [local go_sem] max2_int min2_int max_two min_two max_three min_three max_four min_four   -- for this text's walks alone
set_option linter.unusedVariables false
set_option linter.unusedSimpArgs false
def spec_l1Put.l0:Nat→List Int→Int→Int→Option (List Int)
 | 0,_,_,_=>none
 |k+1,x0,x1,x5=>if x5< (x0.length:Int) then(if 0≤x5 then(if (rd x0 x5)<x1 then(spec_l1Put.l0 k x0 x1 (wrap64 (x5+1))) else(if (rd x0 x5)=x1 then(some x0) else((some (([] :List Int):List Int)).bind fun y302=>(if x5≤ (x0.length:Int) then((some (x0.take (x5:Int).toNat:List Int)).bind fun y305=>(if y302.length+y305.length< 17592186044416 then((some (y302++y305:List Int)).bind fun y309=>(if y309.length< 17592186044416 then((some (y309++ [x1] :List Int)).bind fun y312=>((some (x0.drop (x5:Int).toNat:List Int)).bind fun y315=>(if y312.length+y315.length< 17592186044416 then(some (y312++y315)) else(none)))) else(none))) else(none))) else(none))))) else(none)) else((some (([] :List Int):List Int)).bind fun y322=>(if 0≤x5 then(if x5≤ (x0.length:Int) then((some (x0.take (x5:Int).toNat:List Int)).bind fun y325=>(if y322.length+y325.length< 17592186044416 then((some (y322++y325:List Int)).bind fun y329=>(if y329.length< 17592186044416 then((some (y329++ [x1] :List Int)).bind fun y332=>((some (x0.drop (x5:Int).toNat:List Int)).bind fun y335=>(if y332.length+y335.length< 17592186044416 then(some (y332++y335)) else(none)))) else(none))) else(none))) else(none)) else(none)))
def spec_l1Put.f (k:Nat) (l0:List Int) (a1:Int):Option (List Int):=spec_l1Put.l0 k l0 a1 0
set_option maxHeartbeats 8000000 in
set_option maxRecDepth 100000 in
theorem spec_l1Put.calls (k:Nat) (P0_:Nat→Prop) (u9000_:Value) (l0:List Int) (a1:Int) (r:List Int) (w0 w:World) (hB:Below w0.heap.size w0 w) (ho0:Kd.R (Kd.int .i64) 3 w w0.heap.size P0_ u9000_ l0) (h:spec_l1Put.f k l0 a1=some r):
  Calls Try.prog 105 #[u9000_,.int .i64 a1] w fun e w'=> ∃ v0_:Value,e= .returned (v0_)∧Kd.R (Kd.int .i64) 3 w' w0.heap.size (fun k_=>(P0_ k_∨w.heap.size≤k_)) v0_ r∧Below w0.heap.size w0 w'∧Kept w w' (fun k_=>P0_ k_):=by
 have HO0:=Aside0.mk (show Kd.R (Kd.int .i64) 3 w w0.heap.size (fun k_=>(P0_ k_∨w.heap.size≤k_)) u9000_ l0 from Kd.R_mono ho0 (fun k_ hk=>(.inl hk)))
 have HK:=Aside0.mk (Kept.refl w (fun k_=>P0_ k_))
 have HW0:=Aside0.mk hB.size
 have HB:=Aside0.mk hB
 clear hB
 have H:(spec_l1Put.l0 k l0 a1 0)=some r:=h
 clear h
 have H':=Aside0.mk H
 clear H
 go_enter Try.func105,Try.ntmps105
 go_wp2
 go_loopg [5] k (fun kq v5 w'=> ∃ (x5_1:Int),v5= .int .i64 x5_1∧Aside0 (spec_l1Put.l0 kq l0 a1 x5_1=some r)∧Aside0 (kq≤k)∧Aside0 (Kd.R (Kd.int .i64) 3 w' w0.heap.size (fun k_=>(P0_ k_∨w.heap.size≤k_)) u9000_ l0)∧Aside0 (Kept w w' (fun k_=>P0_ k_))∧Aside0 (Below w0.heap.size w0 w'))
 case atStart=>exact⟨(0),(by first|rfl|(simp;done)|(simp [*];done)),H',⟨Nat.le_refl _⟩,⟨by(with_reducible repeat(first|apply Kd.R_alloc|apply Kd.R_drewN|apply Kd.R_drew));exact HO0.out⟩,⟨by repeat(first|(with_reducible first|exact HK.out|apply Kept.alloc|apply Kept.drewN|apply Kept.drew)|exact HK.out)⟩,⟨by repeat(first|(with_reducible first|exact HB.out|apply below_alloc|apply pw_below_drewN|apply below_drew1)|exact HB.out)⟩⟩
 case round=>
  clear H'
  try clear c1
  try clear p2
  obtain⟨x5_1,rfl,HA,HK1,HO_0,HK,HB⟩:=hrel
  cases gk with
  |zero=>exact absurd HA.out (by simp [spec_l1Put.l0])
  |succ k1=>
   have H:=HA.out
   clear HA
   simp only [spec_l1Put.l0] at H
   by_cases c3:x5_1< (l0.length:Int)
   ·rw [if_pos c3] at H
    have c3b0:decide (x5_1< (l0.length:Int))=true:=decide_eq_true c3
    clear c3
    by_cases c4: 0≤x5_1
    ·rw [if_pos c4] at H
     have c4b0:decide (0≤x5_1)=true:=decide_eq_true c4
     clear c4
     by_cases c5:(rd l0 x5_1)<a1
     ·rw [if_pos c5] at H
      have c5b0:decide ((rd l0 x5_1)<a1)=true:=decide_eq_true c5
      clear c5
      have H':=Aside0.mk H
      clear H
      obtain⟨Ao6,co6,eo6⟩:=Kd.R_slice HO_0.out
      subst eo6
      have p300: 0≤ (x5_1:Int):=of_decide_eq_true zq1
      have q300:x5_1< (l0.length:Int):=of_decide_eq_true zq1
      obtain⟨ad300,e300,hx300_0⟩:=Kd.at_int (Kd.R_reads' HO_0.out).2.2 x5_1 p300 q300
      cases e300
      replace p300:=eq_true p300
      replace q300:=eq_true q300
      go_wp2
      go_roundg k1
      case measure=>have:=HK1.out;omega
      case rel=>exact⟨(wrap64 (x5_1+1)),(by first|rfl|(simp;done)|(simp [*];done)),H',⟨by have:=HK1.out;omega⟩,⟨by(with_reducible repeat(first|apply Kd.R_alloc|apply Kd.R_drewN|apply Kd.R_drew));exact HO_0.out⟩,⟨by repeat(first|(with_reducible first|exact HK.out|apply Kept.alloc|apply Kept.drewN|apply Kept.drew)|exact HK.out)⟩,⟨by repeat(first|(with_reducible first|exact HB.out|apply below_alloc|apply pw_below_drewN|apply below_drew1)|exact HB.out)⟩⟩
     ·rw [if_neg c5] at H
      have c5b0:decide ((rd l0 x5_1)<a1)=false:=decide_eq_false c5
      clear c5
      by_cases c7:(rd l0 x5_1)=a1
      ·rw [if_pos c7] at H
       have c7b0:((rd l0 x5_1)==a1)=true:=beq_iff_eq.mpr c7
       have c7b1:((rd l0 x5_1) !=a1)=false:=bne_eq_false_iff_eq.mpr c7
       clear c7
       obtain rfl:=Option.some.inj H
       obtain⟨Ao8,co8,eo8⟩:=Kd.R_slice HO_0.out
       subst eo8
       have p300: 0≤ (x5_1:Int):=of_decide_eq_true zq1
       have q300:x5_1< (l0.length:Int):=of_decide_eq_true zq1
       obtain⟨ad300,e300,hx300_0⟩:=Kd.at_int (Kd.R_reads' HO_0.out).2.2 x5_1 p300 q300
       cases e300
       replace p300:=eq_true p300
       replace q300:=eq_true q300
       have p301: 0≤ (x5_1:Int):=of_decide_eq_true zq1
       have q301:x5_1< (l0.length:Int):=of_decide_eq_true zq1
       obtain⟨ad301,e301,hx301_0⟩:=Kd.at_int (Kd.R_reads' HO_0.out).2.2 x5_1 p301 q301
       obtain rfl:ad300=ad301:=(by injection e301)
       replace p301:=eq_true p301
       replace q301:=eq_true q301
       go_wp2
       go_ret
       exact⟨_,by first|rfl|(simp [errW_none,errW_some]<;>rfl)|(simp [*,errW_none,errW_some]<;>rfl),by(with_reducible repeat(first|apply Kd.R_alloc|apply Kd.R_drewN|apply Kd.R_drew));exact HO_0.out,by repeat(first|(with_reducible first|exact HB.out|apply below_alloc|apply pw_below_drewN|apply below_drew1)|exact HB.out),by repeat(first|(with_reducible first|exact HK.out|apply Kept.alloc|apply Kept.drewN|apply Kept.drew)|exact HK.out)⟩
      ·rw [if_neg c7] at H
       have c7b0:((rd l0 x5_1)==a1)=false:=beq_eq_false_iff_ne.mpr c7
       have c7b1:((rd l0 x5_1) !=a1)=true:=bne_iff_ne.mpr c7
       obtain⟨y302,hy302⟩ :∃ y_:List Int,y_= (([] :List Int)):=⟨_,rfl⟩
       replace H:(if x5_1≤ (l0.length:Int) then((some (l0.take (x5_1:Int).toNat:List Int)).bind fun y305=>(if y302.length+y305.length< 17592186044416 then((some (y302++y305:List Int)).bind fun y309=>(if y309.length< 17592186044416 then((some (y309++ [a1] :List Int)).bind fun y312=>((some (l0.drop (x5_1:Int).toNat:List Int)).bind fun y315=>(if y312.length+y315.length< 17592186044416 then(some (y312++y315)) else(none)))) else(none))) else(none))) else(none))=some r:=by first|(rw [hy302];with_reducible exact H)|(have H2_:=(Option.bind_some _ _).symm.trans H;rw [hy302];with_reducible exact H2_)|(have H2_:=(Option.bind_some _ _).symm.trans H;with_reducible exact H2_)|with_reducible exact H|(rw [hy302];exact H)|exact H
       have Ny302:=Aside0.mk hy302
       clear hy302
       have c9b0:=eq_true (of_decide_eq_true zq1: 0≤x5_1)
       by_cases c10:x5_1≤ (l0.length:Int)
       ·rw [if_pos c10] at H
        have c10b0:=eq_true c10
        have c10b1:decide (x5_1≤ (l0.length:Int))=true:=decide_eq_true c10
        clear c10
        obtain⟨y305,hy305⟩ :∃ y_:List Int,y_= (l0.take (x5_1:Int).toNat):=⟨_,rfl⟩
        replace H:(if y302.length+y305.length< 17592186044416 then((some (y302++y305:List Int)).bind fun y309=>(if y309.length< 17592186044416 then((some (y309++ [a1] :List Int)).bind fun y312=>((some (l0.drop (x5_1:Int).toNat:List Int)).bind fun y315=>(if y312.length+y315.length< 17592186044416 then(some (y312++y315)) else(none)))) else(none))) else(none))=some r:=by first|(rw [hy305];with_reducible exact H)|(have H2_:=(Option.bind_some _ _).symm.trans H;rw [hy305];with_reducible exact H2_)|(have H2_:=(Option.bind_some _ _).symm.trans H;with_reducible exact H2_)|with_reducible exact H|(rw [hy305];exact H)|exact H
        have Ny305:=Aside0.mk hy305
        clear hy305
        by_cases c11:y302.length+y305.length< 17592186044416
        ·rw [if_pos c11] at H
         have LMc11:=Aside0.mk c11
         clear c11
         obtain⟨y309,hy309⟩ :∃ y_:List Int,y_= (y302++y305):=⟨_,rfl⟩
         replace H:(if y309.length< 17592186044416 then((some (y309++ [a1] :List Int)).bind fun y312=>((some (l0.drop (x5_1:Int).toNat:List Int)).bind fun y315=>(if y312.length+y315.length< 17592186044416 then(some (y312++y315)) else(none)))) else(none))=some r:=by first|(rw [hy309];with_reducible exact H)|(have H2_:=(Option.bind_some _ _).symm.trans H;rw [hy309];with_reducible exact H2_)|(have H2_:=(Option.bind_some _ _).symm.trans H;with_reducible exact H2_)|with_reducible exact H|(rw [hy309];exact H)|exact H
         have Ny309:=Aside0.mk hy309
         clear hy309
         by_cases c12:y309.length< 17592186044416
         ·rw [if_pos c12] at H
          have LMc12:=Aside0.mk c12
          clear c12
          obtain⟨y312,hy312⟩ :∃ y_:List Int,y_= (y309++ [a1]):=⟨_,rfl⟩
          replace H:((some (l0.drop (x5_1:Int).toNat:List Int)).bind fun y315=>(if y312.length+y315.length< 17592186044416 then(some (y312++y315)) else(none)))=some r:=by first|(rw [hy312];with_reducible exact H)|(have H2_:=(Option.bind_some _ _).symm.trans H;rw [hy312];with_reducible exact H2_)|(have H2_:=(Option.bind_some _ _).symm.trans H;with_reducible exact H2_)|with_reducible exact H|(rw [hy312];exact H)|exact H
          have Ny312:=Aside0.mk hy312
          clear hy312
          have c13b0:=eq_true (of_decide_eq_true zq1: 0≤x5_1)
          have c14b0:=eq_true (of_decide_eq_true zq1:x5_1≤ (l0.length:Int))
          obtain⟨y315,hy315⟩ :∃ y_:List Int,y_= (l0.drop (x5_1:Int).toNat):=⟨_,rfl⟩
          replace H:(if y312.length+y315.length< 17592186044416 then(some (y312++y315)) else(none))=some r:=by first|(rw [hy315];with_reducible exact H)|(have H2_:=(Option.bind_some _ _).symm.trans H;rw [hy315];with_reducible exact H2_)|(have H2_:=(Option.bind_some _ _).symm.trans H;with_reducible exact H2_)|with_reducible exact H|(rw [hy315];exact H)|exact H
          have Ny315:=Aside0.mk hy315
          clear hy315
          by_cases c15:y312.length+y315.length< 17592186044416
          ·rw [if_pos c15] at H
           have LMc15:=Aside0.mk c15
           clear c15
           obtain⟨y319,hy319⟩ :∃ y_:List Int,y_= (y312++y315):=⟨_,rfl⟩
           replace H:(some y319)=some r:=by first|(rw [hy319];with_reducible exact H)|(have H2_:=(Option.bind_some _ _).symm.trans H;rw [hy319];with_reducible exact H2_)|(have H2_:=(Option.bind_some _ _).symm.trans H;with_reducible exact H2_)|with_reducible exact H|(rw [hy319];exact H)|exact H
           have Ny319:=Aside0.mk hy319
           clear hy319
           obtain rfl:=Option.some.inj H
           obtain⟨Ao16,co16,eo16⟩:=Kd.R_slice HO_0.out
           subst eo16
           have p300: 0≤ (x5_1:Int):=of_decide_eq_true zq1
           have q300:x5_1< (l0.length:Int):=of_decide_eq_true zq1
           obtain⟨ad300,e300,hx300_0⟩:=Kd.at_int (Kd.R_reads' HO_0.out).2.2 x5_1 p300 q300
           cases e300
           replace p300:=eq_true p300
           replace q300:=eq_true q300
           have p301: 0≤ (x5_1:Int):=of_decide_eq_true zq1
           have q301:x5_1< (l0.length:Int):=of_decide_eq_true zq1
           obtain⟨ad301,e301,hx301_0⟩:=Kd.at_int (Kd.R_reads' HO_0.out).2.2 x5_1 p301 q301
           obtain rfl:ad300=ad301:=(by injection e301)
           replace p301:=eq_true p301
           replace q301:=eq_true q301
           go_wp2_with (first|((with_reducible refine gate_dst (N:=34) rfl ?_);refine Kd.R_lit (Kd.int .i64) _ 3 ?hg (N:=34) ?hd (xs:=([] :List Int)) (inner:= []) (ok:=fun _=>True) (okp:=fun _=>True) ?hr ?hp (fun _ hk=>hk) trivial (Below.refl _ _) (Nat.le_refl _) (by simp) ?_;(case hd=>rfl);(case hg=>rfl);(case hr=>first|(go_simp;done)|(go_simp;rfl));(case hp=>exact(Reps.none _ _));intro v303 w17 ho18 hb hg_ hnew_;clear hg_ hnew_;(first|rw [← Ny302.out] at ho18|(simp only [Int.reduceToNat] at ho18;rw [← Ny302.out] at ho18));have n0_:=Aside0.mk (Kd.R_elder' (zq4 HO_0) (Kd.R_base ho18) hb);have n1_:=Aside0.mk (Kd.R_lower (Kd.R_new' (Kd.R_newM (M:=fun k_=>(P0_ k_∨w.heap.size≤k_)) ho18 (by first|exact HK.out.1|exact(show Kept w _ (fun k_=>P0_ k_) from by repeat(first|(with_reducible first|exact HK.out|apply Kept.alloc|apply Kept.drewN|apply Kept.drew)|exact HK.out)).1) (fun k_ h_=> .inr h_)) (Kd.R_lt (zq4 HO_0))) (below_size (zb0 HB)));have n2_:=Aside0.mk (Kept.below (S:=(fun k_=>P0_ k_)) (by repeat(first|(with_reducible first|exact HK.out|apply Kept.alloc|apply Kept.drewN|apply Kept.drew)|exact HK.out)) hb);have n3_:=Aside0.mk (below_step (zb0 HB) hb);clear HO_0;clear HK;clear HB;have HO_0:=n0_;have HO304:=n1_;have HK:=n2_;have HB:=n3_;clear n0_ n1_ n2_ n3_;clear hb ho18;have q19:(x5_1:Int)≤ ((l0.length:Int):Int):=of_decide_eq_true zq1;obtain⟨i019,hi019,_,hsz19,_⟩:=info_parts info3;have hroom19:l0.length≤co16:=(Kd.R_reads' HO_0.out).2.1;have hC19:Kd.C (Kd.int .i64) _ (some ad300) l0.length l0:=(Kd.R_reads' HO_0.out).2.2;have hcut19:=cut_to (P:=Try.prog) 22 3 .i64 Try.underlying22 hi019 (some ad300) l0.length co16 x5_1 (of_decide_eq_true zq1) q19 hroom19;have hr19:=Kd.C_take (m:=(x5_1:Int).toNat) hC19 (by omega);have hy19:y305.length= (x5_1:Int).toNat:=(by rw [Ny305.out,List.length_take];omega);rw [← Ny305.out] at hr19;rw [← hy19] at hcut19;have HR308:=Aside0.mk hr19;have HC308:=Aside0.mk (show y305.length≤co16 from by omega);clear hr19 hC19 hroom19 hi019 hsz19;have KY19:=Aside0.mk hy19;clear hy19;have KL19:=Aside0.mk (show (x5_1:Int).toNat≤l0.length from by omega);replace q19:=eq_true q19)|((with_reducible refine gate_builtin (b:= .append) (xs:= #[.tmp 34,.tmp 37]) rfl ?_);at_builtin;refine Kd.R_append_rows (Kd.int .i64) (w0:=w0) w0.heap.size rfl (.tmp 34) (.tmp 37) 22 3 (.int .i64 0) 8 rfl Try.underlying22 info3 rfl (by decide) (by omega) v303 y302 y305 _ _ _ (fun k_=>(P0_ k_∨w.heap.size≤k_)∧some k_≠ (.slice (some ad300) l0.length co16:Value).ownBlock) (fun _=>False) rfl rfl ?aO ?aR (fun _ _ h=>h) (fun _ h=>h.elim) ?aF ?aB ?aS ?aL ?_;(case aR=>repeat(first|exact(by repeat(first|(with_reducible exact HR308.out)|(with_reducible refine Kd.C_alloc ?_ _)|(with_reducible refine Kd.C_drewN ?_ _)|(with_reducible refine Kd.C_drew ?_)|exact HR308.out))|(with_reducible refine Kd.C_alloc ?_ _)|(with_reducible refine Kd.C_drewN ?_ _)|(with_reducible refine Kd.C_drew ?_)));(case aB=>exact(zb0 HB));(case aF=>exact(fun k_ hk=>⟨(.inr (Nat.le_trans (by first|exact HK.out.1|exact(show Kept w _ (fun k_=>P0_ k_) from by repeat(first|(with_reducible first|exact HK.out|apply Kept.alloc|apply Kept.drewN|apply Kept.drew)|exact HK.out)).1) hk)),Kd.fresh' (Kd.R_lt (zq4 HO_0)) k_ hk⟩));(case aO=>exact(by(with_reducible repeat(first|apply Kd.R_alloc|apply Kd.R_drewN|apply Kd.R_drew));exact Kd.R_mono HO304.out (fun _ hk=>⟨hk.1.1,hk.2⟩)));(case aS=>exact(below_size (zb0 HB)));(case aL=>have:=LMc11.out;omega);intro v310 w20 ho hb hg hat;rw [← Ny309.out] at ho;have n0_:=Aside0.mk (Kd.R_after (ok:=(fun k_=>(P0_ k_∨w.heap.size≤k_))) (zq4 HO_0) hg hat);have n1_:=Aside0.mk (hb);have n2_:=Aside0.mk (Kept.of_grown (S:=(fun k_=>P0_ k_)) hg (by repeat(first|(with_reducible first|exact HK.out|apply Kept.alloc|apply Kept.drewN|apply Kept.drew)|exact HK.out)) (fun k_ e_=>(HO304.out.1 k_ e_).1.1));have n3_:=Aside0.mk ((show Kd.C (Kd.int .i64) w20 (some ad300) y305.length y305 from by rw [Ny305.out];exact Kd.C_take (m:=(x5_1:Int).toNat) ((Kd.R_reads' (Kd.R_after (ok:=(fun k_=>(P0_ k_∨w.heap.size≤k_))) (zq4 HO_0) hg hat)).2.2) KL19.out));have n4_:=Aside0.mk (ho);clear HO_0;clear HB;clear HK;clear HR308;clear HO304;have HO_0:=n0_;have HB:=n1_;have HK:=n2_;have HR308:=n3_;have HO311:=n4_;clear n0_ n1_ n2_ n3_ n4_;clear ho hb hg hat)|((with_reducible refine gate_builtin (b:= .append) (xs:= #[.tmp 39,.tmp 41]) rfl ?_);at_builtin;refine Kd.R_append (Kd.int .i64) (w0:=w0) w0.heap.size rfl (.tmp 39) (.tmp 41) 22 3 (.int .i64 0) 8 rfl Try.underlying22 info3 rfl (by decide) (by omega) v310 y309 a1 [.int .i64 a1] (fun k_=>(P0_ k_∨w.heap.size≤k_)∧some k_≠ (.slice (some ad300) l0.length co16:Value).ownBlock) (fun _=>False) rfl rfl ?aP (fun _ hk=>hk.elim) ?aF ?aO ?aB ?aS ?aL ?_;(case aP=>exact rfl);(case aB=>exact(zb0 HB));(case aF=>exact(fun k_ hk=>⟨(.inr (Nat.le_trans (by first|exact HK.out.1|exact(show Kept w _ (fun k_=>P0_ k_) from by repeat(first|(with_reducible first|exact HK.out|apply Kept.alloc|apply Kept.drewN|apply Kept.drew)|exact HK.out)).1) hk)),Kd.fresh' (Kd.R_lt (zq4 HO_0)) k_ hk⟩));(case aO=>exact(zq4 HO311));(case aS=>exact(below_size (zb0 HB)));(case aL=>have:=LMc12.out;omega);intro v313 w21 ho hb hg hat;rw [← Ny312.out] at ho;have n0_:=Aside0.mk (Kd.R_after (ok:=(fun k_=>(P0_ k_∨w.heap.size≤k_))) (zq4 HO_0) hg hat);have n1_:=Aside0.mk (hb);have n2_:=Aside0.mk (Kept.of_grown (S:=(fun k_=>P0_ k_)) hg (by repeat(first|(with_reducible first|exact HK.out|apply Kept.alloc|apply Kept.drewN|apply Kept.drew)|exact HK.out)) (fun k_ e_=>(HO311.out.1 k_ e_).1));have n3_:=Aside0.mk ((show Kd.C (Kd.int .i64) w21 (some ad300) y305.length y305 from by rw [Ny305.out];exact Kd.C_take (m:=(x5_1:Int).toNat) ((Kd.R_reads' (Kd.R_after (ok:=(fun k_=>(P0_ k_∨w.heap.size≤k_))) (zq4 HO_0) hg hat)).2.2) KL19.out));have n4_:=Aside0.mk (ho);clear HO_0;clear HB;clear HK;clear HR308;clear HO311;have HO_0:=n0_;have HB:=n1_;have HK:=n2_;have HR308:=n3_;have HO314:=n4_;clear n0_ n1_ n2_ n3_ n4_;clear ho hb hg hat;have q22:(x5_1:Int)≤ ((l0.length:Int):Int):=of_decide_eq_true zq1;obtain⟨i022,hi022,_,hsz22,_⟩:=info_parts info3;have hroom22:l0.length≤co16:=(Kd.R_reads' HO_0.out).2.1;have hC22:Kd.C (Kd.int .i64) _ (some ad300) l0.length l0:=(Kd.R_reads' HO_0.out).2.2;have q022:(0:Int)≤ (x5_1:Int):=of_decide_eq_true zq1;have hcut22:=cut_from (P:=Try.prog) 22 3 .i64 Try.underlying22 hi022 1 hsz22 (some ad300) l0.length co16 x5_1 q022 q22;have hr22:=Kd.C_drop (m:=(x5_1:Int).toNat) (c:=co16) hC22 (by omega) hroom22;obtain⟨A22,hA22⟩ :∃ A1,A1= (if co16= (x5_1:Int).toNat then(some ad300) else((some ad300):Option Addr).map (·.add ((x5_1:Int).toNat * 1))):=⟨_,rfl⟩;obtain⟨c22,hc22⟩ :∃ c1,c1=co16 - (x5_1:Int).toNat:=⟨_,rfl⟩;have hy22:y315.length=l0.length - (x5_1:Int).toNat:=(by rw [Ny315.out,List.length_drop]<;>omega);rw [show (l0).drop (x5_1:Int).toNat=y315 from Ny315.out.symm] at hr22;replace hr22:Kd.C (Kd.int .i64) _ A22 y315.length y315:=(by rw [hA22];exact hr22);rw [← hy22,← hA22,← hc22] at hcut22;have HR318:=Aside0.mk hr22;have HC318:=Aside0.mk (show y315.length≤c22 from by rw [hy22,hc22];exact Nat.sub_le_sub_right hroom22 _);clear hr22 hC22 hroom22 hi022 hsz22 hc22;have KY22:=Aside0.mk hy22;have KA22:=Aside0.mk hA22;clear hy22 hA22;have KL22:=Aside0.mk (show (x5_1:Int).toNat≤l0.length from by omega);replace q22:=eq_true q22)|((with_reducible refine gate_builtin (b:= .append) (xs:= #[.tmp 43,.tmp 46]) rfl ?_);at_builtin;refine Kd.R_append_rows (Kd.int .i64) (w0:=w0) w0.heap.size rfl (.tmp 43) (.tmp 46) 22 3 (.int .i64 0) 8 rfl Try.underlying22 info3 rfl (by decide) (by omega) v313 y312 y315 _ _ _ (fun k_=>(P0_ k_∨w.heap.size≤k_)∧some k_≠ (.slice (some ad300) l0.length co16:Value).ownBlock) (fun _=>False) rfl rfl ?aO ?aR (fun _ _ h=>h) (fun _ h=>h.elim) ?aF ?aB ?aS ?aL ?_;(case aR=>repeat(first|exact(by repeat(first|(with_reducible exact HR318.out)|(with_reducible refine Kd.C_alloc ?_ _)|(with_reducible refine Kd.C_drewN ?_ _)|(with_reducible refine Kd.C_drew ?_)|exact HR318.out))|(with_reducible refine Kd.C_alloc ?_ _)|(with_reducible refine Kd.C_drewN ?_ _)|(with_reducible refine Kd.C_drew ?_)));(case aB=>exact(zb0 HB));(case aF=>exact(fun k_ hk=>⟨(.inr (Nat.le_trans (by first|exact HK.out.1|exact(show Kept w _ (fun k_=>P0_ k_) from by repeat(first|(with_reducible first|exact HK.out|apply Kept.alloc|apply Kept.drewN|apply Kept.drew)|exact HK.out)).1) hk)),Kd.fresh' (Kd.R_lt (zq4 HO_0)) k_ hk⟩));(case aO=>exact(zq4 HO314));(case aS=>exact(below_size (zb0 HB)));(case aL=>have:=LMc15.out;omega);intro v320 w23 ho hb hg hat;rw [← Ny319.out] at ho;have n0_:=Aside0.mk (Kd.R_after (ok:=(fun k_=>(P0_ k_∨w.heap.size≤k_))) (zq4 HO_0) hg hat);have n1_:=Aside0.mk (hb);have n2_:=Aside0.mk (Kept.of_grown (S:=(fun k_=>P0_ k_)) hg (by repeat(first|(with_reducible first|exact HK.out|apply Kept.alloc|apply Kept.drewN|apply Kept.drew)|exact HK.out)) (fun k_ e_=>(HO314.out.1 k_ e_).1));have n3_:=Aside0.mk ((show Kd.C (Kd.int .i64) w23 (some ad300) y305.length y305 from by rw [Ny305.out];exact Kd.C_take (m:=(x5_1:Int).toNat) ((Kd.R_reads' (Kd.R_after (ok:=(fun k_=>(P0_ k_∨w.heap.size≤k_))) (zq4 HO_0) hg hat)).2.2) KL19.out));have n4_:=Aside0.mk ((show Kd.C (Kd.int .i64) w23 A22 y315.length y315 from by rw [Ny315.out,KA22.out];exact Kd.C_drop (m:=(x5_1:Int).toNat) (c:=co16) ((Kd.R_reads' (Kd.R_after (ok:=(fun k_=>(P0_ k_∨w.heap.size≤k_))) (zq4 HO_0) hg hat)).2.2) KL22.out ((Kd.R_reads' (Kd.R_after (ok:=(fun k_=>(P0_ k_∨w.heap.size≤k_))) (zq4 HO_0) hg hat)).2.1)));have n5_:=Aside0.mk (ho);clear HO_0;clear HB;clear HK;clear HR308;clear HR318;clear HO314;have HO_0:=n0_;have HB:=n1_;have HK:=n2_;have HR308:=n3_;have HR318:=n4_;have HO321:=n5_;clear n0_ n1_ n2_ n3_ n4_ n5_;clear ho hb hg hat))
           go_ret
           exact⟨_,by first|rfl|(simp [errW_none,errW_some]<;>rfl)|(simp [*,errW_none,errW_some]<;>rfl),by(with_reducible repeat(first|apply Kd.R_alloc|apply Kd.R_drewN|apply Kd.R_drew));exact Kd.R_mono HO321.out (fun _ hk=>hk.1),by repeat(first|(with_reducible first|exact HB.out|apply below_alloc|apply pw_below_drewN|apply below_drew1)|exact HB.out),by repeat(first|(with_reducible first|exact HK.out|apply Kept.alloc|apply Kept.drewN|apply Kept.drew)|exact HK.out)⟩
          ·rw [if_neg c15] at H
           exact absurd H (by simp)
         ·rw [if_neg c12] at H
          exact absurd H (by simp)
        ·rw [if_neg c11] at H
         exact absurd H (by simp)
       ·rw [if_neg c10] at H
        exact absurd H (by simp)
    ·rw [if_neg c4] at H
     exact absurd H (by simp)
   ·rw [if_neg c3] at H
    have c3b0:decide (x5_1< (l0.length:Int))=false:=decide_eq_false c3
    clear c3
    obtain⟨y322,hy322⟩ :∃ y_:List Int,y_= (([] :List Int)):=⟨_,rfl⟩
    replace H:(if 0≤x5_1 then(if x5_1≤ (l0.length:Int) then((some (l0.take (x5_1:Int).toNat:List Int)).bind fun y325=>(if y322.length+y325.length< 17592186044416 then((some (y322++y325:List Int)).bind fun y329=>(if y329.length< 17592186044416 then((some (y329++ [a1] :List Int)).bind fun y332=>((some (l0.drop (x5_1:Int).toNat:List Int)).bind fun y335=>(if y332.length+y335.length< 17592186044416 then(some (y332++y335)) else(none)))) else(none))) else(none))) else(none)) else(none))=some r:=by first|(rw [hy322];with_reducible exact H)|(have H2_:=(Option.bind_some _ _).symm.trans H;rw [hy322];with_reducible exact H2_)|(have H2_:=(Option.bind_some _ _).symm.trans H;with_reducible exact H2_)|with_reducible exact H|(rw [hy322];exact H)|exact H
    have Ny322:=Aside0.mk hy322
    clear hy322
    by_cases c24: 0≤x5_1
    ·rw [if_pos c24] at H
     have c24b0:=eq_true c24
     have c24b1:decide (0≤x5_1)=true:=decide_eq_true c24
     clear c24
     by_cases c25:x5_1≤ (l0.length:Int)
     ·rw [if_pos c25] at H
      have c25b0:=eq_true c25
      have c25b1:decide (x5_1≤ (l0.length:Int))=true:=decide_eq_true c25
      clear c25
      obtain⟨y325,hy325⟩ :∃ y_:List Int,y_= (l0.take (x5_1:Int).toNat):=⟨_,rfl⟩
      replace H:(if y322.length+y325.length< 17592186044416 then((some (y322++y325:List Int)).bind fun y329=>(if y329.length< 17592186044416 then((some (y329++ [a1] :List Int)).bind fun y332=>((some (l0.drop (x5_1:Int).toNat:List Int)).bind fun y335=>(if y332.length+y335.length< 17592186044416 then(some (y332++y335)) else(none)))) else(none))) else(none))=some r:=by first|(rw [hy325];with_reducible exact H)|(have H2_:=(Option.bind_some _ _).symm.trans H;rw [hy325];with_reducible exact H2_)|(have H2_:=(Option.bind_some _ _).symm.trans H;with_reducible exact H2_)|with_reducible exact H|(rw [hy325];exact H)|exact H
      have Ny325:=Aside0.mk hy325
      clear hy325
      by_cases c26:y322.length+y325.length< 17592186044416
      ·rw [if_pos c26] at H
       have LMc26:=Aside0.mk c26
       clear c26
       obtain⟨y329,hy329⟩ :∃ y_:List Int,y_= (y322++y325):=⟨_,rfl⟩
       replace H:(if y329.length< 17592186044416 then((some (y329++ [a1] :List Int)).bind fun y332=>((some (l0.drop (x5_1:Int).toNat:List Int)).bind fun y335=>(if y332.length+y335.length< 17592186044416 then(some (y332++y335)) else(none)))) else(none))=some r:=by first|(rw [hy329];with_reducible exact H)|(have H2_:=(Option.bind_some _ _).symm.trans H;rw [hy329];with_reducible exact H2_)|(have H2_:=(Option.bind_some _ _).symm.trans H;with_reducible exact H2_)|with_reducible exact H|(rw [hy329];exact H)|exact H
       have Ny329:=Aside0.mk hy329
       clear hy329
       by_cases c27:y329.length< 17592186044416
       ·rw [if_pos c27] at H
        have LMc27:=Aside0.mk c27
        clear c27
        obtain⟨y332,hy332⟩ :∃ y_:List Int,y_= (y329++ [a1]):=⟨_,rfl⟩
        replace H:((some (l0.drop (x5_1:Int).toNat:List Int)).bind fun y335=>(if y332.length+y335.length< 17592186044416 then(some (y332++y335)) else(none)))=some r:=by first|(rw [hy332];with_reducible exact H)|(have H2_:=(Option.bind_some _ _).symm.trans H;rw [hy332];with_reducible exact H2_)|(have H2_:=(Option.bind_some _ _).symm.trans H;with_reducible exact H2_)|with_reducible exact H|(rw [hy332];exact H)|exact H
        have Ny332:=Aside0.mk hy332
        clear hy332
        have c28b0:=eq_true (of_decide_eq_true zq1: 0≤x5_1)
        have c29b0:=eq_true (of_decide_eq_true zq1:x5_1≤ (l0.length:Int))
        obtain⟨y335,hy335⟩ :∃ y_:List Int,y_= (l0.drop (x5_1:Int).toNat):=⟨_,rfl⟩
        replace H:(if y332.length+y335.length< 17592186044416 then(some (y332++y335)) else(none))=some r:=by first|(rw [hy335];with_reducible exact H)|(have H2_:=(Option.bind_some _ _).symm.trans H;rw [hy335];with_reducible exact H2_)|(have H2_:=(Option.bind_some _ _).symm.trans H;with_reducible exact H2_)|with_reducible exact H|(rw [hy335];exact H)|exact H
        have Ny335:=Aside0.mk hy335
        clear hy335
        by_cases c30:y332.length+y335.length< 17592186044416
        ·rw [if_pos c30] at H
         have LMc30:=Aside0.mk c30
         clear c30
         obtain⟨y339,hy339⟩ :∃ y_:List Int,y_= (y332++y335):=⟨_,rfl⟩
         replace H:(some y339)=some r:=by first|(rw [hy339];with_reducible exact H)|(have H2_:=(Option.bind_some _ _).symm.trans H;rw [hy339];with_reducible exact H2_)|(have H2_:=(Option.bind_some _ _).symm.trans H;with_reducible exact H2_)|with_reducible exact H|(rw [hy339];exact H)|exact H
         have Ny339:=Aside0.mk hy339
         clear hy339
         obtain rfl:=Option.some.inj H
         obtain⟨Ao31,co31,eo31⟩:=Kd.R_slice HO_0.out
         subst eo31
         go_wp2_with (first|((with_reducible refine gate_dst (N:=34) rfl ?_);refine Kd.R_lit (Kd.int .i64) _ 3 ?hg (N:=34) ?hd (xs:=([] :List Int)) (inner:= []) (ok:=fun _=>True) (okp:=fun _=>True) ?hr ?hp (fun _ hk=>hk) trivial (Below.refl _ _) (Nat.le_refl _) (by simp) ?_;(case hd=>rfl);(case hg=>rfl);(case hr=>first|(go_simp;done)|(go_simp;rfl));(case hp=>exact(Reps.none _ _));intro v323 w32 ho33 hb hg_ hnew_;clear hg_ hnew_;(first|rw [← Ny322.out] at ho33|(simp only [Int.reduceToNat] at ho33;rw [← Ny322.out] at ho33));have n0_:=Aside0.mk (Kd.R_elder' (zq4 HO_0) (Kd.R_base ho33) hb);have n1_:=Aside0.mk (Kd.R_lower (Kd.R_new' (Kd.R_newM (M:=fun k_=>(P0_ k_∨w.heap.size≤k_)) ho33 (by first|exact HK.out.1|exact(show Kept w _ (fun k_=>P0_ k_) from by repeat(first|(with_reducible first|exact HK.out|apply Kept.alloc|apply Kept.drewN|apply Kept.drew)|exact HK.out)).1) (fun k_ h_=> .inr h_)) (Kd.R_lt (zq4 HO_0))) (below_size (zb0 HB)));have n2_:=Aside0.mk (Kept.below (S:=(fun k_=>P0_ k_)) (by repeat(first|(with_reducible first|exact HK.out|apply Kept.alloc|apply Kept.drewN|apply Kept.drew)|exact HK.out)) hb);have n3_:=Aside0.mk (below_step (zb0 HB) hb);clear HO_0;clear HK;clear HB;have HO_0:=n0_;have HO324:=n1_;have HK:=n2_;have HB:=n3_;clear n0_ n1_ n2_ n3_;clear hb ho33;have q34:(x5_1:Int)≤ ((l0.length:Int):Int):=of_decide_eq_true zq1;obtain⟨i034,hi034,_,hsz34,_⟩:=info_parts info3;have hroom34:l0.length≤co31:=(Kd.R_reads' HO_0.out).2.1;have hC34:Kd.C (Kd.int .i64) _ Ao31 l0.length l0:=(Kd.R_reads' HO_0.out).2.2;have hcut34:=cut_to (P:=Try.prog) 22 3 .i64 Try.underlying22 hi034 Ao31 l0.length co31 x5_1 (of_decide_eq_true zq1) q34 hroom34;have hr34:=Kd.C_take (m:=(x5_1:Int).toNat) hC34 (by omega);have hy34:y325.length= (x5_1:Int).toNat:=(by rw [Ny325.out,List.length_take];omega);rw [← Ny325.out] at hr34;rw [← hy34] at hcut34;have HR328:=Aside0.mk hr34;have HC328:=Aside0.mk (show y325.length≤co31 from by omega);clear hr34 hC34 hroom34 hi034 hsz34;have KY34:=Aside0.mk hy34;clear hy34;have KL34:=Aside0.mk (show (x5_1:Int).toNat≤l0.length from by omega);replace q34:=eq_true q34)|((with_reducible refine gate_builtin (b:= .append) (xs:= #[.tmp 34,.tmp 37]) rfl ?_);at_builtin;refine Kd.R_append_rows (Kd.int .i64) (w0:=w0) w0.heap.size rfl (.tmp 34) (.tmp 37) 22 3 (.int .i64 0) 8 rfl Try.underlying22 info3 rfl (by decide) (by omega) v323 y322 y325 _ _ _ (fun k_=>(P0_ k_∨w.heap.size≤k_)∧some k_≠ (.slice Ao31 l0.length co31:Value).ownBlock) (fun _=>False) rfl rfl ?aO ?aR (fun _ _ h=>h) (fun _ h=>h.elim) ?aF ?aB ?aS ?aL ?_;(case aR=>repeat(first|exact(by repeat(first|(with_reducible exact HR328.out)|(with_reducible refine Kd.C_alloc ?_ _)|(with_reducible refine Kd.C_drewN ?_ _)|(with_reducible refine Kd.C_drew ?_)|exact HR328.out))|(with_reducible refine Kd.C_alloc ?_ _)|(with_reducible refine Kd.C_drewN ?_ _)|(with_reducible refine Kd.C_drew ?_)));(case aB=>exact(zb0 HB));(case aF=>exact(fun k_ hk=>⟨(.inr (Nat.le_trans (by first|exact HK.out.1|exact(show Kept w _ (fun k_=>P0_ k_) from by repeat(first|(with_reducible first|exact HK.out|apply Kept.alloc|apply Kept.drewN|apply Kept.drew)|exact HK.out)).1) hk)),Kd.fresh' (Kd.R_lt (zq4 HO_0)) k_ hk⟩));(case aO=>exact(by(with_reducible repeat(first|apply Kd.R_alloc|apply Kd.R_drewN|apply Kd.R_drew));exact Kd.R_mono HO324.out (fun _ hk=>⟨hk.1.1,hk.2⟩)));(case aS=>exact(below_size (zb0 HB)));(case aL=>have:=LMc26.out;omega);intro v330 w35 ho hb hg hat;rw [← Ny329.out] at ho;have n0_:=Aside0.mk (Kd.R_after (ok:=(fun k_=>(P0_ k_∨w.heap.size≤k_))) (zq4 HO_0) hg hat);have n1_:=Aside0.mk (hb);have n2_:=Aside0.mk (Kept.of_grown (S:=(fun k_=>P0_ k_)) hg (by repeat(first|(with_reducible first|exact HK.out|apply Kept.alloc|apply Kept.drewN|apply Kept.drew)|exact HK.out)) (fun k_ e_=>(HO324.out.1 k_ e_).1.1));have n3_:=Aside0.mk ((show Kd.C (Kd.int .i64) w35 Ao31 y325.length y325 from by rw [Ny325.out];exact Kd.C_take (m:=(x5_1:Int).toNat) ((Kd.R_reads' (Kd.R_after (ok:=(fun k_=>(P0_ k_∨w.heap.size≤k_))) (zq4 HO_0) hg hat)).2.2) KL34.out));have n4_:=Aside0.mk (ho);clear HO_0;clear HB;clear HK;clear HR328;clear HO324;have HO_0:=n0_;have HB:=n1_;have HK:=n2_;have HR328:=n3_;have HO331:=n4_;clear n0_ n1_ n2_ n3_ n4_;clear ho hb hg hat)|((with_reducible refine gate_builtin (b:= .append) (xs:= #[.tmp 39,.tmp 41]) rfl ?_);at_builtin;refine Kd.R_append (Kd.int .i64) (w0:=w0) w0.heap.size rfl (.tmp 39) (.tmp 41) 22 3 (.int .i64 0) 8 rfl Try.underlying22 info3 rfl (by decide) (by omega) v330 y329 a1 [.int .i64 a1] (fun k_=>(P0_ k_∨w.heap.size≤k_)∧some k_≠ (.slice Ao31 l0.length co31:Value).ownBlock) (fun _=>False) rfl rfl ?aP (fun _ hk=>hk.elim) ?aF ?aO ?aB ?aS ?aL ?_;(case aP=>exact rfl);(case aB=>exact(zb0 HB));(case aF=>exact(fun k_ hk=>⟨(.inr (Nat.le_trans (by first|exact HK.out.1|exact(show Kept w _ (fun k_=>P0_ k_) from by repeat(first|(with_reducible first|exact HK.out|apply Kept.alloc|apply Kept.drewN|apply Kept.drew)|exact HK.out)).1) hk)),Kd.fresh' (Kd.R_lt (zq4 HO_0)) k_ hk⟩));(case aO=>exact(zq4 HO331));(case aS=>exact(below_size (zb0 HB)));(case aL=>have:=LMc27.out;omega);intro v333 w36 ho hb hg hat;rw [← Ny332.out] at ho;have n0_:=Aside0.mk (Kd.R_after (ok:=(fun k_=>(P0_ k_∨w.heap.size≤k_))) (zq4 HO_0) hg hat);have n1_:=Aside0.mk (hb);have n2_:=Aside0.mk (Kept.of_grown (S:=(fun k_=>P0_ k_)) hg (by repeat(first|(with_reducible first|exact HK.out|apply Kept.alloc|apply Kept.drewN|apply Kept.drew)|exact HK.out)) (fun k_ e_=>(HO331.out.1 k_ e_).1));have n3_:=Aside0.mk ((show Kd.C (Kd.int .i64) w36 Ao31 y325.length y325 from by rw [Ny325.out];exact Kd.C_take (m:=(x5_1:Int).toNat) ((Kd.R_reads' (Kd.R_after (ok:=(fun k_=>(P0_ k_∨w.heap.size≤k_))) (zq4 HO_0) hg hat)).2.2) KL34.out));have n4_:=Aside0.mk (ho);clear HO_0;clear HB;clear HK;clear HR328;clear HO331;have HO_0:=n0_;have HB:=n1_;have HK:=n2_;have HR328:=n3_;have HO334:=n4_;clear n0_ n1_ n2_ n3_ n4_;clear ho hb hg hat;have q37:(x5_1:Int)≤ ((l0.length:Int):Int):=of_decide_eq_true zq1;obtain⟨i037,hi037,_,hsz37,_⟩:=info_parts info3;have hroom37:l0.length≤co31:=(Kd.R_reads' HO_0.out).2.1;have hC37:Kd.C (Kd.int .i64) _ Ao31 l0.length l0:=(Kd.R_reads' HO_0.out).2.2;have q037:(0:Int)≤ (x5_1:Int):=of_decide_eq_true zq1;have hcut37:=cut_from (P:=Try.prog) 22 3 .i64 Try.underlying22 hi037 1 hsz37 Ao31 l0.length co31 x5_1 q037 q37;have hr37:=Kd.C_drop (m:=(x5_1:Int).toNat) (c:=co31) hC37 (by omega) hroom37;obtain⟨A37,hA37⟩ :∃ A1,A1= (if co31= (x5_1:Int).toNat then Ao31 else(Ao31:Option Addr).map (·.add ((x5_1:Int).toNat * 1))):=⟨_,rfl⟩;obtain⟨c37,hc37⟩ :∃ c1,c1=co31 - (x5_1:Int).toNat:=⟨_,rfl⟩;have hy37:y335.length=l0.length - (x5_1:Int).toNat:=(by rw [Ny335.out,List.length_drop]<;>omega);rw [show (l0).drop (x5_1:Int).toNat=y335 from Ny335.out.symm] at hr37;replace hr37:Kd.C (Kd.int .i64) _ A37 y335.length y335:=(by rw [hA37];exact hr37);rw [← hy37,← hA37,← hc37] at hcut37;have HR338:=Aside0.mk hr37;have HC338:=Aside0.mk (show y335.length≤c37 from by rw [hy37,hc37];exact Nat.sub_le_sub_right hroom37 _);clear hr37 hC37 hroom37 hi037 hsz37 hc37;have KY37:=Aside0.mk hy37;have KA37:=Aside0.mk hA37;clear hy37 hA37;have KL37:=Aside0.mk (show (x5_1:Int).toNat≤l0.length from by omega);replace q37:=eq_true q37)|((with_reducible refine gate_builtin (b:= .append) (xs:= #[.tmp 43,.tmp 46]) rfl ?_);at_builtin;refine Kd.R_append_rows (Kd.int .i64) (w0:=w0) w0.heap.size rfl (.tmp 43) (.tmp 46) 22 3 (.int .i64 0) 8 rfl Try.underlying22 info3 rfl (by decide) (by omega) v333 y332 y335 _ _ _ (fun k_=>(P0_ k_∨w.heap.size≤k_)∧some k_≠ (.slice Ao31 l0.length co31:Value).ownBlock) (fun _=>False) rfl rfl ?aO ?aR (fun _ _ h=>h) (fun _ h=>h.elim) ?aF ?aB ?aS ?aL ?_;(case aR=>repeat(first|exact(by repeat(first|(with_reducible exact HR338.out)|(with_reducible refine Kd.C_alloc ?_ _)|(with_reducible refine Kd.C_drewN ?_ _)|(with_reducible refine Kd.C_drew ?_)|exact HR338.out))|(with_reducible refine Kd.C_alloc ?_ _)|(with_reducible refine Kd.C_drewN ?_ _)|(with_reducible refine Kd.C_drew ?_)));(case aB=>exact(zb0 HB));(case aF=>exact(fun k_ hk=>⟨(.inr (Nat.le_trans (by first|exact HK.out.1|exact(show Kept w _ (fun k_=>P0_ k_) from by repeat(first|(with_reducible first|exact HK.out|apply Kept.alloc|apply Kept.drewN|apply Kept.drew)|exact HK.out)).1) hk)),Kd.fresh' (Kd.R_lt (zq4 HO_0)) k_ hk⟩));(case aO=>exact(zq4 HO334));(case aS=>exact(below_size (zb0 HB)));(case aL=>have:=LMc30.out;omega);intro v340 w38 ho hb hg hat;rw [← Ny339.out] at ho;have n0_:=Aside0.mk (Kd.R_after (ok:=(fun k_=>(P0_ k_∨w.heap.size≤k_))) (zq4 HO_0) hg hat);have n1_:=Aside0.mk (hb);have n2_:=Aside0.mk (Kept.of_grown (S:=(fun k_=>P0_ k_)) hg (by repeat(first|(with_reducible first|exact HK.out|apply Kept.alloc|apply Kept.drewN|apply Kept.drew)|exact HK.out)) (fun k_ e_=>(HO334.out.1 k_ e_).1));have n3_:=Aside0.mk ((show Kd.C (Kd.int .i64) w38 Ao31 y325.length y325 from by rw [Ny325.out];exact Kd.C_take (m:=(x5_1:Int).toNat) ((Kd.R_reads' (Kd.R_after (ok:=(fun k_=>(P0_ k_∨w.heap.size≤k_))) (zq4 HO_0) hg hat)).2.2) KL34.out));have n4_:=Aside0.mk ((show Kd.C (Kd.int .i64) w38 A37 y335.length y335 from by rw [Ny335.out,KA37.out];exact Kd.C_drop (m:=(x5_1:Int).toNat) (c:=co31) ((Kd.R_reads' (Kd.R_after (ok:=(fun k_=>(P0_ k_∨w.heap.size≤k_))) (zq4 HO_0) hg hat)).2.2) KL37.out ((Kd.R_reads' (Kd.R_after (ok:=(fun k_=>(P0_ k_∨w.heap.size≤k_))) (zq4 HO_0) hg hat)).2.1)));have n5_:=Aside0.mk (ho);clear HO_0;clear HB;clear HK;clear HR328;clear HR338;clear HO334;have HO_0:=n0_;have HB:=n1_;have HK:=n2_;have HR328:=n3_;have HR338:=n4_;have HO341:=n5_;clear n0_ n1_ n2_ n3_ n4_ n5_;clear ho hb hg hat))
         go_ret
         exact⟨_,by first|rfl|(simp [errW_none,errW_some]<;>rfl)|(simp [*,errW_none,errW_some]<;>rfl),by(with_reducible repeat(first|apply Kd.R_alloc|apply Kd.R_drewN|apply Kd.R_drew));exact Kd.R_mono HO341.out (fun _ hk=>hk.1),by repeat(first|(with_reducible first|exact HB.out|apply below_alloc|apply pw_below_drewN|apply below_drew1)|exact HB.out),by repeat(first|(with_reducible first|exact HK.out|apply Kept.alloc|apply Kept.drewN|apply Kept.drew)|exact HK.out)⟩
        ·rw [if_neg c30] at H
         exact absurd H (by simp)
       ·rw [if_neg c27] at H
        exact absurd H (by simp)
      ·rw [if_neg c26] at H
       exact absurd H (by simp)
     ·rw [if_neg c25] at H
      exact absurd H (by simp)
    ·rw [if_neg c24] at H
     exact absurd H (by simp)
end Go.Proofs.Ytedegfbheihopaa.P

namespace Go.Proofs.Ytedegfbheihopaa.P
open Go.RowKit Go.Proofs.YtedegfbheihopaaW.PrintWords Go.Proofs.YtedegfbheihopaaW.PrintLast Go.Proofs.YtedegfbheihopaaW.PrintMore
attribute [local go_sem] max2_int min2_int max_two min_two max_three min_three max_four min_four   -- for this text's walks alone
set_option linter.unusedVariables false
set_option linter.unusedSimpArgs false
def spec_l1Least.f (a0:Int) (a1:Int):Option (Int):=if a0<a1 then(some a0) else(some a1)
set_option maxHeartbeats 8000000 in
set_option maxRecDepth 100000 in
theorem spec_l1Least.calls (a0:Int) (a1:Int) (r:Int) (w:World) (h:spec_l1Least.f a0 a1=some r):
  Calls Try.prog 99 #[.int .i64 a0,.int .i64 a1] w fun e w'=>e= .returned (.int .i64 r)∧Drawn0 w w':=by
 have H:(if a0<a1 then(some a0) else(some a1))=some r:=h
 clear h
 by_cases c3:a0<a1
 ·rw [if_pos c3] at H
  have c3b0:decide (a0<a1)=true:=decide_eq_true c3
  clear c3
  obtain rfl:=Option.some.inj H
  go_enter Try.func99,Try.ntmps99
  go_wp2
  go_ret
  exact⟨by first|rfl|(simp;done)|(simp [*];done),by repeat(first|exact Drawn0.refl _|apply Drawn0.step)⟩
 ·rw [if_neg c3] at H
  have c3b0:decide (a0<a1)=false:=decide_eq_false c3
  clear c3
  obtain rfl:=Option.some.inj H
  go_enter Try.func99,Try.ntmps99
  go_wp2
  go_ret
  exact⟨by first|rfl|(simp;done)|(simp [*];done),by repeat(first|exact Drawn0.refl _|apply Drawn0.step)⟩
end Go.Proofs.Ytedegfbheihopaa.P

namespace Go.Proofs.Ytedegfbheihopaa.P
open Go.RowKit Go.Proofs.YtedegfbheihopaaW.PrintWords Go.Proofs.YtedegfbheihopaaW.PrintLast Go.Proofs.YtedegfbheihopaaW.PrintMore
attribute [local go_sem] max2_int min2_int max_two min_two max_three min_three max_four min_four   -- for this text's walks alone
set_option linter.unusedVariables false
set_option linter.unusedSimpArgs false
def spec_l9Relax.l0:Nat→List Int→List Int→List (S79)→Int→Int→Option (List Int)
 | 0,_,_,_,_,_=>none
 |k+1,x1,x5,x11,x12,x13=>if x13<x12 then(if 0≤x13 then(if x13< (x11.length:Int) then(if 0≤ ((rd_T79 x11 x13).f0) then(if ((rd_T79 x11 x13).f0)< (x5.length:Int) then(if 0≤ ((rd_T79 x11 x13).f1) then(if ((rd_T79 x11 x13).f1)< (x1.length:Int) then((spec_l1Least.f (rd x5 ((rd_T79 x11 x13).f0)) (wrap64 ((rd x1 ((rd_T79 x11 x13).f1))+ ((rd_T79 x11 x13).f2)))).bind fun t433=>((some (x5.set (((rd_T79 x11 x13).f0):Int).toNat t433:List Int)).bind fun y434=>(if ((rd_T79 x11 x13).f1)< (x5.length:Int) then(if ((rd_T79 x11 x13).f0)< (x1.length:Int) then((spec_l1Least.f (rd y434 ((rd_T79 x11 x13).f1)) (wrap64 ((rd x1 ((rd_T79 x11 x13).f0))+ ((rd_T79 x11 x13).f2)))).bind fun t437=>(spec_l9Relax.l0 k x1 (y434.set (((rd_T79 x11 x13).f1):Int).toNat t437) x11 x12 (wrap64 (x13+1)))) else(none)) else(none)))) else(none)) else(none)) else(none)) else(none)) else(none)) else(none)) else(some x5)
def spec_l9Relax.f (k:Nat) (l0:List (S79)) (l1:List Int):Option (List Int):=(some (([] :List Int):List Int)).bind fun y423=>(if y423.length+l1.length< 17592186044416 then(spec_l9Relax.l0 k l1 (y423++l1) l0 (l0.length:Int) 0) else(none))
def spec_l9Relax.T5:Bool × List (List Nat × List Nat):=(true,[([],[]),([],[]),([1],[1]),([],[]),([],[]),([4],[4]),([3,5],[3,5]),([6],[6]),([],[]),([],[]),([9],[9]),([8,10],[8,10]),([11],[11]),([],[]),([13],[13]),([12,14],[12,14]),([7,15],[7,15]),([0,2,0,1,2,3,4,5,6,7,8,9,10,11,12,13,14,15,16],[0,2]),([17,16,16,0,1,2,3,4,5,6,7,8,9,10,11,12,13,14,15,16],[16,17])])
def spec_l9Relax.B5:List Nat:= [0,0,2,0,0,16,56,120,0,0,512,1792,3840,0,8192,32512,65528,131071,262143]
theorem spec_l9Relax.tab5:rtab .any (opsOf Try.f106 5)=spec_l9Relax.T5:=by kernel_rfl
theorem spec_l9Relax.bits5:waitsOk spec_l9Relax.T5.2 spec_l9Relax.B5=true:=by kernel_rfl
def spec_l9Relax.T6:Bool × List (List Nat × List Nat):=(true,[([],[]),([],[]),([1],[1]),([],[]),([],[]),([4],[4]),([3,5],[3,5]),([6],[6]),([],[]),([],[]),([9],[9]),([8,10],[8,10]),([11],[11]),([],[]),([13],[13]),([12,14],[12,14]),([7,15],[7,15]),([0,2,0,1,2,3,4,5,6,7,8,9,10,11,12,13,14,15,16],[0,2]),([17,16,16,0,1,2,3,4,5,6,7,8,9,10,11,12,13,14,15,16],[16,17])])
def spec_l9Relax.B6:List Nat:= [0,0,2,0,0,16,56,120,0,0,512,1792,3840,0,8192,32512,65528,131071,262143]
theorem spec_l9Relax.tab6:rtab .any (opsOf Try.f106 6)=spec_l9Relax.T6:=by kernel_rfl
theorem spec_l9Relax.bits6:waitsOk spec_l9Relax.T6.2 spec_l9Relax.B6=true:=by kernel_rfl
set_option maxHeartbeats 8000000 in
set_option maxRecDepth 100000 in
theorem spec_l9Relax.calls (k:Nat) (A0:Option Addr) (c0:Nat) (l0:List (S79)) (A1:Option Addr) (c1:Nat) (l1:List Int) (r:List Int) (w:World) (hr0:Kd.C k79 w A0 l0.length l0) (hc0:l0.length≤c0) (hr1:Kd.C (Kd.int .i64) w A1 l1.length l1) (hc1:l1.length≤c1) (h:spec_l9Relax.f k l0 l1=some r):
  Calls Try.prog 106 #[.slice A0 l0.length c0,.slice A1 l1.length c1] w fun e w'=> ∃ v0_:Value,e= .returned (v0_)∧Kd.R (Kd.int .i64) 3 w' w.heap.size (fun _=>True) v0_ r∧Below w.heap.size w w':=by
 have hu79:=Try.underlying79
 have HR0:=Aside0.mk hr0
 have HC0:=Aside0.mk hc0
 clear hr0 hc0
 have HR1:=Aside0.mk hr1
 have HC1:=Aside0.mk hc1
 clear hr1 hc1
 have HB:=Aside0.mk (Below.refl w.heap.size w)
 have H:((some (([] :List Int):List Int)).bind fun y423=>(if y423.length+l1.length< 17592186044416 then(spec_l9Relax.l0 k l1 (y423++l1) l0 (l0.length:Int) 0) else(none)))=some r:=h
 clear h
 obtain⟨y423,hy423⟩ :∃ y_:List Int,y_= (([] :List Int)):=⟨_,rfl⟩
 replace H:(if y423.length+l1.length< 17592186044416 then(spec_l9Relax.l0 k l1 (y423++l1) l0 (l0.length:Int) 0) else(none))=some r:=by first|(rw [hy423];with_reducible exact H)|(have H2_:=(Option.bind_some _ _).symm.trans H;rw [hy423];with_reducible exact H2_)|(have H2_:=(Option.bind_some _ _).symm.trans H;with_reducible exact H2_)|with_reducible exact H|(rw [hy423];exact H)|exact H
 have Ny423:=Aside0.mk hy423
 clear hy423
 by_cases c3:y423.length+l1.length< 17592186044416
 ·rw [if_pos c3] at H
  have LMc3:=Aside0.mk c3
  clear c3
  obtain⟨y426,hy426⟩ :∃ y_:List Int,y_= (y423++l1):=⟨_,rfl⟩
  replace H:(spec_l9Relax.l0 k l1 y426 l0 (l0.length:Int) 0)=some r:=by first|(rw [hy426];with_reducible exact H)|(have H2_:=(Option.bind_some _ _).symm.trans H;rw [hy426];with_reducible exact H2_)|(have H2_:=(Option.bind_some _ _).symm.trans H;with_reducible exact H2_)|with_reducible exact H|(rw [hy426];exact H)|exact H
  have Ny426:=Aside0.mk hy426
  clear hy426
  have H':=Aside0.mk H
  clear H
  go_enter Try.func106,Try.ntmps106
  go_wp2_with (first|((with_reducible refine gate_dst (N:=8) rfl ?_);refine Kd.R_lit (Kd.int .i64) _ 3 ?hg (N:=8) ?hd (xs:=([] :List Int)) (inner:= []) (ok:=fun _=>True) (okp:=fun _=>True) ?hr ?hp (fun _ hk=>hk) trivial (Below.refl _ _) (Nat.le_refl _) (by simp) ?_;(case hd=>rfl);(case hg=>rfl);(case hr=>first|(go_simp;done)|(go_simp;rfl));(case hp=>exact(Reps.none _ _));intro v424 w4 ho5 hb hg_ hnew_;clear hg_ hnew_;(first|rw [← Ny423.out] at ho5|(simp only [Int.reduceToNat] at ho5;rw [← Ny423.out] at ho5));have n0_:=Aside0.mk (Kd.R_lower ho5 (below_size (zb0 HB)));have n1_:=Aside0.mk (below_step (zb0 HB) hb);clear HB;have HO425:=n0_;have HB:=n1_;clear n0_ n1_;clear hb ho5)|((with_reducible refine gate_builtin (b:= .append) (xs:= #[.tmp 8,.tmp 9]) rfl ?_);at_builtin;refine Kd.R_append_rows (Kd.int .i64) (w0:=w) w.heap.size rfl (.tmp 8) (.tmp 9) 22 3 (.int .i64 0) 8 rfl Try.underlying22 info3 rfl (by decide) (by omega) v424 y423 l1 _ _ _ (fun _=>True) (fun _=>False) rfl rfl ?aO ?aR (fun _ _ h=>h) (fun _ h=>h.elim) ?aF ?aB ?aS ?aL ?_;(case aR=>repeat(first|exact(Kd.C_below HR1.out HB.out)|(with_reducible refine Kd.C_alloc ?_ _)|(with_reducible refine Kd.C_drewN ?_ _)|(with_reducible refine Kd.C_drew ?_)));(case aB=>exact(zb0 HB));(case aF=>exact(fun _ _=>trivial));(case aO=>exact(zq4 HO425));(case aS=>exact(below_size (zb0 HB)));(case aL=>have:=LMc3.out;omega);intro v427 w6 ho hb hg hat;rw [← Ny426.out] at ho;have n0_:=Aside0.mk (hb);have n1_:=Aside0.mk (ho);clear HB;clear HO425;have HB:=n0_;have HO428:=n1_;clear n0_ n1_;clear ho hb hg hat))
  go_loopg [13] k (fun kq v13 w'=> ∃ (x5_1:List Int) (x13_1:Int),v13= .int .i64 x13_1∧Aside0 (spec_l9Relax.l0 kq l1 x5_1 l0 (l0.length:Int) x13_1=some r)∧Aside0 (kq≤k)∧Aside0 (Kd.R (Kd.int .i64) 3 w' w.heap.size (fun _=>True) v427 x5_1)∧Aside0 (Below w.heap.size w w'))
  case atStart=>exact⟨(y426),(0),(by first|rfl|(simp;done)|(simp [*];done)),H',⟨Nat.le_refl _⟩,⟨by(with_reducible repeat(first|apply Kd.R_alloc|apply Kd.R_drewN|apply Kd.R_drew));exact HO428.out⟩,⟨by repeat(first|(with_reducible first|exact HB.out|apply below_alloc|apply pw_below_drewN|apply below_drew1)|exact HB.out)⟩⟩
  case round=>
   clear H'
   try clear c1
   try clear p2
   try clear c3
   obtain⟨x5_1,x13_1,rfl,HA,HK1,HO_5,HB⟩:=hrel
   cases gk with
   |zero=>exact absurd HA.out (by simp [spec_l9Relax.l0])
   |succ k1=>
    have H:=HA.out
    clear HA
    simp only [spec_l9Relax.l0] at H
    by_cases c7:x13_1< (l0.length:Int)
    ·rw [if_pos c7] at H
     have c7b0:decide (x13_1< (l0.length:Int))=true:=decide_eq_true c7
     clear c7
     by_cases c8: 0≤x13_1
     ·rw [if_pos c8] at H
      have c8b0:decide (0≤x13_1)=true:=decide_eq_true c8
      clear c8
      by_cases c9:x13_1< (l0.length:Int)
      ·rw [if_pos c9] at H
       have c9b0:decide (x13_1< (l0.length:Int))=true:=decide_eq_true c9
       clear c9
       by_cases c10: 0≤ ((rd_T79 l0 x13_1).f0)
       ·rw [if_pos c10] at H
        have c10b0:decide (0≤ ((rd_T79 l0 x13_1).f0))=true:=decide_eq_true c10
        clear c10
        by_cases c11:((rd_T79 l0 x13_1).f0)< (x5_1.length:Int)
        ·rw [if_pos c11] at H
         have c11b0:decide (((rd_T79 l0 x13_1).f0)< (x5_1.length:Int))=true:=decide_eq_true c11
         clear c11
         by_cases c12: 0≤ ((rd_T79 l0 x13_1).f1)
         ·rw [if_pos c12] at H
          have c12b0:decide (0≤ ((rd_T79 l0 x13_1).f1))=true:=decide_eq_true c12
          clear c12
          by_cases c13:((rd_T79 l0 x13_1).f1)< (l1.length:Int)
          ·rw [if_pos c13] at H
           have c13b0:decide (((rd_T79 l0 x13_1).f1)< (l1.length:Int))=true:=decide_eq_true c13
           clear c13
           replace H:=Option.bind_eq_some_iff.mp H
           obtain⟨t433,A140,H⟩:=H
           replace H:((some (x5_1.set (((rd_T79 l0 x13_1).f0):Int).toNat t433:List Int)).bind fun y434=>(if ((rd_T79 l0 x13_1).f1)< (x5_1.length:Int) then(if ((rd_T79 l0 x13_1).f0)< (l1.length:Int) then((spec_l1Least.f (rd y434 ((rd_T79 l0 x13_1).f1)) (wrap64 ((rd l1 ((rd_T79 l0 x13_1).f0))+ ((rd_T79 l0 x13_1).f2)))).bind fun t437=>(spec_l9Relax.l0 k1 l1 (y434.set (((rd_T79 l0 x13_1).f1):Int).toNat t437) l0 (l0.length:Int) (wrap64 (x13_1+1)))) else(none)) else(none)))=some r:=H
           have A14:=Aside0.mk A140
           clear A140
           obtain⟨y434,hy434⟩ :∃ y_:List Int,y_= (x5_1.set (((rd_T79 l0 x13_1).f0):Int).toNat t433):=⟨_,rfl⟩
           replace H:(if ((rd_T79 l0 x13_1).f1)< (x5_1.length:Int) then(if ((rd_T79 l0 x13_1).f0)< (l1.length:Int) then((spec_l1Least.f (rd y434 ((rd_T79 l0 x13_1).f1)) (wrap64 ((rd l1 ((rd_T79 l0 x13_1).f0))+ ((rd_T79 l0 x13_1).f2)))).bind fun t437=>(spec_l9Relax.l0 k1 l1 (y434.set (((rd_T79 l0 x13_1).f1):Int).toNat t437) l0 (l0.length:Int) (wrap64 (x13_1+1)))) else(none)) else(none))=some r:=by first|(rw [hy434];with_reducible exact H)|(have H2_:=(Option.bind_some _ _).symm.trans H;rw [hy434];with_reducible exact H2_)|(have H2_:=(Option.bind_some _ _).symm.trans H;with_reducible exact H2_)|with_reducible exact H|(rw [hy434];exact H)|exact H
           have Ny434:=Aside0.mk hy434
           clear hy434
           by_cases c16:((rd_T79 l0 x13_1).f1)< (x5_1.length:Int)
           ·rw [if_pos c16] at H
            have c16b0:decide (((rd_T79 l0 x13_1).f1)< (x5_1.length:Int))=true:=decide_eq_true c16
            clear c16
            by_cases c17:((rd_T79 l0 x13_1).f0)< (l1.length:Int)
            ·rw [if_pos c17] at H
             have c17b0:decide (((rd_T79 l0 x13_1).f0)< (l1.length:Int))=true:=decide_eq_true c17
             clear c17
             replace H:=Option.bind_eq_some_iff.mp H
             obtain⟨t437,A180,H⟩:=H
             replace H:(spec_l9Relax.l0 k1 l1 (y434.set (((rd_T79 l0 x13_1).f1):Int).toNat t437) l0 (l0.length:Int) (wrap64 (x13_1+1)))=some r:=H
             have A18:=Aside0.mk A180
             clear A180
             obtain⟨y438,hy438⟩ :∃ y_:List Int,y_= (y434.set (((rd_T79 l0 x13_1).f1):Int).toNat t437):=⟨_,rfl⟩
             replace H:(spec_l9Relax.l0 k1 l1 y438 l0 (l0.length:Int) (wrap64 (x13_1+1)))=some r:=by first|(rw [hy438];with_reducible exact H)|(have H2_:=(Option.bind_some _ _).symm.trans H;rw [hy438];with_reducible exact H2_)|(have H2_:=(Option.bind_some _ _).symm.trans H;with_reducible exact H2_)|with_reducible exact H|(rw [hy438];exact H)|exact H
             have Ny438:=Aside0.mk hy438
             clear hy438
             have H':=Aside0.mk H
             clear H
             have p429: 0≤ (x13_1:Int):=of_decide_eq_true zq1
             have q429:x13_1< (l0.length:Int):=of_decide_eq_true zq1
             obtain⟨ad429,e429,hx429_0,hx429_1,hx429_2⟩:=at_T79 HR0.out x13_1 p429 q429
             cases e429
             replace hx429_0:=(HB.out.cell (World.block_lt_of_cell? w _ hx429_0)).trans hx429_0
             replace hx429_1:=(HB.out.cell (World.block_lt_of_cell? w _ hx429_1)).trans hx429_1
             replace hx429_2:=(HB.out.cell (World.block_lt_of_cell? w _ hx429_2)).trans hx429_2
             replace p429:=eq_true p429
             replace q429:=eq_true q429
             try go_wp2_with (first|((with_reducible refine gate_dst (N:=7) rfl ?_);refine box_event ?hg (N:=7) ?hd (cs:= #[.int .i64 0,.int .i64 0,.int .i64 0]) (t:=79) ?hr ?_;(case hd=>rfl);(case hg=>rfl);(case hr=>first|(go_simp;done)|(go_simp;rfl));intro gb430 hg w20 hbox hb;have n0_:=Aside0.mk (Kd.R_below (zq4 HO_5) hb);have n1_:=Aside0.mk (below_step (zb0 HB) hb);have n2_:=Aside0.mk (hbox);have n3_:=Aside0.mk ((by rw [hg];exact(below_size (zb0 HB)):w.heap.size≤gb430));have n4_:=Aside0.mk ((by rw [hg];exact(below_size (zb0 HB)):w.heap.size≤gb430));clear HO_5;clear HB;have HO_5:=n0_;have HB:=n1_;have BK430:=n2_;have GW430:=n3_;have GE430:=n4_;clear n0_ n1_ n2_ n3_ n4_;clear hb hbox hg;have hcz21_0:w20.cell? ⟨gb430,0,none⟩=some (.int .i64 0):=(blk_cell BK430.out 0).trans rfl;have hcz21_1:w20.cell? ⟨gb430,1,none⟩=some (.int .i64 0):=(blk_cell BK430.out 1).trans rfl;have hcz21_2:w20.cell? ⟨gb430,2,none⟩=some (.int .i64 0):=(blk_cell BK430.out 2).trans rfl;have hfz21_0:=blk_frozen BK430.out 0;have hfz21_1:=blk_frozen BK430.out 1;have hfz21_2:=blk_frozen BK430.out 2))
             have n0_:Aside0 (Kd.R (Kd.int .i64) 3 (((w20.setCell ⟨gb430,0,none⟩ (.int .i64 ((rd_T79 l0 x13_1).f0))).setCell ⟨gb430,1,none⟩ (.int .i64 ((rd_T79 l0 x13_1).f1))).setCell ⟨gb430,2,none⟩ (.int .i64 ((rd_T79 l0 x13_1).f2))) w.heap.size (fun _=>True) v427 x5_1):=⟨by(with_reducible repeat(first|apply Kd.R_alloc|apply Kd.R_drewN|apply Kd.R_drew));exact Kd.R_mono (Kd.R_far (p:=⟨gb430,2,none⟩) (Kd.R_far (p:=⟨gb430,1,none⟩) (Kd.R_far (p:=⟨gb430,0,none⟩) (Kd.R_types HO_5.out BK430.out (by decide)) (fun _ hk=>hk.2) (.int .i64 ((rd_T79 l0 x13_1).f0))) (fun _ hk=>hk.2) (.int .i64 ((rd_T79 l0 x13_1).f1))) (fun _ hk=>hk.2) (.int .i64 ((rd_T79 l0 x13_1).f2))) (fun _ hk=>trivial)⟩
             have n1_:Aside0 ((((w20.setCell ⟨gb430,0,none⟩ (.int .i64 ((rd_T79 l0 x13_1).f0))).setCell ⟨gb430,1,none⟩ (.int .i64 ((rd_T79 l0 x13_1).f1))).setCell ⟨gb430,2,none⟩ (.int .i64 ((rd_T79 l0 x13_1).f2))).heap[gb430]?=some (.cells #[.int .i64 ((rd_T79 l0 x13_1).f0),.int .i64 ((rd_T79 l0 x13_1).f1),.int .i64 ((rd_T79 l0 x13_1).f2)] 79 (0,0))):=⟨by(with_reducible repeat(first|refine blk_drewN ?_ _|refine blk_drew ?_ |refine blk_alloc ?_ _));refine blk_put (cs:= #[.int .i64 ((rd_T79 l0 x13_1).f0),.int .i64 ((rd_T79 l0 x13_1).f1),.int .i64 0]) ?_ 2 _ rfl;(with_reducible repeat(first|refine blk_drewN ?_ _|refine blk_drew ?_ |refine blk_alloc ?_ _));refine blk_put (cs:= #[.int .i64 ((rd_T79 l0 x13_1).f0),.int .i64 0,.int .i64 0]) ?_ 1 _ rfl;(with_reducible repeat(first|refine blk_drewN ?_ _|refine blk_drew ?_ |refine blk_alloc ?_ _));refine blk_put (cs:= #[.int .i64 0,.int .i64 0,.int .i64 0]) ?_ 0 _ rfl;(with_reducible repeat(first|refine blk_drewN ?_ _|refine blk_drew ?_ |refine blk_alloc ?_ _));exact BK430.out⟩
             have n2_:Aside0 (Below w.heap.size w (((w20.setCell ⟨gb430,0,none⟩ (.int .i64 ((rd_T79 l0 x13_1).f0))).setCell ⟨gb430,1,none⟩ (.int .i64 ((rd_T79 l0 x13_1).f1))).setCell ⟨gb430,2,none⟩ (.int .i64 ((rd_T79 l0 x13_1).f2)))):=⟨by repeat(first|(with_reducible first|exact HB.out|apply below_alloc|apply pw_below_drewN|apply below_drew1|refine below_set ?_ GE430.out)|exact HB.out)⟩
             (try clear HO_5)
             (try clear BK430)
             (try clear HB)
             (try simp only [show ∀ (W_:World) (n_:Nat) (a_:Addr) (v_:Value),(World.drewN W_ n_).setCell a_ v_= (World.setCell W_ a_ v_).drewN n_ from fun _ _ _ _=>rfl])
             generalize (((w20.setCell ⟨gb430,0,none⟩ (.int .i64 ((rd_T79 l0 x13_1).f0))).setCell ⟨gb430,1,none⟩ (.int .i64 ((rd_T79 l0 x13_1).f1))).setCell ⟨gb430,2,none⟩ (.int .i64 ((rd_T79 l0 x13_1).f2)))=w22 at n0_ n1_ n2_ ⊢
             have HO_5:=n0_
             have BK430:=n1_
             have HB:=n2_
             clear n0_ n1_ n2_
             have n0_:=Aside0.mk (Kd.R_drew HO_5.out)
             have n1_:=Aside0.mk (blk_drew BK430.out)
             have n2_:=Aside0.mk (below_drew1 HB.out)
             clear HO_5
             clear BK430
             clear HB
             have HO_5:=n0_
             have BK430:=n1_
             have HB:=n2_
             clear n0_ n1_ n2_
             obtain⟨Ao24,co24,eo24⟩:=Kd.R_slice HO_5.out
             (first|subst eo24|(injection eo24 with f1_ f2_ f3_;have f4_:=f1_.symm;have f5_:=f3_.symm;clear f1_ f2_ f3_;subst f4_;subst f5_))
             have p431: 0≤ (((rd_T79 l0 x13_1).f0):Int):=of_decide_eq_true zq1
             have q431:((rd_T79 l0 x13_1).f0)< (x5_1.length:Int):=of_decide_eq_true zq1
             obtain⟨ad431,e431,hx431_0⟩:=Kd.at_int (Kd.R_reads' HO_5.out).2.2 ((rd_T79 l0 x13_1).f0) p431 q431
             cases e431
             replace p431:=eq_true p431
             replace q431:=eq_true q431
             have p432: 0≤ (((rd_T79 l0 x13_1).f1):Int):=of_decide_eq_true zq1
             have q432:((rd_T79 l0 x13_1).f1)< (l1.length:Int):=of_decide_eq_true zq1
             obtain⟨ad432,e432,hx432_0⟩:=Kd.at_int HR1.out ((rd_T79 l0 x13_1).f1) p432 q432
             have hw432_0:=hx432_0
             cases e432
             replace hx432_0:=(HB.out.cell (World.block_lt_of_cell? w _ hx432_0)).trans hx432_0
             replace p432:=eq_true p432
             replace q432:=eq_true q432
             refine start_ (n:=19) (S:=fun w'=>w'.cell? ⟨gb430,0,none⟩=some (.int .i64 ((rd_T79 l0 x13_1).f0))∧w'.cell? ⟨gb430,1,none⟩=some (.int .i64 ((rd_T79 l0 x13_1).f1))∧w'.cell? ⟨gb430,2,none⟩=some (.int .i64 ((rd_T79 l0 x13_1).f2))∧w'.cell? (ad431.add (((rd_T79 l0 x13_1).f0)).toNat)=some (.int .i64 (rd x5_1 ((rd_T79 l0 x13_1).f0)))∧w'.cell? (ad432.add (((rd_T79 l0 x13_1).f1)).toNat)=some (.int .i64 (rd l1 ((rd_T79 l0 x13_1).f1)))) (ds:= [18]) #[f',f',f',f',f',f',f',f',f',f',f',f',f',f',f',f',f',f',f'] (by kernel_rfl) rfl rfl ⟨(blk_cell BK430.out 0).trans rfl,(blk_cell BK430.out 1).trans rfl,(blk_cell BK430.out 2).trans rfl,hx431_0,((HB.out.cell (World.block_lt_of_cell? w _ hw432_0)).trans hw432_0)⟩ (fun hHeld=>?_);refine with_tabW spec_l9Relax.tab5 spec_l9Relax.bits5 (fun HT_ HW_=>?_)
             generalize w22.drew=w23 at HO_5 BK430 HB hx431_0 hx432_0 hHeld ⊢
             refine pure_ (i:=0) (N:=some 17) (v:=?_) (a':=?_) #[t',f',f',f',f',f',f',f',f',f',f',f',f',f',f',f',f',f',f'] rfl rfl (any_of HT_.out (by kernel_rfl)) (fun _ _ _ h=>h) (Or.inl ⟨by rfl,?_⟩) ?_ ?_
             rotate_left
             ·intro w'
              go_simp
              with_reducible rfl
             rotate_left
             ·simp only [Act.put,List.setIfInBounds_toArray,List.set_cons_zero,List.set_cons_succ,i64_w,i32_w]
              rfl
             refine pure_ (i:=1) (N:=some 18) (v:=?_) (a':=?_) #[t',t',f',f',f',f',f',f',f',f',f',f',f',f',f',f',f',f',f'] rfl rfl (any_of HT_.out (by kernel_rfl)) (fun _ _ _ h=>h) (Or.inl ⟨by rfl,?_⟩) ?_ ?_
             rotate_left
             ·intro w'
              go_simp
              with_reducible rfl
             rotate_left
             ·simp only [Act.put,List.setIfInBounds_toArray,List.set_cons_zero,List.set_cons_succ,i64_w,i32_w]
              rfl
             refine pure_ (i:=3) (N:=some 20) (v:=?_) (a':=?_) #[t',t',f',t',f',f',f',f',f',f',f',f',f',f',f',f',f',f',f'] rfl rfl (any_of HT_.out (by kernel_rfl)) (fun _ _ _ h=>h) (Or.inl ⟨by rfl,?_⟩) ?_ ?_
             rotate_left
             ·intro w'
              go_simp
              with_reducible rfl
             rotate_left
             ·simp only [Act.put,List.setIfInBounds_toArray,List.set_cons_zero,List.set_cons_succ,i64_w,i32_w]
              rfl
             refine pure_ (i:=4) (N:=some 21) (v:=?_) (a':=?_) #[t',t',f',t',t',f',f',f',f',f',f',f',f',f',f',f',f',f',f'] rfl rfl (any_of HT_.out (by kernel_rfl)) (fun _ _ _ h=>h) (Or.inl ⟨by rfl,?_⟩) ?_ ?_
             rotate_left
             ·intro w'
              go_simp
              with_reducible rfl
             rotate_left
             ·simp only [Act.put,List.setIfInBounds_toArray,List.set_cons_zero,List.set_cons_succ,i64_w,i32_w]
              rfl
             refine pure_ (i:=8) (N:=some 25) (v:=?_) (a':=?_) #[t',t',f',t',t',f',f',f',t',f',f',f',f',f',f',f',f',f',f'] rfl rfl (any_of HT_.out (by kernel_rfl)) (fun _ _ _ h=>h) (Or.inl ⟨by rfl,?_⟩) ?_ ?_
             rotate_left
             ·intro w'
              go_simp
              with_reducible rfl
             rotate_left
             ·simp only [Act.put,List.setIfInBounds_toArray,List.set_cons_zero,List.set_cons_succ,i64_w,i32_w]
              rfl
             refine pure_ (i:=9) (N:=some 26) (v:=?_) (a':=?_) #[t',t',f',t',t',f',f',f',t',t',f',f',f',f',f',f',f',f',f'] rfl rfl (any_of HT_.out (by kernel_rfl)) (fun _ _ _ h=>h) (Or.inl ⟨by rfl,?_⟩) ?_ ?_
             rotate_left
             ·intro w'
              go_simp
              with_reducible rfl
             rotate_left
             ·simp only [Act.put,List.setIfInBounds_toArray,List.set_cons_zero,List.set_cons_succ,i64_w,i32_w]
              rfl
             refine pure_ (i:=13) (N:=some 30) (v:=?_) (a':=?_) #[t',t',f',t',t',f',f',f',t',t',f',f',f',t',f',f',f',f',f'] rfl rfl (any_of HT_.out (by kernel_rfl)) (fun _ _ _ h=>h) (Or.inl ⟨by rfl,?_⟩) ?_ ?_
             rotate_left
             ·intro w'
              go_simp
              with_reducible rfl
             rotate_left
             ·simp only [Act.put,List.setIfInBounds_toArray,List.set_cons_zero,List.set_cons_succ,i64_w,i32_w]
              rfl
             refine take_ (i:=2) (N:=some 19) (v:=?_) (a':=?_) #[t',t',t',t',t',f',f',f',t',t',f',f',f',t',f',f',f',f',f'] rfl rfl (take_ofW HT_.out HW_.out (by kernel_rfl)) (fun _ _ _ h=>h) (Or.inl ⟨by rfl,?_⟩) hHeld ?_ ?_
             rotate_left
             ·rintro w' ⟨s0,s1,s2,s3,s4⟩
              go_simp
              with_reducible rfl
             rotate_left
             ·simp only [Act.put,List.setIfInBounds_toArray,List.set_cons_zero,List.set_cons_succ,i64_w,i32_w]
              rfl
             refine take_ (i:=5) (N:=some 22) (v:=?_) (a':=?_) #[t',t',t',t',t',t',f',f',t',t',f',f',f',t',f',f',f',f',f'] rfl rfl (take_ofW HT_.out HW_.out (by kernel_rfl)) (fun _ _ _ h=>h) (Or.inl ⟨by rfl,?_⟩) hHeld ?_ ?_
             rotate_left
             ·rintro w' ⟨s0,s1,s2,s3,s4⟩
              go_simp
              with_reducible rfl
             rotate_left
             ·simp only [Act.put,List.setIfInBounds_toArray,List.set_cons_zero,List.set_cons_succ,i64_w,i32_w]
              rfl
             refine pure_ (i:=6) (N:=some 23) (v:=?_) (a':=?_) #[t',t',t',t',t',t',t',f',t',t',f',f',f',t',f',f',f',f',f'] rfl rfl (any_of HT_.out (by kernel_rfl)) (fun _ _ _ h=>h) (Or.inl ⟨by rfl,?_⟩) ?_ ?_
             rotate_left
             ·intro w'
              go_simp
              with_reducible rfl
             rotate_left
             ·simp only [Act.put,List.setIfInBounds_toArray,List.set_cons_zero,List.set_cons_succ,i64_w,i32_w]
              rfl
             refine take_ (i:=7) (N:=some 24) (v:=?_) (a':=?_) #[t',t',t',t',t',t',t',t',t',t',f',f',f',t',f',f',f',f',f'] rfl rfl (take_ofW HT_.out HW_.out (by kernel_rfl)) (fun _ _ _ h=>h) (Or.inl ⟨by rfl,?_⟩) hHeld ?_ ?_
             rotate_left
             ·rintro w' ⟨s0,s1,s2,s3,s4⟩
              go_simp
              with_reducible rfl
             rotate_left
             ·simp only [Act.put,List.setIfInBounds_toArray,List.set_cons_zero,List.set_cons_succ,i64_w,i32_w]
              rfl
             refine take_ (i:=10) (N:=some 27) (v:=?_) (a':=?_) #[t',t',t',t',t',t',t',t',t',t',t',f',f',t',f',f',f',f',f'] rfl rfl (take_ofW HT_.out HW_.out (by kernel_rfl)) (fun _ _ _ h=>h) (Or.inl ⟨by rfl,?_⟩) hHeld ?_ ?_
             rotate_left
             ·rintro w' ⟨s0,s1,s2,s3,s4⟩
              go_simp
              with_reducible rfl
             rotate_left
             ·simp only [Act.put,List.setIfInBounds_toArray,List.set_cons_zero,List.set_cons_succ,i64_w,i32_w]
              rfl
             refine pure_ (i:=11) (N:=some 28) (v:=?_) (a':=?_) #[t',t',t',t',t',t',t',t',t',t',t',t',f',t',f',f',f',f',f'] rfl rfl (any_of HT_.out (by kernel_rfl)) (fun _ _ _ h=>h) (Or.inl ⟨by rfl,?_⟩) ?_ ?_
             rotate_left
             ·intro w'
              go_simp
              with_reducible rfl
             rotate_left
             ·simp only [Act.put,List.setIfInBounds_toArray,List.set_cons_zero,List.set_cons_succ,i64_w,i32_w]
              rfl
             refine take_ (i:=12) (N:=some 29) (v:=?_) (a':=?_) #[t',t',t',t',t',t',t',t',t',t',t',t',t',t',f',f',f',f',f'] rfl rfl (take_ofW HT_.out HW_.out (by kernel_rfl)) (fun _ _ _ h=>h) (Or.inl ⟨by rfl,?_⟩) hHeld ?_ ?_
             rotate_left
             ·rintro w' ⟨s0,s1,s2,s3,s4⟩
              go_simp
              with_reducible rfl
             rotate_left
             ·simp only [Act.put,List.setIfInBounds_toArray,List.set_cons_zero,List.set_cons_succ,i64_w,i32_w]
              rfl
             refine take_ (i:=14) (N:=some 31) (v:=?_) (a':=?_) #[t',t',t',t',t',t',t',t',t',t',t',t',t',t',t',f',f',f',f'] rfl rfl (take_ofW HT_.out HW_.out (by kernel_rfl)) (fun _ _ _ h=>h) (Or.inl ⟨by rfl,?_⟩) hHeld ?_ ?_
             rotate_left
             ·rintro w' ⟨s0,s1,s2,s3,s4⟩
              go_simp
              with_reducible rfl
             rotate_left
             ·simp only [Act.put,List.setIfInBounds_toArray,List.set_cons_zero,List.set_cons_succ,i64_w,i32_w]
              rfl
             refine pure_ (i:=15) (N:=some 32) (v:=?_) (a':=?_) #[t',t',t',t',t',t',t',t',t',t',t',t',t',t',t',t',f',f',f'] rfl rfl (any_of HT_.out (by kernel_rfl)) (fun _ _ _ h=>h) (Or.inl ⟨by rfl,?_⟩) ?_ ?_
             rotate_left
             ·intro w'
              go_simp
              with_reducible rfl
             rotate_left
             ·simp only [Act.put,List.setIfInBounds_toArray,List.set_cons_zero,List.set_cons_succ,i64_w,i32_w]
              rfl
             refine one_ (i:=16) (N:=some 33) #[t',t',t',t',t',t',t',t',t',t',t',t',t',t',t',t',t',f',f'] rfl rfl (one_of HT_.out (by kernel_rfl)) (by decide) (fun K hK=>?_)
             refine goes_ Try.func99 (by kernel_rfl) rfl #[.int .i64 (rd x5_1 ((rd_T79 l0 x13_1).f0)),.int .i64 (wrap64 ((rd l1 ((rd_T79 l0 x13_1).f1))+ ((rd_T79 l0 x13_1).f2)))] (by rfl) rfl rfl zq2 ?_
             with_reducible refine(spec_l1Least.calls (rd x5_1 ((rd_T79 l0 x13_1).f0)) (wrap64 ((rd l1 ((rd_T79 l0 x13_1).f1))+ ((rd_T79 l0 x13_1).f2))) t433 _ A14.out).mono ?_
             rintro e w' ⟨rfl,⟨nd,rfl⟩⟩
             refine⟨_,rfl,?_⟩
             have p15: 0≤ (((rd_T79 l0 x13_1).f0):Int):=of_decide_eq_true zq1
             have q15:(((rd_T79 l0 x13_1).f0):Int)< ((x5_1.length:Int):Int):=of_decide_eq_true zq1
             obtain⟨go15,co15,eo15,gb15,gl15,cl15,HG15⟩:=Kd.R_form HO_5.out (by omega)
             (first|cases eo15|(injection eo15 with ea_ en_ ec_;(first|subst ea_|(injection ea_ with ea_;subst ea_));subst ec_;clear en_))
             have GB15:=Aside0.mk gb15
             have GG15:=Aside0.mk HG15
             clear gb15 gl15 HG15
             (first|simp only [add_plain] at hx431_0|skip)
             obtain⟨hx15_0,hf15_0⟩:=Kd.R_celln 0 HO_5.out (((rd_T79 l0 x13_1).f0):Int) p15 q15
             replace p15:=eq_true p15
             replace q15:=eq_true q15
             have HP25:=Kd.R_putn HO_5.out (((rd_T79 l0 x13_1).f0):Int) t433
             rw [← Ny434.out] at HP25
             have HQ25:=Aside0.mk HP25
             clear HP25
             refine hK.out _ _ ⟨(blk_cell BK430.out 0).trans rfl,(blk_cell BK430.out 1).trans rfl,(blk_cell BK430.out 2).trans rfl,hHeld.2.2.2.1,((HB.out.cell (World.block_lt_of_cell? w _ hw432_0)).trans hw432_0)⟩ (fun hHeld=>?_)
             clear hK K
             refine norm_ (a':=?_) ?_ ?_
             rotate_left
             ·show Act.put _ (some 33) _=_
              simp only [Act.put,List.setIfInBounds_toArray,List.set_cons_zero,List.set_cons_succ,i64_w,i32_w]
              rfl
             refine pure_ (i:=17) (N:=some 34) (v:=?_) (a':=?_) #[t',t',t',t',t',t',t',t',t',t',t',t',t',t',t',t',t',t',f'] rfl rfl (any_of HT_.out (by kernel_rfl)) (fun _ _ _ h=>h) (Or.inl ⟨by rfl,?_⟩) ?_ ?_
             rotate_left
             ·intro w'
              go_simp
              with_reducible rfl
             rotate_left
             ·simp only [Act.put,List.setIfInBounds_toArray,List.set_cons_zero,List.set_cons_succ,i64_w,i32_w]
              rfl
             refine last_ (i:=18) (N:=none) #[t',t',t',t',t',t',t',t',t',t',t',t',t',t',t',t',t',t',t'] rfl rfl (one_of HT_.out (by kernel_rfl)) (by decide) (fun K hK=>?_)
             refine skip_ (w1:=?_) (by rfl) rfl ?_ ?_
             rotate_left
             ·go_simp
              rfl
             refine hK.out _ _ ?_
             clear hK K
             refine done_ (done_of HT_.out (by kernel_rfl)) ?_
             try go_wp2
             have n0_:Aside0 (Kd.R (Kd.int .i64) 3 (w23.setCell ⟨go15,(((rd_T79 l0 x13_1).f0):Int).toNat,none⟩ (.int .i64 t433)) w.heap.size (fun _=>True) (.slice (some ⟨go15,0,none⟩) x5_1.length co24) y434):=⟨by(with_reducible repeat(first|apply Kd.R_alloc|apply Kd.R_drewN|apply Kd.R_drew));exact HQ25.out⟩
             have n1_:Aside0 ((w23.setCell ⟨go15,(((rd_T79 l0 x13_1).f0):Int).toNat,none⟩ (.int .i64 t433)).heap[gb430]?=some (.cells #[.int .i64 ((rd_T79 l0 x13_1).f0),.int .i64 ((rd_T79 l0 x13_1).f1),.int .i64 ((rd_T79 l0 x13_1).f2)] 79 (0,0))):=⟨by(with_reducible repeat(first|refine blk_drewN ?_ _|refine blk_drew ?_ |refine blk_alloc ?_ _));refine blk_far ?_ (by have h_:=Kd.R_ne HO_5.out BK430.out (by decide);intro e_;exact h_ (by rw [e_];rfl)) _;(with_reducible repeat(first|refine blk_drewN ?_ _|refine blk_drew ?_ |refine blk_alloc ?_ _));exact BK430.out⟩
             have n2_:Aside0 (Below w.heap.size w (w23.setCell ⟨go15,(((rd_T79 l0 x13_1).f0):Int).toNat,none⟩ (.int .i64 t433))):=⟨by repeat(first|(with_reducible first|exact HB.out|apply below_alloc|apply pw_below_drewN|apply below_drew1|refine below_set ?_ GB15.out|refine below_set ?_ GE430.out)|exact HB.out)⟩
             (try clear HO_5)
             (try clear BK430)
             (try clear HB)
             (try simp only [show ∀ (W_:World) (n_:Nat) (a_:Addr) (v_:Value),(World.drewN W_ n_).setCell a_ v_= (World.setCell W_ a_ v_).drewN n_ from fun _ _ _ _=>rfl])
             generalize (w23.setCell ⟨go15,(((rd_T79 l0 x13_1).f0):Int).toNat,none⟩ (.int .i64 t433))=w26 at n0_ n1_ n2_ ⊢
             have HO_5:=n0_
             have BK430:=n1_
             have HB:=n2_
             clear n0_ n1_ n2_
             (try(rw [drewN_self w26];generalize hq_:World.drewN w26 _=w26;have n0_:Aside0 (Kd.R (Kd.int .i64) 3 w26 w.heap.size (fun _=>True) (.slice (some ⟨go15,0,none⟩) x5_1.length co24) y434):=⟨by rw [← hq_];exact(zq4 HO_5)⟩;have n1_:Aside0 (w26.heap[gb430]?=some (.cells #[.int .i64 ((rd_T79 l0 x13_1).f0),.int .i64 ((rd_T79 l0 x13_1).f1),.int .i64 ((rd_T79 l0 x13_1).f2)] 79 (0,0))):=⟨by rw [← hq_];exact(zq3 BK430)⟩;have n2_:Aside0 (Below w.heap.size w w26):=⟨by rw [← hq_];exact(zb1 HB GE430)⟩;clear HO_5 BK430 HB hq_;have HO_5:=n0_;have BK430:=n1_;have HB:=n2_;clear n0_ n1_ n2_))
             have n0_:=Aside0.mk (Kd.R_drew HO_5.out)
             have n1_:=Aside0.mk (blk_drew BK430.out)
             have n2_:=Aside0.mk (below_drew1 HB.out)
             clear HO_5
             clear BK430
             clear HB
             have HO_5:=n0_
             have BK430:=n1_
             have HB:=n2_
             clear n0_ n1_ n2_
             have p435: 0≤ (((rd_T79 l0 x13_1).f1):Int):=of_decide_eq_true zq1
             have q435:((rd_T79 l0 x13_1).f1)< (y434.length:Int):=(by have h_:(((rd_T79 l0 x13_1).f1):Int)< ((x5_1.length:Int):Int):=of_decide_eq_true zq1;first|(have e_:=(Kd.R_reads' HO_5.out).1;omega)|simpa only [Ny434.out,List.length_set] using h_)
             have ql435:((((rd_T79 l0 x13_1).f1):Int)< ((x5_1.length:Int):Int))=True:=eq_true (of_decide_eq_true zq1)
             obtain⟨ad435,e435,hx435_0⟩:=Kd.at_int (Kd.R_reads' HO_5.out).2.2 ((rd_T79 l0 x13_1).f1) p435 q435
             obtain rfl:(⟨go15,0,none⟩ :Addr)=ad435:=(by injection e435)
             (first|simp only [add_plain] at hx435_0|simp only [add_at] at hx435_0|simp only [Addr.add,Nat.zero_add] at hx435_0|skip)
             replace p435:=eq_true p435
             replace q435:=eq_true q435
             have p436: 0≤ (((rd_T79 l0 x13_1).f0):Int):=of_decide_eq_true zq1
             have q436:((rd_T79 l0 x13_1).f0)< (l1.length:Int):=of_decide_eq_true zq1
             obtain⟨ad436,e436,hx436_0⟩:=Kd.at_int HR1.out ((rd_T79 l0 x13_1).f0) p436 q436
             have hw436_0:=hx436_0
             obtain rfl:ad432=ad436:=(by injection e436)
             replace hx436_0:=(HB.out.cell (World.block_lt_of_cell? w _ hx436_0)).trans hx436_0
             replace p436:=eq_true p436
             replace q436:=eq_true q436
             refine start_ (n:=19) (S:=fun w'=>w'.cell? ⟨gb430,0,none⟩=some (.int .i64 ((rd_T79 l0 x13_1).f0))∧w'.cell? ⟨gb430,1,none⟩=some (.int .i64 ((rd_T79 l0 x13_1).f1))∧w'.cell? ⟨gb430,2,none⟩=some (.int .i64 ((rd_T79 l0 x13_1).f2))∧w'.cell? ⟨go15,(((rd_T79 l0 x13_1).f1)).toNat,none⟩=some (.int .i64 (rd y434 ((rd_T79 l0 x13_1).f1)))∧w'.cell? (ad432.add (((rd_T79 l0 x13_1).f0)).toNat)=some (.int .i64 (rd l1 ((rd_T79 l0 x13_1).f0)))) (ds:= [18]) #[f',f',f',f',f',f',f',f',f',f',f',f',f',f',f',f',f',f',f'] (by kernel_rfl) rfl rfl ⟨(blk_cell BK430.out 0).trans rfl,(blk_cell BK430.out 1).trans rfl,(blk_cell BK430.out 2).trans rfl,hx435_0,((HB.out.cell (World.block_lt_of_cell? w _ hw436_0)).trans hw436_0)⟩ (fun hHeld=>?_);refine with_tabW spec_l9Relax.tab6 spec_l9Relax.bits6 (fun HT_ HW_=>?_)
             generalize w26.drew=w27 at HO_5 BK430 HB HQ25 hx435_0 hx436_0 hHeld ⊢
             refine pure_ (i:=0) (N:=some 35) (v:=?_) (a':=?_) #[t',f',f',f',f',f',f',f',f',f',f',f',f',f',f',f',f',f',f'] rfl rfl (any_of HT_.out (by kernel_rfl)) (fun _ _ _ h=>h) (Or.inl ⟨by rfl,?_⟩) ?_ ?_
             rotate_left
             ·intro w'
              go_simp
              with_reducible rfl
             rotate_left
             ·simp only [Act.put,List.setIfInBounds_toArray,List.set_cons_zero,List.set_cons_succ,i64_w,i32_w]
              rfl
             refine pure_ (i:=1) (N:=some 36) (v:=?_) (a':=?_) #[t',t',f',f',f',f',f',f',f',f',f',f',f',f',f',f',f',f',f'] rfl rfl (any_of HT_.out (by kernel_rfl)) (fun _ _ _ h=>h) (Or.inl ⟨by rfl,?_⟩) ?_ ?_
             rotate_left
             ·intro w'
              go_simp
              with_reducible rfl
             rotate_left
             ·simp only [Act.put,List.setIfInBounds_toArray,List.set_cons_zero,List.set_cons_succ,i64_w,i32_w]
              rfl
             refine pure_ (i:=3) (N:=some 38) (v:=?_) (a':=?_) #[t',t',f',t',f',f',f',f',f',f',f',f',f',f',f',f',f',f',f'] rfl rfl (any_of HT_.out (by kernel_rfl)) (fun _ _ _ h=>h) (Or.inl ⟨by rfl,?_⟩) ?_ ?_
             rotate_left
             ·intro w'
              go_simp
              with_reducible rfl
             rotate_left
             ·simp only [Act.put,List.setIfInBounds_toArray,List.set_cons_zero,List.set_cons_succ,i64_w,i32_w]
              rfl
             refine pure_ (i:=4) (N:=some 39) (v:=?_) (a':=?_) #[t',t',f',t',t',f',f',f',f',f',f',f',f',f',f',f',f',f',f'] rfl rfl (any_of HT_.out (by kernel_rfl)) (fun _ _ _ h=>h) (Or.inl ⟨by rfl,?_⟩) ?_ ?_
             rotate_left
             ·intro w'
              go_simp
              with_reducible rfl
             rotate_left
             ·simp only [Act.put,List.setIfInBounds_toArray,List.set_cons_zero,List.set_cons_succ,i64_w,i32_w]
              rfl
             refine pure_ (i:=8) (N:=some 43) (v:=?_) (a':=?_) #[t',t',f',t',t',f',f',f',t',f',f',f',f',f',f',f',f',f',f'] rfl rfl (any_of HT_.out (by kernel_rfl)) (fun _ _ _ h=>h) (Or.inl ⟨by rfl,?_⟩) ?_ ?_
             rotate_left
             ·intro w'
              go_simp
              with_reducible rfl
             rotate_left
             ·simp only [Act.put,List.setIfInBounds_toArray,List.set_cons_zero,List.set_cons_succ,i64_w,i32_w]
              rfl
             refine pure_ (i:=9) (N:=some 44) (v:=?_) (a':=?_) #[t',t',f',t',t',f',f',f',t',t',f',f',f',f',f',f',f',f',f'] rfl rfl (any_of HT_.out (by kernel_rfl)) (fun _ _ _ h=>h) (Or.inl ⟨by rfl,?_⟩) ?_ ?_
             rotate_left
             ·intro w'
              go_simp
              with_reducible rfl
             rotate_left
             ·simp only [Act.put,List.setIfInBounds_toArray,List.set_cons_zero,List.set_cons_succ,i64_w,i32_w]
              rfl
             refine pure_ (i:=13) (N:=some 48) (v:=?_) (a':=?_) #[t',t',f',t',t',f',f',f',t',t',f',f',f',t',f',f',f',f',f'] rfl rfl (any_of HT_.out (by kernel_rfl)) (fun _ _ _ h=>h) (Or.inl ⟨by rfl,?_⟩) ?_ ?_
             rotate_left
             ·intro w'
              go_simp
              with_reducible rfl
             rotate_left
             ·simp only [Act.put,List.setIfInBounds_toArray,List.set_cons_zero,List.set_cons_succ,i64_w,i32_w]
              rfl
             refine take_ (i:=2) (N:=some 37) (v:=?_) (a':=?_) #[t',t',t',t',t',f',f',f',t',t',f',f',f',t',f',f',f',f',f'] rfl rfl (take_ofW HT_.out HW_.out (by kernel_rfl)) (fun _ _ _ h=>h) (Or.inl ⟨by rfl,?_⟩) hHeld ?_ ?_
             rotate_left
             ·rintro w' ⟨s0,s1,s2,s3,s4⟩
              go_simp
              with_reducible rfl
             rotate_left
             ·simp only [Act.put,List.setIfInBounds_toArray,List.set_cons_zero,List.set_cons_succ,i64_w,i32_w]
              rfl
             refine take_ (i:=5) (N:=some 40) (v:=?_) (a':=?_) #[t',t',t',t',t',t',f',f',t',t',f',f',f',t',f',f',f',f',f'] rfl rfl (take_ofW HT_.out HW_.out (by kernel_rfl)) (fun _ _ _ h=>h) (Or.inl ⟨by rfl,?_⟩) hHeld ?_ ?_
             rotate_left
             ·rintro w' ⟨s0,s1,s2,s3,s4⟩
              go_simp
              with_reducible rfl
             rotate_left
             ·simp only [Act.put,List.setIfInBounds_toArray,List.set_cons_zero,List.set_cons_succ,i64_w,i32_w]
              rfl
             refine pure_ (i:=6) (N:=some 41) (v:=?_) (a':=?_) #[t',t',t',t',t',t',t',f',t',t',f',f',f',t',f',f',f',f',f'] rfl rfl (any_of HT_.out (by kernel_rfl)) (fun _ _ _ h=>h) (Or.inl ⟨by rfl,?_⟩) ?_ ?_
             rotate_left
             ·intro w'
              go_simp
              with_reducible rfl
             rotate_left
             ·simp only [Act.put,List.setIfInBounds_toArray,List.set_cons_zero,List.set_cons_succ,i64_w,i32_w]
              rfl
             refine take_ (i:=7) (N:=some 42) (v:=?_) (a':=?_) #[t',t',t',t',t',t',t',t',t',t',f',f',f',t',f',f',f',f',f'] rfl rfl (take_ofW HT_.out HW_.out (by kernel_rfl)) (fun _ _ _ h=>h) (Or.inl ⟨by rfl,?_⟩) hHeld ?_ ?_
             rotate_left
             ·rintro w' ⟨s0,s1,s2,s3,s4⟩
              go_simp
              with_reducible rfl
             rotate_left
             ·simp only [Act.put,List.setIfInBounds_toArray,List.set_cons_zero,List.set_cons_succ,i64_w,i32_w]
              rfl
             refine take_ (i:=10) (N:=some 45) (v:=?_) (a':=?_) #[t',t',t',t',t',t',t',t',t',t',t',f',f',t',f',f',f',f',f'] rfl rfl (take_ofW HT_.out HW_.out (by kernel_rfl)) (fun _ _ _ h=>h) (Or.inl ⟨by rfl,?_⟩) hHeld ?_ ?_
             rotate_left
             ·rintro w' ⟨s0,s1,s2,s3,s4⟩
              go_simp
              with_reducible rfl
             rotate_left
             ·simp only [Act.put,List.setIfInBounds_toArray,List.set_cons_zero,List.set_cons_succ,i64_w,i32_w]
              rfl
             refine pure_ (i:=11) (N:=some 46) (v:=?_) (a':=?_) #[t',t',t',t',t',t',t',t',t',t',t',t',f',t',f',f',f',f',f'] rfl rfl (any_of HT_.out (by kernel_rfl)) (fun _ _ _ h=>h) (Or.inl ⟨by rfl,?_⟩) ?_ ?_
             rotate_left
             ·intro w'
              go_simp
              with_reducible rfl
             rotate_left
             ·simp only [Act.put,List.setIfInBounds_toArray,List.set_cons_zero,List.set_cons_succ,i64_w,i32_w]
              rfl
             refine take_ (i:=12) (N:=some 47) (v:=?_) (a':=?_) #[t',t',t',t',t',t',t',t',t',t',t',t',t',t',f',f',f',f',f'] rfl rfl (take_ofW HT_.out HW_.out (by kernel_rfl)) (fun _ _ _ h=>h) (Or.inl ⟨by rfl,?_⟩) hHeld ?_ ?_
             rotate_left
             ·rintro w' ⟨s0,s1,s2,s3,s4⟩
              go_simp
              with_reducible rfl
             rotate_left
             ·simp only [Act.put,List.setIfInBounds_toArray,List.set_cons_zero,List.set_cons_succ,i64_w,i32_w]
              rfl
             refine take_ (i:=14) (N:=some 49) (v:=?_) (a':=?_) #[t',t',t',t',t',t',t',t',t',t',t',t',t',t',t',f',f',f',f'] rfl rfl (take_ofW HT_.out HW_.out (by kernel_rfl)) (fun _ _ _ h=>h) (Or.inl ⟨by rfl,?_⟩) hHeld ?_ ?_
             rotate_left
             ·rintro w' ⟨s0,s1,s2,s3,s4⟩
              go_simp
              with_reducible rfl
             rotate_left
             ·simp only [Act.put,List.setIfInBounds_toArray,List.set_cons_zero,List.set_cons_succ,i64_w,i32_w]
              rfl
             refine pure_ (i:=15) (N:=some 50) (v:=?_) (a':=?_) #[t',t',t',t',t',t',t',t',t',t',t',t',t',t',t',t',f',f',f'] rfl rfl (any_of HT_.out (by kernel_rfl)) (fun _ _ _ h=>h) (Or.inl ⟨by rfl,?_⟩) ?_ ?_
             rotate_left
             ·intro w'
              go_simp
              with_reducible rfl
             rotate_left
             ·simp only [Act.put,List.setIfInBounds_toArray,List.set_cons_zero,List.set_cons_succ,i64_w,i32_w]
              rfl
             refine one_ (i:=16) (N:=some 51) #[t',t',t',t',t',t',t',t',t',t',t',t',t',t',t',t',t',f',f'] rfl rfl (one_of HT_.out (by kernel_rfl)) (by decide) (fun K hK=>?_)
             refine goes_ Try.func99 (by kernel_rfl) rfl #[.int .i64 (rd y434 ((rd_T79 l0 x13_1).f1)),.int .i64 (wrap64 ((rd l1 ((rd_T79 l0 x13_1).f0))+ ((rd_T79 l0 x13_1).f2)))] (by rfl) rfl rfl zq2 ?_
             with_reducible refine(spec_l1Least.calls (rd y434 ((rd_T79 l0 x13_1).f1)) (wrap64 ((rd l1 ((rd_T79 l0 x13_1).f0))+ ((rd_T79 l0 x13_1).f2))) t437 _ A18.out).mono ?_
             rintro e w' ⟨rfl,⟨nd,rfl⟩⟩
             refine⟨_,rfl,?_⟩
             have p19: 0≤ (((rd_T79 l0 x13_1).f1):Int):=of_decide_eq_true zq1
             have q19:(((rd_T79 l0 x13_1).f1):Int)< ((x5_1.length:Int):Int):=of_decide_eq_true zq1
             obtain⟨hx19_0,hf19_0⟩:=Kd.R_celln 0 HO_5.out (((rd_T79 l0 x13_1).f1):Int) p19 q19
             replace p19:=eq_true p19
             replace q19:=eq_true q19
             have HP28:=Kd.R_putn HO_5.out (((rd_T79 l0 x13_1).f1):Int) t437
             rw [← Ny438.out] at HP28
             have HQ28:=Aside0.mk HP28
             clear HP28
             refine hK.out _ _ ⟨(blk_cell BK430.out 0).trans rfl,(blk_cell BK430.out 1).trans rfl,(blk_cell BK430.out 2).trans rfl,hHeld.2.2.2.1,((HB.out.cell (World.block_lt_of_cell? w _ hw436_0)).trans hw436_0)⟩ (fun hHeld=>?_)
             clear hK K
             refine norm_ (a':=?_) ?_ ?_
             rotate_left
             ·show Act.put _ (some 51) _=_
              simp only [Act.put,List.setIfInBounds_toArray,List.set_cons_zero,List.set_cons_succ,i64_w,i32_w]
              rfl
             refine pure_ (i:=17) (N:=some 52) (v:=?_) (a':=?_) #[t',t',t',t',t',t',t',t',t',t',t',t',t',t',t',t',t',t',f'] rfl rfl (any_of HT_.out (by kernel_rfl)) (fun _ _ _ h=>h) (Or.inl ⟨by rfl,?_⟩) ?_ ?_
             rotate_left
             ·intro w'
              go_simp
              with_reducible rfl
             rotate_left
             ·simp only [Act.put,List.setIfInBounds_toArray,List.set_cons_zero,List.set_cons_succ,i64_w,i32_w]
              rfl
             refine last_ (i:=18) (N:=none) #[t',t',t',t',t',t',t',t',t',t',t',t',t',t',t',t',t',t',t'] rfl rfl (one_of HT_.out (by kernel_rfl)) (by decide) (fun K hK=>?_)
             refine skip_ (w1:=?_) (by rfl) rfl ?_ ?_
             rotate_left
             ·go_simp
              rfl
             refine hK.out _ _ ?_
             clear hK K
             refine done_ (done_of HT_.out (by kernel_rfl)) ?_
             try go_wp2
             go_roundg k1
             case measure=>have:=HK1.out;omega
             case rel=>exact⟨(y438),(wrap64 (x13_1+1)),(by first|rfl|(simp;done)|(simp [*];done)),H',⟨by have:=HK1.out;omega⟩,⟨by(with_reducible repeat(first|apply Kd.R_alloc|apply Kd.R_drewN|apply Kd.R_drew));exact HQ28.out⟩,⟨by repeat(first|(with_reducible first|exact HB.out|apply below_alloc|apply pw_below_drewN|apply below_drew1|refine below_set ?_ GB15.out|refine below_set ?_ GE430.out)|exact HB.out)⟩⟩
            ·rw [if_neg c17] at H
             exact absurd H (by simp)
           ·rw [if_neg c16] at H
            exact absurd H (by simp)
          ·rw [if_neg c13] at H
           exact absurd H (by simp)
         ·rw [if_neg c12] at H
          exact absurd H (by simp)
        ·rw [if_neg c11] at H
         exact absurd H (by simp)
       ·rw [if_neg c10] at H
        exact absurd H (by simp)
      ·rw [if_neg c9] at H
       exact absurd H (by simp)
     ·rw [if_neg c8] at H
      exact absurd H (by simp)
    ·rw [if_neg c7] at H
     have c7b0:decide (x13_1< (l0.length:Int))=false:=decide_eq_false c7
     clear c7
     obtain rfl:=Option.some.inj H
     go_wp2
     go_ret
     exact⟨_,by first|rfl|(simp [errW_none,errW_some]<;>rfl)|(simp [*,errW_none,errW_some]<;>rfl),by(with_reducible repeat(first|apply Kd.R_alloc|apply Kd.R_drewN|apply Kd.R_drew));exact HO_5.out,by repeat(first|(with_reducible first|exact HB.out|apply below_alloc|apply pw_below_drewN|apply below_drew1)|exact HB.out)⟩
 ·rw [if_neg c3] at H
  exact absurd H (by simp)
end Go.Proofs.Ytedegfbheihopaa.P

namespace Go.Proofs.Ytedegfbheihopaa.P
open Go.RowKit Go.Proofs.YtedegfbheihopaaW.PrintWords Go.Proofs.YtedegfbheihopaaW.PrintLast Go.Proofs.YtedegfbheihopaaW.PrintMore
attribute [local go_sem] max2_int min2_int max_two min_two max_three min_three max_four min_four   -- for this text's walks alone
set_option linter.unusedVariables false
set_option linter.unusedSimpArgs false
mutual
def spec_l9Fars.l0:Nat→Int→List (S79)→Int→List Int→Int→Option (List Int)
 | 0,_,_,_,_,_=>none
 |k+1,x0,x1,x2,x7,x8=>if x8<x0 then(if x7.length< 17592186044416 then(spec_l9Fars.l0 k x0 x1 x2 (x7++ [100000]) (wrap64 (x8+1))) else(none)) else(if 0≤x2 then(if x2< (x7.length:Int) then(spec_l9Fars.l1 k x0 x1 (x7.set (x2:Int).toNat 0) 0) else(none)) else(none))
def spec_l9Fars.l1:Nat→Int→List (S79)→List Int→Int→Option (List Int)
 | 0,_,_,_,_=>none
 |k+1,x0,x1,x7,x9=>if x9<x0 then((spec_l9Relax.f k x1 x7).bind fun t443=>(spec_l9Fars.l1 k x0 x1 t443 (wrap64 (x9+1)))) else(some x7)
end
def spec_l9Fars.f (k:Nat) (a0:Int) (l1:List (S79)) (a2:Int):Option (List Int):=spec_l9Fars.l0 k a0 l1 a2 ([] :List Int) 0
set_option maxHeartbeats 8000000 in
set_option maxRecDepth 100000 in
theorem spec_l9Fars.calls (k:Nat) (a0:Int) (A1:Option Addr) (c1:Nat) (l1:List (S79)) (a2:Int) (r:List Int) (w:World) (hr1:Kd.C k79 w A1 l1.length l1) (hc1:l1.length≤c1) (h:spec_l9Fars.f k a0 l1 a2=some r):
  Calls Try.prog 96 #[.int .i64 a0,.slice A1 l1.length c1,.int .i64 a2] w fun e w'=> ∃ v0_:Value,e= .returned (v0_)∧Kd.R (Kd.int .i64) 3 w' w.heap.size (fun _=>True) v0_ r∧Below w.heap.size w w':=by
 have HR1:=Aside0.mk hr1
 have HC1:=Aside0.mk hc1
 clear hr1 hc1
 have HB:=Aside0.mk (Below.refl w.heap.size w)
 have H:(spec_l9Fars.l0 k a0 l1 a2 ([] :List Int) 0)=some r:=h
 clear h
 have H':=Aside0.mk H
 clear H
 go_enter Try.func96,Try.ntmps96
 go_wp2
 go_loopg [7,8] k (fun kq v7 v8 w'=> ∃ (x7_1:List Int) (x8_1:Int),v8= .int .i64 x8_1∧Aside0 (spec_l9Fars.l0 kq a0 l1 a2 x7_1 x8_1=some r)∧Aside0 (kq≤k)∧Aside0 (Kd.R (Kd.int .i64) 3 w' w.heap.size (fun _=>True) v7 x7_1)∧Aside0 (Below w.heap.size w w'))
 case atStart=>exact⟨(([] :List Int)),(0),(by first|rfl|(simp;done)|(simp [*];done)),H',⟨Nat.le_refl _⟩,⟨by first|exact Kd.R_nil _ _ _ _ _|exact Kd.N_nil _ _ _ _ _|exact Kd.V_nil _ _ _ _ _|exact Kd.Q_nil _ _ _ _ _|exact Kd.S_nil _ _ _ _ _⟩,⟨by repeat(first|(with_reducible first|exact HB.out|apply below_alloc|apply pw_below_drewN|apply below_drew1)|exact HB.out)⟩⟩
 case round=>
  clear H'
  try clear c1
  try clear p2
  obtain⟨x7_1,x8_1,rfl,HA,HK1,HO_7,HB⟩:=hrel
  cases gk with
  |zero=>exact absurd HA.out (by simp [spec_l9Fars.l0])
  |succ k1=>
   have H:=HA.out
   clear HA
   simp only [spec_l9Fars.l0] at H
   by_cases c4:x8_1<a0
   ·rw [if_pos c4] at H
    have c4b0:decide (x8_1<a0)=true:=decide_eq_true c4
    clear c4
    by_cases c5:x7_1.length< 17592186044416
    ·rw [if_pos c5] at H
     have LMc5:=Aside0.mk c5
     clear c5
     obtain⟨y439,hy439⟩ :∃ y_:List Int,y_= (x7_1++ [100000]):=⟨_,rfl⟩
     replace H:(spec_l9Fars.l0 k1 a0 l1 a2 y439 (wrap64 (x8_1+1)))=some r:=by first|(rw [hy439];with_reducible exact H)|(have H2_:=(Option.bind_some _ _).symm.trans H;rw [hy439];with_reducible exact H2_)|(have H2_:=(Option.bind_some _ _).symm.trans H;with_reducible exact H2_)|with_reducible exact H|(rw [hy439];exact H)|exact H
     have Ny439:=Aside0.mk hy439
     clear hy439
     have H':=Aside0.mk H
     clear H
     go_wp2_with (first|((with_reducible refine gate_builtin (b:= .append) (xs:= #[.tmp 15,.tmp 16]) rfl ?_);at_builtin;refine Kd.R_append (Kd.int .i64) (w0:=w) w.heap.size rfl (.tmp 15) (.tmp 16) 22 3 (.int .i64 0) 8 rfl Try.underlying22 info3 rfl (by decide) (by omega) u7 x7_1 100000 [.int .i64 100000] (fun _=>True) (fun _=>False) rfl rfl ?aP (fun _ hk=>hk.elim) ?aF ?aO ?aB ?aS ?aL ?_;(case aP=>exact rfl);(case aB=>exact(zb0 HB));(case aF=>exact(fun _ _=>trivial));(case aO=>exact(zq4 HO_7));(case aS=>exact(below_size (zb0 HB)));(case aL=>have:=LMc5.out;omega);intro v440 w6 ho hb hg hat;rw [← Ny439.out] at ho;have n0_:=Aside0.mk (hb);have n1_:=Aside0.mk (ho);clear HB;clear HO_7;have HB:=n0_;have HO441:=n1_;clear n0_ n1_;clear ho hb hg hat))
     go_roundg k1
     case measure=>have:=HK1.out;omega
     case rel=>exact⟨(y439),(wrap64 (x8_1+1)),(by first|rfl|(simp;done)|(simp [*];done)),H',⟨by have:=HK1.out;omega⟩,⟨by(with_reducible repeat(first|apply Kd.R_alloc|apply Kd.R_drewN|apply Kd.R_drew));exact HO441.out⟩,⟨by repeat(first|(with_reducible first|exact HB.out|apply below_alloc|apply pw_below_drewN|apply below_drew1)|exact HB.out)⟩⟩
    ·rw [if_neg c5] at H
     exact absurd H (by simp)
   ·rw [if_neg c4] at H
    have c4b0:decide (x8_1<a0)=false:=decide_eq_false c4
    clear c4
    by_cases c7: 0≤a2
    ·rw [if_pos c7] at H
     have c7b0:decide (0≤a2)=true:=decide_eq_true c7
     clear c7
     by_cases c8:a2< (x7_1.length:Int)
     ·rw [if_pos c8] at H
      have c8b0:decide (a2< (x7_1.length:Int))=true:=decide_eq_true c8
      clear c8
      obtain⟨y442,hy442⟩ :∃ y_:List Int,y_= (x7_1.set (a2:Int).toNat 0):=⟨_,rfl⟩
      replace H:(spec_l9Fars.l1 k1 a0 l1 y442 0)=some r:=by first|(rw [hy442];with_reducible exact H)|(have H2_:=(Option.bind_some _ _).symm.trans H;rw [hy442];with_reducible exact H2_)|(have H2_:=(Option.bind_some _ _).symm.trans H;with_reducible exact H2_)|with_reducible exact H|(rw [hy442];exact H)|exact H
      have Ny442:=Aside0.mk hy442
      clear hy442
      have H':=Aside0.mk H
      clear H
      have p9: 0≤ (a2:Int):=of_decide_eq_true zq1
      have q9:(a2:Int)< ((x7_1.length:Int):Int):=of_decide_eq_true zq1
      obtain⟨go9,co9,eo9,gb9,gl9,cl9,HG9⟩:=Kd.R_form HO_7.out (by omega)
      (first|cases eo9|(injection eo9 with ea_ en_ ec_;(first|subst ea_|(injection ea_ with ea_;subst ea_));subst ec_;clear en_))
      have GB9:=Aside0.mk gb9
      have GG9:=Aside0.mk HG9
      clear gb9 gl9 HG9
      obtain⟨hx9_0,hf9_0⟩:=Kd.R_celln 0 HO_7.out (a2:Int) p9 q9
      replace p9:=eq_true p9
      replace q9:=eq_true q9
      have HP10:=Kd.R_putg HO_7.out (a2:Int) 0
      go_wp2_with (first|((with_reducible refine gate_store (t:=3) (p:=20) rfl ?_);refine store_event (t:=3) (p:=20) (v:=?vo_w11) (w1:=(wr.setCell ⟨go9,(a2:Int).toNat,none⟩ (.int .i64 0))) ?hg ?ho ?hn ?hr ?_;(case ho=>rfl);(case hg=>rfl);(case hn=>rfl);(case hr=>first|(go_simp;done)|(go_simp;rfl));intro w11 hw;have hg:wr.grownBy w11 (some go9):=(by rw [hw];exact HP10.2);have hp_:Kd.R (Kd.int .i64) 3 w11 w.heap.size (fun _=>True) (.slice (some ⟨go9,0,none⟩) x7_1.length co9) y442:=(by rw [hw,Ny442.out];exact HP10.1);clear HP10;have n0_:=Aside0.mk (hp_);have n1_:=Aside0.mk ((by rw [hw];exact below_set (HB.out) GB9.out:Below w.heap.size w w11));clear HO_7;clear HB;have HO_7:=n0_;have HB:=n1_;clear n0_ n1_;clear hg hw hp_))
      go_loopg [7,9] k1 (fun kq v7 v9 w'=> ∃ (x7_2:List Int) (x9_2:Int),v9= .int .i64 x9_2∧Aside0 (spec_l9Fars.l1 kq a0 l1 x7_2 x9_2=some r)∧Aside0 (kq≤k1)∧Aside0 (Kd.R (Kd.int .i64) 3 w' w.heap.size (fun _=>True) v7 x7_2)∧Aside0 (Below w.heap.size w w'))
      case atStart=>exact⟨(y442),(0),(by first|rfl|(simp;done)|(simp [*];done)),H',⟨Nat.le_refl _⟩,⟨by(with_reducible repeat(first|apply Kd.R_alloc|apply Kd.R_drewN|apply Kd.R_drew));exact HO_7.out⟩,⟨by repeat(first|(with_reducible first|exact HB.out|apply below_alloc|apply pw_below_drewN|apply below_drew1)|exact HB.out)⟩⟩
      case round=>
       clear H'
       try clear c1
       try clear p2
       try clear c4
       try clear c4b0
       try clear c5
       try clear p6
       try clear c7
       try clear c7b0
       try clear c8
       try clear c8b0
       try clear c9
       try clear p9
       try clear q9
       try clear hx9
       try clear hf9
       try clear hx9_0
       try clear p2
       try clear p9
       try clear q9
       obtain⟨x7_2,x9_2,rfl,HA,HK2,HO_7,HB⟩:=hrel
       cases gk with
       |zero=>exact absurd HA.out (by simp [spec_l9Fars.l1])
       |succ k2=>
        have H:=HA.out
        clear HA
        simp only [spec_l9Fars.l1] at H
        by_cases c12:x9_2<a0
        ·rw [if_pos c12] at H
         have c12b0:decide (x9_2<a0)=true:=decide_eq_true c12
         clear c12
         replace H:=Option.bind_eq_some_iff.mp H
         obtain⟨t443,A130,H⟩:=H
         replace H:(spec_l9Fars.l1 k2 a0 l1 t443 (wrap64 (x9_2+1)))=some r:=H
         have A13:=Aside0.mk A130
         clear A130
         have H':=Aside0.mk H
         clear H
         obtain⟨Ao14,co14,eo14⟩:=Kd.R_slice HO_7.out
         subst eo14
         go_wp2_with (first|((with_reducible refine gate_callee (f:=106) rfl ?_);refine goesL_ (some 28) rfl rfl Try.func106 (by kernel_rfl) rfl #[.slice A1 l1.length c1,.slice Ao14 x7_2.length co14] rfl zq2 ?_;(with_reducible refine(spec_l9Relax.calls k2 _ _ l1 _ _ x7_2 t443 _ ?side1 ?side2 ?side3 ?side4 A13.out).mono ?_);(case side1=>repeat(first|exact(Kd.C_below HR1.out HB.out)|(with_reducible refine Kd.C_alloc ?_ _)|(with_reducible refine Kd.C_drewN ?_ _)|(with_reducible refine Kd.C_drew ?_)));(case side2=>exact HC1.out);(case side3=>repeat(first|exact(Kd.R_reads' HO_7.out).2.2|(with_reducible refine Kd.C_alloc ?_ _)|(with_reducible refine Kd.C_drewN ?_ _)|(with_reducible refine Kd.C_drew ?_)));(case side4=>exact(Kd.R_reads' HO_7.out).2.1);rintro e w15 ⟨v444,rfl,ho0,hb⟩;refine⟨_,rfl,?_⟩;have n0_:=Aside0.mk (Kd.R_elder' (zq4 HO_7) (Kd.R_base ho0) hb);have n1_:=Aside0.mk (Kd.R_lower (Kd.R_new' ho0 (Kd.R_lt (zq4 HO_7))) (below_size (zb0 HB)));have n2_:=Aside0.mk (below_step (zb0 HB) hb);clear HO_7;clear HB;have HO_7:=n0_;have HO445:=n1_;have HB:=n2_;clear n0_ n1_ n2_;(try clear hb);(try clear hb2);(try clear hk);(try clear hi);(try clear ho0)))
         go_roundg k2
         case measure=>have:=HK1.out;have:=HK2.out;omega
         case rel=>exact⟨(t443),(wrap64 (x9_2+1)),(by first|rfl|(simp;done)|(simp [*];done)),H',⟨by have:=HK1.out;have:=HK2.out;omega⟩,⟨by(with_reducible repeat(first|apply Kd.R_alloc|apply Kd.R_drewN|apply Kd.R_drew));exact Kd.R_mono HO445.out (fun _ hk=>trivial)⟩,⟨by repeat(first|(with_reducible first|exact HB.out|apply below_alloc|apply pw_below_drewN|apply below_drew1)|exact HB.out)⟩⟩
        ·rw [if_neg c12] at H
         have c12b0:decide (x9_2<a0)=false:=decide_eq_false c12
         clear c12
         obtain rfl:=Option.some.inj H
         go_wp2
         go_ret
         exact⟨_,by first|rfl|(simp [errW_none,errW_some]<;>rfl)|(simp [*,errW_none,errW_some]<;>rfl),by(with_reducible repeat(first|apply Kd.R_alloc|apply Kd.R_drewN|apply Kd.R_drew));exact HO_7.out,by repeat(first|(with_reducible first|exact HB.out|apply below_alloc|apply pw_below_drewN|apply below_drew1)|exact HB.out)⟩
     ·rw [if_neg c8] at H
      exact absurd H (by simp)
    ·rw [if_neg c7] at H
     exact absurd H (by simp)
def spec_l8Near.l0:Nat→Int→List Int→List (S79)→Int→Int→Option (List Int)
 | 0,_,_,_,_,_=>none
 |k+1,x1,x5,x8,x9,x10=>if x10<x9 then(if 0≤x10 then(if x10< (x8.length:Int) then(if ((rd_T79 x8 x10).f0)=x1 then((spec_l1Put.f k x5 ((rd_T79 x8 x10).f1)).bind fun t448=>(if ((rd_T79 x8 x10).f1)=x1 then((spec_l1Put.f k t448 ((rd_T79 x8 x10).f0)).bind fun t451=>(spec_l8Near.l0 k x1 t451 x8 x9 (wrap64 (x10+1)))) else(spec_l8Near.l0 k x1 t448 x8 x9 (wrap64 (x10+1))))) else(if ((rd_T79 x8 x10).f1)=x1 then((spec_l1Put.f k x5 ((rd_T79 x8 x10).f0)).bind fun t454=>(spec_l8Near.l0 k x1 t454 x8 x9 (wrap64 (x10+1)))) else(spec_l8Near.l0 k x1 x5 x8 x9 (wrap64 (x10+1))))) else(none)) else(none)) else(some x5)
def spec_l8Near.f (k:Nat) (l0:List (S79)) (a1:Int):Option (List Int):=spec_l8Near.l0 k a1 ([] :List Int) l0 (l0.length:Int) 0
set_option maxHeartbeats 8000000 in
set_option maxRecDepth 100000 in
theorem spec_l8Near.calls (k:Nat) (A0:Option Addr) (c0:Nat) (l0:List (S79)) (a1:Int) (r:List Int) (w:World) (hr0:Kd.C k79 w A0 l0.length l0) (hc0:l0.length≤c0) (h:spec_l8Near.f k l0 a1=some r):
  Calls Try.prog 97 #[.slice A0 l0.length c0,.int .i64 a1] w fun e w'=> ∃ v0_:Value,e= .returned (v0_)∧Kd.R (Kd.int .i64) 3 w' w.heap.size (fun _=>True) v0_ r∧Below w.heap.size w w':=by
 have hu79:=Try.underlying79
 have HR0:=Aside0.mk hr0
 have HC0:=Aside0.mk hc0
 clear hr0 hc0
 have HB:=Aside0.mk (Below.refl w.heap.size w)
 have H:(spec_l8Near.l0 k a1 ([] :List Int) l0 (l0.length:Int) 0)=some r:=h
 clear h
 have H':=Aside0.mk H
 clear H
 go_enter Try.func97,Try.ntmps97
 go_wp2
 go_loopg [5,10] k (fun kq v5 v10 w'=> ∃ (x5_1:List Int) (x10_1:Int),v10= .int .i64 x10_1∧Aside0 (spec_l8Near.l0 kq a1 x5_1 l0 (l0.length:Int) x10_1=some r)∧Aside0 (kq≤k)∧Aside0 (Kd.R (Kd.int .i64) 3 w' w.heap.size (fun _=>True) v5 x5_1)∧Aside0 (Below w.heap.size w w'))
 case atStart=>exact⟨(([] :List Int)),(0),(by first|rfl|(simp;done)|(simp [*];done)),H',⟨Nat.le_refl _⟩,⟨by first|exact Kd.R_nil _ _ _ _ _|exact Kd.N_nil _ _ _ _ _|exact Kd.V_nil _ _ _ _ _|exact Kd.Q_nil _ _ _ _ _|exact Kd.S_nil _ _ _ _ _⟩,⟨by repeat(first|(with_reducible first|exact HB.out|apply below_alloc|apply pw_below_drewN|apply below_drew1)|exact HB.out)⟩⟩
 case round=>
  clear H'
  try clear p2
  obtain⟨x5_1,x10_1,rfl,HA,HK1,HO_5,HB⟩:=hrel
  cases gk with
  |zero=>exact absurd HA.out (by simp [spec_l8Near.l0])
  |succ k1=>
   have H:=HA.out
   clear HA
   simp only [spec_l8Near.l0] at H
   by_cases c3:x10_1< (l0.length:Int)
   ·rw [if_pos c3] at H
    have c3b0:decide (x10_1< (l0.length:Int))=true:=decide_eq_true c3
    clear c3
    by_cases c4: 0≤x10_1
    ·rw [if_pos c4] at H
     have c4b0:decide (0≤x10_1)=true:=decide_eq_true c4
     clear c4
     by_cases c5:x10_1< (l0.length:Int)
     ·rw [if_pos c5] at H
      have c5b0:decide (x10_1< (l0.length:Int))=true:=decide_eq_true c5
      clear c5
      by_cases c6:((rd_T79 l0 x10_1).f0)=a1
      ·rw [if_pos c6] at H
       have c6b0:(((rd_T79 l0 x10_1).f0)==a1)=true:=beq_iff_eq.mpr c6
       have c6b1:(((rd_T79 l0 x10_1).f0) !=a1)=false:=bne_eq_false_iff_eq.mpr c6
       clear c6
       replace H:=Option.bind_eq_some_iff.mp H
       obtain⟨t448,A70,H⟩:=H
       replace H:(if ((rd_T79 l0 x10_1).f1)=a1 then((spec_l1Put.f k1 t448 ((rd_T79 l0 x10_1).f0)).bind fun t451=>(spec_l8Near.l0 k1 a1 t451 l0 (l0.length:Int) (wrap64 (x10_1+1)))) else(spec_l8Near.l0 k1 a1 t448 l0 (l0.length:Int) (wrap64 (x10_1+1))))=some r:=H
       have A7:=Aside0.mk A70
       clear A70
       by_cases c8:((rd_T79 l0 x10_1).f1)=a1
       ·rw [if_pos c8] at H
        have c8b0:(((rd_T79 l0 x10_1).f1)==a1)=true:=beq_iff_eq.mpr c8
        have c8b1:(((rd_T79 l0 x10_1).f1) !=a1)=false:=bne_eq_false_iff_eq.mpr c8
        clear c8
        replace H:=Option.bind_eq_some_iff.mp H
        obtain⟨t451,A90,H⟩:=H
        replace H:(spec_l8Near.l0 k1 a1 t451 l0 (l0.length:Int) (wrap64 (x10_1+1)))=some r:=H
        have A9:=Aside0.mk A90
        clear A90
        have H':=Aside0.mk H
        clear H
        have p446: 0≤ (x10_1:Int):=of_decide_eq_true zq1
        have q446:x10_1< (l0.length:Int):=of_decide_eq_true zq1
        obtain⟨ad446,e446,hx446_0,hx446_1,hx446_2⟩:=at_T79 HR0.out x10_1 p446 q446
        cases e446
        replace hx446_0:=(HB.out.cell (World.block_lt_of_cell? w _ hx446_0)).trans hx446_0
        replace hx446_1:=(HB.out.cell (World.block_lt_of_cell? w _ hx446_1)).trans hx446_1
        replace hx446_2:=(HB.out.cell (World.block_lt_of_cell? w _ hx446_2)).trans hx446_2
        replace p446:=eq_true p446
        replace q446:=eq_true q446
        go_wp2_with (first|((with_reducible refine gate_dst (N:=7) rfl ?_);refine box_event ?hg (N:=7) ?hd (cs:= #[.int .i64 0,.int .i64 0,.int .i64 0]) (t:=79) ?hr ?_;(case hd=>rfl);(case hg=>rfl);(case hr=>first|(go_simp;done)|(go_simp;rfl));intro gb447 hg w10 hbox hb;have n0_:=Aside0.mk (Kd.R_below (zq4 HO_5) hb);have n1_:=Aside0.mk (below_step (zb0 HB) hb);have n2_:=Aside0.mk (hbox);have n3_:=Aside0.mk ((by rw [hg];exact(below_size (zb0 HB)):w.heap.size≤gb447));have n4_:=Aside0.mk ((by rw [hg];exact(below_size (zb0 HB)):w.heap.size≤gb447));clear HO_5;clear HB;have HO_5:=n0_;have HB:=n1_;have BK447:=n2_;have GW447:=n3_;have GE447:=n4_;clear n0_ n1_ n2_ n3_ n4_;clear hb hbox hg;have hcz11_0:w10.cell? ⟨gb447,0,none⟩=some (.int .i64 0):=(blk_cell BK447.out 0).trans rfl;have hcz11_1:w10.cell? ⟨gb447,1,none⟩=some (.int .i64 0):=(blk_cell BK447.out 1).trans rfl;have hcz11_2:w10.cell? ⟨gb447,2,none⟩=some (.int .i64 0):=(blk_cell BK447.out 2).trans rfl;have hfz11_0:=blk_frozen BK447.out 0;have hfz11_1:=blk_frozen BK447.out 1;have hfz11_2:=blk_frozen BK447.out 2)|((with_reducible refine gate_store (t:=79) (p:=7) rfl ?_);refine store_event (t:=79) (p:=7) (v:=?vo_w12) (w1:=(((w10.setCell ⟨gb447,0,none⟩ (.int .i64 ((rd_T79 l0 x10_1).f0))).setCell ⟨gb447,1,none⟩ (.int .i64 ((rd_T79 l0 x10_1).f1))).setCell ⟨gb447,2,none⟩ (.int .i64 ((rd_T79 l0 x10_1).f2)))) ?hg ?ho ?hn ?hr ?_;(case ho=>rfl);(case hg=>rfl);(case hn=>rfl);(case hr=>first|(go_simp;done)|(go_simp;rfl));intro w12 hw;have n0_:Aside0 (Kd.R (Kd.int .i64) 3 w12 w.heap.size (fun _=>True) u5 x5_1):=⟨(by rw [hw];exact(by(with_reducible repeat(first|apply Kd.R_alloc|apply Kd.R_drewN|apply Kd.R_drew));exact Kd.R_mono (Kd.R_far (p:=⟨gb447,2,none⟩) (Kd.R_far (p:=⟨gb447,1,none⟩) (Kd.R_far (p:=⟨gb447,0,none⟩) (Kd.R_types HO_5.out BK447.out (by decide)) (fun _ hk=>hk.2) (.int .i64 ((rd_T79 l0 x10_1).f0))) (fun _ hk=>hk.2) (.int .i64 ((rd_T79 l0 x10_1).f1))) (fun _ hk=>hk.2) (.int .i64 ((rd_T79 l0 x10_1).f2))) (fun _ hk=>trivial)))⟩;have n1_:Aside0 (w12.heap[gb447]?=some (.cells #[.int .i64 ((rd_T79 l0 x10_1).f0),.int .i64 ((rd_T79 l0 x10_1).f1),.int .i64 ((rd_T79 l0 x10_1).f2)] 79 (0,0))):=⟨(by rw [hw];exact(by(with_reducible repeat(first|refine blk_drewN ?_ _|refine blk_drew ?_ |refine blk_alloc ?_ _));refine blk_put (cs:= #[.int .i64 ((rd_T79 l0 x10_1).f0),.int .i64 ((rd_T79 l0 x10_1).f1),.int .i64 0]) ?_ 2 _ rfl;(with_reducible repeat(first|refine blk_drewN ?_ _|refine blk_drew ?_ |refine blk_alloc ?_ _));refine blk_put (cs:= #[.int .i64 ((rd_T79 l0 x10_1).f0),.int .i64 0,.int .i64 0]) ?_ 1 _ rfl;(with_reducible repeat(first|refine blk_drewN ?_ _|refine blk_drew ?_ |refine blk_alloc ?_ _));refine blk_put (cs:= #[.int .i64 0,.int .i64 0,.int .i64 0]) ?_ 0 _ rfl;(with_reducible repeat(first|refine blk_drewN ?_ _|refine blk_drew ?_ |refine blk_alloc ?_ _));exact BK447.out))⟩;have n2_:Aside0 (Below w.heap.size w w12):=⟨(by rw [hw];exact(zb1 HB GE447))⟩;clear hw;clear HO_5;clear BK447;clear HB;have HO_5:=n0_;have BK447:=n1_;have HB:=n2_;clear n0_ n1_ n2_;have hcz13_0:w12.cell? ⟨gb447,0,none⟩=some (.int .i64 ((rd_T79 l0 x10_1).f0)):=(blk_cell BK447.out 0).trans rfl;have hcz13_1:w12.cell? ⟨gb447,1,none⟩=some (.int .i64 ((rd_T79 l0 x10_1).f1)):=(blk_cell BK447.out 1).trans rfl;have hcz13_2:w12.cell? ⟨gb447,2,none⟩=some (.int .i64 ((rd_T79 l0 x10_1).f2)):=(blk_cell BK447.out 2).trans rfl;have hfz13_0:=blk_frozen BK447.out 0;have hfz13_1:=blk_frozen BK447.out 1;have hfz13_2:=blk_frozen BK447.out 2;obtain⟨Ao14,co14,eo14⟩:=Kd.R_slice HO_5.out;subst eo14)|((with_reducible refine gate_callee (f:=105) rfl ?_);refine goesL_ (some 21) rfl rfl Try.func105 (by kernel_rfl) rfl #[.slice Ao14 x5_1.length co14,.int .i64 ((rd_T79 l0 x10_1).f1)] rfl zq2 ?_;(with_reducible refine(spec_l1Put.calls k1 (fun k_=>some k_= (.slice Ao14 x5_1.length co14:Value).ownBlock) (.slice Ao14 x5_1.length co14) x5_1 ((rd_T79 l0 x10_1).f1) t448 w _ ?side1 ?side2 A7.out).mono ?_);(case side1=>repeat(first|(with_reducible first|exact HB.out|apply below_alloc|apply pw_below_drewN|apply below_drew1|refine below_set ?_ GE447.out)|exact HB.out));(case side2=>exact Kd.R_tight rfl HO_5.out);rintro e w15 ⟨v449,rfl,ho0,hb,hkp⟩;refine⟨_,rfl,?_⟩;have n0_:=Aside0.mk (blk_kept (zq3 BK447) hkp (fun hs_=>(fun e_=>(Kd.R_ne HO_5.out BK447.out (by decide)) e_) hs_));have n1_:=Aside0.mk (Kd.R_mono (ok':=fun k_=>True) ho0 (fun k_ hk_=>trivial));have n2_:=Aside0.mk (hb);clear BK447;clear HB;clear HO_5;have BK447:=n0_;have HO450:=n1_;have HB:=n2_;clear n0_ n1_ n2_;(try clear hb);(try clear hkp);(try clear ho0);have hcz16_0:w15.cell? ⟨gb447,0,none⟩=some (.int .i64 ((rd_T79 l0 x10_1).f0)):=(blk_cell BK447.out 0).trans rfl;have hcz16_1:w15.cell? ⟨gb447,1,none⟩=some (.int .i64 ((rd_T79 l0 x10_1).f1)):=(blk_cell BK447.out 1).trans rfl;have hcz16_2:w15.cell? ⟨gb447,2,none⟩=some (.int .i64 ((rd_T79 l0 x10_1).f2)):=(blk_cell BK447.out 2).trans rfl;have hfz16_0:=blk_frozen BK447.out 0;have hfz16_1:=blk_frozen BK447.out 1;have hfz16_2:=blk_frozen BK447.out 2;obtain⟨Ao17,co17,eo17⟩:=Kd.R_slice HO450.out;subst eo17)|((with_reducible refine gate_callee (f:=105) rfl ?_);refine goesL_ (some 29) rfl rfl Try.func105 (by kernel_rfl) rfl #[.slice Ao17 t448.length co17,.int .i64 ((rd_T79 l0 x10_1).f0)] rfl zq2 ?_;(with_reducible refine(spec_l1Put.calls k1 (fun k_=>some k_= (.slice Ao17 t448.length co17:Value).ownBlock) (.slice Ao17 t448.length co17) t448 ((rd_T79 l0 x10_1).f0) t451 w _ ?side1 ?side2 A9.out).mono ?_);(case side1=>repeat(first|(with_reducible first|exact HB.out|apply below_alloc|apply pw_below_drewN|apply below_drew1|refine below_set ?_ GE447.out)|exact HB.out));(case side2=>exact Kd.R_tight rfl HO450.out);rintro e w18 ⟨v452,rfl,ho0,hb,hkp⟩;refine⟨_,rfl,?_⟩;have n0_:=Aside0.mk (blk_kept (zq3 BK447) hkp (fun hs_=>(fun e_=>(Kd.R_ne HO450.out BK447.out (by decide)) e_) hs_));have n1_:=Aside0.mk (Kd.R_mono (ok':=fun k_=>True) ho0 (fun k_ hk_=>trivial));have n2_:=Aside0.mk (hb);clear BK447;clear HB;clear HO450;have BK447:=n0_;have HO453:=n1_;have HB:=n2_;clear n0_ n1_ n2_;(try clear hb);(try clear hkp);(try clear ho0)))
        go_roundg k1
        case measure=>have:=HK1.out;omega
        case rel=>exact⟨(t451),(wrap64 (x10_1+1)),(by first|rfl|(simp;done)|(simp [*];done)),H',⟨by have:=HK1.out;omega⟩,⟨by(with_reducible repeat(first|apply Kd.R_alloc|apply Kd.R_drewN|apply Kd.R_drew));exact HO453.out⟩,⟨by repeat(first|(with_reducible first|exact HB.out|apply below_alloc|apply pw_below_drewN|apply below_drew1|refine below_set ?_ GE447.out)|exact HB.out)⟩⟩
       ·rw [if_neg c8] at H
        have c8b0:(((rd_T79 l0 x10_1).f1)==a1)=false:=beq_eq_false_iff_ne.mpr c8
        have c8b1:(((rd_T79 l0 x10_1).f1) !=a1)=true:=bne_iff_ne.mpr c8
        have H':=Aside0.mk H
        clear H
        have p446: 0≤ (x10_1:Int):=of_decide_eq_true zq1
        have q446:x10_1< (l0.length:Int):=of_decide_eq_true zq1
        obtain⟨ad446,e446,hx446_0,hx446_1,hx446_2⟩:=at_T79 HR0.out x10_1 p446 q446
        cases e446
        replace hx446_0:=(HB.out.cell (World.block_lt_of_cell? w _ hx446_0)).trans hx446_0
        replace hx446_1:=(HB.out.cell (World.block_lt_of_cell? w _ hx446_1)).trans hx446_1
        replace hx446_2:=(HB.out.cell (World.block_lt_of_cell? w _ hx446_2)).trans hx446_2
        replace p446:=eq_true p446
        replace q446:=eq_true q446
        go_wp2_with (first|((with_reducible refine gate_dst (N:=7) rfl ?_);refine box_event ?hg (N:=7) ?hd (cs:= #[.int .i64 0,.int .i64 0,.int .i64 0]) (t:=79) ?hr ?_;(case hd=>rfl);(case hg=>rfl);(case hr=>first|(go_simp;done)|(go_simp;rfl));intro gb447 hg w19 hbox hb;have n0_:=Aside0.mk (Kd.R_below (zq4 HO_5) hb);have n1_:=Aside0.mk (below_step (zb0 HB) hb);have n2_:=Aside0.mk (hbox);have n3_:=Aside0.mk ((by rw [hg];exact(below_size (zb0 HB)):w.heap.size≤gb447));have n4_:=Aside0.mk ((by rw [hg];exact(below_size (zb0 HB)):w.heap.size≤gb447));clear HO_5;clear HB;have HO_5:=n0_;have HB:=n1_;have BK447:=n2_;have GW447:=n3_;have GE447:=n4_;clear n0_ n1_ n2_ n3_ n4_;clear hb hbox hg;have hcz20_0:w19.cell? ⟨gb447,0,none⟩=some (.int .i64 0):=(blk_cell BK447.out 0).trans rfl;have hcz20_1:w19.cell? ⟨gb447,1,none⟩=some (.int .i64 0):=(blk_cell BK447.out 1).trans rfl;have hcz20_2:w19.cell? ⟨gb447,2,none⟩=some (.int .i64 0):=(blk_cell BK447.out 2).trans rfl;have hfz20_0:=blk_frozen BK447.out 0;have hfz20_1:=blk_frozen BK447.out 1;have hfz20_2:=blk_frozen BK447.out 2)|((with_reducible refine gate_store (t:=79) (p:=7) rfl ?_);refine store_event (t:=79) (p:=7) (v:=?vo_w21) (w1:=(((w19.setCell ⟨gb447,0,none⟩ (.int .i64 ((rd_T79 l0 x10_1).f0))).setCell ⟨gb447,1,none⟩ (.int .i64 ((rd_T79 l0 x10_1).f1))).setCell ⟨gb447,2,none⟩ (.int .i64 ((rd_T79 l0 x10_1).f2)))) ?hg ?ho ?hn ?hr ?_;(case ho=>rfl);(case hg=>rfl);(case hn=>rfl);(case hr=>first|(go_simp;done)|(go_simp;rfl));intro w21 hw;have n0_:Aside0 (Kd.R (Kd.int .i64) 3 w21 w.heap.size (fun _=>True) u5 x5_1):=⟨(by rw [hw];exact(by(with_reducible repeat(first|apply Kd.R_alloc|apply Kd.R_drewN|apply Kd.R_drew));exact Kd.R_mono (Kd.R_far (p:=⟨gb447,2,none⟩) (Kd.R_far (p:=⟨gb447,1,none⟩) (Kd.R_far (p:=⟨gb447,0,none⟩) (Kd.R_types HO_5.out BK447.out (by decide)) (fun _ hk=>hk.2) (.int .i64 ((rd_T79 l0 x10_1).f0))) (fun _ hk=>hk.2) (.int .i64 ((rd_T79 l0 x10_1).f1))) (fun _ hk=>hk.2) (.int .i64 ((rd_T79 l0 x10_1).f2))) (fun _ hk=>trivial)))⟩;have n1_:Aside0 (w21.heap[gb447]?=some (.cells #[.int .i64 ((rd_T79 l0 x10_1).f0),.int .i64 ((rd_T79 l0 x10_1).f1),.int .i64 ((rd_T79 l0 x10_1).f2)] 79 (0,0))):=⟨(by rw [hw];exact(by(with_reducible repeat(first|refine blk_drewN ?_ _|refine blk_drew ?_ |refine blk_alloc ?_ _));refine blk_put (cs:= #[.int .i64 ((rd_T79 l0 x10_1).f0),.int .i64 ((rd_T79 l0 x10_1).f1),.int .i64 0]) ?_ 2 _ rfl;(with_reducible repeat(first|refine blk_drewN ?_ _|refine blk_drew ?_ |refine blk_alloc ?_ _));refine blk_put (cs:= #[.int .i64 ((rd_T79 l0 x10_1).f0),.int .i64 0,.int .i64 0]) ?_ 1 _ rfl;(with_reducible repeat(first|refine blk_drewN ?_ _|refine blk_drew ?_ |refine blk_alloc ?_ _));refine blk_put (cs:= #[.int .i64 0,.int .i64 0,.int .i64 0]) ?_ 0 _ rfl;(with_reducible repeat(first|refine blk_drewN ?_ _|refine blk_drew ?_ |refine blk_alloc ?_ _));exact BK447.out))⟩;have n2_:Aside0 (Below w.heap.size w w21):=⟨(by rw [hw];exact(zb1 HB GE447))⟩;clear hw;clear HO_5;clear BK447;clear HB;have HO_5:=n0_;have BK447:=n1_;have HB:=n2_;clear n0_ n1_ n2_;have hcz22_0:w21.cell? ⟨gb447,0,none⟩=some (.int .i64 ((rd_T79 l0 x10_1).f0)):=(blk_cell BK447.out 0).trans rfl;have hcz22_1:w21.cell? ⟨gb447,1,none⟩=some (.int .i64 ((rd_T79 l0 x10_1).f1)):=(blk_cell BK447.out 1).trans rfl;have hcz22_2:w21.cell? ⟨gb447,2,none⟩=some (.int .i64 ((rd_T79 l0 x10_1).f2)):=(blk_cell BK447.out 2).trans rfl;have hfz22_0:=blk_frozen BK447.out 0;have hfz22_1:=blk_frozen BK447.out 1;have hfz22_2:=blk_frozen BK447.out 2;obtain⟨Ao23,co23,eo23⟩:=Kd.R_slice HO_5.out;subst eo23)|((with_reducible refine gate_callee (f:=105) rfl ?_);refine goesL_ (some 21) rfl rfl Try.func105 (by kernel_rfl) rfl #[.slice Ao23 x5_1.length co23,.int .i64 ((rd_T79 l0 x10_1).f1)] rfl zq2 ?_;(with_reducible refine(spec_l1Put.calls k1 (fun k_=>some k_= (.slice Ao23 x5_1.length co23:Value).ownBlock) (.slice Ao23 x5_1.length co23) x5_1 ((rd_T79 l0 x10_1).f1) t448 w _ ?side1 ?side2 A7.out).mono ?_);(case side1=>repeat(first|(with_reducible first|exact HB.out|apply below_alloc|apply pw_below_drewN|apply below_drew1|refine below_set ?_ GE447.out)|exact HB.out));(case side2=>exact Kd.R_tight rfl HO_5.out);rintro e w24 ⟨v449,rfl,ho0,hb,hkp⟩;refine⟨_,rfl,?_⟩;have n0_:=Aside0.mk (blk_kept (zq3 BK447) hkp (fun hs_=>(fun e_=>(Kd.R_ne HO_5.out BK447.out (by decide)) e_) hs_));have n1_:=Aside0.mk (Kd.R_mono (ok':=fun k_=>True) ho0 (fun k_ hk_=>trivial));have n2_:=Aside0.mk (hb);clear BK447;clear HB;clear HO_5;have BK447:=n0_;have HO450:=n1_;have HB:=n2_;clear n0_ n1_ n2_;(try clear hb);(try clear hkp);(try clear ho0);have hcz25_0:w24.cell? ⟨gb447,0,none⟩=some (.int .i64 ((rd_T79 l0 x10_1).f0)):=(blk_cell BK447.out 0).trans rfl;have hcz25_1:w24.cell? ⟨gb447,1,none⟩=some (.int .i64 ((rd_T79 l0 x10_1).f1)):=(blk_cell BK447.out 1).trans rfl;have hcz25_2:w24.cell? ⟨gb447,2,none⟩=some (.int .i64 ((rd_T79 l0 x10_1).f2)):=(blk_cell BK447.out 2).trans rfl;have hfz25_0:=blk_frozen BK447.out 0;have hfz25_1:=blk_frozen BK447.out 1;have hfz25_2:=blk_frozen BK447.out 2))
        go_roundg k1
        case measure=>have:=HK1.out;omega
        case rel=>exact⟨(t448),(wrap64 (x10_1+1)),(by first|rfl|(simp;done)|(simp [*];done)),H',⟨by have:=HK1.out;omega⟩,⟨by(with_reducible repeat(first|apply Kd.R_alloc|apply Kd.R_drewN|apply Kd.R_drew));exact HO450.out⟩,⟨by repeat(first|(with_reducible first|exact HB.out|apply below_alloc|apply pw_below_drewN|apply below_drew1|refine below_set ?_ GE447.out)|exact HB.out)⟩⟩
      ·rw [if_neg c6] at H
       have c6b0:(((rd_T79 l0 x10_1).f0)==a1)=false:=beq_eq_false_iff_ne.mpr c6
       have c6b1:(((rd_T79 l0 x10_1).f0) !=a1)=true:=bne_iff_ne.mpr c6
       by_cases c26:((rd_T79 l0 x10_1).f1)=a1
       ·rw [if_pos c26] at H
        have c26b0:(((rd_T79 l0 x10_1).f1)==a1)=true:=beq_iff_eq.mpr c26
        have c26b1:(((rd_T79 l0 x10_1).f1) !=a1)=false:=bne_eq_false_iff_eq.mpr c26
        clear c26
        replace H:=Option.bind_eq_some_iff.mp H
        obtain⟨t454,A270,H⟩:=H
        replace H:(spec_l8Near.l0 k1 a1 t454 l0 (l0.length:Int) (wrap64 (x10_1+1)))=some r:=H
        have A27:=Aside0.mk A270
        clear A270
        have H':=Aside0.mk H
        clear H
        have p446: 0≤ (x10_1:Int):=of_decide_eq_true zq1
        have q446:x10_1< (l0.length:Int):=of_decide_eq_true zq1
        obtain⟨ad446,e446,hx446_0,hx446_1,hx446_2⟩:=at_T79 HR0.out x10_1 p446 q446
        cases e446
        replace hx446_0:=(HB.out.cell (World.block_lt_of_cell? w _ hx446_0)).trans hx446_0
        replace hx446_1:=(HB.out.cell (World.block_lt_of_cell? w _ hx446_1)).trans hx446_1
        replace hx446_2:=(HB.out.cell (World.block_lt_of_cell? w _ hx446_2)).trans hx446_2
        replace p446:=eq_true p446
        replace q446:=eq_true q446
        go_wp2_with (first|((with_reducible refine gate_dst (N:=7) rfl ?_);refine box_event ?hg (N:=7) ?hd (cs:= #[.int .i64 0,.int .i64 0,.int .i64 0]) (t:=79) ?hr ?_;(case hd=>rfl);(case hg=>rfl);(case hr=>first|(go_simp;done)|(go_simp;rfl));intro gb447 hg w28 hbox hb;have n0_:=Aside0.mk (Kd.R_below (zq4 HO_5) hb);have n1_:=Aside0.mk (below_step (zb0 HB) hb);have n2_:=Aside0.mk (hbox);have n3_:=Aside0.mk ((by rw [hg];exact(below_size (zb0 HB)):w.heap.size≤gb447));have n4_:=Aside0.mk ((by rw [hg];exact(below_size (zb0 HB)):w.heap.size≤gb447));clear HO_5;clear HB;have HO_5:=n0_;have HB:=n1_;have BK447:=n2_;have GW447:=n3_;have GE447:=n4_;clear n0_ n1_ n2_ n3_ n4_;clear hb hbox hg;have hcz29_0:w28.cell? ⟨gb447,0,none⟩=some (.int .i64 0):=(blk_cell BK447.out 0).trans rfl;have hcz29_1:w28.cell? ⟨gb447,1,none⟩=some (.int .i64 0):=(blk_cell BK447.out 1).trans rfl;have hcz29_2:w28.cell? ⟨gb447,2,none⟩=some (.int .i64 0):=(blk_cell BK447.out 2).trans rfl;have hfz29_0:=blk_frozen BK447.out 0;have hfz29_1:=blk_frozen BK447.out 1;have hfz29_2:=blk_frozen BK447.out 2)|((with_reducible refine gate_store (t:=79) (p:=7) rfl ?_);refine store_event (t:=79) (p:=7) (v:=?vo_w30) (w1:=(((w28.setCell ⟨gb447,0,none⟩ (.int .i64 ((rd_T79 l0 x10_1).f0))).setCell ⟨gb447,1,none⟩ (.int .i64 ((rd_T79 l0 x10_1).f1))).setCell ⟨gb447,2,none⟩ (.int .i64 ((rd_T79 l0 x10_1).f2)))) ?hg ?ho ?hn ?hr ?_;(case ho=>rfl);(case hg=>rfl);(case hn=>rfl);(case hr=>first|(go_simp;done)|(go_simp;rfl));intro w30 hw;have n0_:Aside0 (Kd.R (Kd.int .i64) 3 w30 w.heap.size (fun _=>True) u5 x5_1):=⟨(by rw [hw];exact(by(with_reducible repeat(first|apply Kd.R_alloc|apply Kd.R_drewN|apply Kd.R_drew));exact Kd.R_mono (Kd.R_far (p:=⟨gb447,2,none⟩) (Kd.R_far (p:=⟨gb447,1,none⟩) (Kd.R_far (p:=⟨gb447,0,none⟩) (Kd.R_types HO_5.out BK447.out (by decide)) (fun _ hk=>hk.2) (.int .i64 ((rd_T79 l0 x10_1).f0))) (fun _ hk=>hk.2) (.int .i64 ((rd_T79 l0 x10_1).f1))) (fun _ hk=>hk.2) (.int .i64 ((rd_T79 l0 x10_1).f2))) (fun _ hk=>trivial)))⟩;have n1_:Aside0 (w30.heap[gb447]?=some (.cells #[.int .i64 ((rd_T79 l0 x10_1).f0),.int .i64 ((rd_T79 l0 x10_1).f1),.int .i64 ((rd_T79 l0 x10_1).f2)] 79 (0,0))):=⟨(by rw [hw];exact(by(with_reducible repeat(first|refine blk_drewN ?_ _|refine blk_drew ?_ |refine blk_alloc ?_ _));refine blk_put (cs:= #[.int .i64 ((rd_T79 l0 x10_1).f0),.int .i64 ((rd_T79 l0 x10_1).f1),.int .i64 0]) ?_ 2 _ rfl;(with_reducible repeat(first|refine blk_drewN ?_ _|refine blk_drew ?_ |refine blk_alloc ?_ _));refine blk_put (cs:= #[.int .i64 ((rd_T79 l0 x10_1).f0),.int .i64 0,.int .i64 0]) ?_ 1 _ rfl;(with_reducible repeat(first|refine blk_drewN ?_ _|refine blk_drew ?_ |refine blk_alloc ?_ _));refine blk_put (cs:= #[.int .i64 0,.int .i64 0,.int .i64 0]) ?_ 0 _ rfl;(with_reducible repeat(first|refine blk_drewN ?_ _|refine blk_drew ?_ |refine blk_alloc ?_ _));exact BK447.out))⟩;have n2_:Aside0 (Below w.heap.size w w30):=⟨(by rw [hw];exact(zb1 HB GE447))⟩;clear hw;clear HO_5;clear BK447;clear HB;have HO_5:=n0_;have BK447:=n1_;have HB:=n2_;clear n0_ n1_ n2_;have hcz31_0:w30.cell? ⟨gb447,0,none⟩=some (.int .i64 ((rd_T79 l0 x10_1).f0)):=(blk_cell BK447.out 0).trans rfl;have hcz31_1:w30.cell? ⟨gb447,1,none⟩=some (.int .i64 ((rd_T79 l0 x10_1).f1)):=(blk_cell BK447.out 1).trans rfl;have hcz31_2:w30.cell? ⟨gb447,2,none⟩=some (.int .i64 ((rd_T79 l0 x10_1).f2)):=(blk_cell BK447.out 2).trans rfl;have hfz31_0:=blk_frozen BK447.out 0;have hfz31_1:=blk_frozen BK447.out 1;have hfz31_2:=blk_frozen BK447.out 2;obtain⟨Ao32,co32,eo32⟩:=Kd.R_slice HO_5.out;subst eo32)|((with_reducible refine gate_callee (f:=105) rfl ?_);refine goesL_ (some 29) rfl rfl Try.func105 (by kernel_rfl) rfl #[.slice Ao32 x5_1.length co32,.int .i64 ((rd_T79 l0 x10_1).f0)] rfl zq2 ?_;(with_reducible refine(spec_l1Put.calls k1 (fun k_=>some k_= (.slice Ao32 x5_1.length co32:Value).ownBlock) (.slice Ao32 x5_1.length co32) x5_1 ((rd_T79 l0 x10_1).f0) t454 w _ ?side1 ?side2 A27.out).mono ?_);(case side1=>repeat(first|(with_reducible first|exact HB.out|apply below_alloc|apply pw_below_drewN|apply below_drew1|refine below_set ?_ GE447.out)|exact HB.out));(case side2=>exact Kd.R_tight rfl HO_5.out);rintro e w33 ⟨v455,rfl,ho0,hb,hkp⟩;refine⟨_,rfl,?_⟩;have n0_:=Aside0.mk (blk_kept (zq3 BK447) hkp (fun hs_=>(fun e_=>(Kd.R_ne HO_5.out BK447.out (by decide)) e_) hs_));have n1_:=Aside0.mk (Kd.R_mono (ok':=fun k_=>True) ho0 (fun k_ hk_=>trivial));have n2_:=Aside0.mk (hb);clear BK447;clear HB;clear HO_5;have BK447:=n0_;have HO456:=n1_;have HB:=n2_;clear n0_ n1_ n2_;(try clear hb);(try clear hkp);(try clear ho0)))
        go_roundg k1
        case measure=>have:=HK1.out;omega
        case rel=>exact⟨(t454),(wrap64 (x10_1+1)),(by first|rfl|(simp;done)|(simp [*];done)),H',⟨by have:=HK1.out;omega⟩,⟨by(with_reducible repeat(first|apply Kd.R_alloc|apply Kd.R_drewN|apply Kd.R_drew));exact HO456.out⟩,⟨by repeat(first|(with_reducible first|exact HB.out|apply below_alloc|apply pw_below_drewN|apply below_drew1|refine below_set ?_ GE447.out)|exact HB.out)⟩⟩
       ·rw [if_neg c26] at H
        have c26b0:(((rd_T79 l0 x10_1).f1)==a1)=false:=beq_eq_false_iff_ne.mpr c26
        have c26b1:(((rd_T79 l0 x10_1).f1) !=a1)=true:=bne_iff_ne.mpr c26
        have H':=Aside0.mk H
        clear H
        have p446: 0≤ (x10_1:Int):=of_decide_eq_true zq1
        have q446:x10_1< (l0.length:Int):=of_decide_eq_true zq1
        obtain⟨ad446,e446,hx446_0,hx446_1,hx446_2⟩:=at_T79 HR0.out x10_1 p446 q446
        cases e446
        replace hx446_0:=(HB.out.cell (World.block_lt_of_cell? w _ hx446_0)).trans hx446_0
        replace hx446_1:=(HB.out.cell (World.block_lt_of_cell? w _ hx446_1)).trans hx446_1
        replace hx446_2:=(HB.out.cell (World.block_lt_of_cell? w _ hx446_2)).trans hx446_2
        replace p446:=eq_true p446
        replace q446:=eq_true q446
        go_wp2_with (first|((with_reducible refine gate_dst (N:=7) rfl ?_);refine box_event ?hg (N:=7) ?hd (cs:= #[.int .i64 0,.int .i64 0,.int .i64 0]) (t:=79) ?hr ?_;(case hd=>rfl);(case hg=>rfl);(case hr=>first|(go_simp;done)|(go_simp;rfl));intro gb447 hg w34 hbox hb;have n0_:=Aside0.mk (Kd.R_below (zq4 HO_5) hb);have n1_:=Aside0.mk (below_step (zb0 HB) hb);have n2_:=Aside0.mk (hbox);have n3_:=Aside0.mk ((by rw [hg];exact(below_size (zb0 HB)):w.heap.size≤gb447));have n4_:=Aside0.mk ((by rw [hg];exact(below_size (zb0 HB)):w.heap.size≤gb447));clear HO_5;clear HB;have HO_5:=n0_;have HB:=n1_;have BK447:=n2_;have GW447:=n3_;have GE447:=n4_;clear n0_ n1_ n2_ n3_ n4_;clear hb hbox hg;have hcz35_0:w34.cell? ⟨gb447,0,none⟩=some (.int .i64 0):=(blk_cell BK447.out 0).trans rfl;have hcz35_1:w34.cell? ⟨gb447,1,none⟩=some (.int .i64 0):=(blk_cell BK447.out 1).trans rfl;have hcz35_2:w34.cell? ⟨gb447,2,none⟩=some (.int .i64 0):=(blk_cell BK447.out 2).trans rfl;have hfz35_0:=blk_frozen BK447.out 0;have hfz35_1:=blk_frozen BK447.out 1;have hfz35_2:=blk_frozen BK447.out 2))
        go_roundg k1
        case measure=>have:=HK1.out;omega
        case rel=>exact⟨(x5_1),(wrap64 (x10_1+1)),(by first|rfl|(simp;done)|(simp [*];done)),H',⟨by have:=HK1.out;omega⟩,⟨by(with_reducible repeat(first|apply Kd.R_alloc|apply Kd.R_drewN|apply Kd.R_drew));exact Kd.R_mono (Kd.R_far (p:=⟨gb447,2,none⟩) (Kd.R_far (p:=⟨gb447,1,none⟩) (Kd.R_far (p:=⟨gb447,0,none⟩) (Kd.R_types HO_5.out BK447.out (by decide)) (fun _ hk=>hk.2) (.int .i64 ((rd_T79 l0 x10_1).f0))) (fun _ hk=>hk.2) (.int .i64 ((rd_T79 l0 x10_1).f1))) (fun _ hk=>hk.2) (.int .i64 ((rd_T79 l0 x10_1).f2))) (fun _ hk=>trivial)⟩,⟨by repeat(first|(with_reducible first|exact HB.out|apply below_alloc|apply pw_below_drewN|apply below_drew1|refine below_set ?_ GE447.out)|exact HB.out)⟩⟩
     ·rw [if_neg c5] at H
      exact absurd H (by simp)
    ·rw [if_neg c4] at H
     exact absurd H (by simp)
   ·rw [if_neg c3] at H
    have c3b0:decide (x10_1< (l0.length:Int))=false:=decide_eq_false c3
    clear c3
    obtain rfl:=Option.some.inj H
    go_wp2
    go_ret
    exact⟨_,by first|rfl|(simp [errW_none,errW_some]<;>rfl)|(simp [*,errW_none,errW_some]<;>rfl),by(with_reducible repeat(first|apply Kd.R_alloc|apply Kd.R_drewN|apply Kd.R_drew));exact HO_5.out,by repeat(first|(with_reducible first|exact HB.out|apply below_alloc|apply pw_below_drewN|apply below_drew1)|exact HB.out)⟩
end Go.Proofs.Ytedegfbheihopaa.P
