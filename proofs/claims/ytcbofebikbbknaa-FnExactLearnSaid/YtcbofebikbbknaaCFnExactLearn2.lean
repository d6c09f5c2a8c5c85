/- Functions, walks and plain lemmas that the law FnExactLearn reaches, part 2. -/
import Derived.Test.YtcbofebikbbknaaCFnExactLearn1
import Derived.WalkKit
import Derived.ProofKit
import Derived.OpenShut
import Derived.ChangeOld
import Derived.Below
import Derived.SizedLaws
import Derived.ChangeArms
import Derived.DataElems
import Derived.Deep.Draws
import Derived.Deep.AppendLies
import Derived.Maps.AppendAt
import Derived.OwnWalk
import Derived.Laws.BytesArg
import Derived.Laws.MakeOwn
import Derived.Laws.OwnMore
import Derived.Deep.OwnRows
import Derived.Tactics
import Derived.Lib.ConvBytes
import Derived.Laws.Slices
import Derived.KernelRfl
import Derived.RowKit3
import Derived.Deep.LoopGhost
import Derived.Deep.QuietTactic
import Derived.BigQuiet
import Derived.WideLaws
import Derived.Deep.DeepCutAuto
import Derived.Deep.CutBlock
import Derived.Deep.RegionHeld3
import Derived.Laws.Rows
import Derived.Lib.AppendStr
import Derived.ArgAppend
import Derived.Laws.IdiomCopy
import Derived.OrdersHeld
import Derived.Laws.BitsLemmas
import Derived.RowKit
import Derived.WalkSpells
import Derived.Lib.SliceRun
import Derived.Shelf.Abstract
import Derived.ShutString
namespace Go.Proofs.Ytcbofebikbbknaa.P
open Go.RowKit Go.Proofs.YtcbofebikbbknaaW.PrintWords Go.Proofs.YtcbofebikbbknaaW.PrintLast Go.Proofs.YtcbofebikbbknaaW.PrintMore
attribute [local go_sem] max2_int min2_int max_two min_two max_three min_three max_four min_four   -- for this text's walks alone
set_option linter.unusedVariables false
set_option linter.unusedSimpArgs false
mutual
def spec_GoodTable.l0:Nat→List (S53)→Int→Int→Int→List (S53)→Option (Bool)
 | 0,_,_,_,_,_=>none
 |k+1,x8,x9,x10,x155000,x155001=>if x10<x9 then(if 0≤x10 then(if x10< (x8.length:Int) then((spec_l13Row.f ((rd_T53 x8 x10).f0) ((rd_T53 x8 x10).f1) ((rd_T53 x8 x10).f2)).bind fun t158=>(if t158=true then(if x10 > 0 then(if 0≤ (wrap64 (x10 - 1)) then(if (wrap64 (x10 - 1))< (x155001.length:Int) then(spec_GoodTable.j1 k x10 x8 x9 x10 (decide (((rd_T53 x155001 (wrap64 (x10 - 1))).f2)< ((rd_T53 x8 x10).f2))) x155000 x155001 ((rd_T53 x8 x10).f0) ((rd_T53 x8 x10).f1) ((rd_T53 x8 x10).f2)) else(none)) else(none)) else(spec_GoodTable.j1 k x10 x8 x9 x10 false x155000 x155001 ((rd_T53 x8 x10).f0) ((rd_T53 x8 x10).f1) ((rd_T53 x8 x10).f2))) else(spec_GoodTable.j1 k x10 x8 x9 x10 true x155000 x155001 ((rd_T53 x8 x10).f0) ((rd_T53 x8 x10).f1) ((rd_T53 x8 x10).f2)))) else(none)) else(none)) else((spec_l1In.f x155000 1 8).bind fun t155=>(if t155=true then(some (decide ((x155001.length:Int)≤x155000))) else(some false)))
def spec_GoodTable.j1:Nat→Int→List (S53)→Int→Int→Bool→Int→List (S53)→Int→Int→Int→Option (Bool)
 | 0,_,_,_,_,_,_,_,_,_,_=>none
 |k+1,x3,x8,x9,x10,x33,x155000,x155001,x158000,x158001,x158002=>if x33=true then(some false) else(if 0≤x3 then(if x3≤ (x155001.length:Int) then((some (x155001.take (x3:Int).toNat:List (S53))).bind fun y160=>(spec_GoodTable.l1 k x8 x9 x10 y160 (y160.length:Int) 0 x155000 x155001 x158000 x158001 x158002)) else(none)) else(none))
def spec_GoodTable.l1:Nat→List (S53)→Int→Int→List (S53)→Int→Int→Int→List (S53)→Int→Int→Int→Option (Bool)
 | 0,_,_,_,_,_,_,_,_,_,_,_=>none
 |k+1,x8,x9,x10,x37,x38,x39,x155000,x155001,x158000,x158001,x158002=>if x39<x38 then(if 0≤x39 then(if x39< (x37.length:Int) then(if ((rd_T53 x37 x39).f0)=x158000 then(some false) else(spec_GoodTable.l1 k x8 x9 x10 x37 x38 (wrap64 (x39+1)) x155000 x155001 x158000 x158001 x158002)) else(none)) else(none)) else(spec_GoodTable.l0 k x8 x9 (wrap64 (x10+1)) x155000 x155001)
end
def spec_GoodTable.f (k:Nat) (a0_0:Int) (l0_1:List (S53)):Option (Bool):=spec_GoodTable.l0 k l0_1 (l0_1.length:Int) 0 a0_0 l0_1
def spec_GoodTable.T4:Bool × List (List Nat × List Nat):=(true,[([],[]),([0],[0]),([1],[1]),([2,1],[2]),([3],[3]),([4,3],[3,4]),([5,3,3],[3,5]),([6],[6]),([7,6],[6,7]),([6],[6]),([9,6],[6,9]),([8,10,6],[6,8,10]),([11,6],[6,11]),([12,6],[6,12]),([6],[6]),([14,6],[6,14]),([13,15,6],[6,13,15]),([6,16,3],[3,6,16]),([3,17],[3,17])])
def spec_GoodTable.B4:List Nat:= [0,1,3,7,15,31,63,127,255,127,639,2047,4095,8191,127,16511,65535,131071,262143]
theorem spec_GoodTable.tab4:rtab .any (opsOf Try.f18 4)=spec_GoodTable.T4:=by kernel_rfl
theorem spec_GoodTable.bits4:waitsOk spec_GoodTable.T4.2 spec_GoodTable.B4=true:=by kernel_rfl
abbrev f':=false
abbrev t':=true
theorem z5 {α :Type} (l:List α) (i:Nat) (a: α):l.toArray.setIfInBounds i a= (l.set i a).toArray:=List.setIfInBounds_toArray ..
theorem z6 {α :Type} (a b: α) (l:List α):(a::l).set 0 b=b::l:=rfl
theorem z7 {α :Type} (a b: α) (l:List α) (n:Nat):(a::l).set (n+1) b=a::l.set n b:=rfl
set_option maxHeartbeats 8000000 in
set_option maxRecDepth 100000 in
theorem spec_GoodTable.calls (k:Nat) (a0_0:Int) (A0_1:Option Addr) (c0_1:Nat) (l0_1:List (S53)) (r:Bool) (w:World) (hr0_1:Kd.C k53 w A0_1 l0_1.length l0_1) (hc0_1:l0_1.length≤c0_1) (h:spec_GoodTable.f k a0_0 l0_1=some r):
  Calls Try.prog 18 #[.agg #[.int .i64 a0_0,.slice A0_1 l0_1.length c0_1]] w fun e w'=>e= .returned (.bool r)∧Below w.heap.size w w':=by
 have hu24:=Try.underlying24
 have hu53:=Try.underlying53
 have HR0_1:=Aside0.mk hr0_1
 have HC0_1:=Aside0.mk hc0_1
 clear hr0_1 hc0_1
 have HB:=Aside0.mk (Below.refl w.heap.size w)
 have H:(spec_GoodTable.l0 k l0_1 (l0_1.length:Int) 0 a0_0 l0_1)=some r:=h
 clear h
 have H':=Aside0.mk H
 clear H
 go_enter Try.func18,Try.ntmps18
 go_wp2_with (first|((with_reducible refine gate_dst (N:=1) rfl ?_);(try(refine gate_guard (by rfl) ?_;dsimp only));refine box_event ?hg (N:=1) ?hd (cs:= #[.int .i64 a0_0,.slice A0_1 l0_1.length c0_1]) (t:=24) ?hr ?_;(case hd=>rfl);(case hg=>rfl);(case hr=>first|(go_simp;done)|(go_simp;rfl));intro gb154 hg w2 hbox hb;have n0_:=Aside0.mk (below_step (zb0 HB) hb);have n1_:=Aside0.mk (hbox);have n2_:=Aside0.mk ((by rw [hg];exact(below_size (zb0 HB)):w.heap.size≤gb154));have n3_:=Aside0.mk ((by rw [hg];exact(below_size (zb0 HB)):w.heap.size≤gb154));clear HB;have HB:=n0_;have BK154:=n1_;have GW154:=n2_;have GE154:=n3_;clear n0_ n1_ n2_ n3_;clear hb hbox hg;have hcz3_0:w2.cell? ⟨gb154,0,none⟩=some (.int .i64 a0_0):=(blk_cell BK154.out 0).trans rfl;have hcz3_1:w2.cell? ⟨gb154,1,none⟩=some (.slice A0_1 l0_1.length c0_1):=(blk_cell BK154.out 1).trans rfl;have hfz3_0:=blk_frozen BK154.out 0;have hfz3_1:=blk_frozen BK154.out 1))
 go_loopg [10] k (fun kq v10 w'=> ∃ (x10_1:Int),v10= .int .i64 x10_1∧Aside0 (spec_GoodTable.l0 kq l0_1 (l0_1.length:Int) x10_1 a0_0 l0_1=some r)∧Aside0 (kq≤k)∧Aside0 (w'.heap[gb154]?=some (.cells #[.int .i64 a0_0,(.slice A0_1 l0_1.length c0_1)] 24 (0,0)))∧Aside0 (Below w.heap.size w w'))
 case atStart=>exact⟨(0),(by first|rfl|(simp;done)|(simp [*];done)),H',⟨Nat.le_refl _⟩,⟨by(with_reducible repeat(first|refine blk_drewN ?_ _|refine blk_drew ?_ |refine blk_alloc ?_ _));exact BK154.out⟩,⟨by repeat(first|(with_reducible first|exact HB.out|apply below_alloc|apply pw_below_drewN|apply below_drew1|refine below_set ?_ GE154.out)|exact HB.out)⟩⟩
 case round=>
  clear H'
  try clear c1
  try clear p2
  try clear hcz3_0
  try clear hcz3_1
  try clear hfz3_0
  try clear hfz3_1
  obtain⟨x10_1,rfl,HA,HK1,BK154,HB⟩:=hrel
  cases gk with
  |zero=>exact absurd HA.out (by simp [spec_GoodTable.l0])
  |succ k1=>
   have H:=HA.out
   clear HA
   simp only [spec_GoodTable.l0] at H
   by_cases c4:x10_1< (l0_1.length:Int)
   ·rw [if_pos c4] at H
    have c4b0:decide (x10_1< (l0_1.length:Int))=true:=decide_eq_true c4
    clear c4
    by_cases c5: 0≤x10_1
    ·rw [if_pos c5] at H
     have c5b0:decide (0≤x10_1)=true:=decide_eq_true c5
     clear c5
     by_cases c6:x10_1< (l0_1.length:Int)
     ·rw [if_pos c6] at H
      have c6b0:decide (x10_1< (l0_1.length:Int))=true:=decide_eq_true c6
      clear c6
      have HC7:=Aside0.mk H
      clear H
      have p156: 0≤ (x10_1:Int):=of_decide_eq_true z1
      have q156:x10_1< (l0_1.length:Int):=of_decide_eq_true z1
      obtain⟨ad156,e156,hx156_0,hx156_1,hx156_2⟩:=at_T53 HR0_1.out x10_1 p156 q156
      cases e156
      replace hx156_0:=(HB.out.cell (World.block_lt_of_cell? w _ hx156_0)).trans hx156_0
      replace hx156_1:=(HB.out.cell (World.block_lt_of_cell? w _ hx156_1)).trans hx156_1
      replace hx156_2:=(HB.out.cell (World.block_lt_of_cell? w _ hx156_2)).trans hx156_2
      replace p156:=eq_true p156
      replace q156:=eq_true q156
      go_upto_region 4 with (first|((with_reducible refine gate_dst (N:=4) rfl ?_);(try(refine gate_guard (by rfl) ?_;dsimp only));refine box_event ?hg (N:=4) ?hd (cs:= #[.int .i64 0,.int .i64 0,.int .i64 0]) (t:=53) ?hr ?_;(case hd=>rfl);(case hg=>rfl);(case hr=>first|(go_simp;done)|(go_simp;rfl));intro gb157 hg w8 hbox hb;have n0_:=Aside0.mk (blk_below (g:=gb154) (o:= .cells #[.int .i64 a0_0,.slice (some ad156) l0_1.length c0_1] 24 (0,0)) (z3 BK154) hb);have n1_:=Aside0.mk (below_step (zb1 HB GE154) hb);have n2_:=Aside0.mk (hbox);have n3_:=Aside0.mk ((by rw [hg];exact(below_size (zb1 HB GE154)):w.heap.size≤gb157));have n4_:=Aside0.mk ((by rw [hg];exact(below_size (zb1 HB GE154)):w.heap.size≤gb157));have n5_:=Aside0.mk ((by rw [hg];exact Nat.ne_of_lt (blk_lt (g:=gb154) (o:= .cells #[.int .i64 a0_0,.slice (some ad156) l0_1.length c0_1] 24 (0,0)) (z3 BK154)):gb154≠gb157));have n6_:=Aside0.mk ((by rw [hg];exact Nat.ne_of_gt (blk_lt (g:=gb154) (o:= .cells #[.int .i64 a0_0,.slice (some ad156) l0_1.length c0_1] 24 (0,0)) (z3 BK154)):gb157≠gb154));clear BK154;clear HB;have BK154:=n0_;have HB:=n1_;have BK157:=n2_;have GW157:=n3_;have GE157:=n4_;have NB154_157:=n5_;have NB157_154:=n6_;clear n0_ n1_ n2_ n3_ n4_ n5_ n6_;clear hb hbox hg;have hnb9:=NB157_154.out;have hnc9:=NB154_157.out;have hcz10_0:w8.cell? ⟨gb157,0,none⟩=some (.int .i64 0):=(blk_cell BK157.out 0).trans rfl;have hcz10_1:w8.cell? ⟨gb157,1,none⟩=some (.int .i64 0):=(blk_cell BK157.out 1).trans rfl;have hcz10_2:w8.cell? ⟨gb157,2,none⟩=some (.int .i64 0):=(blk_cell BK157.out 2).trans rfl;have hfz10_0:=blk_frozen BK157.out 0;have hfz10_1:=blk_frozen BK157.out 1;have hfz10_2:=blk_frozen BK157.out 2))
      (try simp only [Act.put,z5,z6,z7])
      go_cut [33] (fun v33 wc=> ∃ (kq:Nat) (x33_6:Bool),v33= .bool x33_6∧Aside0 (spec_GoodTable.j1 kq x10_1 l0_1 (l0_1.length:Int) x10_1 x33_6 a0_0 l0_1 ((rd_T53 l0_1 x10_1).f0) ((rd_T53 l0_1 x10_1).f1) ((rd_T53 l0_1 x10_1).f2)=some r)∧Aside0 (kq≤k1)∧Aside0 (wc.heap[gb154]?=some (.cells #[.int .i64 a0_0,(.slice (some ad156) l0_1.length c0_1)] 24 (0,0)))∧Aside0 (wc.heap[gb157]?=some (.cells #[.int .i64 ((rd_T53 l0_1 x10_1).f0),.int .i64 ((rd_T53 l0_1 x10_1).f1),.int .i64 ((rd_T53 l0_1 x10_1).f2)] 53 (0,0)))∧Aside0 (Below w.heap.size w wc))
      case first=>
       have H:=HC7.out
       clear HC7
       replace H:=Option.bind_eq_some_iff.mp H
       obtain⟨t158,A110,H⟩:=H
       replace H:(if t158=true then(if x10_1 > 0 then(if 0≤ (wrap64 (x10_1 - 1)) then(if (wrap64 (x10_1 - 1))< (l0_1.length:Int) then(spec_GoodTable.j1 k1 x10_1 l0_1 (l0_1.length:Int) x10_1 (decide (((rd_T53 l0_1 (wrap64 (x10_1 - 1))).f2)< ((rd_T53 l0_1 x10_1).f2))) a0_0 l0_1 ((rd_T53 l0_1 x10_1).f0) ((rd_T53 l0_1 x10_1).f1) ((rd_T53 l0_1 x10_1).f2)) else(none)) else(none)) else(spec_GoodTable.j1 k1 x10_1 l0_1 (l0_1.length:Int) x10_1 false a0_0 l0_1 ((rd_T53 l0_1 x10_1).f0) ((rd_T53 l0_1 x10_1).f1) ((rd_T53 l0_1 x10_1).f2))) else(spec_GoodTable.j1 k1 x10_1 l0_1 (l0_1.length:Int) x10_1 true a0_0 l0_1 ((rd_T53 l0_1 x10_1).f0) ((rd_T53 l0_1 x10_1).f1) ((rd_T53 l0_1 x10_1).f2)))=some r:=H
       have A11:=Aside0.mk A110
       clear A110
       by_cases c12:t158=true
       ·subst c12
        have H1:(if x10_1 > 0 then(if 0≤ (wrap64 (x10_1 - 1)) then(if (wrap64 (x10_1 - 1))< (l0_1.length:Int) then(spec_GoodTable.j1 k1 x10_1 l0_1 (l0_1.length:Int) x10_1 (decide (((rd_T53 l0_1 (wrap64 (x10_1 - 1))).f2)< ((rd_T53 l0_1 x10_1).f2))) a0_0 l0_1 ((rd_T53 l0_1 x10_1).f0) ((rd_T53 l0_1 x10_1).f1) ((rd_T53 l0_1 x10_1).f2)) else(none)) else(none)) else(spec_GoodTable.j1 k1 x10_1 l0_1 (l0_1.length:Int) x10_1 false a0_0 l0_1 ((rd_T53 l0_1 x10_1).f0) ((rd_T53 l0_1 x10_1).f1) ((rd_T53 l0_1 x10_1).f2)))=some r:=by rw [if_pos rfl] at H;exact H
        clear H
        have H:=H1
        clear H1
        by_cases c13:x10_1 > 0
        ·rw [if_pos c13] at H
         have c13b0:decide (0<x10_1)=true:=decide_eq_true c13
         clear c13
         (first|rw [c13b0]|(simp only [i64_w,i32_w];rw [c13b0])|skip)
         obtain⟨ji14,hji14⟩ :∃ j_:Int,(wrap64 (x10_1 - 1))=j_:=⟨_,rfl⟩
         replace H:(if 0≤ (ji14) then(if (ji14)< (l0_1.length:Int) then(spec_GoodTable.j1 k1 x10_1 l0_1 (l0_1.length:Int) x10_1 (decide (((rd_T53 l0_1 (ji14)).f2)< ((rd_T53 l0_1 x10_1).f2))) a0_0 l0_1 ((rd_T53 l0_1 x10_1).f0) ((rd_T53 l0_1 x10_1).f1) ((rd_T53 l0_1 x10_1).f2)) else(none)) else(none))=some r:=by first|(rw [hji14] at H;exact H)|(simp only [hji14] at H ⊢;exact H)
         (try rw [hji14] at A11)
         have hji14w:(IntKind.i64.wrap (x10_1 - 1))=ji14:=(i64_w _).trans hji14
         by_cases c15: 0≤ (ji14)
         ·rw [if_pos c15] at H
          have c15b0:decide (0≤ (ji14))=true:=decide_eq_true c15
          clear c15
          by_cases c16:(ji14)< (l0_1.length:Int)
          ·rw [if_pos c16] at H
           have c16b0:decide ((ji14)< (l0_1.length:Int))=true:=decide_eq_true c16
           clear c16
           have H':=Aside0.mk H
           clear H
           try go_wp2
           have n0_:Aside0 ((((w8.setCell ⟨gb157,0,none⟩ (.int .i64 ((rd_T53 l0_1 x10_1).f0))).setCell ⟨gb157,1,none⟩ (.int .i64 ((rd_T53 l0_1 x10_1).f1))).setCell ⟨gb157,2,none⟩ (.int .i64 ((rd_T53 l0_1 x10_1).f2))).heap[gb154]?=some (.cells #[.int .i64 a0_0,.slice (some ad156) l0_1.length c0_1] 24 (0,0))):=⟨by(with_reducible repeat(first|refine blk_drewN ?_ _|refine blk_drew ?_ |refine blk_alloc ?_ _));refine blk_far ?_ NB154_157.out _;(with_reducible repeat(first|refine blk_drewN ?_ _|refine blk_drew ?_ |refine blk_alloc ?_ _));refine blk_far ?_ NB154_157.out _;(with_reducible repeat(first|refine blk_drewN ?_ _|refine blk_drew ?_ |refine blk_alloc ?_ _));refine blk_far ?_ NB154_157.out _;(with_reducible repeat(first|refine blk_drewN ?_ _|refine blk_drew ?_ |refine blk_alloc ?_ _));exact BK154.out⟩
           have n1_:Aside0 ((((w8.setCell ⟨gb157,0,none⟩ (.int .i64 ((rd_T53 l0_1 x10_1).f0))).setCell ⟨gb157,1,none⟩ (.int .i64 ((rd_T53 l0_1 x10_1).f1))).setCell ⟨gb157,2,none⟩ (.int .i64 ((rd_T53 l0_1 x10_1).f2))).heap[gb157]?=some (.cells #[.int .i64 ((rd_T53 l0_1 x10_1).f0),.int .i64 ((rd_T53 l0_1 x10_1).f1),.int .i64 ((rd_T53 l0_1 x10_1).f2)] 53 (0,0))):=⟨by(with_reducible repeat(first|refine blk_drewN ?_ _|refine blk_drew ?_ |refine blk_alloc ?_ _));refine blk_put (cs:= #[.int .i64 ((rd_T53 l0_1 x10_1).f0),.int .i64 ((rd_T53 l0_1 x10_1).f1),.int .i64 0]) ?_ 2 _ rfl;(with_reducible repeat(first|refine blk_drewN ?_ _|refine blk_drew ?_ |refine blk_alloc ?_ _));refine blk_put (cs:= #[.int .i64 ((rd_T53 l0_1 x10_1).f0),.int .i64 0,.int .i64 0]) ?_ 1 _ rfl;(with_reducible repeat(first|refine blk_drewN ?_ _|refine blk_drew ?_ |refine blk_alloc ?_ _));refine blk_put (cs:= #[.int .i64 0,.int .i64 0,.int .i64 0]) ?_ 0 _ rfl;(with_reducible repeat(first|refine blk_drewN ?_ _|refine blk_drew ?_ |refine blk_alloc ?_ _));exact BK157.out⟩
           have n2_:Aside0 (Below w.heap.size w (((w8.setCell ⟨gb157,0,none⟩ (.int .i64 ((rd_T53 l0_1 x10_1).f0))).setCell ⟨gb157,1,none⟩ (.int .i64 ((rd_T53 l0_1 x10_1).f1))).setCell ⟨gb157,2,none⟩ (.int .i64 ((rd_T53 l0_1 x10_1).f2)))):=⟨by repeat(first|(with_reducible first|exact HB.out|apply below_alloc|apply pw_below_drewN|apply below_drew1|refine below_set ?_ GE154.out|refine below_set ?_ GE157.out)|exact HB.out)⟩
           (try clear BK154)
           (try clear BK157)
           (try clear HB)
           (try simp only [show ∀ (W_:World) (n_:Nat) (a_:Addr) (v_:Value),(World.drewN W_ n_).setCell a_ v_= (World.setCell W_ a_ v_).drewN n_ from fun _ _ _ _=>rfl])
           generalize (((w8.setCell ⟨gb157,0,none⟩ (.int .i64 ((rd_T53 l0_1 x10_1).f0))).setCell ⟨gb157,1,none⟩ (.int .i64 ((rd_T53 l0_1 x10_1).f1))).setCell ⟨gb157,2,none⟩ (.int .i64 ((rd_T53 l0_1 x10_1).f2)))=w17 at n0_ n1_ n2_ ⊢
           have BK154:=n0_
           have BK157:=n1_
           have HB:=n2_
           clear n0_ n1_ n2_
           have n0_:=Aside0.mk (blk_drew BK154.out)
           have n1_:=Aside0.mk (blk_drew BK157.out)
           have n2_:=Aside0.mk (below_drew1 HB.out)
           clear BK154
           clear BK157
           clear HB
           have BK154:=n0_
           have BK157:=n1_
           have HB:=n2_
           clear n0_ n1_ n2_
           have p159: 0≤ ((ji14):Int):=of_decide_eq_true z1
           have q159:(ji14)< (l0_1.length:Int):=of_decide_eq_true z1
           obtain⟨ad159,e159,hx159_0,hx159_1,hx159_2⟩:=at_T53 HR0_1.out (ji14) p159 q159
           have hw159_2:=hx159_2
           have hw159_1:=hx159_1
           have hw159_0:=hx159_0
           obtain rfl:ad156=ad159:=(by injection e159)
           replace hx159_0:=(HB.out.cell (World.block_lt_of_cell? w _ hx159_0)).trans hx159_0
           replace hx159_1:=(HB.out.cell (World.block_lt_of_cell? w _ hx159_1)).trans hx159_1
           replace hx159_2:=(HB.out.cell (World.block_lt_of_cell? w _ hx159_2)).trans hx159_2
           replace p159:=eq_true p159
           replace q159:=eq_true q159
           refine start_ (n:=19) (S:=fun w'=>w'.cell? ⟨gb157,0,none⟩=some (.int .i64 ((rd_T53 l0_1 x10_1).f0))∧w'.cell? ⟨gb157,1,none⟩=some (.int .i64 ((rd_T53 l0_1 x10_1).f1))∧w'.cell? ⟨gb157,2,none⟩=some (.int .i64 ((rd_T53 l0_1 x10_1).f2))∧w'.cell? ⟨gb154,0,none⟩=some (.int .i64 a0_0)∧w'.cell? ⟨gb154,1,none⟩=some (.slice (some ad156) l0_1.length c0_1)∧w'.cell? (ad156.add (((ji14)).toNat * 3))=some (.int .i64 ((rd_T53 l0_1 (ji14)).f0))∧w'.cell? ⟨(ad156.add (((ji14)).toNat * 3)).block,(ad156.add (((ji14)).toNat * 3)).off+1,none⟩=some (.int .i64 ((rd_T53 l0_1 (ji14)).f1))∧w'.cell? ⟨(ad156.add (((ji14)).toNat * 3)).block,(ad156.add (((ji14)).toNat * 3)).off+2,none⟩=some (.int .i64 ((rd_T53 l0_1 (ji14)).f2))) (ds:= []) #[f',f',f',f',f',f',f',f',f',f',f',f',f',f',f',f',f',f',f'] (by kernel_rfl) rfl rfl ⟨(blk_cell BK157.out 0).trans rfl,(blk_cell BK157.out 1).trans rfl,(blk_cell BK157.out 2).trans rfl,(blk_cell BK154.out 0).trans rfl,(blk_cell BK154.out 1).trans rfl,((HB.out.cell (World.block_lt_of_cell? w _ hw159_0)).trans hw159_0),((HB.out.cell (World.block_lt_of_cell? w _ hw159_1)).trans hw159_1),((HB.out.cell (World.block_lt_of_cell? w _ hw159_2)).trans hw159_2)⟩ (fun hHeld=>?_);refine with_tabW spec_GoodTable.tab4 spec_GoodTable.bits4 (fun HT_ HW_=>?_)
           generalize w17.drew=w18 at BK154 BK157 HB hx159_0 hx159_1 hx159_2 hHeld ⊢
           refine take_ (i:=0) (N:=some 15) (v:=?_) (a':=?_) #[t',f',f',f',f',f',f',f',f',f',f',f',f',f',f',f',f',f',f'] rfl rfl (take_ofW HT_.out HW_.out (by kernel_rfl)) (fun _ _ _ h=>h) (Or.inl ⟨by rfl,?_⟩) hHeld ?_ ?_
           rotate_left
           ·rintro w' ⟨s0,s1,s2,s3,s4,s5,s6,s7⟩
            go_simp
            with_reducible rfl
           rotate_left
           ·simp only [Act.put,z5,z6,z7,i64_w,i32_w]
            rfl
           refine one_ (i:=1) (N:=some 16) #[t',t',f',f',f',f',f',f',f',f',f',f',f',f',f',f',f',f',f'] rfl rfl (one_of HT_.out (by kernel_rfl)) (by decide) (fun K hK=>?_)
           refine goes_ Try.func44 (by kernel_rfl) rfl #[.agg #[.int .i64 ((rd_T53 l0_1 x10_1).f0),.int .i64 ((rd_T53 l0_1 x10_1).f1),.int .i64 ((rd_T53 l0_1 x10_1).f2)]] (by rfl) rfl rfl z2 ?_
           with_reducible refine(spec_l13Row.calls ((rd_T53 l0_1 x10_1).f0) ((rd_T53 l0_1 x10_1).f1) ((rd_T53 l0_1 x10_1).f2) true _ A11.out).mono ?_
           rintro e w19 ⟨rfl,hb⟩
           refine⟨_,rfl,?_⟩
           have n0_:=Aside0.mk (blk_below (g:=gb154) (o:= .cells #[.int .i64 a0_0,.slice (some ad156) l0_1.length c0_1] 24 (0,0)) (z3 BK154) hb)
           have n1_:=Aside0.mk (blk_below (g:=gb157) (o:= .cells #[.int .i64 ((rd_T53 l0_1 x10_1).f0),.int .i64 ((rd_T53 l0_1 x10_1).f1),.int .i64 ((rd_T53 l0_1 x10_1).f2)] 53 (0,0)) (z3 BK157) hb)
           have n2_:=Aside0.mk (below_step (zb2 HB GE154 GE157) hb)
           clear BK154
           clear BK157
           clear HB
           have BK154:=n0_
           have BK157:=n1_
           have HB:=n2_
           clear n0_ n1_ n2_
           (try clear hb)
           (try clear hb2)
           (try clear hk)
           (try clear hi)
           refine hK.out _ _ ⟨(blk_cell BK157.out 0).trans rfl,(blk_cell BK157.out 1).trans rfl,(blk_cell BK157.out 2).trans rfl,(blk_cell BK154.out 0).trans rfl,(blk_cell BK154.out 1).trans rfl,((HB.out.cell (World.block_lt_of_cell? w _ hw159_0)).trans hw159_0),((HB.out.cell (World.block_lt_of_cell? w _ hw159_1)).trans hw159_1),((HB.out.cell (World.block_lt_of_cell? w _ hw159_2)).trans hw159_2)⟩ (fun hHeld=>?_)
           clear hK K
           refine norm_ (a':=?_) ?_ ?_
           rotate_left
           ·show Act.put _ (some 16) _=_
            simp only [Act.put,z5,z6,z7,i64_w,i32_w]
            rfl
           refine pure_ (i:=2) (N:=some 17) (v:=?_) (a':=?_) #[t',t',t',f',f',f',f',f',f',f',f',f',f',f',f',f',f',f',f'] rfl rfl (any_of HT_.out (by kernel_rfl)) (fun _ _ _ h=>h) (Or.inl ⟨by rfl,?_⟩) ?_ ?_
           rotate_left
           ·intro w'
            go_simp
            with_reducible rfl
           rotate_left
           ·simp only [Act.put,z5,z6,z7,i64_w,i32_w]
            rfl
           refine pure_ (i:=3) (N:=some 18) (v:=?_) (a':=?_) #[t',t',t',t',f',f',f',f',f',f',f',f',f',f',f',f',f',f',f'] rfl rfl (any_of HT_.out (by kernel_rfl)) (fun _ _ _ h=>h) (Or.inl ⟨by rfl,?_⟩) ?_ ?_
           rotate_left
           ·intro w'
            go_simp
            with_reducible rfl
           rotate_left
           ·simp only [Act.put,z5,z6,z7,i64_w,i32_w]
            rfl
           refine pure_ (i:=4) (N:=some 19) (v:=?_) (a':=?_) #[t',t',t',t',t',f',f',f',f',f',f',f',f',f',f',f',f',f',f'] rfl rfl (any_of HT_.out (by kernel_rfl)) (fun _ _ _ h=>h) (Or.inl ⟨by rfl,?_⟩) ?_ ?_
           rotate_left
           ·intro w'
            go_simp
            with_reducible rfl
           rotate_left
           ·simp only [Act.put,z5,z6,z7,i64_w,i32_w]
            rfl
           refine pure_ (i:=5) (N:=some 20) (v:=?_) (a':=?_) #[t',t',t',t',t',t',f',f',f',f',f',f',f',f',f',f',f',f',f'] rfl rfl (any_of HT_.out (by kernel_rfl)) (fun _ _ _ h=>h) (Or.inl ⟨by rfl,?_⟩) ?_ ?_
           rotate_left
           ·intro w'
            go_simp
            with_reducible rfl
           rotate_left
           ·simp only [Act.put,z5,z6,z7,i64_w,i32_w]
            rfl
           refine pure_ (i:=6) (N:=some 21) (v:=?_) (a':=?_) #[t',t',t',t',t',t',t',f',f',f',f',f',f',f',f',f',f',f',f'] rfl rfl (any_of HT_.out (by kernel_rfl)) (fun _ _ _ h=>h) (Or.inl ⟨by rfl,?_⟩) ?_ ?_
           rotate_left
           ·intro w'
            go_simp
            with_reducible rfl
           rotate_left
           ·simp only [Act.put,z5,z6,z7,i64_w,i32_w]
            rfl
           refine pure_ (i:=7) (N:=some 22) (v:=?_) (a':=?_) #[t',t',t',t',t',t',t',t',f',f',f',f',f',f',f',f',f',f',f'] rfl rfl (any_of HT_.out (by kernel_rfl)) (fun _ _ _ h=>h) (Or.inl ⟨by rfl,?_⟩) ?_ ?_
           rotate_left
           ·intro w'
            go_simp
            with_reducible rfl
           rotate_left
           ·simp only [Act.put,z5,z6,z7,i64_w,i32_w]
            rfl
           refine pure_ (i:=9) (N:=some 24) (v:=?_) (a':=?_) #[t',t',t',t',t',t',t',t',f',t',f',f',f',f',f',f',f',f',f'] rfl rfl (any_of HT_.out (by kernel_rfl)) (fun _ _ _ h=>h) (Or.inl ⟨by rfl,?_⟩) ?_ ?_
           rotate_left
           ·intro w'
            go_simp
            with_reducible rfl
           rotate_left
           ·simp only [Act.put,z5,z6,z7,i64_w,i32_w]
            rfl
           refine pure_ (i:=10) (N:=some 25) (v:=?_) (a':=?_) #[t',t',t',t',t',t',t',t',f',t',t',f',f',f',f',f',f',f',f'] rfl rfl (any_of HT_.out (by kernel_rfl)) (fun _ _ _ h=>h) (Or.inl ⟨by rfl,?_⟩) ?_ ?_
           rotate_left
           ·intro w'
            go_simp
            with_reducible rfl
           rotate_left
           ·simp only [Act.put,z5,z6,z7,i64_w,i32_w]
            rfl
           refine pure_ (i:=14) (N:=some 29) (v:=?_) (a':=?_) #[t',t',t',t',t',t',t',t',f',t',t',f',f',f',t',f',f',f',f'] rfl rfl (any_of HT_.out (by kernel_rfl)) (fun _ _ _ h=>h) (Or.inl ⟨by rfl,?_⟩) ?_ ?_
           rotate_left
           ·intro w'
            go_simp
            with_reducible rfl
           rotate_left
           ·simp only [Act.put,z5,z6,z7,i64_w,i32_w]
            rfl
           refine take_ (i:=8) (N:=some 23) (v:=?_) (a':=?_) #[t',t',t',t',t',t',t',t',t',t',t',f',f',f',t',f',f',f',f'] rfl rfl (take_ofW HT_.out HW_.out (by kernel_rfl)) (fun _ _ _ h=>h) (Or.inl ⟨by rfl,?_⟩) hHeld ?_ ?_
           rotate_left
           ·rintro w' ⟨s0,s1,s2,s3,s4,s5,s6,s7⟩
            go_simp
            with_reducible rfl
           rotate_left
           ·simp only [Act.put,z5,z6,z7,i64_w,i32_w]
            rfl
           refine pure_ (i:=11) (N:=some 26) (v:=?_) (a':=?_) #[t',t',t',t',t',t',t',t',t',t',t',t',f',f',t',f',f',f',f'] rfl rfl (any_of HT_.out (by kernel_rfl)) (fun _ _ _ h=>h) (Or.inl ⟨by rfl,?_⟩) ?_ ?_
           rotate_left
           ·intro w'
            go_simp
            with_reducible rfl
           rotate_left
           ·simp only [Act.put,z5,z6,z7,i64_w,i32_w]
            rfl
           refine pure_ (i:=12) (N:=some 27) (v:=?_) (a':=?_) #[t',t',t',t',t',t',t',t',t',t',t',t',t',f',t',f',f',f',f'] rfl rfl (any_of HT_.out (by kernel_rfl)) (fun _ _ _ h=>h) (Or.inl ⟨by rfl,?_⟩) ?_ ?_
           rotate_left
           ·intro w'
            go_simp
            with_reducible rfl
           rotate_left
           ·simp only [Act.put,z5,z6,z7,i64_w,i32_w]
            rfl
           refine take_ (i:=13) (N:=some 28) (v:=?_) (a':=?_) #[t',t',t',t',t',t',t',t',t',t',t',t',t',t',t',f',f',f',f'] rfl rfl (take_ofW HT_.out HW_.out (by kernel_rfl)) (fun _ _ _ h=>h) (Or.inl ⟨by rfl,?_⟩) hHeld ?_ ?_
           rotate_left
           ·rintro w' ⟨s0,s1,s2,s3,s4,s5,s6,s7⟩
            go_simp
            with_reducible rfl
           rotate_left
           ·simp only [Act.put,z5,z6,z7,i64_w,i32_w]
            rfl
           refine take_ (i:=15) (N:=some 30) (v:=?_) (a':=?_) #[t',t',t',t',t',t',t',t',t',t',t',t',t',t',t',t',f',f',f'] rfl rfl (take_ofW HT_.out HW_.out (by kernel_rfl)) (fun _ _ _ h=>h) (Or.inl ⟨by rfl,?_⟩) hHeld ?_ ?_
           rotate_left
           ·rintro w' ⟨s0,s1,s2,s3,s4,s5,s6,s7⟩
            go_simp
            with_reducible rfl
           rotate_left
           ·simp only [Act.put,z5,z6,z7,i64_w,i32_w]
            rfl
           refine pure_ (i:=16) (N:=some 31) (v:=?_) (a':=?_) #[t',t',t',t',t',t',t',t',t',t',t',t',t',t',t',t',t',f',f'] rfl rfl (any_of HT_.out (by kernel_rfl)) (fun _ _ _ h=>h) (Or.inl ⟨by rfl,?_⟩) ?_ ?_
           rotate_left
           ·intro w'
            go_simp
            with_reducible rfl
           rotate_left
           ·simp only [Act.put,z5,z6,z7,i64_w,i32_w]
            rfl
           refine pure_ (i:=17) (N:=some 32) (v:=?_) (a':=?_) #[t',t',t',t',t',t',t',t',t',t',t',t',t',t',t',t',t',t',f'] rfl rfl (any_of HT_.out (by kernel_rfl)) (fun _ _ _ h=>h) (Or.inl ⟨by rfl,?_⟩) ?_ ?_
           rotate_left
           ·intro w'
            go_simp
            with_reducible rfl
           rotate_left
           ·simp only [Act.put,z5,z6,z7,i64_w,i32_w]
            rfl
           refine pure_ (i:=18) (N:=some 33) (v:=?_) (a':=?_) #[t',t',t',t',t',t',t',t',t',t',t',t',t',t',t',t',t',t',t'] rfl rfl (any_of HT_.out (by kernel_rfl)) (fun _ _ _ h=>h) (Or.inl ⟨by rfl,?_⟩) ?_ ?_
           rotate_left
           ·intro w'
            go_simp
            with_reducible rfl
           rotate_left
           ·simp only [Act.put,z5,z6,z7,i64_w,i32_w]
            rfl
           refine done_ (done_of HT_.out (by kernel_rfl)) ?_
           try go_wp2
           go_meet
           case rel=>exact⟨_,(decide (((rd_T53 l0_1 (ji14)).f2)< ((rd_T53 l0_1 x10_1).f2))),(by first|rfl|(simp;done)|(simp only [← hji14]<;>(first|rfl|simp))|(simp [*];done)),H',⟨by have:=HK1.out;first|omega|exact Nat.le_refl _⟩,⟨by(with_reducible repeat(first|refine blk_drewN ?_ _|refine blk_drew ?_ |refine blk_alloc ?_ _));exact BK154.out⟩,⟨by(with_reducible repeat(first|refine blk_drewN ?_ _|refine blk_drew ?_ |refine blk_alloc ?_ _));exact BK157.out⟩,⟨by repeat(first|(with_reducible first|exact HB.out|apply below_alloc|apply pw_below_drewN|apply below_drew1|refine below_set ?_ GE154.out|refine below_set ?_ GE157.out)|exact HB.out)⟩⟩
          ·rw [if_neg c16] at H
           exact absurd H (by simp)
         ·rw [if_neg c15] at H
          exact absurd H (by simp)
        ·rw [if_neg c13] at H
         have c13b0:decide (0<x10_1)=false:=decide_eq_false c13
         clear c13
         (first|rw [c13b0]|(simp only [i64_w,i32_w];rw [c13b0])|skip)
         have H':=Aside0.mk H
         clear H
         try go_wp2
         have n0_:Aside0 ((((w8.setCell ⟨gb157,0,none⟩ (.int .i64 ((rd_T53 l0_1 x10_1).f0))).setCell ⟨gb157,1,none⟩ (.int .i64 ((rd_T53 l0_1 x10_1).f1))).setCell ⟨gb157,2,none⟩ (.int .i64 ((rd_T53 l0_1 x10_1).f2))).heap[gb154]?=some (.cells #[.int .i64 a0_0,.slice (some ad156) l0_1.length c0_1] 24 (0,0))):=⟨by(with_reducible repeat(first|refine blk_drewN ?_ _|refine blk_drew ?_ |refine blk_alloc ?_ _));refine blk_far ?_ NB154_157.out _;(with_reducible repeat(first|refine blk_drewN ?_ _|refine blk_drew ?_ |refine blk_alloc ?_ _));refine blk_far ?_ NB154_157.out _;(with_reducible repeat(first|refine blk_drewN ?_ _|refine blk_drew ?_ |refine blk_alloc ?_ _));refine blk_far ?_ NB154_157.out _;(with_reducible repeat(first|refine blk_drewN ?_ _|refine blk_drew ?_ |refine blk_alloc ?_ _));exact BK154.out⟩
         have n1_:Aside0 ((((w8.setCell ⟨gb157,0,none⟩ (.int .i64 ((rd_T53 l0_1 x10_1).f0))).setCell ⟨gb157,1,none⟩ (.int .i64 ((rd_T53 l0_1 x10_1).f1))).setCell ⟨gb157,2,none⟩ (.int .i64 ((rd_T53 l0_1 x10_1).f2))).heap[gb157]?=some (.cells #[.int .i64 ((rd_T53 l0_1 x10_1).f0),.int .i64 ((rd_T53 l0_1 x10_1).f1),.int .i64 ((rd_T53 l0_1 x10_1).f2)] 53 (0,0))):=⟨by(with_reducible repeat(first|refine blk_drewN ?_ _|refine blk_drew ?_ |refine blk_alloc ?_ _));refine blk_put (cs:= #[.int .i64 ((rd_T53 l0_1 x10_1).f0),.int .i64 ((rd_T53 l0_1 x10_1).f1),.int .i64 0]) ?_ 2 _ rfl;(with_reducible repeat(first|refine blk_drewN ?_ _|refine blk_drew ?_ |refine blk_alloc ?_ _));refine blk_put (cs:= #[.int .i64 ((rd_T53 l0_1 x10_1).f0),.int .i64 0,.int .i64 0]) ?_ 1 _ rfl;(with_reducible repeat(first|refine blk_drewN ?_ _|refine blk_drew ?_ |refine blk_alloc ?_ _));refine blk_put (cs:= #[.int .i64 0,.int .i64 0,.int .i64 0]) ?_ 0 _ rfl;(with_reducible repeat(first|refine blk_drewN ?_ _|refine blk_drew ?_ |refine blk_alloc ?_ _));exact BK157.out⟩
         have n2_:Aside0 (Below w.heap.size w (((w8.setCell ⟨gb157,0,none⟩ (.int .i64 ((rd_T53 l0_1 x10_1).f0))).setCell ⟨gb157,1,none⟩ (.int .i64 ((rd_T53 l0_1 x10_1).f1))).setCell ⟨gb157,2,none⟩ (.int .i64 ((rd_T53 l0_1 x10_1).f2)))):=⟨by repeat(first|(with_reducible first|exact HB.out|apply below_alloc|apply pw_below_drewN|apply below_drew1|refine below_set ?_ GE154.out|refine below_set ?_ GE157.out)|exact HB.out)⟩
         (try clear BK154)
         (try clear BK157)
         (try clear HB)
         (try simp only [show ∀ (W_:World) (n_:Nat) (a_:Addr) (v_:Value),(World.drewN W_ n_).setCell a_ v_= (World.setCell W_ a_ v_).drewN n_ from fun _ _ _ _=>rfl])
         generalize (((w8.setCell ⟨gb157,0,none⟩ (.int .i64 ((rd_T53 l0_1 x10_1).f0))).setCell ⟨gb157,1,none⟩ (.int .i64 ((rd_T53 l0_1 x10_1).f1))).setCell ⟨gb157,2,none⟩ (.int .i64 ((rd_T53 l0_1 x10_1).f2)))=w20 at n0_ n1_ n2_ ⊢
         have BK154:=n0_
         have BK157:=n1_
         have HB:=n2_
         clear n0_ n1_ n2_
         have n0_:=Aside0.mk (blk_drew BK154.out)
         have n1_:=Aside0.mk (blk_drew BK157.out)
         have n2_:=Aside0.mk (below_drew1 HB.out)
         clear BK154
         clear BK157
         clear HB
         have BK154:=n0_
         have BK157:=n1_
         have HB:=n2_
         clear n0_ n1_ n2_
         refine start_ (n:=19) (S:=fun w'=>w'.cell? ⟨gb157,0,none⟩=some (.int .i64 ((rd_T53 l0_1 x10_1).f0))∧w'.cell? ⟨gb157,1,none⟩=some (.int .i64 ((rd_T53 l0_1 x10_1).f1))∧w'.cell? ⟨gb157,2,none⟩=some (.int .i64 ((rd_T53 l0_1 x10_1).f2))) (ds:= []) #[f',f',f',f',f',f',f',f',f',f',f',f',f',f',f',f',f',f',f'] (by kernel_rfl) rfl rfl ⟨(blk_cell BK157.out 0).trans rfl,(blk_cell BK157.out 1).trans rfl,(blk_cell BK157.out 2).trans rfl⟩ (fun hHeld=>?_);refine with_tabW spec_GoodTable.tab4 spec_GoodTable.bits4 (fun HT_ HW_=>?_)
         generalize w20.drew=w21 at BK154 BK157 HB hHeld ⊢
         refine take_ (i:=0) (N:=some 15) (v:=?_) (a':=?_) #[t',f',f',f',f',f',f',f',f',f',f',f',f',f',f',f',f',f',f'] rfl rfl (take_ofW HT_.out HW_.out (by kernel_rfl)) (fun _ _ _ h=>h) (Or.inl ⟨by rfl,?_⟩) hHeld ?_ ?_
         rotate_left
         ·rintro w' ⟨s0,s1,s2⟩
          go_simp
          with_reducible rfl
         rotate_left
         ·simp only [Act.put,z5,z6,z7,i64_w,i32_w]
          rfl
         refine one_ (i:=1) (N:=some 16) #[t',t',f',f',f',f',f',f',f',f',f',f',f',f',f',f',f',f',f'] rfl rfl (one_of HT_.out (by kernel_rfl)) (by decide) (fun K hK=>?_)
         refine goes_ Try.func44 (by kernel_rfl) rfl #[.agg #[.int .i64 ((rd_T53 l0_1 x10_1).f0),.int .i64 ((rd_T53 l0_1 x10_1).f1),.int .i64 ((rd_T53 l0_1 x10_1).f2)]] (by rfl) rfl rfl z2 ?_
         with_reducible refine(spec_l13Row.calls ((rd_T53 l0_1 x10_1).f0) ((rd_T53 l0_1 x10_1).f1) ((rd_T53 l0_1 x10_1).f2) true _ A11.out).mono ?_
         rintro e w22 ⟨rfl,hb⟩
         refine⟨_,rfl,?_⟩
         have n0_:=Aside0.mk (blk_below (g:=gb154) (o:= .cells #[.int .i64 a0_0,.slice (some ad156) l0_1.length c0_1] 24 (0,0)) (z3 BK154) hb)
         have n1_:=Aside0.mk (blk_below (g:=gb157) (o:= .cells #[.int .i64 ((rd_T53 l0_1 x10_1).f0),.int .i64 ((rd_T53 l0_1 x10_1).f1),.int .i64 ((rd_T53 l0_1 x10_1).f2)] 53 (0,0)) (z3 BK157) hb)
         have n2_:=Aside0.mk (below_step (zb2 HB GE154 GE157) hb)
         clear BK154
         clear BK157
         clear HB
         have BK154:=n0_
         have BK157:=n1_
         have HB:=n2_
         clear n0_ n1_ n2_
         (try clear hb)
         (try clear hb2)
         (try clear hk)
         (try clear hi)
         refine hK.out _ _ ⟨(blk_cell BK157.out 0).trans rfl,(blk_cell BK157.out 1).trans rfl,(blk_cell BK157.out 2).trans rfl⟩ (fun hHeld=>?_)
         clear hK K
         refine norm_ (a':=?_) ?_ ?_
         rotate_left
         ·show Act.put _ (some 16) _=_
          simp only [Act.put,z5,z6,z7,i64_w,i32_w]
          rfl
         refine pure_ (i:=2) (N:=some 17) (v:=?_) (a':=?_) #[t',t',t',f',f',f',f',f',f',f',f',f',f',f',f',f',f',f',f'] rfl rfl (any_of HT_.out (by kernel_rfl)) (fun _ _ _ h=>h) (Or.inl ⟨by rfl,?_⟩) ?_ ?_
         rotate_left
         ·intro w'
          go_simp
          with_reducible rfl
         rotate_left
         ·simp only [Act.put,z5,z6,z7,i64_w,i32_w]
          rfl
         refine pure_ (i:=3) (N:=some 18) (v:=?_) (a':=?_) #[t',t',t',t',f',f',f',f',f',f',f',f',f',f',f',f',f',f',f'] rfl rfl (any_of HT_.out (by kernel_rfl)) (fun _ _ _ h=>h) (Or.inl ⟨by rfl,?_⟩) ?_ ?_
         rotate_left
         ·intro w'
          go_simp
          with_reducible rfl
         rotate_left
         ·simp only [Act.put,z5,z6,z7,i64_w,i32_w]
          rfl
         refine pure_ (i:=4) (N:=some 19) (v:=?_) (a':=?_) #[t',t',t',t',t',f',f',f',f',f',f',f',f',f',f',f',f',f',f'] rfl rfl (any_of HT_.out (by kernel_rfl)) (fun _ _ _ h=>h) (Or.inl ⟨by rfl,?_⟩) ?_ ?_
         rotate_left
         ·intro w'
          go_simp
          with_reducible rfl
         rotate_left
         ·simp only [Act.put,z5,z6,z7,i64_w,i32_w]
          rfl
         refine pure_ (i:=5) (N:=some 20) (v:=?_) (a':=?_) #[t',t',t',t',t',t',f',f',f',f',f',f',f',f',f',f',f',f',f'] rfl rfl (any_of HT_.out (by kernel_rfl)) (fun _ _ _ h=>h) (Or.inl ⟨by rfl,?_⟩) ?_ ?_
         rotate_left
         ·intro w'
          go_simp
          with_reducible rfl
         rotate_left
         ·simp only [Act.put,z5,z6,z7,i64_w,i32_w]
          rfl
         refine pure_ (i:=6) (N:=some 21) (v:=?_) (a':=?_) #[t',t',t',t',t',t',t',f',f',f',f',f',f',f',f',f',f',f',f'] rfl rfl (any_of HT_.out (by kernel_rfl)) (fun _ _ _ h=>h) (Or.inl ⟨by rfl,?_⟩) ?_ ?_
         rotate_left
         ·intro w'
          go_simp
          with_reducible rfl
         rotate_left
         ·simp only [Act.put,z5,z6,z7,i64_w,i32_w]
          rfl
         refine pure_ (i:=7) (N:=some 22) (v:=undef) (a':=?_) #[t',t',t',t',t',t',t',t',f',f',f',f',f',f',f',f',f',f',f'] rfl rfl (any_of HT_.out (by kernel_rfl)) (fun _ _ _ h=>h) (Or.inr ⟨by rfl,rfl⟩) ?_ ?_
         rotate_left
         ·simp only [Act.put,z5,z6,z7,i64_w,i32_w]
          rfl
         refine pure_ (i:=8) (N:=some 23) (v:=undef) (a':=?_) #[t',t',t',t',t',t',t',t',t',f',f',f',f',f',f',f',f',f',f'] rfl rfl (any_of HT_.out (by kernel_rfl)) (fun _ _ _ h=>h) (Or.inr ⟨by rfl,rfl⟩) ?_ ?_
         rotate_left
         ·simp only [Act.put,z5,z6,z7,i64_w,i32_w]
          rfl
         refine pure_ (i:=9) (N:=some 24) (v:=undef) (a':=?_) #[t',t',t',t',t',t',t',t',t',t',f',f',f',f',f',f',f',f',f'] rfl rfl (any_of HT_.out (by kernel_rfl)) (fun _ _ _ h=>h) (Or.inr ⟨by rfl,rfl⟩) ?_ ?_
         rotate_left
         ·simp only [Act.put,z5,z6,z7,i64_w,i32_w]
          rfl
         refine pure_ (i:=10) (N:=some 25) (v:=undef) (a':=?_) #[t',t',t',t',t',t',t',t',t',t',t',f',f',f',f',f',f',f',f'] rfl rfl (any_of HT_.out (by kernel_rfl)) (fun _ _ _ h=>h) (Or.inr ⟨by rfl,rfl⟩) ?_ ?_
         rotate_left
         ·simp only [Act.put,z5,z6,z7,i64_w,i32_w]
          rfl
         refine pure_ (i:=11) (N:=some 26) (v:=undef) (a':=?_) #[t',t',t',t',t',t',t',t',t',t',t',t',f',f',f',f',f',f',f'] rfl rfl (any_of HT_.out (by kernel_rfl)) (fun _ _ _ h=>h) (Or.inr ⟨by rfl,rfl⟩) ?_ ?_
         rotate_left
         ·simp only [Act.put,z5,z6,z7,i64_w,i32_w]
          rfl
         refine pure_ (i:=12) (N:=some 27) (v:=undef) (a':=?_) #[t',t',t',t',t',t',t',t',t',t',t',t',t',f',f',f',f',f',f'] rfl rfl (any_of HT_.out (by kernel_rfl)) (fun _ _ _ h=>h) (Or.inr ⟨by rfl,rfl⟩) ?_ ?_
         rotate_left
         ·simp only [Act.put,z5,z6,z7,i64_w,i32_w]
          rfl
         refine pure_ (i:=13) (N:=some 28) (v:=undef) (a':=?_) #[t',t',t',t',t',t',t',t',t',t',t',t',t',t',f',f',f',f',f'] rfl rfl (any_of HT_.out (by kernel_rfl)) (fun _ _ _ h=>h) (Or.inr ⟨by rfl,rfl⟩) ?_ ?_
         rotate_left
         ·simp only [Act.put,z5,z6,z7,i64_w,i32_w]
          rfl
         refine pure_ (i:=14) (N:=some 29) (v:=undef) (a':=?_) #[t',t',t',t',t',t',t',t',t',t',t',t',t',t',t',f',f',f',f'] rfl rfl (any_of HT_.out (by kernel_rfl)) (fun _ _ _ h=>h) (Or.inr ⟨by rfl,rfl⟩) ?_ ?_
         rotate_left
         ·simp only [Act.put,z5,z6,z7,i64_w,i32_w]
          rfl
         refine pure_ (i:=15) (N:=some 30) (v:=undef) (a':=?_) #[t',t',t',t',t',t',t',t',t',t',t',t',t',t',t',t',f',f',f'] rfl rfl (any_of HT_.out (by kernel_rfl)) (fun _ _ _ h=>h) (Or.inr ⟨by rfl,rfl⟩) ?_ ?_
         rotate_left
         ·simp only [Act.put,z5,z6,z7,i64_w,i32_w]
          rfl
         refine pure_ (i:=16) (N:=some 31) (v:=undef) (a':=?_) #[t',t',t',t',t',t',t',t',t',t',t',t',t',t',t',t',t',f',f'] rfl rfl (any_of HT_.out (by kernel_rfl)) (fun _ _ _ h=>h) (Or.inr ⟨by rfl,rfl⟩) ?_ ?_
         rotate_left
         ·simp only [Act.put,z5,z6,z7,i64_w,i32_w]
          rfl
         refine pure_ (i:=17) (N:=some 32) (v:=?_) (a':=?_) #[t',t',t',t',t',t',t',t',t',t',t',t',t',t',t',t',t',t',f'] rfl rfl (any_of HT_.out (by kernel_rfl)) (fun _ _ _ h=>h) (Or.inl ⟨by rfl,?_⟩) ?_ ?_
         rotate_left
         ·intro w'
          go_simp
          with_reducible rfl
         rotate_left
         ·simp only [Act.put,z5,z6,z7,i64_w,i32_w]
          rfl
         refine pure_ (i:=18) (N:=some 33) (v:=?_) (a':=?_) #[t',t',t',t',t',t',t',t',t',t',t',t',t',t',t',t',t',t',t'] rfl rfl (any_of HT_.out (by kernel_rfl)) (fun _ _ _ h=>h) (Or.inl ⟨by rfl,?_⟩) ?_ ?_
         rotate_left
         ·intro w'
          go_simp
          with_reducible rfl
         rotate_left
         ·simp only [Act.put,z5,z6,z7,i64_w,i32_w]
          rfl
         refine done_ (done_of HT_.out (by kernel_rfl)) ?_
         try go_wp2
         go_meet
         case rel=>exact⟨_,(false),(by first|rfl|(simp;done)|(simp [*];done)),H',⟨by have:=HK1.out;first|omega|exact Nat.le_refl _⟩,⟨by(with_reducible repeat(first|refine blk_drewN ?_ _|refine blk_drew ?_ |refine blk_alloc ?_ _));exact BK154.out⟩,⟨by(with_reducible repeat(first|refine blk_drewN ?_ _|refine blk_drew ?_ |refine blk_alloc ?_ _));exact BK157.out⟩,⟨by repeat(first|(with_reducible first|exact HB.out|apply below_alloc|apply pw_below_drewN|apply below_drew1|refine below_set ?_ GE154.out|refine below_set ?_ GE157.out)|exact HB.out)⟩⟩
       ·replace c12:=Bool.eq_false_iff.mpr c12
        subst c12
        have H1:(spec_GoodTable.j1 k1 x10_1 l0_1 (l0_1.length:Int) x10_1 true a0_0 l0_1 ((rd_T53 l0_1 x10_1).f0) ((rd_T53 l0_1 x10_1).f1) ((rd_T53 l0_1 x10_1).f2))=some r:=by rw [if_neg (show ¬ (false=true) by decide)] at H;exact H
        clear H
        have H:=H1
        clear H1
        have H':=Aside0.mk H
        clear H
        try go_wp2
        have n0_:Aside0 ((((w8.setCell ⟨gb157,0,none⟩ (.int .i64 ((rd_T53 l0_1 x10_1).f0))).setCell ⟨gb157,1,none⟩ (.int .i64 ((rd_T53 l0_1 x10_1).f1))).setCell ⟨gb157,2,none⟩ (.int .i64 ((rd_T53 l0_1 x10_1).f2))).heap[gb154]?=some (.cells #[.int .i64 a0_0,.slice (some ad156) l0_1.length c0_1] 24 (0,0))):=⟨by(with_reducible repeat(first|refine blk_drewN ?_ _|refine blk_drew ?_ |refine blk_alloc ?_ _));refine blk_far ?_ NB154_157.out _;(with_reducible repeat(first|refine blk_drewN ?_ _|refine blk_drew ?_ |refine blk_alloc ?_ _));refine blk_far ?_ NB154_157.out _;(with_reducible repeat(first|refine blk_drewN ?_ _|refine blk_drew ?_ |refine blk_alloc ?_ _));refine blk_far ?_ NB154_157.out _;(with_reducible repeat(first|refine blk_drewN ?_ _|refine blk_drew ?_ |refine blk_alloc ?_ _));exact BK154.out⟩
        have n1_:Aside0 ((((w8.setCell ⟨gb157,0,none⟩ (.int .i64 ((rd_T53 l0_1 x10_1).f0))).setCell ⟨gb157,1,none⟩ (.int .i64 ((rd_T53 l0_1 x10_1).f1))).setCell ⟨gb157,2,none⟩ (.int .i64 ((rd_T53 l0_1 x10_1).f2))).heap[gb157]?=some (.cells #[.int .i64 ((rd_T53 l0_1 x10_1).f0),.int .i64 ((rd_T53 l0_1 x10_1).f1),.int .i64 ((rd_T53 l0_1 x10_1).f2)] 53 (0,0))):=⟨by(with_reducible repeat(first|refine blk_drewN ?_ _|refine blk_drew ?_ |refine blk_alloc ?_ _));refine blk_put (cs:= #[.int .i64 ((rd_T53 l0_1 x10_1).f0),.int .i64 ((rd_T53 l0_1 x10_1).f1),.int .i64 0]) ?_ 2 _ rfl;(with_reducible repeat(first|refine blk_drewN ?_ _|refine blk_drew ?_ |refine blk_alloc ?_ _));refine blk_put (cs:= #[.int .i64 ((rd_T53 l0_1 x10_1).f0),.int .i64 0,.int .i64 0]) ?_ 1 _ rfl;(with_reducible repeat(first|refine blk_drewN ?_ _|refine blk_drew ?_ |refine blk_alloc ?_ _));refine blk_put (cs:= #[.int .i64 0,.int .i64 0,.int .i64 0]) ?_ 0 _ rfl;(with_reducible repeat(first|refine blk_drewN ?_ _|refine blk_drew ?_ |refine blk_alloc ?_ _));exact BK157.out⟩
        have n2_:Aside0 (Below w.heap.size w (((w8.setCell ⟨gb157,0,none⟩ (.int .i64 ((rd_T53 l0_1 x10_1).f0))).setCell ⟨gb157,1,none⟩ (.int .i64 ((rd_T53 l0_1 x10_1).f1))).setCell ⟨gb157,2,none⟩ (.int .i64 ((rd_T53 l0_1 x10_1).f2)))):=⟨by repeat(first|(with_reducible first|exact HB.out|apply below_alloc|apply pw_below_drewN|apply below_drew1|refine below_set ?_ GE154.out|refine below_set ?_ GE157.out)|exact HB.out)⟩
        (try clear BK154)
        (try clear BK157)
        (try clear HB)
        (try simp only [show ∀ (W_:World) (n_:Nat) (a_:Addr) (v_:Value),(World.drewN W_ n_).setCell a_ v_= (World.setCell W_ a_ v_).drewN n_ from fun _ _ _ _=>rfl])
        generalize (((w8.setCell ⟨gb157,0,none⟩ (.int .i64 ((rd_T53 l0_1 x10_1).f0))).setCell ⟨gb157,1,none⟩ (.int .i64 ((rd_T53 l0_1 x10_1).f1))).setCell ⟨gb157,2,none⟩ (.int .i64 ((rd_T53 l0_1 x10_1).f2)))=w23 at n0_ n1_ n2_ ⊢
        have BK154:=n0_
        have BK157:=n1_
        have HB:=n2_
        clear n0_ n1_ n2_
        have n0_:=Aside0.mk (blk_drew BK154.out)
        have n1_:=Aside0.mk (blk_drew BK157.out)
        have n2_:=Aside0.mk (below_drew1 HB.out)
        clear BK154
        clear BK157
        clear HB
        have BK154:=n0_
        have BK157:=n1_
        have HB:=n2_
        clear n0_ n1_ n2_
        refine start_ (n:=19) (S:=fun w'=>w'.cell? ⟨gb157,0,none⟩=some (.int .i64 ((rd_T53 l0_1 x10_1).f0))∧w'.cell? ⟨gb157,1,none⟩=some (.int .i64 ((rd_T53 l0_1 x10_1).f1))∧w'.cell? ⟨gb157,2,none⟩=some (.int .i64 ((rd_T53 l0_1 x10_1).f2))) (ds:= []) #[f',f',f',f',f',f',f',f',f',f',f',f',f',f',f',f',f',f',f'] (by kernel_rfl) rfl rfl ⟨(blk_cell BK157.out 0).trans rfl,(blk_cell BK157.out 1).trans rfl,(blk_cell BK157.out 2).trans rfl⟩ (fun hHeld=>?_);refine with_tabW spec_GoodTable.tab4 spec_GoodTable.bits4 (fun HT_ HW_=>?_)
        generalize w23.drew=w24 at BK154 BK157 HB hHeld ⊢
        refine take_ (i:=0) (N:=some 15) (v:=?_) (a':=?_) #[t',f',f',f',f',f',f',f',f',f',f',f',f',f',f',f',f',f',f'] rfl rfl (take_ofW HT_.out HW_.out (by kernel_rfl)) (fun _ _ _ h=>h) (Or.inl ⟨by rfl,?_⟩) hHeld ?_ ?_
        rotate_left
        ·rintro w' ⟨s0,s1,s2⟩
         go_simp
         with_reducible rfl
        rotate_left
        ·simp only [Act.put,z5,z6,z7,i64_w,i32_w]
         rfl
        refine one_ (i:=1) (N:=some 16) #[t',t',f',f',f',f',f',f',f',f',f',f',f',f',f',f',f',f',f'] rfl rfl (one_of HT_.out (by kernel_rfl)) (by decide) (fun K hK=>?_)
        refine goes_ Try.func44 (by kernel_rfl) rfl #[.agg #[.int .i64 ((rd_T53 l0_1 x10_1).f0),.int .i64 ((rd_T53 l0_1 x10_1).f1),.int .i64 ((rd_T53 l0_1 x10_1).f2)]] (by rfl) rfl rfl z2 ?_
        with_reducible refine(spec_l13Row.calls ((rd_T53 l0_1 x10_1).f0) ((rd_T53 l0_1 x10_1).f1) ((rd_T53 l0_1 x10_1).f2) false _ A11.out).mono ?_
        rintro e w25 ⟨rfl,hb⟩
        refine⟨_,rfl,?_⟩
        have n0_:=Aside0.mk (blk_below (g:=gb154) (o:= .cells #[.int .i64 a0_0,.slice (some ad156) l0_1.length c0_1] 24 (0,0)) (z3 BK154) hb)
        have n1_:=Aside0.mk (blk_below (g:=gb157) (o:= .cells #[.int .i64 ((rd_T53 l0_1 x10_1).f0),.int .i64 ((rd_T53 l0_1 x10_1).f1),.int .i64 ((rd_T53 l0_1 x10_1).f2)] 53 (0,0)) (z3 BK157) hb)
        have n2_:=Aside0.mk (below_step (zb2 HB GE154 GE157) hb)
        clear BK154
        clear BK157
        clear HB
        have BK154:=n0_
        have BK157:=n1_
        have HB:=n2_
        clear n0_ n1_ n2_
        (try clear hb)
        (try clear hb2)
        (try clear hk)
        (try clear hi)
        refine hK.out _ _ ⟨(blk_cell BK157.out 0).trans rfl,(blk_cell BK157.out 1).trans rfl,(blk_cell BK157.out 2).trans rfl⟩ (fun hHeld=>?_)
        clear hK K
        refine norm_ (a':=?_) ?_ ?_
        rotate_left
        ·show Act.put _ (some 16) _=_
         simp only [Act.put,z5,z6,z7,i64_w,i32_w]
         rfl
        refine pure_ (i:=2) (N:=some 17) (v:=?_) (a':=?_) #[t',t',t',f',f',f',f',f',f',f',f',f',f',f',f',f',f',f',f'] rfl rfl (any_of HT_.out (by kernel_rfl)) (fun _ _ _ h=>h) (Or.inl ⟨by rfl,?_⟩) ?_ ?_
        rotate_left
        ·intro w'
         go_simp
         with_reducible rfl
        rotate_left
        ·simp only [Act.put,z5,z6,z7,i64_w,i32_w]
         rfl
        refine pure_ (i:=3) (N:=some 18) (v:=?_) (a':=?_) #[t',t',t',t',f',f',f',f',f',f',f',f',f',f',f',f',f',f',f'] rfl rfl (any_of HT_.out (by kernel_rfl)) (fun _ _ _ h=>h) (Or.inl ⟨by rfl,?_⟩) ?_ ?_
        rotate_left
        ·intro w'
         go_simp
         with_reducible rfl
        rotate_left
        ·simp only [Act.put,z5,z6,z7,i64_w,i32_w]
         rfl
        refine pure_ (i:=4) (N:=some 19) (v:=undef) (a':=?_) #[t',t',t',t',t',f',f',f',f',f',f',f',f',f',f',f',f',f',f'] rfl rfl (any_of HT_.out (by kernel_rfl)) (fun _ _ _ h=>h) (Or.inr ⟨by rfl,rfl⟩) ?_ ?_
        rotate_left
        ·simp only [Act.put,z5,z6,z7,i64_w,i32_w]
         rfl
        refine pure_ (i:=5) (N:=some 20) (v:=undef) (a':=?_) #[t',t',t',t',t',t',f',f',f',f',f',f',f',f',f',f',f',f',f'] rfl rfl (any_of HT_.out (by kernel_rfl)) (fun _ _ _ h=>h) (Or.inr ⟨by rfl,rfl⟩) ?_ ?_
        rotate_left
        ·simp only [Act.put,z5,z6,z7,i64_w,i32_w]
         rfl
        refine pure_ (i:=6) (N:=some 21) (v:=undef) (a':=?_) #[t',t',t',t',t',t',t',f',f',f',f',f',f',f',f',f',f',f',f'] rfl rfl (any_of HT_.out (by kernel_rfl)) (fun _ _ _ h=>h) (Or.inr ⟨by rfl,rfl⟩) ?_ ?_
        rotate_left
        ·simp only [Act.put,z5,z6,z7,i64_w,i32_w]
         rfl
        refine pure_ (i:=7) (N:=some 22) (v:=undef) (a':=?_) #[t',t',t',t',t',t',t',t',f',f',f',f',f',f',f',f',f',f',f'] rfl rfl (any_of HT_.out (by kernel_rfl)) (fun _ _ _ h=>h) (Or.inr ⟨by rfl,rfl⟩) ?_ ?_
        rotate_left
        ·simp only [Act.put,z5,z6,z7,i64_w,i32_w]
         rfl
        refine pure_ (i:=8) (N:=some 23) (v:=undef) (a':=?_) #[t',t',t',t',t',t',t',t',t',f',f',f',f',f',f',f',f',f',f'] rfl rfl (any_of HT_.out (by kernel_rfl)) (fun _ _ _ h=>h) (Or.inr ⟨by rfl,rfl⟩) ?_ ?_
        rotate_left
        ·simp only [Act.put,z5,z6,z7,i64_w,i32_w]
         rfl
        refine pure_ (i:=9) (N:=some 24) (v:=undef) (a':=?_) #[t',t',t',t',t',t',t',t',t',t',f',f',f',f',f',f',f',f',f'] rfl rfl (any_of HT_.out (by kernel_rfl)) (fun _ _ _ h=>h) (Or.inr ⟨by rfl,rfl⟩) ?_ ?_
        rotate_left
        ·simp only [Act.put,z5,z6,z7,i64_w,i32_w]
         rfl
        refine pure_ (i:=10) (N:=some 25) (v:=undef) (a':=?_) #[t',t',t',t',t',t',t',t',t',t',t',f',f',f',f',f',f',f',f'] rfl rfl (any_of HT_.out (by kernel_rfl)) (fun _ _ _ h=>h) (Or.inr ⟨by rfl,rfl⟩) ?_ ?_
        rotate_left
        ·simp only [Act.put,z5,z6,z7,i64_w,i32_w]
         rfl
        refine pure_ (i:=11) (N:=some 26) (v:=undef) (a':=?_) #[t',t',t',t',t',t',t',t',t',t',t',t',f',f',f',f',f',f',f'] rfl rfl (any_of HT_.out (by kernel_rfl)) (fun _ _ _ h=>h) (Or.inr ⟨by rfl,rfl⟩) ?_ ?_
        rotate_left
        ·simp only [Act.put,z5,z6,z7,i64_w,i32_w]
         rfl
        refine pure_ (i:=12) (N:=some 27) (v:=undef) (a':=?_) #[t',t',t',t',t',t',t',t',t',t',t',t',t',f',f',f',f',f',f'] rfl rfl (any_of HT_.out (by kernel_rfl)) (fun _ _ _ h=>h) (Or.inr ⟨by rfl,rfl⟩) ?_ ?_
        rotate_left
        ·simp only [Act.put,z5,z6,z7,i64_w,i32_w]
         rfl
        refine pure_ (i:=13) (N:=some 28) (v:=undef) (a':=?_) #[t',t',t',t',t',t',t',t',t',t',t',t',t',t',f',f',f',f',f'] rfl rfl (any_of HT_.out (by kernel_rfl)) (fun _ _ _ h=>h) (Or.inr ⟨by rfl,rfl⟩) ?_ ?_
        rotate_left
        ·simp only [Act.put,z5,z6,z7,i64_w,i32_w]
         rfl
        refine pure_ (i:=14) (N:=some 29) (v:=undef) (a':=?_) #[t',t',t',t',t',t',t',t',t',t',t',t',t',t',t',f',f',f',f'] rfl rfl (any_of HT_.out (by kernel_rfl)) (fun _ _ _ h=>h) (Or.inr ⟨by rfl,rfl⟩) ?_ ?_
        rotate_left
        ·simp only [Act.put,z5,z6,z7,i64_w,i32_w]
         rfl
        refine pure_ (i:=15) (N:=some 30) (v:=undef) (a':=?_) #[t',t',t',t',t',t',t',t',t',t',t',t',t',t',t',t',f',f',f'] rfl rfl (any_of HT_.out (by kernel_rfl)) (fun _ _ _ h=>h) (Or.inr ⟨by rfl,rfl⟩) ?_ ?_
        rotate_left
        ·simp only [Act.put,z5,z6,z7,i64_w,i32_w]
         rfl
        refine pure_ (i:=16) (N:=some 31) (v:=undef) (a':=?_) #[t',t',t',t',t',t',t',t',t',t',t',t',t',t',t',t',t',f',f'] rfl rfl (any_of HT_.out (by kernel_rfl)) (fun _ _ _ h=>h) (Or.inr ⟨by rfl,rfl⟩) ?_ ?_
        rotate_left
        ·simp only [Act.put,z5,z6,z7,i64_w,i32_w]
         rfl
        refine pure_ (i:=17) (N:=some 32) (v:=undef) (a':=?_) #[t',t',t',t',t',t',t',t',t',t',t',t',t',t',t',t',t',t',f'] rfl rfl (any_of HT_.out (by kernel_rfl)) (fun _ _ _ h=>h) (Or.inr ⟨by rfl,rfl⟩) ?_ ?_
        rotate_left
        ·simp only [Act.put,z5,z6,z7,i64_w,i32_w]
         rfl
        refine pure_ (i:=18) (N:=some 33) (v:=?_) (a':=?_) #[t',t',t',t',t',t',t',t',t',t',t',t',t',t',t',t',t',t',t'] rfl rfl (any_of HT_.out (by kernel_rfl)) (fun _ _ _ h=>h) (Or.inl ⟨by rfl,?_⟩) ?_ ?_
        rotate_left
        ·intro w'
         go_simp
         with_reducible rfl
        rotate_left
        ·simp only [Act.put,z5,z6,z7,i64_w,i32_w]
         rfl
        refine done_ (done_of HT_.out (by kernel_rfl)) ?_
        try go_wp2
        go_meet
        case rel=>exact⟨_,(true),(by first|rfl|(simp;done)|(simp [*];done)),H',⟨by have:=HK1.out;first|omega|exact Nat.le_refl _⟩,⟨by(with_reducible repeat(first|refine blk_drewN ?_ _|refine blk_drew ?_ |refine blk_alloc ?_ _));exact BK154.out⟩,⟨by(with_reducible repeat(first|refine blk_drewN ?_ _|refine blk_drew ?_ |refine blk_alloc ?_ _));exact BK157.out⟩,⟨by repeat(first|(with_reducible first|exact HB.out|apply below_alloc|apply pw_below_drewN|apply below_drew1|refine below_set ?_ GE154.out|refine below_set ?_ GE157.out)|exact HB.out)⟩⟩
      case rest=>
       clear HC7
       try clear c1
       try clear p1
       try clear q1
       try clear hx1
       try clear p2
       try clear c4
       try clear c4b0
       try clear c5
       try clear c5b0
       try clear c6
       try clear c6b0
       try clear p6
       try clear c9
       try clear c12
       try clear c13
       try clear c13b0
       try clear c15
       try clear c15b0
       try clear p15
       try clear q15
       try clear hx15
       try clear c16
       try clear c16b0
       try clear hcz10_0
       try clear hcz10_1
       try clear hcz10_2
       try clear hfz10_0
       try clear hfz10_1
       try clear hfz10_2
       try clear hfz3_1
       try clear hx156_0
       try clear hx156_1
       try clear hx156_2
       try clear hx159_0
       try clear hx159_1
       try clear hx159_2
       try clear p156
       try clear p159
       try clear q156
       try clear q159
       obtain⟨kq,x33_6,rfl,HA,HJ6,BK154,BK157,HB⟩:=hcut
       cases kq with
       |zero=>exact absurd HA.out (by simp [spec_GoodTable.j1])
       |succ kj6=>
        have H:=HA.out
        clear HA
        simp only [spec_GoodTable.j1] at H
        by_cases c26:x33_6=true
        ·subst c26
         have H1:(some false)=some r:=by rw [if_pos rfl] at H;exact H
         clear H
         have H:=H1
         clear H1
         obtain rfl:=Option.some.inj H
         go_wp2
         go_ret
         exact⟨by first|rfl|(simp [errW_none,errW_some]<;>rfl)|(simp [*,errW_none,errW_some]<;>rfl),by repeat(first|(with_reducible first|exact HB.out|apply below_alloc|apply pw_below_drewN|apply below_drew1|refine below_set ?_ GE154.out|refine below_set ?_ GE157.out)|exact HB.out)⟩
        ·replace c26:=Bool.eq_false_iff.mpr c26
         subst c26
         have H1:(if 0≤x10_1 then(if x10_1≤ (l0_1.length:Int) then((some (l0_1.take (x10_1:Int).toNat:List (S53))).bind fun y160=>(spec_GoodTable.l1 kj6 l0_1 (l0_1.length:Int) x10_1 y160 (y160.length:Int) 0 a0_0 l0_1 ((rd_T53 l0_1 x10_1).f0) ((rd_T53 l0_1 x10_1).f1) ((rd_T53 l0_1 x10_1).f2))) else(none)) else(none))=some r:=by rw [if_neg (show ¬ (false=true) by decide)] at H;exact H
         clear H
         have H:=H1
         clear H1
         by_cases c27: 0≤x10_1
         ·rw [if_pos c27] at H
          have c27b0:=eq_true c27
          have c27b1:decide (0≤x10_1)=true:=decide_eq_true c27
          clear c27
          by_cases c28:x10_1≤ (l0_1.length:Int)
          ·rw [if_pos c28] at H
           have c28b0:=eq_true c28
           have c28b1:decide (x10_1≤ (l0_1.length:Int))=true:=decide_eq_true c28
           clear c28
           obtain⟨y160,hy160⟩ :∃ y_:List (S53),y_= (l0_1.take (x10_1:Int).toNat):=⟨_,rfl⟩
           replace H:(spec_GoodTable.l1 kj6 l0_1 (l0_1.length:Int) x10_1 y160 (y160.length:Int) 0 a0_0 l0_1 ((rd_T53 l0_1 x10_1).f0) ((rd_T53 l0_1 x10_1).f1) ((rd_T53 l0_1 x10_1).f2))=some r:=by first|(rw [hy160];with_reducible exact H)|(have H2_:=(Option.bind_some _ _).symm.trans H;rw [hy160];with_reducible exact H2_)|(have H2_:=(Option.bind_some _ _).symm.trans H;with_reducible exact H2_)|with_reducible exact H|(rw [hy160];exact H)|exact H
           have Ny160:=Aside0.mk hy160
           clear hy160
           have H':=Aside0.mk H
           clear H
           have hnb29:=NB154_157.out
           have hnc29:=NB157_154.out
           have hcz30_0:wc.cell? ⟨gb154,0,none⟩=some (.int .i64 a0_0):=(blk_cell BK154.out 0).trans rfl
           have hcz30_1:wc.cell? ⟨gb154,1,none⟩=some (.slice (some ad156) l0_1.length c0_1):=(blk_cell BK154.out 1).trans rfl
           have hfz30_0:=blk_frozen BK154.out 0
           have hfz30_1:=blk_frozen BK154.out 1
           have q31:(x10_1:Int)≤ ((l0_1.length:Int):Int):=of_decide_eq_true z1
           obtain⟨i031,hi031,_,hsz31,_⟩:=info_parts info53
           have hroom31:l0_1.length≤c0_1:=HC0_1.out
           have hC31:Kd.C k53 _ (some ad156) l0_1.length l0_1:=HR0_1.out
           have hcut31:=cut_to (P:=Try.prog) 22 53 .i64 Try.underlying22 hi031 (some ad156) l0_1.length c0_1 x10_1 (of_decide_eq_true z1) q31 hroom31
           have hr31:=Kd.C_take (m:=(x10_1:Int).toNat) hC31 (by omega)
           have hy31:y160.length= (x10_1:Int).toNat:=(by rw [Ny160.out,List.length_take];omega)
           rw [← Ny160.out] at hr31
           rw [← hy31] at hcut31
           have HR163:=Aside0.mk hr31
           have HC163:=Aside0.mk (show y160.length≤c0_1 from by omega)
           clear hr31 hC31 hroom31 hi031 hsz31
           have KY31:=Aside0.mk hy31
           clear hy31
           replace q31:=eq_true q31
           go_wp2
           go_loopg [39] kj6 (fun kq v39 w'=> ∃ (x39_3:Int),v39= .int .i64 x39_3∧Aside0 (spec_GoodTable.l1 kq l0_1 (l0_1.length:Int) x10_1 y160 (y160.length:Int) x39_3 a0_0 l0_1 ((rd_T53 l0_1 x10_1).f0) ((rd_T53 l0_1 x10_1).f1) ((rd_T53 l0_1 x10_1).f2)=some r)∧Aside0 (kq≤kj6)∧Aside0 (w'.heap[gb154]?=some (.cells #[.int .i64 a0_0,(.slice (some ad156) l0_1.length c0_1)] 24 (0,0)))∧Aside0 (w'.heap[gb157]?=some (.cells #[.int .i64 ((rd_T53 l0_1 x10_1).f0),.int .i64 ((rd_T53 l0_1 x10_1).f1),.int .i64 ((rd_T53 l0_1 x10_1).f2)] 53 (0,0)))∧Aside0 (Below w.heap.size w w'))
           case atStart=>exact⟨(0),(by first|rfl|(simp;done)|(simp [*];done)),H',⟨Nat.le_refl _⟩,⟨by(with_reducible repeat(first|refine blk_drewN ?_ _|refine blk_drew ?_ |refine blk_alloc ?_ _));exact BK154.out⟩,⟨by(with_reducible repeat(first|refine blk_drewN ?_ _|refine blk_drew ?_ |refine blk_alloc ?_ _));exact BK157.out⟩,⟨by repeat(first|(with_reducible first|exact HB.out|apply below_alloc|apply pw_below_drewN|apply below_drew1|refine below_set ?_ GE154.out|refine below_set ?_ GE157.out)|exact HB.out)⟩⟩
           case round=>
            clear H'
            try clear c1
            try clear p1
            try clear q1
            try clear hx1
            try clear c2
            try clear p2
            try clear q3
            try clear c4
            try clear c4b0
            try clear c5
            try clear c5b0
            try clear c6
            try clear c6b0
            try clear p6
            try clear c9
            try clear c12
            try clear c13
            try clear c13b0
            try clear c15
            try clear c15b0
            try clear p15
            try clear q15
            try clear hx15
            try clear c16
            try clear c16b0
            try clear c26
            try clear c27
            try clear c27b0
            try clear c27b1
            try clear c28
            try clear c28b0
            try clear c28b1
            try clear c29
            try clear q31
            try clear hcz10_0
            try clear hcz10_1
            try clear hcz10_2
            try clear hcz30_0
            try clear hcz30_1
            try clear hfz10_0
            try clear hfz10_1
            try clear hfz10_2
            try clear hfz30_0
            try clear hfz30_1
            try clear hfz3_1
            try clear hx156_0
            try clear hx156_1
            try clear hx156_2
            try clear hx159_0
            try clear hx159_1
            try clear hx159_2
            try clear p1
            try clear p15
            try clear p156
            try clear p159
            try clear p2
            try clear p6
            try clear q1
            try clear q15
            try clear q156
            try clear q159
            try clear q31
            obtain⟨x39_3,rfl,HA,HK3,BK154,BK157,HB⟩:=hrel
            cases gk with
            |zero=>exact absurd HA.out (by simp [spec_GoodTable.l1])
            |succ k3=>
             have H:=HA.out
             clear HA
             simp only [spec_GoodTable.l1] at H
             by_cases c32:x39_3< (y160.length:Int)
             ·rw [if_pos c32] at H
              have c32b0:decide (x39_3< (y160.length:Int))=true:=decide_eq_true c32
              clear c32
              by_cases c33: 0≤x39_3
              ·rw [if_pos c33] at H
               have c33b0:decide (0≤x39_3)=true:=decide_eq_true c33
               clear c33
               by_cases c34:x39_3< (y160.length:Int)
               ·rw [if_pos c34] at H
                have c34b0:decide (x39_3< (y160.length:Int))=true:=decide_eq_true c34
                clear c34
                by_cases c35:((rd_T53 y160 x39_3).f0)= ((rd_T53 l0_1 x10_1).f0)
                ·rw [if_pos c35] at H
                 have c35b0:(((rd_T53 y160 x39_3).f0)== ((rd_T53 l0_1 x10_1).f0))=true:=beq_iff_eq.mpr c35
                 have c35b1:(((rd_T53 y160 x39_3).f0) != ((rd_T53 l0_1 x10_1).f0))=false:=bne_eq_false_iff_eq.mpr c35
                 clear c35
                 obtain rfl:=Option.some.inj H
                 have p164: 0≤ (x39_3:Int):=of_decide_eq_true z1
                 have q164:x39_3< (y160.length:Int):=of_decide_eq_true z1
                 obtain⟨ad164,e164,hx164_0,hx164_1,hx164_2⟩:=at_T53 HR163.out x39_3 p164 q164
                 obtain rfl:ad156=ad164:=(by injection e164)
                 replace hx164_0:=(HB.out.cell (World.block_lt_of_cell? w _ hx164_0)).trans hx164_0
                 replace hx164_1:=(HB.out.cell (World.block_lt_of_cell? w _ hx164_1)).trans hx164_1
                 replace hx164_2:=(HB.out.cell (World.block_lt_of_cell? w _ hx164_2)).trans hx164_2
                 replace p164:=eq_true p164
                 replace q164:=eq_true q164
                 go_wp2_with (first|((with_reducible refine gate_dst (N:=6) rfl ?_);(try(refine gate_guard (by rfl) ?_;dsimp only));refine box_event ?hg (N:=6) ?hd (cs:= #[.int .i64 0,.int .i64 0,.int .i64 0]) (t:=53) ?hr ?_;(case hd=>rfl);(case hg=>rfl);(case hr=>first|(go_simp;done)|(go_simp;rfl));intro gb165 hg w36 hbox hb;have n0_:=Aside0.mk (blk_below (g:=gb154) (o:= .cells #[.int .i64 a0_0,.slice (some ad156) l0_1.length c0_1] 24 (0,0)) (z3 BK154) hb);have n1_:=Aside0.mk (blk_below (g:=gb157) (o:= .cells #[.int .i64 ((rd_T53 l0_1 x10_1).f0),.int .i64 ((rd_T53 l0_1 x10_1).f1),.int .i64 ((rd_T53 l0_1 x10_1).f2)] 53 (0,0)) (z3 BK157) hb);have n2_:=Aside0.mk (below_step (zb2 HB GE154 GE157) hb);have n3_:=Aside0.mk (hbox);have n4_:=Aside0.mk ((by rw [hg];exact(below_size (zb2 HB GE154 GE157)):w.heap.size≤gb165));have n5_:=Aside0.mk ((by rw [hg];exact(below_size (zb2 HB GE154 GE157)):w.heap.size≤gb165));have n6_:=Aside0.mk ((by rw [hg];exact Nat.ne_of_lt (blk_lt (g:=gb154) (o:= .cells #[.int .i64 a0_0,.slice (some ad156) l0_1.length c0_1] 24 (0,0)) (z3 BK154)):gb154≠gb165));have n7_:=Aside0.mk ((by rw [hg];exact Nat.ne_of_gt (blk_lt (g:=gb154) (o:= .cells #[.int .i64 a0_0,.slice (some ad156) l0_1.length c0_1] 24 (0,0)) (z3 BK154)):gb165≠gb154));have n8_:=Aside0.mk ((by rw [hg];exact Nat.ne_of_lt (blk_lt (g:=gb157) (o:= .cells #[.int .i64 ((rd_T53 l0_1 x10_1).f0),.int .i64 ((rd_T53 l0_1 x10_1).f1),.int .i64 ((rd_T53 l0_1 x10_1).f2)] 53 (0,0)) (z3 BK157)):gb157≠gb165));have n9_:=Aside0.mk ((by rw [hg];exact Nat.ne_of_gt (blk_lt (g:=gb157) (o:= .cells #[.int .i64 ((rd_T53 l0_1 x10_1).f0),.int .i64 ((rd_T53 l0_1 x10_1).f1),.int .i64 ((rd_T53 l0_1 x10_1).f2)] 53 (0,0)) (z3 BK157)):gb165≠gb157));clear BK154;clear BK157;clear HB;have BK154:=n0_;have BK157:=n1_;have HB:=n2_;have BK165:=n3_;have GW165:=n4_;have GE165:=n5_;have NB154_165:=n6_;have NB165_154:=n7_;have NB157_165:=n8_;have NB165_157:=n9_;clear n0_ n1_ n2_ n3_ n4_ n5_ n6_ n7_ n8_ n9_;clear hb hbox hg;have hnb37:=NB165_154.out;have hnc37:=NB154_165.out;have hnb38:=NB165_157.out;have hnc38:=NB157_165.out;have hcz39_0:w36.cell? ⟨gb165,0,none⟩=some (.int .i64 0):=(blk_cell BK165.out 0).trans rfl;have hcz39_1:w36.cell? ⟨gb165,1,none⟩=some (.int .i64 0):=(blk_cell BK165.out 1).trans rfl;have hcz39_2:w36.cell? ⟨gb165,2,none⟩=some (.int .i64 0):=(blk_cell BK165.out 2).trans rfl;have hfz39_0:=blk_frozen BK165.out 0;have hfz39_1:=blk_frozen BK165.out 1;have hfz39_2:=blk_frozen BK165.out 2;have hnb40:=NB157_154.out;have hnc40:=NB154_157.out;have hcz41_0:w36.cell? ⟨gb157,0,none⟩=some (.int .i64 ((rd_T53 l0_1 x10_1).f0)):=(blk_cell BK157.out 0).trans rfl;have hcz41_1:w36.cell? ⟨gb157,1,none⟩=some (.int .i64 ((rd_T53 l0_1 x10_1).f1)):=(blk_cell BK157.out 1).trans rfl;have hcz41_2:w36.cell? ⟨gb157,2,none⟩=some (.int .i64 ((rd_T53 l0_1 x10_1).f2)):=(blk_cell BK157.out 2).trans rfl;have hfz41_0:=blk_frozen BK157.out 0;have hfz41_1:=blk_frozen BK157.out 1;have hfz41_2:=blk_frozen BK157.out 2))
                 go_ret
                 exact⟨by first|rfl|(simp [errW_none,errW_some]<;>rfl)|(simp [*,errW_none,errW_some]<;>rfl),by repeat(first|(with_reducible first|exact HB.out|apply below_alloc|apply pw_below_drewN|apply below_drew1|refine below_set ?_ GE154.out|refine below_set ?_ GE157.out|refine below_set ?_ GE165.out)|exact HB.out)⟩
                ·rw [if_neg c35] at H
                 have c35b0:(((rd_T53 y160 x39_3).f0)== ((rd_T53 l0_1 x10_1).f0))=false:=beq_eq_false_iff_ne.mpr c35
                 have c35b1:(((rd_T53 y160 x39_3).f0) != ((rd_T53 l0_1 x10_1).f0))=true:=bne_iff_ne.mpr c35
                 have H':=Aside0.mk H
                 clear H
                 have p164: 0≤ (x39_3:Int):=of_decide_eq_true z1
                 have q164:x39_3< (y160.length:Int):=of_decide_eq_true z1
                 obtain⟨ad164,e164,hx164_0,hx164_1,hx164_2⟩:=at_T53 HR163.out x39_3 p164 q164
                 obtain rfl:ad156=ad164:=(by injection e164)
                 replace hx164_0:=(HB.out.cell (World.block_lt_of_cell? w _ hx164_0)).trans hx164_0
                 replace hx164_1:=(HB.out.cell (World.block_lt_of_cell? w _ hx164_1)).trans hx164_1
                 replace hx164_2:=(HB.out.cell (World.block_lt_of_cell? w _ hx164_2)).trans hx164_2
                 replace p164:=eq_true p164
                 replace q164:=eq_true q164
                 go_wp2_with (first|((with_reducible refine gate_dst (N:=6) rfl ?_);(try(refine gate_guard (by rfl) ?_;dsimp only));refine box_event ?hg (N:=6) ?hd (cs:= #[.int .i64 0,.int .i64 0,.int .i64 0]) (t:=53) ?hr ?_;(case hd=>rfl);(case hg=>rfl);(case hr=>first|(go_simp;done)|(go_simp;rfl));intro gb165 hg w42 hbox hb;have n0_:=Aside0.mk (blk_below (g:=gb154) (o:= .cells #[.int .i64 a0_0,.slice (some ad156) l0_1.length c0_1] 24 (0,0)) (z3 BK154) hb);have n1_:=Aside0.mk (blk_below (g:=gb157) (o:= .cells #[.int .i64 ((rd_T53 l0_1 x10_1).f0),.int .i64 ((rd_T53 l0_1 x10_1).f1),.int .i64 ((rd_T53 l0_1 x10_1).f2)] 53 (0,0)) (z3 BK157) hb);have n2_:=Aside0.mk (below_step (zb2 HB GE154 GE157) hb);have n3_:=Aside0.mk (hbox);have n4_:=Aside0.mk ((by rw [hg];exact(below_size (zb2 HB GE154 GE157)):w.heap.size≤gb165));have n5_:=Aside0.mk ((by rw [hg];exact(below_size (zb2 HB GE154 GE157)):w.heap.size≤gb165));have n6_:=Aside0.mk ((by rw [hg];exact Nat.ne_of_lt (blk_lt (g:=gb154) (o:= .cells #[.int .i64 a0_0,.slice (some ad156) l0_1.length c0_1] 24 (0,0)) (z3 BK154)):gb154≠gb165));have n7_:=Aside0.mk ((by rw [hg];exact Nat.ne_of_gt (blk_lt (g:=gb154) (o:= .cells #[.int .i64 a0_0,.slice (some ad156) l0_1.length c0_1] 24 (0,0)) (z3 BK154)):gb165≠gb154));have n8_:=Aside0.mk ((by rw [hg];exact Nat.ne_of_lt (blk_lt (g:=gb157) (o:= .cells #[.int .i64 ((rd_T53 l0_1 x10_1).f0),.int .i64 ((rd_T53 l0_1 x10_1).f1),.int .i64 ((rd_T53 l0_1 x10_1).f2)] 53 (0,0)) (z3 BK157)):gb157≠gb165));have n9_:=Aside0.mk ((by rw [hg];exact Nat.ne_of_gt (blk_lt (g:=gb157) (o:= .cells #[.int .i64 ((rd_T53 l0_1 x10_1).f0),.int .i64 ((rd_T53 l0_1 x10_1).f1),.int .i64 ((rd_T53 l0_1 x10_1).f2)] 53 (0,0)) (z3 BK157)):gb165≠gb157));clear BK154;clear BK157;clear HB;have BK154:=n0_;have BK157:=n1_;have HB:=n2_;have BK165:=n3_;have GW165:=n4_;have GE165:=n5_;have NB154_165:=n6_;have NB165_154:=n7_;have NB157_165:=n8_;have NB165_157:=n9_;clear n0_ n1_ n2_ n3_ n4_ n5_ n6_ n7_ n8_ n9_;clear hb hbox hg;have hnb43:=NB165_154.out;have hnc43:=NB154_165.out;have hnb44:=NB165_157.out;have hnc44:=NB157_165.out;have hcz45_0:w42.cell? ⟨gb165,0,none⟩=some (.int .i64 0):=(blk_cell BK165.out 0).trans rfl;have hcz45_1:w42.cell? ⟨gb165,1,none⟩=some (.int .i64 0):=(blk_cell BK165.out 1).trans rfl;have hcz45_2:w42.cell? ⟨gb165,2,none⟩=some (.int .i64 0):=(blk_cell BK165.out 2).trans rfl;have hfz45_0:=blk_frozen BK165.out 0;have hfz45_1:=blk_frozen BK165.out 1;have hfz45_2:=blk_frozen BK165.out 2;have hnb46:=NB157_154.out;have hnc46:=NB154_157.out;have hcz47_0:w42.cell? ⟨gb157,0,none⟩=some (.int .i64 ((rd_T53 l0_1 x10_1).f0)):=(blk_cell BK157.out 0).trans rfl;have hcz47_1:w42.cell? ⟨gb157,1,none⟩=some (.int .i64 ((rd_T53 l0_1 x10_1).f1)):=(blk_cell BK157.out 1).trans rfl;have hcz47_2:w42.cell? ⟨gb157,2,none⟩=some (.int .i64 ((rd_T53 l0_1 x10_1).f2)):=(blk_cell BK157.out 2).trans rfl;have hfz47_0:=blk_frozen BK157.out 0;have hfz47_1:=blk_frozen BK157.out 1;have hfz47_2:=blk_frozen BK157.out 2))
                 go_roundg k3
                 case measure=>have:=HK1.out;have:=HJ6.out;have:=HK3.out;omega
                 case rel=>exact⟨(wrap64 (x39_3+1)),(by first|rfl|(simp;done)|(simp [*];done)),H',⟨by have:=HK1.out;have:=HJ6.out;have:=HK3.out;omega⟩,⟨by(with_reducible repeat(first|refine blk_drewN ?_ _|refine blk_drew ?_ |refine blk_alloc ?_ _));refine blk_far ?_ NB154_165.out _;(with_reducible repeat(first|refine blk_drewN ?_ _|refine blk_drew ?_ |refine blk_alloc ?_ _));refine blk_far ?_ NB154_165.out _;(with_reducible repeat(first|refine blk_drewN ?_ _|refine blk_drew ?_ |refine blk_alloc ?_ _));refine blk_far ?_ NB154_165.out _;(with_reducible repeat(first|refine blk_drewN ?_ _|refine blk_drew ?_ |refine blk_alloc ?_ _));exact BK154.out⟩,⟨by(with_reducible repeat(first|refine blk_drewN ?_ _|refine blk_drew ?_ |refine blk_alloc ?_ _));refine blk_far ?_ NB157_165.out _;(with_reducible repeat(first|refine blk_drewN ?_ _|refine blk_drew ?_ |refine blk_alloc ?_ _));refine blk_far ?_ NB157_165.out _;(with_reducible repeat(first|refine blk_drewN ?_ _|refine blk_drew ?_ |refine blk_alloc ?_ _));refine blk_far ?_ NB157_165.out _;(with_reducible repeat(first|refine blk_drewN ?_ _|refine blk_drew ?_ |refine blk_alloc ?_ _));exact BK157.out⟩,⟨by repeat(first|(with_reducible first|exact HB.out|apply below_alloc|apply pw_below_drewN|apply below_drew1|refine below_set ?_ GE154.out|refine below_set ?_ GE157.out|refine below_set ?_ GE165.out)|exact HB.out)⟩⟩
               ·rw [if_neg c34] at H
                exact absurd H (by simp)
              ·rw [if_neg c33] at H
               exact absurd H (by simp)
             ·rw [if_neg c32] at H
              have c32b0:decide (x39_3< (y160.length:Int))=false:=decide_eq_false c32
              clear c32
              have H':=Aside0.mk H
              clear H
              go_wp2
              go_roundg k3
              case measure=>have:=HK1.out;have:=HJ6.out;have:=HK3.out;omega
              case rel=>exact⟨(wrap64 (x10_1+1)),(by first|rfl|(simp;done)|(simp [*];done)),H',⟨by have:=HK1.out;have:=HJ6.out;have:=HK3.out;omega⟩,⟨by(with_reducible repeat(first|refine blk_drewN ?_ _|refine blk_drew ?_ |refine blk_alloc ?_ _));exact BK154.out⟩,⟨by repeat(first|(with_reducible first|exact HB.out|apply below_alloc|apply pw_below_drewN|apply below_drew1|refine below_set ?_ GE154.out|refine below_set ?_ GE157.out)|exact HB.out)⟩⟩
          ·rw [if_neg c28] at H
           exact absurd H (by simp)
         ·rw [if_neg c27] at H
          exact absurd H (by simp)
     ·rw [if_neg c6] at H
      exact absurd H (by simp)
    ·rw [if_neg c5] at H
     exact absurd H (by simp)
   ·rw [if_neg c4] at H
    have c4b0:decide (x10_1< (l0_1.length:Int))=false:=decide_eq_false c4
    clear c4
    replace H:=Option.bind_eq_some_iff.mp H
    obtain⟨t155,A480,H⟩:=H
    replace H:(if t155=true then(some (decide ((l0_1.length:Int)≤a0_0))) else(some false))=some r:=H
    have A48:=Aside0.mk A480
    clear A480
    by_cases c49:t155=true
    ·subst c49
     have H1:(some (decide ((l0_1.length:Int)≤a0_0)))=some r:=by rw [if_pos rfl] at H;exact H
     clear H
     have H:=H1
     clear H1
     obtain rfl:=Option.some.inj H
     have hcz50_0:wr.cell? ⟨gb154,0,none⟩=some (.int .i64 a0_0):=(blk_cell BK154.out 0).trans rfl
     have hcz50_1:wr.cell? ⟨gb154,1,none⟩=some (.slice A0_1 l0_1.length c0_1):=(blk_cell BK154.out 1).trans rfl
     have hfz50_0:=blk_frozen BK154.out 0
     have hfz50_1:=blk_frozen BK154.out 1
     go_wp2_with (first|((with_reducible refine gate_callee (f:=41) rfl ?_);refine goesL_ (some 52) rfl rfl Try.func41 (by kernel_rfl) rfl #[.int .i64 a0_0,.int .i64 1,.int .i64 8] rfl z2 ?_;(with_reducible refine(spec_l1In.calls a0_0 1 8 true _ A48.out).mono ?_);rintro e w' ⟨rfl,⟨nd,rfl⟩⟩;refine⟨_,rfl,?_⟩))
     go_ret
     exact⟨by first|rfl|(simp [errW_none,errW_some]<;>rfl)|(simp [*,errW_none,errW_some]<;>rfl),by repeat(first|(with_reducible first|exact HB.out|apply below_alloc|apply pw_below_drewN|apply below_drew1|refine below_set ?_ GE154.out)|exact HB.out)⟩
    ·replace c49:=Bool.eq_false_iff.mpr c49
     subst c49
     have H1:(some false)=some r:=by rw [if_neg (show ¬ (false=true) by decide)] at H;exact H
     clear H
     have H:=H1
     clear H1
     obtain rfl:=Option.some.inj H
     have hcz51_0:wr.cell? ⟨gb154,0,none⟩=some (.int .i64 a0_0):=(blk_cell BK154.out 0).trans rfl
     have hcz51_1:wr.cell? ⟨gb154,1,none⟩=some (.slice A0_1 l0_1.length c0_1):=(blk_cell BK154.out 1).trans rfl
     have hfz51_0:=blk_frozen BK154.out 0
     have hfz51_1:=blk_frozen BK154.out 1
     go_wp2_with (first|((with_reducible refine gate_callee (f:=41) rfl ?_);refine goesL_ (some 52) rfl rfl Try.func41 (by kernel_rfl) rfl #[.int .i64 a0_0,.int .i64 1,.int .i64 8] rfl z2 ?_;(with_reducible refine(spec_l1In.calls a0_0 1 8 false _ A48.out).mono ?_);rintro e w' ⟨rfl,⟨nd,rfl⟩⟩;refine⟨_,rfl,?_⟩))
     go_ret
     exact⟨by first|rfl|(simp [errW_none,errW_some]<;>rfl)|(simp [*,errW_none,errW_some]<;>rfl),by repeat(first|(with_reducible first|exact HB.out|apply below_alloc|apply pw_below_drewN|apply below_drew1|refine below_set ?_ GE154.out)|exact HB.out)⟩
end Go.Proofs.Ytcbofebikbbknaa.P

namespace Go.Proofs.Ytcbofebikbbknaa.P
open Go.RowKit Go.Proofs.YtcbofebikbbknaaW.PrintWords Go.Proofs.YtcbofebikbbknaaW.PrintLast Go.Proofs.YtcbofebikbbknaaW.PrintMore
attribute [local go_sem] max2_int min2_int max_two min_two max_three min_three max_four min_four   -- for this text's walks alone
set_option linter.unusedVariables false
set_option linter.unusedSimpArgs false
mutual
def impl_GoodTable.j0:Nat→Bool→Int→List (S53)→Option (Bool)
 | 0,_,_,_=>none
 |k+1,x16,x188000,x188001=>if x16=true then(some false) else(impl_GoodTable.l0 k x188001 (x188001.length:Int) 0 x188000 x188001)
def impl_GoodTable.l0:Nat→List (S53)→Int→Int→Int→List (S53)→Option (Bool)
 | 0,_,_,_,_,_=>none
 |k+1,x18,x19,x20,x188000,x188001=>if x20<x19 then(if 0≤x20 then(if x20< (x18.length:Int) then((impl_isSeen.f ((rd_T53 x18 x20).f0) ((rd_T53 x18 x20).f1) ((rd_T53 x18 x20).f2)).bind fun t191=>(if t191=true then((impl_row.f x188001 ((rd_T53 x18 x20).f0)).bind fun t192=>(if t192<x20 then(some false) else(if x20 > 0 then(if 0≤ (wrap64 (x20 - 1)) then(if (wrap64 (x20 - 1))< (x188001.length:Int) then(if ((rd_T53 x188001 (wrap64 (x20 - 1))).f2)< ((rd_T53 x18 x20).f2) then(some false) else(impl_GoodTable.l0 k x18 x19 (wrap64 (x20+1)) x188000 x188001)) else(none)) else(none)) else(impl_GoodTable.l0 k x18 x19 (wrap64 (x20+1)) x188000 x188001)))) else(some false))) else(none)) else(none)) else(some true)
end
def impl_GoodTable.f (k:Nat) (a0_0:Int) (l0_1:List (S53)):Option (Bool):=(impl_in.f a0_0 1 8).bind fun t188=>(if t188=true then(impl_GoodTable.j0 k (decide ((l0_1.length:Int) > a0_0)) a0_0 l0_1) else(impl_GoodTable.j0 k true a0_0 l0_1))
def impl_GoodTable.T6:Bool × List (List Nat × List Nat):=(true,[([],[]),([0],[0]),([1],[1]),([2,1],[2]),([3],[3]),([4,3],[3,4]),([3],[3]),([6,3],[3,6]),([5,7,3,3],[3,5,7]),([3],[3]),([8,9,3],[3,8,9]),([3,10],[3,10]),([11,8],[11]),([12],[12]),([13,12],[12,13]),([14,12,12],[12,14]),([15],[15]),([16,15],[15,16]),([15],[15]),([18,15],[15,18]),([17,19,15],[15,17,19]),([20,15],[15,20]),([21,15],[15,21]),([15],[15]),([23,15],[15,23]),([22,24,15],[15,22,24]),([15,25,12],[12,15,25]),([12,26],[12,26])])
def impl_GoodTable.B6:List Nat:= [0,1,3,7,15,31,15,79,255,15,1023,2047,4095,8191,16383,32767,65535,131071,65535,327679,1048575,2097151,4194303,65535,8454143,33554431,67108863,134217727]
theorem impl_GoodTable.tab6:rtab .any (opsOf Try.f20 6)=impl_GoodTable.T6:=by kernel_rfl
theorem impl_GoodTable.bits6:waitsOk impl_GoodTable.T6.2 impl_GoodTable.B6=true:=by kernel_rfl
set_option maxHeartbeats 8000000 in
set_option maxRecDepth 100000 in
theorem impl_GoodTable.calls (k:Nat) (a0_0:Int) (A0_1:Option Addr) (c0_1:Nat) (l0_1:List (S53)) (r:Bool) (w:World) (hr0_1:Kd.C k53 w A0_1 l0_1.length l0_1) (hc0_1:l0_1.length≤c0_1) (h:impl_GoodTable.f k a0_0 l0_1=some r):
  Calls Try.prog 20 #[.agg #[.int .i64 a0_0,.slice A0_1 l0_1.length c0_1]] w fun e w'=>e= .returned (.bool r)∧Below w.heap.size w w':=by
 have hu24:=Try.underlying24
 have hu53:=Try.underlying53
 have HR0_1:=Aside0.mk hr0_1
 have HC0_1:=Aside0.mk hc0_1
 clear hr0_1 hc0_1
 have HB:=Aside0.mk (Below.refl w.heap.size w)
 have H:((impl_in.f a0_0 1 8).bind fun t188=>(if t188=true then(impl_GoodTable.j0 k (decide ((l0_1.length:Int) > a0_0)) a0_0 l0_1) else(impl_GoodTable.j0 k true a0_0 l0_1)))=some r:=h
 clear h
 have HC2:=Aside0.mk H
 clear H
 go_enter Try.func20,Try.ntmps20
 go_upto_region 1 with (first|((with_reducible refine gate_dst (N:=1) rfl ?_);(try(refine gate_guard (by rfl) ?_;dsimp only));refine box_event ?hg (N:=1) ?hd (cs:= #[.int .i64 a0_0,.slice A0_1 l0_1.length c0_1]) (t:=24) ?hr ?_;(case hd=>rfl);(case hg=>rfl);(case hr=>first|(go_simp;done)|(go_simp;rfl));intro gb187 hg w3 hbox hb;have n0_:=Aside0.mk (below_step (zb0 HB) hb);have n1_:=Aside0.mk (hbox);have n2_:=Aside0.mk ((by rw [hg];exact(below_size (zb0 HB)):w.heap.size≤gb187));have n3_:=Aside0.mk ((by rw [hg];exact(below_size (zb0 HB)):w.heap.size≤gb187));clear HB;have HB:=n0_;have BK187:=n1_;have GW187:=n2_;have GE187:=n3_;clear n0_ n1_ n2_ n3_;clear hb hbox hg))
 (try simp only [Act.put,z5,z6,z7])
 go_cut [16] (fun v16 wc=> ∃ (kq:Nat) (x16_1:Bool),v16= .bool x16_1∧Aside0 (impl_GoodTable.j0 kq x16_1 a0_0 l0_1=some r)∧Aside0 (kq≤k)∧Aside0 (wc.heap[gb187]?=some (.cells #[.int .i64 a0_0,(.slice A0_1 l0_1.length c0_1)] 24 (0,0)))∧Aside0 (Below w.heap.size w wc))
 case first=>
  have H:=HC2.out
  clear HC2
  replace H:=Option.bind_eq_some_iff.mp H
  obtain⟨t188,A40,H⟩:=H
  replace H:(if t188=true then(impl_GoodTable.j0 k (decide ((l0_1.length:Int) > a0_0)) a0_0 l0_1) else(impl_GoodTable.j0 k true a0_0 l0_1))=some r:=H
  have A4:=Aside0.mk A40
  clear A40
  by_cases c5:t188=true
  ·subst c5
   have H1:(impl_GoodTable.j0 k (decide ((l0_1.length:Int) > a0_0)) a0_0 l0_1)=some r:=by rw [if_pos rfl] at H;exact H
   clear H
   have H:=H1
   clear H1
   have H':=Aside0.mk H
   clear H
   have hcz6_0:w3.cell? ⟨gb187,0,none⟩=some (.int .i64 a0_0):=(blk_cell BK187.out 0).trans rfl
   have hcz6_1:w3.cell? ⟨gb187,1,none⟩=some (.slice A0_1 l0_1.length c0_1):=(blk_cell BK187.out 1).trans rfl
   have hfz6_0:=blk_frozen BK187.out 0
   have hfz6_1:=blk_frozen BK187.out 1
   go_wp2_with (first|((with_reducible refine gate_callee (f:=42) rfl ?_);refine goesL_ (some 7) rfl rfl Try.func42 (by kernel_rfl) rfl #[.int .i64 a0_0,.int .i64 1,.int .i64 8] rfl z2 ?_;(with_reducible refine(impl_in.calls a0_0 1 8 true _ A4.out).mono ?_);rintro e w' ⟨rfl,⟨nd,rfl⟩⟩;refine⟨_,rfl,?_⟩))
   go_meet
   case rel=>exact⟨_,(decide ((l0_1.length:Int) > a0_0)),(by first|rfl|(simp;done)|(simp [*];done)),H',⟨by first|omega|exact Nat.le_refl _⟩,⟨by(with_reducible repeat(first|refine blk_drewN ?_ _|refine blk_drew ?_ |refine blk_alloc ?_ _));exact BK187.out⟩,⟨by repeat(first|(with_reducible first|exact HB.out|apply below_alloc|apply pw_below_drewN|apply below_drew1|refine below_set ?_ GE187.out)|exact HB.out)⟩⟩
  ·replace c5:=Bool.eq_false_iff.mpr c5
   subst c5
   have H1:(impl_GoodTable.j0 k true a0_0 l0_1)=some r:=by rw [if_neg (show ¬ (false=true) by decide)] at H;exact H
   clear H
   have H:=H1
   clear H1
   have H':=Aside0.mk H
   clear H
   have hcz7_0:w3.cell? ⟨gb187,0,none⟩=some (.int .i64 a0_0):=(blk_cell BK187.out 0).trans rfl
   have hcz7_1:w3.cell? ⟨gb187,1,none⟩=some (.slice A0_1 l0_1.length c0_1):=(blk_cell BK187.out 1).trans rfl
   have hfz7_0:=blk_frozen BK187.out 0
   have hfz7_1:=blk_frozen BK187.out 1
   go_wp2_with (first|((with_reducible refine gate_callee (f:=42) rfl ?_);refine goesL_ (some 7) rfl rfl Try.func42 (by kernel_rfl) rfl #[.int .i64 a0_0,.int .i64 1,.int .i64 8] rfl z2 ?_;(with_reducible refine(impl_in.calls a0_0 1 8 false _ A4.out).mono ?_);rintro e w' ⟨rfl,⟨nd,rfl⟩⟩;refine⟨_,rfl,?_⟩))
   go_meet
   case rel=>exact⟨_,(true),(by first|rfl|(simp;done)|(simp [*];done)),H',⟨by first|omega|exact Nat.le_refl _⟩,⟨by(with_reducible repeat(first|refine blk_drewN ?_ _|refine blk_drew ?_ |refine blk_alloc ?_ _));exact BK187.out⟩,⟨by repeat(first|(with_reducible first|exact HB.out|apply below_alloc|apply pw_below_drewN|apply below_drew1|refine below_set ?_ GE187.out)|exact HB.out)⟩⟩
 case rest=>
  clear HC2
  try clear c2
  try clear p2
  try clear c4
  try clear c5
  try clear hcz6_0
  try clear hcz6_1
  try clear hcz7_0
  try clear hcz7_1
  try clear hfz6_0
  try clear hfz6_1
  try clear hfz7_0
  try clear hfz7_1
  obtain⟨kq,x16_1,rfl,HA,HJ1,BK187,HB⟩:=hcut
  cases kq with
  |zero=>exact absurd HA.out (by simp [impl_GoodTable.j0])
  |succ kj1=>
   have H:=HA.out
   clear HA
   simp only [impl_GoodTable.j0] at H
   by_cases c8:x16_1=true
   ·subst c8
    have H1:(some false)=some r:=by rw [if_pos rfl] at H;exact H
    clear H
    have H:=H1
    clear H1
    obtain rfl:=Option.some.inj H
    go_wp2
    go_ret
    exact⟨by first|rfl|(simp [errW_none,errW_some]<;>rfl)|(simp [*,errW_none,errW_some]<;>rfl),by repeat(first|(with_reducible first|exact HB.out|apply below_alloc|apply pw_below_drewN|apply below_drew1|refine below_set ?_ GE187.out)|exact HB.out)⟩
   ·replace c8:=Bool.eq_false_iff.mpr c8
    subst c8
    have H1:(impl_GoodTable.l0 kj1 l0_1 (l0_1.length:Int) 0 a0_0 l0_1)=some r:=by rw [if_neg (show ¬ (false=true) by decide)] at H;exact H
    clear H
    have H:=H1
    clear H1
    have H':=Aside0.mk H
    clear H
    have hcz9_0:wc.cell? ⟨gb187,0,none⟩=some (.int .i64 a0_0):=(blk_cell BK187.out 0).trans rfl
    have hcz9_1:wc.cell? ⟨gb187,1,none⟩=some (.slice A0_1 l0_1.length c0_1):=(blk_cell BK187.out 1).trans rfl
    have hfz9_0:=blk_frozen BK187.out 0
    have hfz9_1:=blk_frozen BK187.out 1
    go_wp2
    go_loopg [20] kj1 (fun kq v20 w'=> ∃ (x20_2:Int),v20= .int .i64 x20_2∧Aside0 (impl_GoodTable.l0 kq l0_1 (l0_1.length:Int) x20_2 a0_0 l0_1=some r)∧Aside0 (kq≤kj1)∧Aside0 (w'.heap[gb187]?=some (.cells #[.int .i64 a0_0,(.slice A0_1 l0_1.length c0_1)] 24 (0,0)))∧Aside0 (Below w.heap.size w w'))
    case atStart=>exact⟨(0),(by first|rfl|(simp;done)|(simp [*];done)),H',⟨Nat.le_refl _⟩,⟨by(with_reducible repeat(first|refine blk_drewN ?_ _|refine blk_drew ?_ |refine blk_alloc ?_ _));exact BK187.out⟩,⟨by repeat(first|(with_reducible first|exact HB.out|apply below_alloc|apply pw_below_drewN|apply below_drew1|refine below_set ?_ GE187.out)|exact HB.out)⟩⟩
    case round=>
     clear H'
     try clear c2
     try clear p2
     try clear c4
     try clear c5
     try clear c8
     try clear hcz6_0
     try clear hcz6_1
     try clear hcz7_0
     try clear hcz7_1
     try clear hcz9_0
     try clear hcz9_1
     try clear hfz6_0
     try clear hfz6_1
     try clear hfz7_0
     try clear hfz7_1
     try clear hfz9_0
     try clear hfz9_1
     try clear p2
     obtain⟨x20_2,rfl,HA,HK2,BK187,HB⟩:=hrel
     cases gk with
     |zero=>exact absurd HA.out (by simp [impl_GoodTable.l0])
     |succ k2=>
      have H:=HA.out
      clear HA
      simp only [impl_GoodTable.l0] at H
      by_cases c10:x20_2< (l0_1.length:Int)
      ·rw [if_pos c10] at H
       have c10b0:decide (x20_2< (l0_1.length:Int))=true:=decide_eq_true c10
       clear c10
       by_cases c11: 0≤x20_2
       ·rw [if_pos c11] at H
        have c11b0:decide (0≤x20_2)=true:=decide_eq_true c11
        clear c11
        by_cases c12:x20_2< (l0_1.length:Int)
        ·rw [if_pos c12] at H
         have c12b0:decide (x20_2< (l0_1.length:Int))=true:=decide_eq_true c12
         clear c12
         replace H:=Option.bind_eq_some_iff.mp H
         obtain⟨t191,A130,H⟩:=H
         replace H:(if t191=true then((impl_row.f l0_1 ((rd_T53 l0_1 x20_2).f0)).bind fun t192=>(if t192<x20_2 then(some false) else(if x20_2 > 0 then(if 0≤ (wrap64 (x20_2 - 1)) then(if (wrap64 (x20_2 - 1))< (l0_1.length:Int) then(if ((rd_T53 l0_1 (wrap64 (x20_2 - 1))).f2)< ((rd_T53 l0_1 x20_2).f2) then(some false) else(impl_GoodTable.l0 k2 l0_1 (l0_1.length:Int) (wrap64 (x20_2+1)) a0_0 l0_1)) else(none)) else(none)) else(impl_GoodTable.l0 k2 l0_1 (l0_1.length:Int) (wrap64 (x20_2+1)) a0_0 l0_1)))) else(some false))=some r:=H
         have A13:=Aside0.mk A130
         clear A130
         by_cases c14:t191=true
         ·subst c14
          have H1:((impl_row.f l0_1 ((rd_T53 l0_1 x20_2).f0)).bind fun t192=>(if t192<x20_2 then(some false) else(if x20_2 > 0 then(if 0≤ (wrap64 (x20_2 - 1)) then(if (wrap64 (x20_2 - 1))< (l0_1.length:Int) then(if ((rd_T53 l0_1 (wrap64 (x20_2 - 1))).f2)< ((rd_T53 l0_1 x20_2).f2) then(some false) else(impl_GoodTable.l0 k2 l0_1 (l0_1.length:Int) (wrap64 (x20_2+1)) a0_0 l0_1)) else(none)) else(none)) else(impl_GoodTable.l0 k2 l0_1 (l0_1.length:Int) (wrap64 (x20_2+1)) a0_0 l0_1))))=some r:=by rw [if_pos rfl] at H;exact H
          clear H
          have H:=H1
          clear H1
          replace H:=Option.bind_eq_some_iff.mp H
          obtain⟨t192,A150,H⟩:=H
          replace H:(if t192<x20_2 then(some false) else(if x20_2 > 0 then(if 0≤ (wrap64 (x20_2 - 1)) then(if (wrap64 (x20_2 - 1))< (l0_1.length:Int) then(if ((rd_T53 l0_1 (wrap64 (x20_2 - 1))).f2)< ((rd_T53 l0_1 x20_2).f2) then(some false) else(impl_GoodTable.l0 k2 l0_1 (l0_1.length:Int) (wrap64 (x20_2+1)) a0_0 l0_1)) else(none)) else(none)) else(impl_GoodTable.l0 k2 l0_1 (l0_1.length:Int) (wrap64 (x20_2+1)) a0_0 l0_1)))=some r:=H
          have A15:=Aside0.mk A150
          clear A150
          by_cases c16:t192<x20_2
          ·rw [if_pos c16] at H
           have c16b0:decide (t192<x20_2)=true:=decide_eq_true c16
           clear c16
           obtain rfl:=Option.some.inj H
           have p189: 0≤ (x20_2:Int):=of_decide_eq_true z1
           have q189:x20_2< (l0_1.length:Int):=of_decide_eq_true z1
           obtain⟨ad189,e189,hx189_0,hx189_1,hx189_2⟩:=at_T53 HR0_1.out x20_2 p189 q189
           cases e189
           replace hx189_0:=(HB.out.cell (World.block_lt_of_cell? w _ hx189_0)).trans hx189_0
           replace hx189_1:=(HB.out.cell (World.block_lt_of_cell? w _ hx189_1)).trans hx189_1
           replace hx189_2:=(HB.out.cell (World.block_lt_of_cell? w _ hx189_2)).trans hx189_2
           replace p189:=eq_true p189
           replace q189:=eq_true q189
           try go_wp2_with (first|((with_reducible refine gate_dst (N:=4) rfl ?_);(try(refine gate_guard (by rfl) ?_;dsimp only));refine box_event ?hg (N:=4) ?hd (cs:= #[.int .i64 0,.int .i64 0,.int .i64 0]) (t:=53) ?hr ?_;(case hd=>rfl);(case hg=>rfl);(case hr=>first|(go_simp;done)|(go_simp;rfl));intro gb190 hg w17 hbox hb;have n0_:=Aside0.mk (blk_below (g:=gb187) (o:= .cells #[.int .i64 a0_0,.slice (some ad189) l0_1.length c0_1] 24 (0,0)) (z3 BK187) hb);have n1_:=Aside0.mk (below_step (zb1 HB GE187) hb);have n2_:=Aside0.mk (hbox);have n3_:=Aside0.mk ((by rw [hg];exact(below_size (zb1 HB GE187)):w.heap.size≤gb190));have n4_:=Aside0.mk ((by rw [hg];exact(below_size (zb1 HB GE187)):w.heap.size≤gb190));have n5_:=Aside0.mk ((by rw [hg];exact Nat.ne_of_lt (blk_lt (g:=gb187) (o:= .cells #[.int .i64 a0_0,.slice (some ad189) l0_1.length c0_1] 24 (0,0)) (z3 BK187)):gb187≠gb190));have n6_:=Aside0.mk ((by rw [hg];exact Nat.ne_of_gt (blk_lt (g:=gb187) (o:= .cells #[.int .i64 a0_0,.slice (some ad189) l0_1.length c0_1] 24 (0,0)) (z3 BK187)):gb190≠gb187));clear BK187;clear HB;have BK187:=n0_;have HB:=n1_;have BK190:=n2_;have GW190:=n3_;have GE190:=n4_;have NB187_190:=n5_;have NB190_187:=n6_;clear n0_ n1_ n2_ n3_ n4_ n5_ n6_;clear hb hbox hg;have hnb18:=NB190_187.out;have hnc18:=NB187_190.out;have hcz19_0:w17.cell? ⟨gb190,0,none⟩=some (.int .i64 0):=(blk_cell BK190.out 0).trans rfl;have hcz19_1:w17.cell? ⟨gb190,1,none⟩=some (.int .i64 0):=(blk_cell BK190.out 1).trans rfl;have hcz19_2:w17.cell? ⟨gb190,2,none⟩=some (.int .i64 0):=(blk_cell BK190.out 2).trans rfl;have hfz19_0:=blk_frozen BK190.out 0;have hfz19_1:=blk_frozen BK190.out 1;have hfz19_2:=blk_frozen BK190.out 2))
           have n0_:Aside0 ((((w17.setCell ⟨gb190,0,none⟩ (.int .i64 ((rd_T53 l0_1 x20_2).f0))).setCell ⟨gb190,1,none⟩ (.int .i64 ((rd_T53 l0_1 x20_2).f1))).setCell ⟨gb190,2,none⟩ (.int .i64 ((rd_T53 l0_1 x20_2).f2))).heap[gb187]?=some (.cells #[.int .i64 a0_0,.slice (some ad189) l0_1.length c0_1] 24 (0,0))):=⟨by(with_reducible repeat(first|refine blk_drewN ?_ _|refine blk_drew ?_ |refine blk_alloc ?_ _));refine blk_far ?_ NB187_190.out _;(with_reducible repeat(first|refine blk_drewN ?_ _|refine blk_drew ?_ |refine blk_alloc ?_ _));refine blk_far ?_ NB187_190.out _;(with_reducible repeat(first|refine blk_drewN ?_ _|refine blk_drew ?_ |refine blk_alloc ?_ _));refine blk_far ?_ NB187_190.out _;(with_reducible repeat(first|refine blk_drewN ?_ _|refine blk_drew ?_ |refine blk_alloc ?_ _));exact BK187.out⟩
           have n1_:Aside0 ((((w17.setCell ⟨gb190,0,none⟩ (.int .i64 ((rd_T53 l0_1 x20_2).f0))).setCell ⟨gb190,1,none⟩ (.int .i64 ((rd_T53 l0_1 x20_2).f1))).setCell ⟨gb190,2,none⟩ (.int .i64 ((rd_T53 l0_1 x20_2).f2))).heap[gb190]?=some (.cells #[.int .i64 ((rd_T53 l0_1 x20_2).f0),.int .i64 ((rd_T53 l0_1 x20_2).f1),.int .i64 ((rd_T53 l0_1 x20_2).f2)] 53 (0,0))):=⟨by(with_reducible repeat(first|refine blk_drewN ?_ _|refine blk_drew ?_ |refine blk_alloc ?_ _));refine blk_put (cs:= #[.int .i64 ((rd_T53 l0_1 x20_2).f0),.int .i64 ((rd_T53 l0_1 x20_2).f1),.int .i64 0]) ?_ 2 _ rfl;(with_reducible repeat(first|refine blk_drewN ?_ _|refine blk_drew ?_ |refine blk_alloc ?_ _));refine blk_put (cs:= #[.int .i64 ((rd_T53 l0_1 x20_2).f0),.int .i64 0,.int .i64 0]) ?_ 1 _ rfl;(with_reducible repeat(first|refine blk_drewN ?_ _|refine blk_drew ?_ |refine blk_alloc ?_ _));refine blk_put (cs:= #[.int .i64 0,.int .i64 0,.int .i64 0]) ?_ 0 _ rfl;(with_reducible repeat(first|refine blk_drewN ?_ _|refine blk_drew ?_ |refine blk_alloc ?_ _));exact BK190.out⟩
           have n2_:Aside0 (Below w.heap.size w (((w17.setCell ⟨gb190,0,none⟩ (.int .i64 ((rd_T53 l0_1 x20_2).f0))).setCell ⟨gb190,1,none⟩ (.int .i64 ((rd_T53 l0_1 x20_2).f1))).setCell ⟨gb190,2,none⟩ (.int .i64 ((rd_T53 l0_1 x20_2).f2)))):=⟨by repeat(first|(with_reducible first|exact HB.out|apply below_alloc|apply pw_below_drewN|apply below_drew1|refine below_set ?_ GE187.out|refine below_set ?_ GE190.out)|exact HB.out)⟩
           (try clear BK187)
           (try clear BK190)
           (try clear HB)
           (try simp only [show ∀ (W_:World) (n_:Nat) (a_:Addr) (v_:Value),(World.drewN W_ n_).setCell a_ v_= (World.setCell W_ a_ v_).drewN n_ from fun _ _ _ _=>rfl])
           generalize (((w17.setCell ⟨gb190,0,none⟩ (.int .i64 ((rd_T53 l0_1 x20_2).f0))).setCell ⟨gb190,1,none⟩ (.int .i64 ((rd_T53 l0_1 x20_2).f1))).setCell ⟨gb190,2,none⟩ (.int .i64 ((rd_T53 l0_1 x20_2).f2)))=w20 at n0_ n1_ n2_ ⊢
           have BK187:=n0_
           have BK190:=n1_
           have HB:=n2_
           clear n0_ n1_ n2_
           have n0_:=Aside0.mk (blk_drew BK187.out)
           have n1_:=Aside0.mk (blk_drew BK190.out)
           have n2_:=Aside0.mk (below_drew1 HB.out)
           clear BK187
           clear BK190
           clear HB
           have BK187:=n0_
           have BK190:=n1_
           have HB:=n2_
           clear n0_ n1_ n2_
           refine start_ (n:=28) (S:=fun w'=>w'.cell? ⟨gb190,0,none⟩=some (.int .i64 ((rd_T53 l0_1 x20_2).f0))∧w'.cell? ⟨gb190,1,none⟩=some (.int .i64 ((rd_T53 l0_1 x20_2).f1))∧w'.cell? ⟨gb190,2,none⟩=some (.int .i64 ((rd_T53 l0_1 x20_2).f2))∧w'.cell? ⟨gb187,0,none⟩=some (.int .i64 a0_0)∧w'.cell? ⟨gb187,1,none⟩=some (.slice (some ad189) l0_1.length c0_1)) (ds:= []) #[f',f',f',f',f',f',f',f',f',f',f',f',f',f',f',f',f',f',f',f',f',f',f',f',f',f',f',f'] (by kernel_rfl) rfl rfl ⟨(blk_cell BK190.out 0).trans rfl,(blk_cell BK190.out 1).trans rfl,(blk_cell BK190.out 2).trans rfl,(blk_cell BK187.out 0).trans rfl,(blk_cell BK187.out 1).trans rfl⟩ (fun hHeld=>?_);refine with_tabW impl_GoodTable.tab6 impl_GoodTable.bits6 (fun HT_ HW_=>?_)
           generalize w20.drew=w21 at BK187 BK190 HB hHeld ⊢
           refine take_ (i:=0) (N:=some 25) (v:=?_) (a':=?_) #[t',f',f',f',f',f',f',f',f',f',f',f',f',f',f',f',f',f',f',f',f',f',f',f',f',f',f',f'] rfl rfl (take_ofW HT_.out HW_.out (by kernel_rfl)) (fun _ _ _ h=>h) (Or.inl ⟨by rfl,?_⟩) hHeld ?_ ?_
           rotate_left
           ·rintro w' ⟨s0,s1,s2,s3,s4⟩
            go_simp
            with_reducible rfl
           rotate_left
           ·simp only [Act.put,z5,z6,z7,i64_w,i32_w]
            rfl
           refine one_ (i:=1) (N:=some 26) #[t',t',f',f',f',f',f',f',f',f',f',f',f',f',f',f',f',f',f',f',f',f',f',f',f',f',f',f'] rfl rfl (one_of HT_.out (by kernel_rfl)) (by decide) (fun K hK=>?_)
           refine goes_ Try.func45 (by kernel_rfl) rfl #[.agg #[.int .i64 ((rd_T53 l0_1 x20_2).f0),.int .i64 ((rd_T53 l0_1 x20_2).f1),.int .i64 ((rd_T53 l0_1 x20_2).f2)]] (by rfl) rfl rfl z2 ?_
           with_reducible refine(impl_isSeen.calls ((rd_T53 l0_1 x20_2).f0) ((rd_T53 l0_1 x20_2).f1) ((rd_T53 l0_1 x20_2).f2) true _ A13.out).mono ?_
           rintro e w22 ⟨rfl,hb⟩
           refine⟨_,rfl,?_⟩
           have n0_:=Aside0.mk (blk_below (g:=gb187) (o:= .cells #[.int .i64 a0_0,.slice (some ad189) l0_1.length c0_1] 24 (0,0)) (z3 BK187) hb)
           have n1_:=Aside0.mk (blk_below (g:=gb190) (o:= .cells #[.int .i64 ((rd_T53 l0_1 x20_2).f0),.int .i64 ((rd_T53 l0_1 x20_2).f1),.int .i64 ((rd_T53 l0_1 x20_2).f2)] 53 (0,0)) (z3 BK190) hb)
           have n2_:=Aside0.mk (below_step (zb2 HB GE187 GE190) hb)
           clear BK187
           clear BK190
           clear HB
           have BK187:=n0_
           have BK190:=n1_
           have HB:=n2_
           clear n0_ n1_ n2_
           (try clear hb)
           (try clear hb2)
           (try clear hk)
           (try clear hi)
           refine hK.out _ _ ⟨(blk_cell BK190.out 0).trans rfl,(blk_cell BK190.out 1).trans rfl,(blk_cell BK190.out 2).trans rfl,(blk_cell BK187.out 0).trans rfl,(blk_cell BK187.out 1).trans rfl⟩ (fun hHeld=>?_)
           clear hK K
           refine norm_ (a':=?_) ?_ ?_
           rotate_left
           ·show Act.put _ (some 26) _=_
            simp only [Act.put,z5,z6,z7,i64_w,i32_w]
            rfl
           refine pure_ (i:=2) (N:=some 27) (v:=?_) (a':=?_) #[t',t',t',f',f',f',f',f',f',f',f',f',f',f',f',f',f',f',f',f',f',f',f',f',f',f',f',f'] rfl rfl (any_of HT_.out (by kernel_rfl)) (fun _ _ _ h=>h) (Or.inl ⟨by rfl,?_⟩) ?_ ?_
           rotate_left
           ·intro w'
            go_simp
            with_reducible rfl
           rotate_left
           ·simp only [Act.put,z5,z6,z7,i64_w,i32_w]
            rfl
           refine pure_ (i:=3) (N:=some 28) (v:=?_) (a':=?_) #[t',t',t',t',f',f',f',f',f',f',f',f',f',f',f',f',f',f',f',f',f',f',f',f',f',f',f',f'] rfl rfl (any_of HT_.out (by kernel_rfl)) (fun _ _ _ h=>h) (Or.inl ⟨by rfl,?_⟩) ?_ ?_
           rotate_left
           ·intro w'
            go_simp
            with_reducible rfl
           rotate_left
           ·simp only [Act.put,z5,z6,z7,i64_w,i32_w]
            rfl
           refine pure_ (i:=4) (N:=some 29) (v:=?_) (a':=?_) #[t',t',t',t',t',f',f',f',f',f',f',f',f',f',f',f',f',f',f',f',f',f',f',f',f',f',f',f'] rfl rfl (any_of HT_.out (by kernel_rfl)) (fun _ _ _ h=>h) (Or.inl ⟨by rfl,?_⟩) ?_ ?_
           rotate_left
           ·intro w'
            go_simp
            with_reducible rfl
           rotate_left
           ·simp only [Act.put,z5,z6,z7,i64_w,i32_w]
            rfl
           refine pure_ (i:=6) (N:=some 31) (v:=?_) (a':=?_) #[t',t',t',t',t',f',t',f',f',f',f',f',f',f',f',f',f',f',f',f',f',f',f',f',f',f',f',f'] rfl rfl (any_of HT_.out (by kernel_rfl)) (fun _ _ _ h=>h) (Or.inl ⟨by rfl,?_⟩) ?_ ?_
           rotate_left
           ·intro w'
            go_simp
            with_reducible rfl
           rotate_left
           ·simp only [Act.put,z5,z6,z7,i64_w,i32_w]
            rfl
           refine pure_ (i:=9) (N:=some 34) (v:=?_) (a':=?_) #[t',t',t',t',t',f',t',f',f',t',f',f',f',f',f',f',f',f',f',f',f',f',f',f',f',f',f',f'] rfl rfl (any_of HT_.out (by kernel_rfl)) (fun _ _ _ h=>h) (Or.inl ⟨by rfl,?_⟩) ?_ ?_
           rotate_left
           ·intro w'
            go_simp
            with_reducible rfl
           rotate_left
           ·simp only [Act.put,z5,z6,z7,i64_w,i32_w]
            rfl
           refine take_ (i:=5) (N:=some 30) (v:=?_) (a':=?_) #[t',t',t',t',t',t',t',f',f',t',f',f',f',f',f',f',f',f',f',f',f',f',f',f',f',f',f',f'] rfl rfl (take_ofW HT_.out HW_.out (by kernel_rfl)) (fun _ _ _ h=>h) (Or.inl ⟨by rfl,?_⟩) hHeld ?_ ?_
           rotate_left
           ·rintro w' ⟨s0,s1,s2,s3,s4⟩
            go_simp
            with_reducible rfl
           rotate_left
           ·simp only [Act.put,z5,z6,z7,i64_w,i32_w]
            rfl
           refine take_ (i:=7) (N:=some 32) (v:=?_) (a':=?_) #[t',t',t',t',t',t',t',t',f',t',f',f',f',f',f',f',f',f',f',f',f',f',f',f',f',f',f',f'] rfl rfl (take_ofW HT_.out HW_.out (by kernel_rfl)) (fun _ _ _ h=>h) (Or.inl ⟨by rfl,?_⟩) hHeld ?_ ?_
           rotate_left
           ·rintro w' ⟨s0,s1,s2,s3,s4⟩
            go_simp
            with_reducible rfl
           rotate_left
           ·simp only [Act.put,z5,z6,z7,i64_w,i32_w]
            rfl
           refine one_ (i:=8) (N:=some 33) #[t',t',t',t',t',t',t',t',t',t',f',f',f',f',f',f',f',f',f',f',f',f',f',f',f',f',f',f'] rfl rfl (one_of HT_.out (by kernel_rfl)) (by decide) (fun K hK=>?_)
           refine goes_ Try.func46 (by kernel_rfl) rfl #[.slice (some ad189) l0_1.length c0_1,.int .i64 ((rd_T53 l0_1 x20_2).f0)] (by rfl) rfl rfl z2 ?_
           with_reducible refine(impl_row.calls _ _ l0_1 ((rd_T53 l0_1 x20_2).f0) t192 _ ?side1 ?side2 A15.out).mono ?_
           (case side1=>repeat(first|exact(Kd.C_below HR0_1.out HB.out)|(with_reducible refine Kd.C_alloc ?_ _)|(with_reducible refine Kd.C_drewN ?_ _)|(with_reducible refine Kd.C_drew ?_)))
           (case side2=>exact HC0_1.out)
           rintro e w23 ⟨rfl,hb⟩
           refine⟨_,rfl,?_⟩
           have n0_:=Aside0.mk (blk_below (g:=gb187) (o:= .cells #[.int .i64 a0_0,.slice (some ad189) l0_1.length c0_1] 24 (0,0)) (z3 BK187) hb)
           have n1_:=Aside0.mk (blk_below (g:=gb190) (o:= .cells #[.int .i64 ((rd_T53 l0_1 x20_2).f0),.int .i64 ((rd_T53 l0_1 x20_2).f1),.int .i64 ((rd_T53 l0_1 x20_2).f2)] 53 (0,0)) (z3 BK190) hb)
           have n2_:=Aside0.mk (below_step (zb2 HB GE187 GE190) hb)
           clear BK187
           clear BK190
           clear HB
           have BK187:=n0_
           have BK190:=n1_
           have HB:=n2_
           clear n0_ n1_ n2_
           (try clear hb)
           (try clear hb2)
           (try clear hk)
           (try clear hi)
           refine hK.out _ _ ⟨(blk_cell BK190.out 0).trans rfl,(blk_cell BK190.out 1).trans rfl,(blk_cell BK190.out 2).trans rfl,(blk_cell BK187.out 0).trans rfl,(blk_cell BK187.out 1).trans rfl⟩ (fun hHeld=>?_)
           clear hK K
           refine norm_ (a':=?_) ?_ ?_
           rotate_left
           ·show Act.put _ (some 33) _=_
            simp only [Act.put,z5,z6,z7,i64_w,i32_w]
            rfl
           refine pure_ (i:=10) (N:=some 35) (v:=?_) (a':=?_) #[t',t',t',t',t',t',t',t',t',t',t',f',f',f',f',f',f',f',f',f',f',f',f',f',f',f',f',f'] rfl rfl (any_of HT_.out (by kernel_rfl)) (fun _ _ _ h=>h) (Or.inl ⟨by rfl,?_⟩) ?_ ?_
           rotate_left
           ·intro w'
            go_simp
            with_reducible rfl
           rotate_left
           ·simp only [Act.put,z5,z6,z7,i64_w,i32_w]
            rfl
           refine pure_ (i:=11) (N:=some 36) (v:=?_) (a':=?_) #[t',t',t',t',t',t',t',t',t',t',t',t',f',f',f',f',f',f',f',f',f',f',f',f',f',f',f',f'] rfl rfl (any_of HT_.out (by kernel_rfl)) (fun _ _ _ h=>h) (Or.inl ⟨by rfl,?_⟩) ?_ ?_
           rotate_left
           ·intro w'
            go_simp
            with_reducible rfl
           rotate_left
           ·simp only [Act.put,z5,z6,z7,i64_w,i32_w]
            rfl
           refine pure_ (i:=12) (N:=some 37) (v:=?_) (a':=?_) #[t',t',t',t',t',t',t',t',t',t',t',t',t',f',f',f',f',f',f',f',f',f',f',f',f',f',f',f'] rfl rfl (any_of HT_.out (by kernel_rfl)) (fun _ _ _ h=>h) (Or.inl ⟨by rfl,?_⟩) ?_ ?_
           rotate_left
           ·intro w'
            go_simp
            with_reducible rfl
           rotate_left
           ·simp only [Act.put,z5,z6,z7,i64_w,i32_w]
            rfl
           refine pure_ (i:=13) (N:=some 38) (v:=undef) (a':=?_) #[t',t',t',t',t',t',t',t',t',t',t',t',t',t',f',f',f',f',f',f',f',f',f',f',f',f',f',f'] rfl rfl (any_of HT_.out (by kernel_rfl)) (fun _ _ _ h=>h) (Or.inr ⟨by rfl,rfl⟩) ?_ ?_
           rotate_left
           ·simp only [Act.put,z5,z6,z7,i64_w,i32_w]
            rfl
           refine pure_ (i:=14) (N:=some 39) (v:=undef) (a':=?_) #[t',t',t',t',t',t',t',t',t',t',t',t',t',t',t',f',f',f',f',f',f',f',f',f',f',f',f',f'] rfl rfl (any_of HT_.out (by kernel_rfl)) (fun _ _ _ h=>h) (Or.inr ⟨by rfl,rfl⟩) ?_ ?_
           rotate_left
           ·simp only [Act.put,z5,z6,z7,i64_w,i32_w]
            rfl
           refine pure_ (i:=15) (N:=some 40) (v:=undef) (a':=?_) #[t',t',t',t',t',t',t',t',t',t',t',t',t',t',t',t',f',f',f',f',f',f',f',f',f',f',f',f'] rfl rfl (any_of HT_.out (by kernel_rfl)) (fun _ _ _ h=>h) (Or.inr ⟨by rfl,rfl⟩) ?_ ?_
           rotate_left
           ·simp only [Act.put,z5,z6,z7,i64_w,i32_w]
            rfl
           refine pure_ (i:=16) (N:=some 41) (v:=undef) (a':=?_) #[t',t',t',t',t',t',t',t',t',t',t',t',t',t',t',t',t',f',f',f',f',f',f',f',f',f',f',f'] rfl rfl (any_of HT_.out (by kernel_rfl)) (fun _ _ _ h=>h) (Or.inr ⟨by rfl,rfl⟩) ?_ ?_
           rotate_left
           ·simp only [Act.put,z5,z6,z7,i64_w,i32_w]
            rfl
           refine pure_ (i:=17) (N:=some 42) (v:=undef) (a':=?_) #[t',t',t',t',t',t',t',t',t',t',t',t',t',t',t',t',t',t',f',f',f',f',f',f',f',f',f',f'] rfl rfl (any_of HT_.out (by kernel_rfl)) (fun _ _ _ h=>h) (Or.inr ⟨by rfl,rfl⟩) ?_ ?_
           rotate_left
           ·simp only [Act.put,z5,z6,z7,i64_w,i32_w]
            rfl
           refine pure_ (i:=18) (N:=some 43) (v:=undef) (a':=?_) #[t',t',t',t',t',t',t',t',t',t',t',t',t',t',t',t',t',t',t',f',f',f',f',f',f',f',f',f'] rfl rfl (any_of HT_.out (by kernel_rfl)) (fun _ _ _ h=>h) (Or.inr ⟨by rfl,rfl⟩) ?_ ?_
           rotate_left
           ·simp only [Act.put,z5,z6,z7,i64_w,i32_w]
            rfl
           refine pure_ (i:=19) (N:=some 44) (v:=undef) (a':=?_) #[t',t',t',t',t',t',t',t',t',t',t',t',t',t',t',t',t',t',t',t',f',f',f',f',f',f',f',f'] rfl rfl (any_of HT_.out (by kernel_rfl)) (fun _ _ _ h=>h) (Or.inr ⟨by rfl,rfl⟩) ?_ ?_
           rotate_left
           ·simp only [Act.put,z5,z6,z7,i64_w,i32_w]
            rfl
           refine pure_ (i:=20) (N:=some 45) (v:=undef) (a':=?_) #[t',t',t',t',t',t',t',t',t',t',t',t',t',t',t',t',t',t',t',t',t',f',f',f',f',f',f',f'] rfl rfl (any_of HT_.out (by kernel_rfl)) (fun _ _ _ h=>h) (Or.inr ⟨by rfl,rfl⟩) ?_ ?_
           rotate_left
           ·simp only [Act.put,z5,z6,z7,i64_w,i32_w]
            rfl
           refine pure_ (i:=21) (N:=some 46) (v:=undef) (a':=?_) #[t',t',t',t',t',t',t',t',t',t',t',t',t',t',t',t',t',t',t',t',t',t',f',f',f',f',f',f'] rfl rfl (any_of HT_.out (by kernel_rfl)) (fun _ _ _ h=>h) (Or.inr ⟨by rfl,rfl⟩) ?_ ?_
           rotate_left
           ·simp only [Act.put,z5,z6,z7,i64_w,i32_w]
            rfl
           refine pure_ (i:=22) (N:=some 47) (v:=undef) (a':=?_) #[t',t',t',t',t',t',t',t',t',t',t',t',t',t',t',t',t',t',t',t',t',t',t',f',f',f',f',f'] rfl rfl (any_of HT_.out (by kernel_rfl)) (fun _ _ _ h=>h) (Or.inr ⟨by rfl,rfl⟩) ?_ ?_
           rotate_left
           ·simp only [Act.put,z5,z6,z7,i64_w,i32_w]
            rfl
           refine pure_ (i:=23) (N:=some 48) (v:=undef) (a':=?_) #[t',t',t',t',t',t',t',t',t',t',t',t',t',t',t',t',t',t',t',t',t',t',t',t',f',f',f',f'] rfl rfl (any_of HT_.out (by kernel_rfl)) (fun _ _ _ h=>h) (Or.inr ⟨by rfl,rfl⟩) ?_ ?_
           rotate_left
           ·simp only [Act.put,z5,z6,z7,i64_w,i32_w]
            rfl
           refine pure_ (i:=24) (N:=some 49) (v:=undef) (a':=?_) #[t',t',t',t',t',t',t',t',t',t',t',t',t',t',t',t',t',t',t',t',t',t',t',t',t',f',f',f'] rfl rfl (any_of HT_.out (by kernel_rfl)) (fun _ _ _ h=>h) (Or.inr ⟨by rfl,rfl⟩) ?_ ?_
           rotate_left
           ·simp only [Act.put,z5,z6,z7,i64_w,i32_w]
            rfl
           refine pure_ (i:=25) (N:=some 50) (v:=undef) (a':=?_) #[t',t',t',t',t',t',t',t',t',t',t',t',t',t',t',t',t',t',t',t',t',t',t',t',t',t',f',f'] rfl rfl (any_of HT_.out (by kernel_rfl)) (fun _ _ _ h=>h) (Or.inr ⟨by rfl,rfl⟩) ?_ ?_
           rotate_left
           ·simp only [Act.put,z5,z6,z7,i64_w,i32_w]
            rfl
           refine pure_ (i:=26) (N:=some 51) (v:=undef) (a':=?_) #[t',t',t',t',t',t',t',t',t',t',t',t',t',t',t',t',t',t',t',t',t',t',t',t',t',t',t',f'] rfl rfl (any_of HT_.out (by kernel_rfl)) (fun _ _ _ h=>h) (Or.inr ⟨by rfl,rfl⟩) ?_ ?_
           rotate_left
           ·simp only [Act.put,z5,z6,z7,i64_w,i32_w]
            rfl
           refine pure_ (i:=27) (N:=some 52) (v:=?_) (a':=?_) #[t',t',t',t',t',t',t',t',t',t',t',t',t',t',t',t',t',t',t',t',t',t',t',t',t',t',t',t'] rfl rfl (any_of HT_.out (by kernel_rfl)) (fun _ _ _ h=>h) (Or.inl ⟨by rfl,?_⟩) ?_ ?_
           rotate_left
           ·intro w'
            go_simp
            with_reducible rfl
           rotate_left
           ·simp only [Act.put,z5,z6,z7,i64_w,i32_w]
            rfl
           refine done_ (done_of HT_.out (by kernel_rfl)) ?_
           try go_wp2
           go_ret
           exact⟨by first|rfl|(simp [errW_none,errW_some]<;>rfl)|(simp [*,errW_none,errW_some]<;>rfl),by repeat(first|(with_reducible first|exact HB.out|apply below_alloc|apply pw_below_drewN|apply below_drew1|refine below_set ?_ GE187.out|refine below_set ?_ GE190.out)|exact HB.out)⟩
          ·rw [if_neg c16] at H
           have c16b0:decide (t192<x20_2)=false:=decide_eq_false c16
           clear c16
           by_cases c24:x20_2 > 0
           ·rw [if_pos c24] at H
            have c24b0:decide (0<x20_2)=true:=decide_eq_true c24
            clear c24
            obtain⟨ji25,hji25⟩ :∃ j_:Int,(wrap64 (x20_2 - 1))=j_:=⟨_,rfl⟩
            replace H:(if 0≤ (ji25) then(if (ji25)< (l0_1.length:Int) then(if ((rd_T53 l0_1 (ji25)).f2)< ((rd_T53 l0_1 x20_2).f2) then(some false) else(impl_GoodTable.l0 k2 l0_1 (l0_1.length:Int) (wrap64 (x20_2+1)) a0_0 l0_1)) else(none)) else(none))=some r:=by first|(rw [hji25] at H;exact H)|(simp only [hji25] at H ⊢;exact H)
            (try rw [hji25] at A13)
            (try rw [hji25] at A15)
            have hji25w:(IntKind.i64.wrap (x20_2 - 1))=ji25:=(i64_w _).trans hji25
            by_cases c26: 0≤ (ji25)
            ·rw [if_pos c26] at H
             have c26b0:decide (0≤ (ji25))=true:=decide_eq_true c26
             clear c26
             by_cases c27:(ji25)< (l0_1.length:Int)
             ·rw [if_pos c27] at H
              have c27b0:decide ((ji25)< (l0_1.length:Int))=true:=decide_eq_true c27
              clear c27
              by_cases c28:((rd_T53 l0_1 (ji25)).f2)< ((rd_T53 l0_1 x20_2).f2)
              ·rw [if_pos c28] at H
               have c28b0:decide (((rd_T53 l0_1 (ji25)).f2)< ((rd_T53 l0_1 x20_2).f2))=true:=decide_eq_true c28
               clear c28
               obtain rfl:=Option.some.inj H
               have p189: 0≤ (x20_2:Int):=of_decide_eq_true z1
               have q189:x20_2< (l0_1.length:Int):=of_decide_eq_true z1
               obtain⟨ad189,e189,hx189_0,hx189_1,hx189_2⟩:=at_T53 HR0_1.out x20_2 p189 q189
               cases e189
               replace hx189_0:=(HB.out.cell (World.block_lt_of_cell? w _ hx189_0)).trans hx189_0
               replace hx189_1:=(HB.out.cell (World.block_lt_of_cell? w _ hx189_1)).trans hx189_1
               replace hx189_2:=(HB.out.cell (World.block_lt_of_cell? w _ hx189_2)).trans hx189_2
               replace p189:=eq_true p189
               replace q189:=eq_true q189
               try go_wp2_with (first|((with_reducible refine gate_dst (N:=4) rfl ?_);(try(refine gate_guard (by rfl) ?_;dsimp only));refine box_event ?hg (N:=4) ?hd (cs:= #[.int .i64 0,.int .i64 0,.int .i64 0]) (t:=53) ?hr ?_;(case hd=>rfl);(case hg=>rfl);(case hr=>first|(go_simp;done)|(go_simp;rfl));intro gb190 hg w29 hbox hb;have n0_:=Aside0.mk (blk_below (g:=gb187) (o:= .cells #[.int .i64 a0_0,.slice (some ad189) l0_1.length c0_1] 24 (0,0)) (z3 BK187) hb);have n1_:=Aside0.mk (below_step (zb1 HB GE187) hb);have n2_:=Aside0.mk (hbox);have n3_:=Aside0.mk ((by rw [hg];exact(below_size (zb1 HB GE187)):w.heap.size≤gb190));have n4_:=Aside0.mk ((by rw [hg];exact(below_size (zb1 HB GE187)):w.heap.size≤gb190));have n5_:=Aside0.mk ((by rw [hg];exact Nat.ne_of_lt (blk_lt (g:=gb187) (o:= .cells #[.int .i64 a0_0,.slice (some ad189) l0_1.length c0_1] 24 (0,0)) (z3 BK187)):gb187≠gb190));have n6_:=Aside0.mk ((by rw [hg];exact Nat.ne_of_gt (blk_lt (g:=gb187) (o:= .cells #[.int .i64 a0_0,.slice (some ad189) l0_1.length c0_1] 24 (0,0)) (z3 BK187)):gb190≠gb187));clear BK187;clear HB;have BK187:=n0_;have HB:=n1_;have BK190:=n2_;have GW190:=n3_;have GE190:=n4_;have NB187_190:=n5_;have NB190_187:=n6_;clear n0_ n1_ n2_ n3_ n4_ n5_ n6_;clear hb hbox hg;have hnb30:=NB190_187.out;have hnc30:=NB187_190.out;have hcz31_0:w29.cell? ⟨gb190,0,none⟩=some (.int .i64 0):=(blk_cell BK190.out 0).trans rfl;have hcz31_1:w29.cell? ⟨gb190,1,none⟩=some (.int .i64 0):=(blk_cell BK190.out 1).trans rfl;have hcz31_2:w29.cell? ⟨gb190,2,none⟩=some (.int .i64 0):=(blk_cell BK190.out 2).trans rfl;have hfz31_0:=blk_frozen BK190.out 0;have hfz31_1:=blk_frozen BK190.out 1;have hfz31_2:=blk_frozen BK190.out 2))
               have n0_:Aside0 ((((w29.setCell ⟨gb190,0,none⟩ (.int .i64 ((rd_T53 l0_1 x20_2).f0))).setCell ⟨gb190,1,none⟩ (.int .i64 ((rd_T53 l0_1 x20_2).f1))).setCell ⟨gb190,2,none⟩ (.int .i64 ((rd_T53 l0_1 x20_2).f2))).heap[gb187]?=some (.cells #[.int .i64 a0_0,.slice (some ad189) l0_1.length c0_1] 24 (0,0))):=⟨by(with_reducible repeat(first|refine blk_drewN ?_ _|refine blk_drew ?_ |refine blk_alloc ?_ _));refine blk_far ?_ NB187_190.out _;(with_reducible repeat(first|refine blk_drewN ?_ _|refine blk_drew ?_ |refine blk_alloc ?_ _));refine blk_far ?_ NB187_190.out _;(with_reducible repeat(first|refine blk_drewN ?_ _|refine blk_drew ?_ |refine blk_alloc ?_ _));refine blk_far ?_ NB187_190.out _;(with_reducible repeat(first|refine blk_drewN ?_ _|refine blk_drew ?_ |refine blk_alloc ?_ _));exact BK187.out⟩
               have n1_:Aside0 ((((w29.setCell ⟨gb190,0,none⟩ (.int .i64 ((rd_T53 l0_1 x20_2).f0))).setCell ⟨gb190,1,none⟩ (.int .i64 ((rd_T53 l0_1 x20_2).f1))).setCell ⟨gb190,2,none⟩ (.int .i64 ((rd_T53 l0_1 x20_2).f2))).heap[gb190]?=some (.cells #[.int .i64 ((rd_T53 l0_1 x20_2).f0),.int .i64 ((rd_T53 l0_1 x20_2).f1),.int .i64 ((rd_T53 l0_1 x20_2).f2)] 53 (0,0))):=⟨by(with_reducible repeat(first|refine blk_drewN ?_ _|refine blk_drew ?_ |refine blk_alloc ?_ _));refine blk_put (cs:= #[.int .i64 ((rd_T53 l0_1 x20_2).f0),.int .i64 ((rd_T53 l0_1 x20_2).f1),.int .i64 0]) ?_ 2 _ rfl;(with_reducible repeat(first|refine blk_drewN ?_ _|refine blk_drew ?_ |refine blk_alloc ?_ _));refine blk_put (cs:= #[.int .i64 ((rd_T53 l0_1 x20_2).f0),.int .i64 0,.int .i64 0]) ?_ 1 _ rfl;(with_reducible repeat(first|refine blk_drewN ?_ _|refine blk_drew ?_ |refine blk_alloc ?_ _));refine blk_put (cs:= #[.int .i64 0,.int .i64 0,.int .i64 0]) ?_ 0 _ rfl;(with_reducible repeat(first|refine blk_drewN ?_ _|refine blk_drew ?_ |refine blk_alloc ?_ _));exact BK190.out⟩
               have n2_:Aside0 (Below w.heap.size w (((w29.setCell ⟨gb190,0,none⟩ (.int .i64 ((rd_T53 l0_1 x20_2).f0))).setCell ⟨gb190,1,none⟩ (.int .i64 ((rd_T53 l0_1 x20_2).f1))).setCell ⟨gb190,2,none⟩ (.int .i64 ((rd_T53 l0_1 x20_2).f2)))):=⟨by repeat(first|(with_reducible first|exact HB.out|apply below_alloc|apply pw_below_drewN|apply below_drew1|refine below_set ?_ GE187.out|refine below_set ?_ GE190.out)|exact HB.out)⟩
               (try clear BK187)
               (try clear BK190)
               (try clear HB)
               (try simp only [show ∀ (W_:World) (n_:Nat) (a_:Addr) (v_:Value),(World.drewN W_ n_).setCell a_ v_= (World.setCell W_ a_ v_).drewN n_ from fun _ _ _ _=>rfl])
               generalize (((w29.setCell ⟨gb190,0,none⟩ (.int .i64 ((rd_T53 l0_1 x20_2).f0))).setCell ⟨gb190,1,none⟩ (.int .i64 ((rd_T53 l0_1 x20_2).f1))).setCell ⟨gb190,2,none⟩ (.int .i64 ((rd_T53 l0_1 x20_2).f2)))=w32 at n0_ n1_ n2_ ⊢
               have BK187:=n0_
               have BK190:=n1_
               have HB:=n2_
               clear n0_ n1_ n2_
               have n0_:=Aside0.mk (blk_drew BK187.out)
               have n1_:=Aside0.mk (blk_drew BK190.out)
               have n2_:=Aside0.mk (below_drew1 HB.out)
               clear BK187
               clear BK190
               clear HB
               have BK187:=n0_
               have BK190:=n1_
               have HB:=n2_
               clear n0_ n1_ n2_
               have p193: 0≤ ((ji25):Int):=of_decide_eq_true z1
               have q193:(ji25)< (l0_1.length:Int):=of_decide_eq_true z1
               obtain⟨ad193,e193,hx193_0,hx193_1,hx193_2⟩:=at_T53 HR0_1.out (ji25) p193 q193
               have hw193_2:=hx193_2
               have hw193_1:=hx193_1
               have hw193_0:=hx193_0
               obtain rfl:ad189=ad193:=(by injection e193)
               replace hx193_0:=(HB.out.cell (World.block_lt_of_cell? w _ hx193_0)).trans hx193_0
               replace hx193_1:=(HB.out.cell (World.block_lt_of_cell? w _ hx193_1)).trans hx193_1
               replace hx193_2:=(HB.out.cell (World.block_lt_of_cell? w _ hx193_2)).trans hx193_2
               replace p193:=eq_true p193
               replace q193:=eq_true q193
               refine start_ (n:=28) (S:=fun w'=>w'.cell? ⟨gb190,0,none⟩=some (.int .i64 ((rd_T53 l0_1 x20_2).f0))∧w'.cell? ⟨gb190,1,none⟩=some (.int .i64 ((rd_T53 l0_1 x20_2).f1))∧w'.cell? ⟨gb190,2,none⟩=some (.int .i64 ((rd_T53 l0_1 x20_2).f2))∧w'.cell? ⟨gb187,0,none⟩=some (.int .i64 a0_0)∧w'.cell? ⟨gb187,1,none⟩=some (.slice (some ad189) l0_1.length c0_1)∧w'.cell? (ad189.add (((ji25)).toNat * 3))=some (.int .i64 ((rd_T53 l0_1 (ji25)).f0))∧w'.cell? ⟨(ad189.add (((ji25)).toNat * 3)).block,(ad189.add (((ji25)).toNat * 3)).off+1,none⟩=some (.int .i64 ((rd_T53 l0_1 (ji25)).f1))∧w'.cell? ⟨(ad189.add (((ji25)).toNat * 3)).block,(ad189.add (((ji25)).toNat * 3)).off+2,none⟩=some (.int .i64 ((rd_T53 l0_1 (ji25)).f2))) (ds:= []) #[f',f',f',f',f',f',f',f',f',f',f',f',f',f',f',f',f',f',f',f',f',f',f',f',f',f',f',f'] (by kernel_rfl) rfl rfl ⟨(blk_cell BK190.out 0).trans rfl,(blk_cell BK190.out 1).trans rfl,(blk_cell BK190.out 2).trans rfl,(blk_cell BK187.out 0).trans rfl,(blk_cell BK187.out 1).trans rfl,((HB.out.cell (World.block_lt_of_cell? w _ hw193_0)).trans hw193_0),((HB.out.cell (World.block_lt_of_cell? w _ hw193_1)).trans hw193_1),((HB.out.cell (World.block_lt_of_cell? w _ hw193_2)).trans hw193_2)⟩ (fun hHeld=>?_);refine with_tabW impl_GoodTable.tab6 impl_GoodTable.bits6 (fun HT_ HW_=>?_)
               generalize w32.drew=w33 at BK187 BK190 HB hx193_0 hx193_1 hx193_2 hHeld ⊢
               refine take_ (i:=0) (N:=some 25) (v:=?_) (a':=?_) #[t',f',f',f',f',f',f',f',f',f',f',f',f',f',f',f',f',f',f',f',f',f',f',f',f',f',f',f'] rfl rfl (take_ofW HT_.out HW_.out (by kernel_rfl)) (fun _ _ _ h=>h) (Or.inl ⟨by rfl,?_⟩) hHeld ?_ ?_
               rotate_left
               ·rintro w' ⟨s0,s1,s2,s3,s4,s5,s6,s7⟩
                go_simp
                with_reducible rfl
               rotate_left
               ·simp only [Act.put,z5,z6,z7,i64_w,i32_w]
                rfl
               refine one_ (i:=1) (N:=some 26) #[t',t',f',f',f',f',f',f',f',f',f',f',f',f',f',f',f',f',f',f',f',f',f',f',f',f',f',f'] rfl rfl (one_of HT_.out (by kernel_rfl)) (by decide) (fun K hK=>?_)
               refine goes_ Try.func45 (by kernel_rfl) rfl #[.agg #[.int .i64 ((rd_T53 l0_1 x20_2).f0),.int .i64 ((rd_T53 l0_1 x20_2).f1),.int .i64 ((rd_T53 l0_1 x20_2).f2)]] (by rfl) rfl rfl z2 ?_
               with_reducible refine(impl_isSeen.calls ((rd_T53 l0_1 x20_2).f0) ((rd_T53 l0_1 x20_2).f1) ((rd_T53 l0_1 x20_2).f2) true _ A13.out).mono ?_
               rintro e w34 ⟨rfl,hb⟩
               refine⟨_,rfl,?_⟩
               have n0_:=Aside0.mk (blk_below (g:=gb187) (o:= .cells #[.int .i64 a0_0,.slice (some ad189) l0_1.length c0_1] 24 (0,0)) (z3 BK187) hb)
               have n1_:=Aside0.mk (blk_below (g:=gb190) (o:= .cells #[.int .i64 ((rd_T53 l0_1 x20_2).f0),.int .i64 ((rd_T53 l0_1 x20_2).f1),.int .i64 ((rd_T53 l0_1 x20_2).f2)] 53 (0,0)) (z3 BK190) hb)
               have n2_:=Aside0.mk (below_step (zb2 HB GE187 GE190) hb)
               clear BK187
               clear BK190
               clear HB
               have BK187:=n0_
               have BK190:=n1_
               have HB:=n2_
               clear n0_ n1_ n2_
               (try clear hb)
               (try clear hb2)
               (try clear hk)
               (try clear hi)
               refine hK.out _ _ ⟨(blk_cell BK190.out 0).trans rfl,(blk_cell BK190.out 1).trans rfl,(blk_cell BK190.out 2).trans rfl,(blk_cell BK187.out 0).trans rfl,(blk_cell BK187.out 1).trans rfl,((HB.out.cell (World.block_lt_of_cell? w _ hw193_0)).trans hw193_0),((HB.out.cell (World.block_lt_of_cell? w _ hw193_1)).trans hw193_1),((HB.out.cell (World.block_lt_of_cell? w _ hw193_2)).trans hw193_2)⟩ (fun hHeld=>?_)
               clear hK K
               refine norm_ (a':=?_) ?_ ?_
               rotate_left
               ·show Act.put _ (some 26) _=_
                simp only [Act.put,z5,z6,z7,i64_w,i32_w]
                rfl
               refine pure_ (i:=2) (N:=some 27) (v:=?_) (a':=?_) #[t',t',t',f',f',f',f',f',f',f',f',f',f',f',f',f',f',f',f',f',f',f',f',f',f',f',f',f'] rfl rfl (any_of HT_.out (by kernel_rfl)) (fun _ _ _ h=>h) (Or.inl ⟨by rfl,?_⟩) ?_ ?_
               rotate_left
               ·intro w'
                go_simp
                with_reducible rfl
               rotate_left
               ·simp only [Act.put,z5,z6,z7,i64_w,i32_w]
                rfl
               refine pure_ (i:=3) (N:=some 28) (v:=?_) (a':=?_) #[t',t',t',t',f',f',f',f',f',f',f',f',f',f',f',f',f',f',f',f',f',f',f',f',f',f',f',f'] rfl rfl (any_of HT_.out (by kernel_rfl)) (fun _ _ _ h=>h) (Or.inl ⟨by rfl,?_⟩) ?_ ?_
               rotate_left
               ·intro w'
                go_simp
                with_reducible rfl
               rotate_left
               ·simp only [Act.put,z5,z6,z7,i64_w,i32_w]
                rfl
               refine pure_ (i:=4) (N:=some 29) (v:=?_) (a':=?_) #[t',t',t',t',t',f',f',f',f',f',f',f',f',f',f',f',f',f',f',f',f',f',f',f',f',f',f',f'] rfl rfl (any_of HT_.out (by kernel_rfl)) (fun _ _ _ h=>h) (Or.inl ⟨by rfl,?_⟩) ?_ ?_
               rotate_left
               ·intro w'
                go_simp
                with_reducible rfl
               rotate_left
               ·simp only [Act.put,z5,z6,z7,i64_w,i32_w]
                rfl
               refine pure_ (i:=6) (N:=some 31) (v:=?_) (a':=?_) #[t',t',t',t',t',f',t',f',f',f',f',f',f',f',f',f',f',f',f',f',f',f',f',f',f',f',f',f'] rfl rfl (any_of HT_.out (by kernel_rfl)) (fun _ _ _ h=>h) (Or.inl ⟨by rfl,?_⟩) ?_ ?_
               rotate_left
               ·intro w'
                go_simp
                with_reducible rfl
               rotate_left
               ·simp only [Act.put,z5,z6,z7,i64_w,i32_w]
                rfl
               refine pure_ (i:=9) (N:=some 34) (v:=?_) (a':=?_) #[t',t',t',t',t',f',t',f',f',t',f',f',f',f',f',f',f',f',f',f',f',f',f',f',f',f',f',f'] rfl rfl (any_of HT_.out (by kernel_rfl)) (fun _ _ _ h=>h) (Or.inl ⟨by rfl,?_⟩) ?_ ?_
               rotate_left
               ·intro w'
                go_simp
                with_reducible rfl
               rotate_left
               ·simp only [Act.put,z5,z6,z7,i64_w,i32_w]
                rfl
               refine take_ (i:=5) (N:=some 30) (v:=?_) (a':=?_) #[t',t',t',t',t',t',t',f',f',t',f',f',f',f',f',f',f',f',f',f',f',f',f',f',f',f',f',f'] rfl rfl (take_ofW HT_.out HW_.out (by kernel_rfl)) (fun _ _ _ h=>h) (Or.inl ⟨by rfl,?_⟩) hHeld ?_ ?_
               rotate_left
               ·rintro w' ⟨s0,s1,s2,s3,s4,s5,s6,s7⟩
                go_simp
                with_reducible rfl
               rotate_left
               ·simp only [Act.put,z5,z6,z7,i64_w,i32_w]
                rfl
               refine take_ (i:=7) (N:=some 32) (v:=?_) (a':=?_) #[t',t',t',t',t',t',t',t',f',t',f',f',f',f',f',f',f',f',f',f',f',f',f',f',f',f',f',f'] rfl rfl (take_ofW HT_.out HW_.out (by kernel_rfl)) (fun _ _ _ h=>h) (Or.inl ⟨by rfl,?_⟩) hHeld ?_ ?_
               rotate_left
               ·rintro w' ⟨s0,s1,s2,s3,s4,s5,s6,s7⟩
                go_simp
                with_reducible rfl
               rotate_left
               ·simp only [Act.put,z5,z6,z7,i64_w,i32_w]
                rfl
               refine one_ (i:=8) (N:=some 33) #[t',t',t',t',t',t',t',t',t',t',f',f',f',f',f',f',f',f',f',f',f',f',f',f',f',f',f',f'] rfl rfl (one_of HT_.out (by kernel_rfl)) (by decide) (fun K hK=>?_)
               refine goes_ Try.func46 (by kernel_rfl) rfl #[.slice (some ad189) l0_1.length c0_1,.int .i64 ((rd_T53 l0_1 x20_2).f0)] (by rfl) rfl rfl z2 ?_
               with_reducible refine(impl_row.calls _ _ l0_1 ((rd_T53 l0_1 x20_2).f0) t192 _ ?side1 ?side2 A15.out).mono ?_
               (case side1=>repeat(first|exact(Kd.C_below HR0_1.out HB.out)|(with_reducible refine Kd.C_alloc ?_ _)|(with_reducible refine Kd.C_drewN ?_ _)|(with_reducible refine Kd.C_drew ?_)))
               (case side2=>exact HC0_1.out)
               rintro e w35 ⟨rfl,hb⟩
               refine⟨_,rfl,?_⟩
               have n0_:=Aside0.mk (blk_below (g:=gb187) (o:= .cells #[.int .i64 a0_0,.slice (some ad189) l0_1.length c0_1] 24 (0,0)) (z3 BK187) hb)
               have n1_:=Aside0.mk (blk_below (g:=gb190) (o:= .cells #[.int .i64 ((rd_T53 l0_1 x20_2).f0),.int .i64 ((rd_T53 l0_1 x20_2).f1),.int .i64 ((rd_T53 l0_1 x20_2).f2)] 53 (0,0)) (z3 BK190) hb)
               have n2_:=Aside0.mk (below_step (zb2 HB GE187 GE190) hb)
               clear BK187
               clear BK190
               clear HB
               have BK187:=n0_
               have BK190:=n1_
               have HB:=n2_
               clear n0_ n1_ n2_
               (try clear hb)
               (try clear hb2)
               (try clear hk)
               (try clear hi)
               refine hK.out _ _ ⟨(blk_cell BK190.out 0).trans rfl,(blk_cell BK190.out 1).trans rfl,(blk_cell BK190.out 2).trans rfl,(blk_cell BK187.out 0).trans rfl,(blk_cell BK187.out 1).trans rfl,((HB.out.cell (World.block_lt_of_cell? w _ hw193_0)).trans hw193_0),((HB.out.cell (World.block_lt_of_cell? w _ hw193_1)).trans hw193_1),((HB.out.cell (World.block_lt_of_cell? w _ hw193_2)).trans hw193_2)⟩ (fun hHeld=>?_)
               clear hK K
               refine norm_ (a':=?_) ?_ ?_
               rotate_left
               ·show Act.put _ (some 33) _=_
                simp only [Act.put,z5,z6,z7,i64_w,i32_w]
                rfl
               refine pure_ (i:=10) (N:=some 35) (v:=?_) (a':=?_) #[t',t',t',t',t',t',t',t',t',t',t',f',f',f',f',f',f',f',f',f',f',f',f',f',f',f',f',f'] rfl rfl (any_of HT_.out (by kernel_rfl)) (fun _ _ _ h=>h) (Or.inl ⟨by rfl,?_⟩) ?_ ?_
               rotate_left
               ·intro w'
                go_simp
                with_reducible rfl
               rotate_left
               ·simp only [Act.put,z5,z6,z7,i64_w,i32_w]
                rfl
               refine pure_ (i:=11) (N:=some 36) (v:=?_) (a':=?_) #[t',t',t',t',t',t',t',t',t',t',t',t',f',f',f',f',f',f',f',f',f',f',f',f',f',f',f',f'] rfl rfl (any_of HT_.out (by kernel_rfl)) (fun _ _ _ h=>h) (Or.inl ⟨by rfl,?_⟩) ?_ ?_
               rotate_left
               ·intro w'
                go_simp
                with_reducible rfl
               rotate_left
               ·simp only [Act.put,z5,z6,z7,i64_w,i32_w]
                rfl
               refine pure_ (i:=12) (N:=some 37) (v:=?_) (a':=?_) #[t',t',t',t',t',t',t',t',t',t',t',t',t',f',f',f',f',f',f',f',f',f',f',f',f',f',f',f'] rfl rfl (any_of HT_.out (by kernel_rfl)) (fun _ _ _ h=>h) (Or.inl ⟨by rfl,?_⟩) ?_ ?_
               rotate_left
               ·intro w'
                go_simp
                with_reducible rfl
               rotate_left
               ·simp only [Act.put,z5,z6,z7,i64_w,i32_w]
                rfl
               refine pure_ (i:=13) (N:=some 38) (v:=?_) (a':=?_) #[t',t',t',t',t',t',t',t',t',t',t',t',t',t',f',f',f',f',f',f',f',f',f',f',f',f',f',f'] rfl rfl (any_of HT_.out (by kernel_rfl)) (fun _ _ _ h=>h) (Or.inl ⟨by rfl,?_⟩) ?_ ?_
               rotate_left
               ·intro w'
                go_simp
                with_reducible rfl
               rotate_left
               ·simp only [Act.put,z5,z6,z7,i64_w,i32_w]
                rfl
               refine pure_ (i:=14) (N:=some 39) (v:=?_) (a':=?_) #[t',t',t',t',t',t',t',t',t',t',t',t',t',t',t',f',f',f',f',f',f',f',f',f',f',f',f',f'] rfl rfl (any_of HT_.out (by kernel_rfl)) (fun _ _ _ h=>h) (Or.inl ⟨by rfl,?_⟩) ?_ ?_
               rotate_left
               ·intro w'
                go_simp
                with_reducible rfl
               rotate_left
               ·simp only [Act.put,z5,z6,z7,i64_w,i32_w]
                rfl
               refine pure_ (i:=15) (N:=some 40) (v:=?_) (a':=?_) #[t',t',t',t',t',t',t',t',t',t',t',t',t',t',t',t',f',f',f',f',f',f',f',f',f',f',f',f'] rfl rfl (any_of HT_.out (by kernel_rfl)) (fun _ _ _ h=>h) (Or.inl ⟨by rfl,?_⟩) ?_ ?_
               rotate_left
               ·intro w'
                go_simp
                with_reducible rfl
               rotate_left
               ·simp only [Act.put,z5,z6,z7,i64_w,i32_w]
                rfl
               refine pure_ (i:=16) (N:=some 41) (v:=?_) (a':=?_) #[t',t',t',t',t',t',t',t',t',t',t',t',t',t',t',t',t',f',f',f',f',f',f',f',f',f',f',f'] rfl rfl (any_of HT_.out (by kernel_rfl)) (fun _ _ _ h=>h) (Or.inl ⟨by rfl,?_⟩) ?_ ?_
               rotate_left
               ·intro w'
                go_simp
                with_reducible rfl
               rotate_left
               ·simp only [Act.put,z5,z6,z7,i64_w,i32_w]
                rfl
               refine pure_ (i:=18) (N:=some 43) (v:=?_) (a':=?_) #[t',t',t',t',t',t',t',t',t',t',t',t',t',t',t',t',t',f',t',f',f',f',f',f',f',f',f',f'] rfl rfl (any_of HT_.out (by kernel_rfl)) (fun _ _ _ h=>h) (Or.inl ⟨by rfl,?_⟩) ?_ ?_
               rotate_left
               ·intro w'
                go_simp
                with_reducible rfl
               rotate_left
               ·simp only [Act.put,z5,z6,z7,i64_w,i32_w]
                rfl
               refine pure_ (i:=19) (N:=some 44) (v:=?_) (a':=?_) #[t',t',t',t',t',t',t',t',t',t',t',t',t',t',t',t',t',f',t',t',f',f',f',f',f',f',f',f'] rfl rfl (any_of HT_.out (by kernel_rfl)) (fun _ _ _ h=>h) (Or.inl ⟨by rfl,?_⟩) ?_ ?_
               rotate_left
               ·intro w'
                go_simp
                with_reducible rfl
               rotate_left
               ·simp only [Act.put,z5,z6,z7,i64_w,i32_w]
                rfl
               refine pure_ (i:=23) (N:=some 48) (v:=?_) (a':=?_) #[t',t',t',t',t',t',t',t',t',t',t',t',t',t',t',t',t',f',t',t',f',f',f',t',f',f',f',f'] rfl rfl (any_of HT_.out (by kernel_rfl)) (fun _ _ _ h=>h) (Or.inl ⟨by rfl,?_⟩) ?_ ?_
               rotate_left
               ·intro w'
                go_simp
                with_reducible rfl
               rotate_left
               ·simp only [Act.put,z5,z6,z7,i64_w,i32_w]
                rfl
               refine take_ (i:=17) (N:=some 42) (v:=?_) (a':=?_) #[t',t',t',t',t',t',t',t',t',t',t',t',t',t',t',t',t',t',t',t',f',f',f',t',f',f',f',f'] rfl rfl (take_ofW HT_.out HW_.out (by kernel_rfl)) (fun _ _ _ h=>h) (Or.inl ⟨by rfl,?_⟩) hHeld ?_ ?_
               rotate_left
               ·rintro w' ⟨s0,s1,s2,s3,s4,s5,s6,s7⟩
                go_simp
                with_reducible rfl
               rotate_left
               ·simp only [Act.put,z5,z6,z7,i64_w,i32_w]
                rfl
               refine pure_ (i:=20) (N:=some 45) (v:=?_) (a':=?_) #[t',t',t',t',t',t',t',t',t',t',t',t',t',t',t',t',t',t',t',t',t',f',f',t',f',f',f',f'] rfl rfl (any_of HT_.out (by kernel_rfl)) (fun _ _ _ h=>h) (Or.inl ⟨by rfl,?_⟩) ?_ ?_
               rotate_left
               ·intro w'
                go_simp
                with_reducible rfl
               rotate_left
               ·simp only [Act.put,z5,z6,z7,i64_w,i32_w]
                rfl
               refine pure_ (i:=21) (N:=some 46) (v:=?_) (a':=?_) #[t',t',t',t',t',t',t',t',t',t',t',t',t',t',t',t',t',t',t',t',t',t',f',t',f',f',f',f'] rfl rfl (any_of HT_.out (by kernel_rfl)) (fun _ _ _ h=>h) (Or.inl ⟨by rfl,?_⟩) ?_ ?_
               rotate_left
               ·intro w'
                go_simp
                with_reducible rfl
               rotate_left
               ·simp only [Act.put,z5,z6,z7,i64_w,i32_w]
                rfl
               refine take_ (i:=22) (N:=some 47) (v:=?_) (a':=?_) #[t',t',t',t',t',t',t',t',t',t',t',t',t',t',t',t',t',t',t',t',t',t',t',t',f',f',f',f'] rfl rfl (take_ofW HT_.out HW_.out (by kernel_rfl)) (fun _ _ _ h=>h) (Or.inl ⟨by rfl,?_⟩) hHeld ?_ ?_
               rotate_left
               ·rintro w' ⟨s0,s1,s2,s3,s4,s5,s6,s7⟩
                go_simp
                with_reducible rfl
               rotate_left
               ·simp only [Act.put,z5,z6,z7,i64_w,i32_w]
                rfl
               refine take_ (i:=24) (N:=some 49) (v:=?_) (a':=?_) #[t',t',t',t',t',t',t',t',t',t',t',t',t',t',t',t',t',t',t',t',t',t',t',t',t',f',f',f'] rfl rfl (take_ofW HT_.out HW_.out (by kernel_rfl)) (fun _ _ _ h=>h) (Or.inl ⟨by rfl,?_⟩) hHeld ?_ ?_
               rotate_left
               ·rintro w' ⟨s0,s1,s2,s3,s4,s5,s6,s7⟩
                go_simp
                with_reducible rfl
               rotate_left
               ·simp only [Act.put,z5,z6,z7,i64_w,i32_w]
                rfl
               refine pure_ (i:=25) (N:=some 50) (v:=?_) (a':=?_) #[t',t',t',t',t',t',t',t',t',t',t',t',t',t',t',t',t',t',t',t',t',t',t',t',t',t',f',f'] rfl rfl (any_of HT_.out (by kernel_rfl)) (fun _ _ _ h=>h) (Or.inl ⟨by rfl,?_⟩) ?_ ?_
               rotate_left
               ·intro w'
                go_simp
                with_reducible rfl
               rotate_left
               ·simp only [Act.put,z5,z6,z7,i64_w,i32_w]
                rfl
               refine pure_ (i:=26) (N:=some 51) (v:=?_) (a':=?_) #[t',t',t',t',t',t',t',t',t',t',t',t',t',t',t',t',t',t',t',t',t',t',t',t',t',t',t',f'] rfl rfl (any_of HT_.out (by kernel_rfl)) (fun _ _ _ h=>h) (Or.inl ⟨by rfl,?_⟩) ?_ ?_
               rotate_left
               ·intro w'
                go_simp
                with_reducible rfl
               rotate_left
               ·simp only [Act.put,z5,z6,z7,i64_w,i32_w]
                rfl
               refine pure_ (i:=27) (N:=some 52) (v:=?_) (a':=?_) #[t',t',t',t',t',t',t',t',t',t',t',t',t',t',t',t',t',t',t',t',t',t',t',t',t',t',t',t'] rfl rfl (any_of HT_.out (by kernel_rfl)) (fun _ _ _ h=>h) (Or.inl ⟨by rfl,?_⟩) ?_ ?_
               rotate_left
               ·intro w'
                go_simp
                with_reducible rfl
               rotate_left
               ·simp only [Act.put,z5,z6,z7,i64_w,i32_w]
                rfl
               refine done_ (done_of HT_.out (by kernel_rfl)) ?_
               try go_wp2
               go_ret
               exact⟨by first|rfl|(simp [errW_none,errW_some]<;>rfl)|(simp only [← hji25];first|rfl|(simp [errW_none,errW_some]<;>rfl))|(simp [*,errW_none,errW_some]<;>rfl),by repeat(first|(with_reducible first|exact HB.out|apply below_alloc|apply pw_below_drewN|apply below_drew1|refine below_set ?_ GE187.out|refine below_set ?_ GE190.out)|exact HB.out)⟩
              ·rw [if_neg c28] at H
               have c28b0:decide (((rd_T53 l0_1 (ji25)).f2)< ((rd_T53 l0_1 x20_2).f2))=false:=decide_eq_false c28
               clear c28
               have H':=Aside0.mk H
               clear H
               have p189: 0≤ (x20_2:Int):=of_decide_eq_true z1
               have q189:x20_2< (l0_1.length:Int):=of_decide_eq_true z1
               obtain⟨ad189,e189,hx189_0,hx189_1,hx189_2⟩:=at_T53 HR0_1.out x20_2 p189 q189
               cases e189
               replace hx189_0:=(HB.out.cell (World.block_lt_of_cell? w _ hx189_0)).trans hx189_0
               replace hx189_1:=(HB.out.cell (World.block_lt_of_cell? w _ hx189_1)).trans hx189_1
               replace hx189_2:=(HB.out.cell (World.block_lt_of_cell? w _ hx189_2)).trans hx189_2
               replace p189:=eq_true p189
               replace q189:=eq_true q189
               try go_wp2_with (first|((with_reducible refine gate_dst (N:=4) rfl ?_);(try(refine gate_guard (by rfl) ?_;dsimp only));refine box_event ?hg (N:=4) ?hd (cs:= #[.int .i64 0,.int .i64 0,.int .i64 0]) (t:=53) ?hr ?_;(case hd=>rfl);(case hg=>rfl);(case hr=>first|(go_simp;done)|(go_simp;rfl));intro gb190 hg w36 hbox hb;have n0_:=Aside0.mk (blk_below (g:=gb187) (o:= .cells #[.int .i64 a0_0,.slice (some ad189) l0_1.length c0_1] 24 (0,0)) (z3 BK187) hb);have n1_:=Aside0.mk (below_step (zb1 HB GE187) hb);have n2_:=Aside0.mk (hbox);have n3_:=Aside0.mk ((by rw [hg];exact(below_size (zb1 HB GE187)):w.heap.size≤gb190));have n4_:=Aside0.mk ((by rw [hg];exact(below_size (zb1 HB GE187)):w.heap.size≤gb190));have n5_:=Aside0.mk ((by rw [hg];exact Nat.ne_of_lt (blk_lt (g:=gb187) (o:= .cells #[.int .i64 a0_0,.slice (some ad189) l0_1.length c0_1] 24 (0,0)) (z3 BK187)):gb187≠gb190));have n6_:=Aside0.mk ((by rw [hg];exact Nat.ne_of_gt (blk_lt (g:=gb187) (o:= .cells #[.int .i64 a0_0,.slice (some ad189) l0_1.length c0_1] 24 (0,0)) (z3 BK187)):gb190≠gb187));clear BK187;clear HB;have BK187:=n0_;have HB:=n1_;have BK190:=n2_;have GW190:=n3_;have GE190:=n4_;have NB187_190:=n5_;have NB190_187:=n6_;clear n0_ n1_ n2_ n3_ n4_ n5_ n6_;clear hb hbox hg;have hnb37:=NB190_187.out;have hnc37:=NB187_190.out;have hcz38_0:w36.cell? ⟨gb190,0,none⟩=some (.int .i64 0):=(blk_cell BK190.out 0).trans rfl;have hcz38_1:w36.cell? ⟨gb190,1,none⟩=some (.int .i64 0):=(blk_cell BK190.out 1).trans rfl;have hcz38_2:w36.cell? ⟨gb190,2,none⟩=some (.int .i64 0):=(blk_cell BK190.out 2).trans rfl;have hfz38_0:=blk_frozen BK190.out 0;have hfz38_1:=blk_frozen BK190.out 1;have hfz38_2:=blk_frozen BK190.out 2))
               have n0_:Aside0 ((((w36.setCell ⟨gb190,0,none⟩ (.int .i64 ((rd_T53 l0_1 x20_2).f0))).setCell ⟨gb190,1,none⟩ (.int .i64 ((rd_T53 l0_1 x20_2).f1))).setCell ⟨gb190,2,none⟩ (.int .i64 ((rd_T53 l0_1 x20_2).f2))).heap[gb187]?=some (.cells #[.int .i64 a0_0,.slice (some ad189) l0_1.length c0_1] 24 (0,0))):=⟨by(with_reducible repeat(first|refine blk_drewN ?_ _|refine blk_drew ?_ |refine blk_alloc ?_ _));refine blk_far ?_ NB187_190.out _;(with_reducible repeat(first|refine blk_drewN ?_ _|refine blk_drew ?_ |refine blk_alloc ?_ _));refine blk_far ?_ NB187_190.out _;(with_reducible repeat(first|refine blk_drewN ?_ _|refine blk_drew ?_ |refine blk_alloc ?_ _));refine blk_far ?_ NB187_190.out _;(with_reducible repeat(first|refine blk_drewN ?_ _|refine blk_drew ?_ |refine blk_alloc ?_ _));exact BK187.out⟩
               have n1_:Aside0 ((((w36.setCell ⟨gb190,0,none⟩ (.int .i64 ((rd_T53 l0_1 x20_2).f0))).setCell ⟨gb190,1,none⟩ (.int .i64 ((rd_T53 l0_1 x20_2).f1))).setCell ⟨gb190,2,none⟩ (.int .i64 ((rd_T53 l0_1 x20_2).f2))).heap[gb190]?=some (.cells #[.int .i64 ((rd_T53 l0_1 x20_2).f0),.int .i64 ((rd_T53 l0_1 x20_2).f1),.int .i64 ((rd_T53 l0_1 x20_2).f2)] 53 (0,0))):=⟨by(with_reducible repeat(first|refine blk_drewN ?_ _|refine blk_drew ?_ |refine blk_alloc ?_ _));refine blk_put (cs:= #[.int .i64 ((rd_T53 l0_1 x20_2).f0),.int .i64 ((rd_T53 l0_1 x20_2).f1),.int .i64 0]) ?_ 2 _ rfl;(with_reducible repeat(first|refine blk_drewN ?_ _|refine blk_drew ?_ |refine blk_alloc ?_ _));refine blk_put (cs:= #[.int .i64 ((rd_T53 l0_1 x20_2).f0),.int .i64 0,.int .i64 0]) ?_ 1 _ rfl;(with_reducible repeat(first|refine blk_drewN ?_ _|refine blk_drew ?_ |refine blk_alloc ?_ _));refine blk_put (cs:= #[.int .i64 0,.int .i64 0,.int .i64 0]) ?_ 0 _ rfl;(with_reducible repeat(first|refine blk_drewN ?_ _|refine blk_drew ?_ |refine blk_alloc ?_ _));exact BK190.out⟩
               have n2_:Aside0 (Below w.heap.size w (((w36.setCell ⟨gb190,0,none⟩ (.int .i64 ((rd_T53 l0_1 x20_2).f0))).setCell ⟨gb190,1,none⟩ (.int .i64 ((rd_T53 l0_1 x20_2).f1))).setCell ⟨gb190,2,none⟩ (.int .i64 ((rd_T53 l0_1 x20_2).f2)))):=⟨by repeat(first|(with_reducible first|exact HB.out|apply below_alloc|apply pw_below_drewN|apply below_drew1|refine below_set ?_ GE187.out|refine below_set ?_ GE190.out)|exact HB.out)⟩
               (try clear BK187)
               (try clear BK190)
               (try clear HB)
               (try simp only [show ∀ (W_:World) (n_:Nat) (a_:Addr) (v_:Value),(World.drewN W_ n_).setCell a_ v_= (World.setCell W_ a_ v_).drewN n_ from fun _ _ _ _=>rfl])
               generalize (((w36.setCell ⟨gb190,0,none⟩ (.int .i64 ((rd_T53 l0_1 x20_2).f0))).setCell ⟨gb190,1,none⟩ (.int .i64 ((rd_T53 l0_1 x20_2).f1))).setCell ⟨gb190,2,none⟩ (.int .i64 ((rd_T53 l0_1 x20_2).f2)))=w39 at n0_ n1_ n2_ ⊢
               have BK187:=n0_
               have BK190:=n1_
               have HB:=n2_
               clear n0_ n1_ n2_
               have n0_:=Aside0.mk (blk_drew BK187.out)
               have n1_:=Aside0.mk (blk_drew BK190.out)
               have n2_:=Aside0.mk (below_drew1 HB.out)
               clear BK187
               clear BK190
               clear HB
               have BK187:=n0_
               have BK190:=n1_
               have HB:=n2_
               clear n0_ n1_ n2_
               have p193: 0≤ ((ji25):Int):=of_decide_eq_true z1
               have q193:(ji25)< (l0_1.length:Int):=of_decide_eq_true z1
               obtain⟨ad193,e193,hx193_0,hx193_1,hx193_2⟩:=at_T53 HR0_1.out (ji25) p193 q193
               have hw193_2:=hx193_2
               have hw193_1:=hx193_1
               have hw193_0:=hx193_0
               obtain rfl:ad189=ad193:=(by injection e193)
               replace hx193_0:=(HB.out.cell (World.block_lt_of_cell? w _ hx193_0)).trans hx193_0
               replace hx193_1:=(HB.out.cell (World.block_lt_of_cell? w _ hx193_1)).trans hx193_1
               replace hx193_2:=(HB.out.cell (World.block_lt_of_cell? w _ hx193_2)).trans hx193_2
               replace p193:=eq_true p193
               replace q193:=eq_true q193
               refine start_ (n:=28) (S:=fun w'=>w'.cell? ⟨gb190,0,none⟩=some (.int .i64 ((rd_T53 l0_1 x20_2).f0))∧w'.cell? ⟨gb190,1,none⟩=some (.int .i64 ((rd_T53 l0_1 x20_2).f1))∧w'.cell? ⟨gb190,2,none⟩=some (.int .i64 ((rd_T53 l0_1 x20_2).f2))∧w'.cell? ⟨gb187,0,none⟩=some (.int .i64 a0_0)∧w'.cell? ⟨gb187,1,none⟩=some (.slice (some ad189) l0_1.length c0_1)∧w'.cell? (ad189.add (((ji25)).toNat * 3))=some (.int .i64 ((rd_T53 l0_1 (ji25)).f0))∧w'.cell? ⟨(ad189.add (((ji25)).toNat * 3)).block,(ad189.add (((ji25)).toNat * 3)).off+1,none⟩=some (.int .i64 ((rd_T53 l0_1 (ji25)).f1))∧w'.cell? ⟨(ad189.add (((ji25)).toNat * 3)).block,(ad189.add (((ji25)).toNat * 3)).off+2,none⟩=some (.int .i64 ((rd_T53 l0_1 (ji25)).f2))) (ds:= []) #[f',f',f',f',f',f',f',f',f',f',f',f',f',f',f',f',f',f',f',f',f',f',f',f',f',f',f',f'] (by kernel_rfl) rfl rfl ⟨(blk_cell BK190.out 0).trans rfl,(blk_cell BK190.out 1).trans rfl,(blk_cell BK190.out 2).trans rfl,(blk_cell BK187.out 0).trans rfl,(blk_cell BK187.out 1).trans rfl,((HB.out.cell (World.block_lt_of_cell? w _ hw193_0)).trans hw193_0),((HB.out.cell (World.block_lt_of_cell? w _ hw193_1)).trans hw193_1),((HB.out.cell (World.block_lt_of_cell? w _ hw193_2)).trans hw193_2)⟩ (fun hHeld=>?_);refine with_tabW impl_GoodTable.tab6 impl_GoodTable.bits6 (fun HT_ HW_=>?_)
               generalize w39.drew=w40 at BK187 BK190 HB hx193_0 hx193_1 hx193_2 hHeld ⊢
               refine take_ (i:=0) (N:=some 25) (v:=?_) (a':=?_) #[t',f',f',f',f',f',f',f',f',f',f',f',f',f',f',f',f',f',f',f',f',f',f',f',f',f',f',f'] rfl rfl (take_ofW HT_.out HW_.out (by kernel_rfl)) (fun _ _ _ h=>h) (Or.inl ⟨by rfl,?_⟩) hHeld ?_ ?_
               rotate_left
               ·rintro w' ⟨s0,s1,s2,s3,s4,s5,s6,s7⟩
                go_simp
                with_reducible rfl
               rotate_left
               ·simp only [Act.put,z5,z6,z7,i64_w,i32_w]
                rfl
               refine one_ (i:=1) (N:=some 26) #[t',t',f',f',f',f',f',f',f',f',f',f',f',f',f',f',f',f',f',f',f',f',f',f',f',f',f',f'] rfl rfl (one_of HT_.out (by kernel_rfl)) (by decide) (fun K hK=>?_)
               refine goes_ Try.func45 (by kernel_rfl) rfl #[.agg #[.int .i64 ((rd_T53 l0_1 x20_2).f0),.int .i64 ((rd_T53 l0_1 x20_2).f1),.int .i64 ((rd_T53 l0_1 x20_2).f2)]] (by rfl) rfl rfl z2 ?_
               with_reducible refine(impl_isSeen.calls ((rd_T53 l0_1 x20_2).f0) ((rd_T53 l0_1 x20_2).f1) ((rd_T53 l0_1 x20_2).f2) true _ A13.out).mono ?_
               rintro e w41 ⟨rfl,hb⟩
               refine⟨_,rfl,?_⟩
               have n0_:=Aside0.mk (blk_below (g:=gb187) (o:= .cells #[.int .i64 a0_0,.slice (some ad189) l0_1.length c0_1] 24 (0,0)) (z3 BK187) hb)
               have n1_:=Aside0.mk (blk_below (g:=gb190) (o:= .cells #[.int .i64 ((rd_T53 l0_1 x20_2).f0),.int .i64 ((rd_T53 l0_1 x20_2).f1),.int .i64 ((rd_T53 l0_1 x20_2).f2)] 53 (0,0)) (z3 BK190) hb)
               have n2_:=Aside0.mk (below_step (zb2 HB GE187 GE190) hb)
               clear BK187
               clear BK190
               clear HB
               have BK187:=n0_
               have BK190:=n1_
               have HB:=n2_
               clear n0_ n1_ n2_
               (try clear hb)
               (try clear hb2)
               (try clear hk)
               (try clear hi)
               refine hK.out _ _ ⟨(blk_cell BK190.out 0).trans rfl,(blk_cell BK190.out 1).trans rfl,(blk_cell BK190.out 2).trans rfl,(blk_cell BK187.out 0).trans rfl,(blk_cell BK187.out 1).trans rfl,((HB.out.cell (World.block_lt_of_cell? w _ hw193_0)).trans hw193_0),((HB.out.cell (World.block_lt_of_cell? w _ hw193_1)).trans hw193_1),((HB.out.cell (World.block_lt_of_cell? w _ hw193_2)).trans hw193_2)⟩ (fun hHeld=>?_)
               clear hK K
               refine norm_ (a':=?_) ?_ ?_
               rotate_left
               ·show Act.put _ (some 26) _=_
                simp only [Act.put,z5,z6,z7,i64_w,i32_w]
                rfl
               refine pure_ (i:=2) (N:=some 27) (v:=?_) (a':=?_) #[t',t',t',f',f',f',f',f',f',f',f',f',f',f',f',f',f',f',f',f',f',f',f',f',f',f',f',f'] rfl rfl (any_of HT_.out (by kernel_rfl)) (fun _ _ _ h=>h) (Or.inl ⟨by rfl,?_⟩) ?_ ?_
               rotate_left
               ·intro w'
                go_simp
                with_reducible rfl
               rotate_left
               ·simp only [Act.put,z5,z6,z7,i64_w,i32_w]
                rfl
               refine pure_ (i:=3) (N:=some 28) (v:=?_) (a':=?_) #[t',t',t',t',f',f',f',f',f',f',f',f',f',f',f',f',f',f',f',f',f',f',f',f',f',f',f',f'] rfl rfl (any_of HT_.out (by kernel_rfl)) (fun _ _ _ h=>h) (Or.inl ⟨by rfl,?_⟩) ?_ ?_
               rotate_left
               ·intro w'
                go_simp
                with_reducible rfl
               rotate_left
               ·simp only [Act.put,z5,z6,z7,i64_w,i32_w]
                rfl
               refine pure_ (i:=4) (N:=some 29) (v:=?_) (a':=?_) #[t',t',t',t',t',f',f',f',f',f',f',f',f',f',f',f',f',f',f',f',f',f',f',f',f',f',f',f'] rfl rfl (any_of HT_.out (by kernel_rfl)) (fun _ _ _ h=>h) (Or.inl ⟨by rfl,?_⟩) ?_ ?_
               rotate_left
               ·intro w'
                go_simp
                with_reducible rfl
               rotate_left
               ·simp only [Act.put,z5,z6,z7,i64_w,i32_w]
                rfl
               refine pure_ (i:=6) (N:=some 31) (v:=?_) (a':=?_) #[t',t',t',t',t',f',t',f',f',f',f',f',f',f',f',f',f',f',f',f',f',f',f',f',f',f',f',f'] rfl rfl (any_of HT_.out (by kernel_rfl)) (fun _ _ _ h=>h) (Or.inl ⟨by rfl,?_⟩) ?_ ?_
               rotate_left
               ·intro w'
                go_simp
                with_reducible rfl
               rotate_left
               ·simp only [Act.put,z5,z6,z7,i64_w,i32_w]
                rfl
               refine pure_ (i:=9) (N:=some 34) (v:=?_) (a':=?_) #[t',t',t',t',t',f',t',f',f',t',f',f',f',f',f',f',f',f',f',f',f',f',f',f',f',f',f',f'] rfl rfl (any_of HT_.out (by kernel_rfl)) (fun _ _ _ h=>h) (Or.inl ⟨by rfl,?_⟩) ?_ ?_
               rotate_left
               ·intro w'
                go_simp
                with_reducible rfl
               rotate_left
               ·simp only [Act.put,z5,z6,z7,i64_w,i32_w]
                rfl
               refine take_ (i:=5) (N:=some 30) (v:=?_) (a':=?_) #[t',t',t',t',t',t',t',f',f',t',f',f',f',f',f',f',f',f',f',f',f',f',f',f',f',f',f',f'] rfl rfl (take_ofW HT_.out HW_.out (by kernel_rfl)) (fun _ _ _ h=>h) (Or.inl ⟨by rfl,?_⟩) hHeld ?_ ?_
               rotate_left
               ·rintro w' ⟨s0,s1,s2,s3,s4,s5,s6,s7⟩
                go_simp
                with_reducible rfl
               rotate_left
               ·simp only [Act.put,z5,z6,z7,i64_w,i32_w]
                rfl
               refine take_ (i:=7) (N:=some 32) (v:=?_) (a':=?_) #[t',t',t',t',t',t',t',t',f',t',f',f',f',f',f',f',f',f',f',f',f',f',f',f',f',f',f',f'] rfl rfl (take_ofW HT_.out HW_.out (by kernel_rfl)) (fun _ _ _ h=>h) (Or.inl ⟨by rfl,?_⟩) hHeld ?_ ?_
               rotate_left
               ·rintro w' ⟨s0,s1,s2,s3,s4,s5,s6,s7⟩
                go_simp
                with_reducible rfl
               rotate_left
               ·simp only [Act.put,z5,z6,z7,i64_w,i32_w]
                rfl
               refine one_ (i:=8) (N:=some 33) #[t',t',t',t',t',t',t',t',t',t',f',f',f',f',f',f',f',f',f',f',f',f',f',f',f',f',f',f'] rfl rfl (one_of HT_.out (by kernel_rfl)) (by decide) (fun K hK=>?_)
               refine goes_ Try.func46 (by kernel_rfl) rfl #[.slice (some ad189) l0_1.length c0_1,.int .i64 ((rd_T53 l0_1 x20_2).f0)] (by rfl) rfl rfl z2 ?_
               with_reducible refine(impl_row.calls _ _ l0_1 ((rd_T53 l0_1 x20_2).f0) t192 _ ?side1 ?side2 A15.out).mono ?_
               (case side1=>repeat(first|exact(Kd.C_below HR0_1.out HB.out)|(with_reducible refine Kd.C_alloc ?_ _)|(with_reducible refine Kd.C_drewN ?_ _)|(with_reducible refine Kd.C_drew ?_)))
               (case side2=>exact HC0_1.out)
               rintro e w42 ⟨rfl,hb⟩
               refine⟨_,rfl,?_⟩
               have n0_:=Aside0.mk (blk_below (g:=gb187) (o:= .cells #[.int .i64 a0_0,.slice (some ad189) l0_1.length c0_1] 24 (0,0)) (z3 BK187) hb)
               have n1_:=Aside0.mk (blk_below (g:=gb190) (o:= .cells #[.int .i64 ((rd_T53 l0_1 x20_2).f0),.int .i64 ((rd_T53 l0_1 x20_2).f1),.int .i64 ((rd_T53 l0_1 x20_2).f2)] 53 (0,0)) (z3 BK190) hb)
               have n2_:=Aside0.mk (below_step (zb2 HB GE187 GE190) hb)
               clear BK187
               clear BK190
               clear HB
               have BK187:=n0_
               have BK190:=n1_
               have HB:=n2_
               clear n0_ n1_ n2_
               (try clear hb)
               (try clear hb2)
               (try clear hk)
               (try clear hi)
               refine hK.out _ _ ⟨(blk_cell BK190.out 0).trans rfl,(blk_cell BK190.out 1).trans rfl,(blk_cell BK190.out 2).trans rfl,(blk_cell BK187.out 0).trans rfl,(blk_cell BK187.out 1).trans rfl,((HB.out.cell (World.block_lt_of_cell? w _ hw193_0)).trans hw193_0),((HB.out.cell (World.block_lt_of_cell? w _ hw193_1)).trans hw193_1),((HB.out.cell (World.block_lt_of_cell? w _ hw193_2)).trans hw193_2)⟩ (fun hHeld=>?_)
               clear hK K
               refine norm_ (a':=?_) ?_ ?_
               rotate_left
               ·show Act.put _ (some 33) _=_
                simp only [Act.put,z5,z6,z7,i64_w,i32_w]
                rfl
               refine pure_ (i:=10) (N:=some 35) (v:=?_) (a':=?_) #[t',t',t',t',t',t',t',t',t',t',t',f',f',f',f',f',f',f',f',f',f',f',f',f',f',f',f',f'] rfl rfl (any_of HT_.out (by kernel_rfl)) (fun _ _ _ h=>h) (Or.inl ⟨by rfl,?_⟩) ?_ ?_
               rotate_left
               ·intro w'
                go_simp
                with_reducible rfl
               rotate_left
               ·simp only [Act.put,z5,z6,z7,i64_w,i32_w]
                rfl
               refine pure_ (i:=11) (N:=some 36) (v:=?_) (a':=?_) #[t',t',t',t',t',t',t',t',t',t',t',t',f',f',f',f',f',f',f',f',f',f',f',f',f',f',f',f'] rfl rfl (any_of HT_.out (by kernel_rfl)) (fun _ _ _ h=>h) (Or.inl ⟨by rfl,?_⟩) ?_ ?_
               rotate_left
               ·intro w'
                go_simp
                with_reducible rfl
               rotate_left
               ·simp only [Act.put,z5,z6,z7,i64_w,i32_w]
                rfl
               refine pure_ (i:=12) (N:=some 37) (v:=?_) (a':=?_) #[t',t',t',t',t',t',t',t',t',t',t',t',t',f',f',f',f',f',f',f',f',f',f',f',f',f',f',f'] rfl rfl (any_of HT_.out (by kernel_rfl)) (fun _ _ _ h=>h) (Or.inl ⟨by rfl,?_⟩) ?_ ?_
               rotate_left
               ·intro w'
                go_simp
                with_reducible rfl
               rotate_left
               ·simp only [Act.put,z5,z6,z7,i64_w,i32_w]
                rfl
               refine pure_ (i:=13) (N:=some 38) (v:=?_) (a':=?_) #[t',t',t',t',t',t',t',t',t',t',t',t',t',t',f',f',f',f',f',f',f',f',f',f',f',f',f',f'] rfl rfl (any_of HT_.out (by kernel_rfl)) (fun _ _ _ h=>h) (Or.inl ⟨by rfl,?_⟩) ?_ ?_
               rotate_left
               ·intro w'
                go_simp
                with_reducible rfl
               rotate_left
               ·simp only [Act.put,z5,z6,z7,i64_w,i32_w]
                rfl
               refine pure_ (i:=14) (N:=some 39) (v:=?_) (a':=?_) #[t',t',t',t',t',t',t',t',t',t',t',t',t',t',t',f',f',f',f',f',f',f',f',f',f',f',f',f'] rfl rfl (any_of HT_.out (by kernel_rfl)) (fun _ _ _ h=>h) (Or.inl ⟨by rfl,?_⟩) ?_ ?_
               rotate_left
               ·intro w'
                go_simp
                with_reducible rfl
               rotate_left
               ·simp only [Act.put,z5,z6,z7,i64_w,i32_w]
                rfl
               refine pure_ (i:=15) (N:=some 40) (v:=?_) (a':=?_) #[t',t',t',t',t',t',t',t',t',t',t',t',t',t',t',t',f',f',f',f',f',f',f',f',f',f',f',f'] rfl rfl (any_of HT_.out (by kernel_rfl)) (fun _ _ _ h=>h) (Or.inl ⟨by rfl,?_⟩) ?_ ?_
               rotate_left
               ·intro w'
                go_simp
                with_reducible rfl
               rotate_left
               ·simp only [Act.put,z5,z6,z7,i64_w,i32_w]
                rfl
               refine pure_ (i:=16) (N:=some 41) (v:=?_) (a':=?_) #[t',t',t',t',t',t',t',t',t',t',t',t',t',t',t',t',t',f',f',f',f',f',f',f',f',f',f',f'] rfl rfl (any_of HT_.out (by kernel_rfl)) (fun _ _ _ h=>h) (Or.inl ⟨by rfl,?_⟩) ?_ ?_
               rotate_left
               ·intro w'
                go_simp
                with_reducible rfl
               rotate_left
               ·simp only [Act.put,z5,z6,z7,i64_w,i32_w]
                rfl
               refine pure_ (i:=18) (N:=some 43) (v:=?_) (a':=?_) #[t',t',t',t',t',t',t',t',t',t',t',t',t',t',t',t',t',f',t',f',f',f',f',f',f',f',f',f'] rfl rfl (any_of HT_.out (by kernel_rfl)) (fun _ _ _ h=>h) (Or.inl ⟨by rfl,?_⟩) ?_ ?_
               rotate_left
               ·intro w'
                go_simp
                with_reducible rfl
               rotate_left
               ·simp only [Act.put,z5,z6,z7,i64_w,i32_w]
                rfl
               refine pure_ (i:=19) (N:=some 44) (v:=?_) (a':=?_) #[t',t',t',t',t',t',t',t',t',t',t',t',t',t',t',t',t',f',t',t',f',f',f',f',f',f',f',f'] rfl rfl (any_of HT_.out (by kernel_rfl)) (fun _ _ _ h=>h) (Or.inl ⟨by rfl,?_⟩) ?_ ?_
               rotate_left
               ·intro w'
                go_simp
                with_reducible rfl
               rotate_left
               ·simp only [Act.put,z5,z6,z7,i64_w,i32_w]
                rfl
               refine pure_ (i:=23) (N:=some 48) (v:=?_) (a':=?_) #[t',t',t',t',t',t',t',t',t',t',t',t',t',t',t',t',t',f',t',t',f',f',f',t',f',f',f',f'] rfl rfl (any_of HT_.out (by kernel_rfl)) (fun _ _ _ h=>h) (Or.inl ⟨by rfl,?_⟩) ?_ ?_
               rotate_left
               ·intro w'
                go_simp
                with_reducible rfl
               rotate_left
               ·simp only [Act.put,z5,z6,z7,i64_w,i32_w]
                rfl
               refine take_ (i:=17) (N:=some 42) (v:=?_) (a':=?_) #[t',t',t',t',t',t',t',t',t',t',t',t',t',t',t',t',t',t',t',t',f',f',f',t',f',f',f',f'] rfl rfl (take_ofW HT_.out HW_.out (by kernel_rfl)) (fun _ _ _ h=>h) (Or.inl ⟨by rfl,?_⟩) hHeld ?_ ?_
               rotate_left
               ·rintro w' ⟨s0,s1,s2,s3,s4,s5,s6,s7⟩
                go_simp
                with_reducible rfl
               rotate_left
               ·simp only [Act.put,z5,z6,z7,i64_w,i32_w]
                rfl
               refine pure_ (i:=20) (N:=some 45) (v:=?_) (a':=?_) #[t',t',t',t',t',t',t',t',t',t',t',t',t',t',t',t',t',t',t',t',t',f',f',t',f',f',f',f'] rfl rfl (any_of HT_.out (by kernel_rfl)) (fun _ _ _ h=>h) (Or.inl ⟨by rfl,?_⟩) ?_ ?_
               rotate_left
               ·intro w'
                go_simp
                with_reducible rfl
               rotate_left
               ·simp only [Act.put,z5,z6,z7,i64_w,i32_w]
                rfl
               refine pure_ (i:=21) (N:=some 46) (v:=?_) (a':=?_) #[t',t',t',t',t',t',t',t',t',t',t',t',t',t',t',t',t',t',t',t',t',t',f',t',f',f',f',f'] rfl rfl (any_of HT_.out (by kernel_rfl)) (fun _ _ _ h=>h) (Or.inl ⟨by rfl,?_⟩) ?_ ?_
               rotate_left
               ·intro w'
                go_simp
                with_reducible rfl
               rotate_left
               ·simp only [Act.put,z5,z6,z7,i64_w,i32_w]
                rfl
               refine take_ (i:=22) (N:=some 47) (v:=?_) (a':=?_) #[t',t',t',t',t',t',t',t',t',t',t',t',t',t',t',t',t',t',t',t',t',t',t',t',f',f',f',f'] rfl rfl (take_ofW HT_.out HW_.out (by kernel_rfl)) (fun _ _ _ h=>h) (Or.inl ⟨by rfl,?_⟩) hHeld ?_ ?_
               rotate_left
               ·rintro w' ⟨s0,s1,s2,s3,s4,s5,s6,s7⟩
                go_simp
                with_reducible rfl
               rotate_left
               ·simp only [Act.put,z5,z6,z7,i64_w,i32_w]
                rfl
               refine take_ (i:=24) (N:=some 49) (v:=?_) (a':=?_) #[t',t',t',t',t',t',t',t',t',t',t',t',t',t',t',t',t',t',t',t',t',t',t',t',t',f',f',f'] rfl rfl (take_ofW HT_.out HW_.out (by kernel_rfl)) (fun _ _ _ h=>h) (Or.inl ⟨by rfl,?_⟩) hHeld ?_ ?_
               rotate_left
               ·rintro w' ⟨s0,s1,s2,s3,s4,s5,s6,s7⟩
                go_simp
                with_reducible rfl
               rotate_left
               ·simp only [Act.put,z5,z6,z7,i64_w,i32_w]
                rfl
               refine pure_ (i:=25) (N:=some 50) (v:=?_) (a':=?_) #[t',t',t',t',t',t',t',t',t',t',t',t',t',t',t',t',t',t',t',t',t',t',t',t',t',t',f',f'] rfl rfl (any_of HT_.out (by kernel_rfl)) (fun _ _ _ h=>h) (Or.inl ⟨by rfl,?_⟩) ?_ ?_
               rotate_left
               ·intro w'
                go_simp
                with_reducible rfl
               rotate_left
               ·simp only [Act.put,z5,z6,z7,i64_w,i32_w]
                rfl
               refine pure_ (i:=26) (N:=some 51) (v:=?_) (a':=?_) #[t',t',t',t',t',t',t',t',t',t',t',t',t',t',t',t',t',t',t',t',t',t',t',t',t',t',t',f'] rfl rfl (any_of HT_.out (by kernel_rfl)) (fun _ _ _ h=>h) (Or.inl ⟨by rfl,?_⟩) ?_ ?_
               rotate_left
               ·intro w'
                go_simp
                with_reducible rfl
               rotate_left
               ·simp only [Act.put,z5,z6,z7,i64_w,i32_w]
                rfl
               refine pure_ (i:=27) (N:=some 52) (v:=?_) (a':=?_) #[t',t',t',t',t',t',t',t',t',t',t',t',t',t',t',t',t',t',t',t',t',t',t',t',t',t',t',t'] rfl rfl (any_of HT_.out (by kernel_rfl)) (fun _ _ _ h=>h) (Or.inl ⟨by rfl,?_⟩) ?_ ?_
               rotate_left
               ·intro w'
                go_simp
                with_reducible rfl
               rotate_left
               ·simp only [Act.put,z5,z6,z7,i64_w,i32_w]
                rfl
               refine done_ (done_of HT_.out (by kernel_rfl)) ?_
               try go_wp2
               go_roundg k2
               case measure=>have:=HJ1.out;have:=HK2.out;omega
               case rel=>exact⟨(wrap64 (x20_2+1)),(by first|rfl|(simp;done)|(simp [*];done)),H',⟨by have:=HJ1.out;have:=HK2.out;omega⟩,⟨by(with_reducible repeat(first|refine blk_drewN ?_ _|refine blk_drew ?_ |refine blk_alloc ?_ _));exact BK187.out⟩,⟨by repeat(first|(with_reducible first|exact HB.out|apply below_alloc|apply pw_below_drewN|apply below_drew1|refine below_set ?_ GE187.out|refine below_set ?_ GE190.out)|exact HB.out)⟩⟩
             ·rw [if_neg c27] at H
              exact absurd H (by simp)
            ·rw [if_neg c26] at H
             exact absurd H (by simp)
           ·rw [if_neg c24] at H
            have c24b0:decide (0<x20_2)=false:=decide_eq_false c24
            clear c24
            have H':=Aside0.mk H
            clear H
            have p189: 0≤ (x20_2:Int):=of_decide_eq_true z1
            have q189:x20_2< (l0_1.length:Int):=of_decide_eq_true z1
            obtain⟨ad189,e189,hx189_0,hx189_1,hx189_2⟩:=at_T53 HR0_1.out x20_2 p189 q189
            cases e189
            replace hx189_0:=(HB.out.cell (World.block_lt_of_cell? w _ hx189_0)).trans hx189_0
            replace hx189_1:=(HB.out.cell (World.block_lt_of_cell? w _ hx189_1)).trans hx189_1
            replace hx189_2:=(HB.out.cell (World.block_lt_of_cell? w _ hx189_2)).trans hx189_2
            replace p189:=eq_true p189
            replace q189:=eq_true q189
            try go_wp2_with (first|((with_reducible refine gate_dst (N:=4) rfl ?_);(try(refine gate_guard (by rfl) ?_;dsimp only));refine box_event ?hg (N:=4) ?hd (cs:= #[.int .i64 0,.int .i64 0,.int .i64 0]) (t:=53) ?hr ?_;(case hd=>rfl);(case hg=>rfl);(case hr=>first|(go_simp;done)|(go_simp;rfl));intro gb190 hg w43 hbox hb;have n0_:=Aside0.mk (blk_below (g:=gb187) (o:= .cells #[.int .i64 a0_0,.slice (some ad189) l0_1.length c0_1] 24 (0,0)) (z3 BK187) hb);have n1_:=Aside0.mk (below_step (zb1 HB GE187) hb);have n2_:=Aside0.mk (hbox);have n3_:=Aside0.mk ((by rw [hg];exact(below_size (zb1 HB GE187)):w.heap.size≤gb190));have n4_:=Aside0.mk ((by rw [hg];exact(below_size (zb1 HB GE187)):w.heap.size≤gb190));have n5_:=Aside0.mk ((by rw [hg];exact Nat.ne_of_lt (blk_lt (g:=gb187) (o:= .cells #[.int .i64 a0_0,.slice (some ad189) l0_1.length c0_1] 24 (0,0)) (z3 BK187)):gb187≠gb190));have n6_:=Aside0.mk ((by rw [hg];exact Nat.ne_of_gt (blk_lt (g:=gb187) (o:= .cells #[.int .i64 a0_0,.slice (some ad189) l0_1.length c0_1] 24 (0,0)) (z3 BK187)):gb190≠gb187));clear BK187;clear HB;have BK187:=n0_;have HB:=n1_;have BK190:=n2_;have GW190:=n3_;have GE190:=n4_;have NB187_190:=n5_;have NB190_187:=n6_;clear n0_ n1_ n2_ n3_ n4_ n5_ n6_;clear hb hbox hg;have hnb44:=NB190_187.out;have hnc44:=NB187_190.out;have hcz45_0:w43.cell? ⟨gb190,0,none⟩=some (.int .i64 0):=(blk_cell BK190.out 0).trans rfl;have hcz45_1:w43.cell? ⟨gb190,1,none⟩=some (.int .i64 0):=(blk_cell BK190.out 1).trans rfl;have hcz45_2:w43.cell? ⟨gb190,2,none⟩=some (.int .i64 0):=(blk_cell BK190.out 2).trans rfl;have hfz45_0:=blk_frozen BK190.out 0;have hfz45_1:=blk_frozen BK190.out 1;have hfz45_2:=blk_frozen BK190.out 2))
            have n0_:Aside0 ((((w43.setCell ⟨gb190,0,none⟩ (.int .i64 ((rd_T53 l0_1 x20_2).f0))).setCell ⟨gb190,1,none⟩ (.int .i64 ((rd_T53 l0_1 x20_2).f1))).setCell ⟨gb190,2,none⟩ (.int .i64 ((rd_T53 l0_1 x20_2).f2))).heap[gb187]?=some (.cells #[.int .i64 a0_0,.slice (some ad189) l0_1.length c0_1] 24 (0,0))):=⟨by(with_reducible repeat(first|refine blk_drewN ?_ _|refine blk_drew ?_ |refine blk_alloc ?_ _));refine blk_far ?_ NB187_190.out _;(with_reducible repeat(first|refine blk_drewN ?_ _|refine blk_drew ?_ |refine blk_alloc ?_ _));refine blk_far ?_ NB187_190.out _;(with_reducible repeat(first|refine blk_drewN ?_ _|refine blk_drew ?_ |refine blk_alloc ?_ _));refine blk_far ?_ NB187_190.out _;(with_reducible repeat(first|refine blk_drewN ?_ _|refine blk_drew ?_ |refine blk_alloc ?_ _));exact BK187.out⟩
            have n1_:Aside0 ((((w43.setCell ⟨gb190,0,none⟩ (.int .i64 ((rd_T53 l0_1 x20_2).f0))).setCell ⟨gb190,1,none⟩ (.int .i64 ((rd_T53 l0_1 x20_2).f1))).setCell ⟨gb190,2,none⟩ (.int .i64 ((rd_T53 l0_1 x20_2).f2))).heap[gb190]?=some (.cells #[.int .i64 ((rd_T53 l0_1 x20_2).f0),.int .i64 ((rd_T53 l0_1 x20_2).f1),.int .i64 ((rd_T53 l0_1 x20_2).f2)] 53 (0,0))):=⟨by(with_reducible repeat(first|refine blk_drewN ?_ _|refine blk_drew ?_ |refine blk_alloc ?_ _));refine blk_put (cs:= #[.int .i64 ((rd_T53 l0_1 x20_2).f0),.int .i64 ((rd_T53 l0_1 x20_2).f1),.int .i64 0]) ?_ 2 _ rfl;(with_reducible repeat(first|refine blk_drewN ?_ _|refine blk_drew ?_ |refine blk_alloc ?_ _));refine blk_put (cs:= #[.int .i64 ((rd_T53 l0_1 x20_2).f0),.int .i64 0,.int .i64 0]) ?_ 1 _ rfl;(with_reducible repeat(first|refine blk_drewN ?_ _|refine blk_drew ?_ |refine blk_alloc ?_ _));refine blk_put (cs:= #[.int .i64 0,.int .i64 0,.int .i64 0]) ?_ 0 _ rfl;(with_reducible repeat(first|refine blk_drewN ?_ _|refine blk_drew ?_ |refine blk_alloc ?_ _));exact BK190.out⟩
            have n2_:Aside0 (Below w.heap.size w (((w43.setCell ⟨gb190,0,none⟩ (.int .i64 ((rd_T53 l0_1 x20_2).f0))).setCell ⟨gb190,1,none⟩ (.int .i64 ((rd_T53 l0_1 x20_2).f1))).setCell ⟨gb190,2,none⟩ (.int .i64 ((rd_T53 l0_1 x20_2).f2)))):=⟨by repeat(first|(with_reducible first|exact HB.out|apply below_alloc|apply pw_below_drewN|apply below_drew1|refine below_set ?_ GE187.out|refine below_set ?_ GE190.out)|exact HB.out)⟩
            (try clear BK187)
            (try clear BK190)
            (try clear HB)
            (try simp only [show ∀ (W_:World) (n_:Nat) (a_:Addr) (v_:Value),(World.drewN W_ n_).setCell a_ v_= (World.setCell W_ a_ v_).drewN n_ from fun _ _ _ _=>rfl])
            generalize (((w43.setCell ⟨gb190,0,none⟩ (.int .i64 ((rd_T53 l0_1 x20_2).f0))).setCell ⟨gb190,1,none⟩ (.int .i64 ((rd_T53 l0_1 x20_2).f1))).setCell ⟨gb190,2,none⟩ (.int .i64 ((rd_T53 l0_1 x20_2).f2)))=w46 at n0_ n1_ n2_ ⊢
            have BK187:=n0_
            have BK190:=n1_
            have HB:=n2_
            clear n0_ n1_ n2_
            have n0_:=Aside0.mk (blk_drew BK187.out)
            have n1_:=Aside0.mk (blk_drew BK190.out)
            have n2_:=Aside0.mk (below_drew1 HB.out)
            clear BK187
            clear BK190
            clear HB
            have BK187:=n0_
            have BK190:=n1_
            have HB:=n2_
            clear n0_ n1_ n2_
            refine start_ (n:=28) (S:=fun w'=>w'.cell? ⟨gb190,0,none⟩=some (.int .i64 ((rd_T53 l0_1 x20_2).f0))∧w'.cell? ⟨gb190,1,none⟩=some (.int .i64 ((rd_T53 l0_1 x20_2).f1))∧w'.cell? ⟨gb190,2,none⟩=some (.int .i64 ((rd_T53 l0_1 x20_2).f2))∧w'.cell? ⟨gb187,0,none⟩=some (.int .i64 a0_0)∧w'.cell? ⟨gb187,1,none⟩=some (.slice (some ad189) l0_1.length c0_1)) (ds:= []) #[f',f',f',f',f',f',f',f',f',f',f',f',f',f',f',f',f',f',f',f',f',f',f',f',f',f',f',f'] (by kernel_rfl) rfl rfl ⟨(blk_cell BK190.out 0).trans rfl,(blk_cell BK190.out 1).trans rfl,(blk_cell BK190.out 2).trans rfl,(blk_cell BK187.out 0).trans rfl,(blk_cell BK187.out 1).trans rfl⟩ (fun hHeld=>?_);refine with_tabW impl_GoodTable.tab6 impl_GoodTable.bits6 (fun HT_ HW_=>?_)
            generalize w46.drew=w47 at BK187 BK190 HB hHeld ⊢
            refine take_ (i:=0) (N:=some 25) (v:=?_) (a':=?_) #[t',f',f',f',f',f',f',f',f',f',f',f',f',f',f',f',f',f',f',f',f',f',f',f',f',f',f',f'] rfl rfl (take_ofW HT_.out HW_.out (by kernel_rfl)) (fun _ _ _ h=>h) (Or.inl ⟨by rfl,?_⟩) hHeld ?_ ?_
            rotate_left
            ·rintro w' ⟨s0,s1,s2,s3,s4⟩
             go_simp
             with_reducible rfl
            rotate_left
            ·simp only [Act.put,z5,z6,z7,i64_w,i32_w]
             rfl
            refine one_ (i:=1) (N:=some 26) #[t',t',f',f',f',f',f',f',f',f',f',f',f',f',f',f',f',f',f',f',f',f',f',f',f',f',f',f'] rfl rfl (one_of HT_.out (by kernel_rfl)) (by decide) (fun K hK=>?_)
            refine goes_ Try.func45 (by kernel_rfl) rfl #[.agg #[.int .i64 ((rd_T53 l0_1 x20_2).f0),.int .i64 ((rd_T53 l0_1 x20_2).f1),.int .i64 ((rd_T53 l0_1 x20_2).f2)]] (by rfl) rfl rfl z2 ?_
            with_reducible refine(impl_isSeen.calls ((rd_T53 l0_1 x20_2).f0) ((rd_T53 l0_1 x20_2).f1) ((rd_T53 l0_1 x20_2).f2) true _ A13.out).mono ?_
            rintro e w48 ⟨rfl,hb⟩
            refine⟨_,rfl,?_⟩
            have n0_:=Aside0.mk (blk_below (g:=gb187) (o:= .cells #[.int .i64 a0_0,.slice (some ad189) l0_1.length c0_1] 24 (0,0)) (z3 BK187) hb)
            have n1_:=Aside0.mk (blk_below (g:=gb190) (o:= .cells #[.int .i64 ((rd_T53 l0_1 x20_2).f0),.int .i64 ((rd_T53 l0_1 x20_2).f1),.int .i64 ((rd_T53 l0_1 x20_2).f2)] 53 (0,0)) (z3 BK190) hb)
            have n2_:=Aside0.mk (below_step (zb2 HB GE187 GE190) hb)
            clear BK187
            clear BK190
            clear HB
            have BK187:=n0_
            have BK190:=n1_
            have HB:=n2_
            clear n0_ n1_ n2_
            (try clear hb)
            (try clear hb2)
            (try clear hk)
            (try clear hi)
            refine hK.out _ _ ⟨(blk_cell BK190.out 0).trans rfl,(blk_cell BK190.out 1).trans rfl,(blk_cell BK190.out 2).trans rfl,(blk_cell BK187.out 0).trans rfl,(blk_cell BK187.out 1).trans rfl⟩ (fun hHeld=>?_)
            clear hK K
            refine norm_ (a':=?_) ?_ ?_
            rotate_left
            ·show Act.put _ (some 26) _=_
             simp only [Act.put,z5,z6,z7,i64_w,i32_w]
             rfl
            refine pure_ (i:=2) (N:=some 27) (v:=?_) (a':=?_) #[t',t',t',f',f',f',f',f',f',f',f',f',f',f',f',f',f',f',f',f',f',f',f',f',f',f',f',f'] rfl rfl (any_of HT_.out (by kernel_rfl)) (fun _ _ _ h=>h) (Or.inl ⟨by rfl,?_⟩) ?_ ?_
            rotate_left
            ·intro w'
             go_simp
             with_reducible rfl
            rotate_left
            ·simp only [Act.put,z5,z6,z7,i64_w,i32_w]
             rfl
            refine pure_ (i:=3) (N:=some 28) (v:=?_) (a':=?_) #[t',t',t',t',f',f',f',f',f',f',f',f',f',f',f',f',f',f',f',f',f',f',f',f',f',f',f',f'] rfl rfl (any_of HT_.out (by kernel_rfl)) (fun _ _ _ h=>h) (Or.inl ⟨by rfl,?_⟩) ?_ ?_
            rotate_left
            ·intro w'
             go_simp
             with_reducible rfl
            rotate_left
            ·simp only [Act.put,z5,z6,z7,i64_w,i32_w]
             rfl
            refine pure_ (i:=4) (N:=some 29) (v:=?_) (a':=?_) #[t',t',t',t',t',f',f',f',f',f',f',f',f',f',f',f',f',f',f',f',f',f',f',f',f',f',f',f'] rfl rfl (any_of HT_.out (by kernel_rfl)) (fun _ _ _ h=>h) (Or.inl ⟨by rfl,?_⟩) ?_ ?_
            rotate_left
            ·intro w'
             go_simp
             with_reducible rfl
            rotate_left
            ·simp only [Act.put,z5,z6,z7,i64_w,i32_w]
             rfl
            refine pure_ (i:=6) (N:=some 31) (v:=?_) (a':=?_) #[t',t',t',t',t',f',t',f',f',f',f',f',f',f',f',f',f',f',f',f',f',f',f',f',f',f',f',f'] rfl rfl (any_of HT_.out (by kernel_rfl)) (fun _ _ _ h=>h) (Or.inl ⟨by rfl,?_⟩) ?_ ?_
            rotate_left
            ·intro w'
             go_simp
             with_reducible rfl
            rotate_left
            ·simp only [Act.put,z5,z6,z7,i64_w,i32_w]
             rfl
            refine pure_ (i:=9) (N:=some 34) (v:=?_) (a':=?_) #[t',t',t',t',t',f',t',f',f',t',f',f',f',f',f',f',f',f',f',f',f',f',f',f',f',f',f',f'] rfl rfl (any_of HT_.out (by kernel_rfl)) (fun _ _ _ h=>h) (Or.inl ⟨by rfl,?_⟩) ?_ ?_
            rotate_left
            ·intro w'
             go_simp
             with_reducible rfl
            rotate_left
            ·simp only [Act.put,z5,z6,z7,i64_w,i32_w]
             rfl
            refine take_ (i:=5) (N:=some 30) (v:=?_) (a':=?_) #[t',t',t',t',t',t',t',f',f',t',f',f',f',f',f',f',f',f',f',f',f',f',f',f',f',f',f',f'] rfl rfl (take_ofW HT_.out HW_.out (by kernel_rfl)) (fun _ _ _ h=>h) (Or.inl ⟨by rfl,?_⟩) hHeld ?_ ?_
            rotate_left
            ·rintro w' ⟨s0,s1,s2,s3,s4⟩
             go_simp
             with_reducible rfl
            rotate_left
            ·simp only [Act.put,z5,z6,z7,i64_w,i32_w]
             rfl
            refine take_ (i:=7) (N:=some 32) (v:=?_) (a':=?_) #[t',t',t',t',t',t',t',t',f',t',f',f',f',f',f',f',f',f',f',f',f',f',f',f',f',f',f',f'] rfl rfl (take_ofW HT_.out HW_.out (by kernel_rfl)) (fun _ _ _ h=>h) (Or.inl ⟨by rfl,?_⟩) hHeld ?_ ?_
            rotate_left
            ·rintro w' ⟨s0,s1,s2,s3,s4⟩
             go_simp
             with_reducible rfl
            rotate_left
            ·simp only [Act.put,z5,z6,z7,i64_w,i32_w]
             rfl
            refine one_ (i:=8) (N:=some 33) #[t',t',t',t',t',t',t',t',t',t',f',f',f',f',f',f',f',f',f',f',f',f',f',f',f',f',f',f'] rfl rfl (one_of HT_.out (by kernel_rfl)) (by decide) (fun K hK=>?_)
            refine goes_ Try.func46 (by kernel_rfl) rfl #[.slice (some ad189) l0_1.length c0_1,.int .i64 ((rd_T53 l0_1 x20_2).f0)] (by rfl) rfl rfl z2 ?_
            with_reducible refine(impl_row.calls _ _ l0_1 ((rd_T53 l0_1 x20_2).f0) t192 _ ?side1 ?side2 A15.out).mono ?_
            (case side1=>repeat(first|exact(Kd.C_below HR0_1.out HB.out)|(with_reducible refine Kd.C_alloc ?_ _)|(with_reducible refine Kd.C_drewN ?_ _)|(with_reducible refine Kd.C_drew ?_)))
            (case side2=>exact HC0_1.out)
            rintro e w49 ⟨rfl,hb⟩
            refine⟨_,rfl,?_⟩
            have n0_:=Aside0.mk (blk_below (g:=gb187) (o:= .cells #[.int .i64 a0_0,.slice (some ad189) l0_1.length c0_1] 24 (0,0)) (z3 BK187) hb)
            have n1_:=Aside0.mk (blk_below (g:=gb190) (o:= .cells #[.int .i64 ((rd_T53 l0_1 x20_2).f0),.int .i64 ((rd_T53 l0_1 x20_2).f1),.int .i64 ((rd_T53 l0_1 x20_2).f2)] 53 (0,0)) (z3 BK190) hb)
            have n2_:=Aside0.mk (below_step (zb2 HB GE187 GE190) hb)
            clear BK187
            clear BK190
            clear HB
            have BK187:=n0_
            have BK190:=n1_
            have HB:=n2_
            clear n0_ n1_ n2_
            (try clear hb)
            (try clear hb2)
            (try clear hk)
            (try clear hi)
            refine hK.out _ _ ⟨(blk_cell BK190.out 0).trans rfl,(blk_cell BK190.out 1).trans rfl,(blk_cell BK190.out 2).trans rfl,(blk_cell BK187.out 0).trans rfl,(blk_cell BK187.out 1).trans rfl⟩ (fun hHeld=>?_)
            clear hK K
            refine norm_ (a':=?_) ?_ ?_
            rotate_left
            ·show Act.put _ (some 33) _=_
             simp only [Act.put,z5,z6,z7,i64_w,i32_w]
             rfl
            refine pure_ (i:=10) (N:=some 35) (v:=?_) (a':=?_) #[t',t',t',t',t',t',t',t',t',t',t',f',f',f',f',f',f',f',f',f',f',f',f',f',f',f',f',f'] rfl rfl (any_of HT_.out (by kernel_rfl)) (fun _ _ _ h=>h) (Or.inl ⟨by rfl,?_⟩) ?_ ?_
            rotate_left
            ·intro w'
             go_simp
             with_reducible rfl
            rotate_left
            ·simp only [Act.put,z5,z6,z7,i64_w,i32_w]
             rfl
            refine pure_ (i:=11) (N:=some 36) (v:=?_) (a':=?_) #[t',t',t',t',t',t',t',t',t',t',t',t',f',f',f',f',f',f',f',f',f',f',f',f',f',f',f',f'] rfl rfl (any_of HT_.out (by kernel_rfl)) (fun _ _ _ h=>h) (Or.inl ⟨by rfl,?_⟩) ?_ ?_
            rotate_left
            ·intro w'
             go_simp
             with_reducible rfl
            rotate_left
            ·simp only [Act.put,z5,z6,z7,i64_w,i32_w]
             rfl
            refine pure_ (i:=12) (N:=some 37) (v:=?_) (a':=?_) #[t',t',t',t',t',t',t',t',t',t',t',t',t',f',f',f',f',f',f',f',f',f',f',f',f',f',f',f'] rfl rfl (any_of HT_.out (by kernel_rfl)) (fun _ _ _ h=>h) (Or.inl ⟨by rfl,?_⟩) ?_ ?_
            rotate_left
            ·intro w'
             go_simp
             with_reducible rfl
            rotate_left
            ·simp only [Act.put,z5,z6,z7,i64_w,i32_w]
             rfl
            refine pure_ (i:=13) (N:=some 38) (v:=?_) (a':=?_) #[t',t',t',t',t',t',t',t',t',t',t',t',t',t',f',f',f',f',f',f',f',f',f',f',f',f',f',f'] rfl rfl (any_of HT_.out (by kernel_rfl)) (fun _ _ _ h=>h) (Or.inl ⟨by rfl,?_⟩) ?_ ?_
            rotate_left
            ·intro w'
             go_simp
             with_reducible rfl
            rotate_left
            ·simp only [Act.put,z5,z6,z7,i64_w,i32_w]
             rfl
            refine pure_ (i:=14) (N:=some 39) (v:=?_) (a':=?_) #[t',t',t',t',t',t',t',t',t',t',t',t',t',t',t',f',f',f',f',f',f',f',f',f',f',f',f',f'] rfl rfl (any_of HT_.out (by kernel_rfl)) (fun _ _ _ h=>h) (Or.inl ⟨by rfl,?_⟩) ?_ ?_
            rotate_left
            ·intro w'
             go_simp
             with_reducible rfl
            rotate_left
            ·simp only [Act.put,z5,z6,z7,i64_w,i32_w]
             rfl
            refine pure_ (i:=15) (N:=some 40) (v:=?_) (a':=?_) #[t',t',t',t',t',t',t',t',t',t',t',t',t',t',t',t',f',f',f',f',f',f',f',f',f',f',f',f'] rfl rfl (any_of HT_.out (by kernel_rfl)) (fun _ _ _ h=>h) (Or.inl ⟨by rfl,?_⟩) ?_ ?_
            rotate_left
            ·intro w'
             go_simp
             with_reducible rfl
            rotate_left
            ·simp only [Act.put,z5,z6,z7,i64_w,i32_w]
             rfl
            refine pure_ (i:=16) (N:=some 41) (v:=undef) (a':=?_) #[t',t',t',t',t',t',t',t',t',t',t',t',t',t',t',t',t',f',f',f',f',f',f',f',f',f',f',f'] rfl rfl (any_of HT_.out (by kernel_rfl)) (fun _ _ _ h=>h) (Or.inr ⟨by rfl,rfl⟩) ?_ ?_
            rotate_left
            ·simp only [Act.put,z5,z6,z7,i64_w,i32_w]
             rfl
            refine pure_ (i:=17) (N:=some 42) (v:=undef) (a':=?_) #[t',t',t',t',t',t',t',t',t',t',t',t',t',t',t',t',t',t',f',f',f',f',f',f',f',f',f',f'] rfl rfl (any_of HT_.out (by kernel_rfl)) (fun _ _ _ h=>h) (Or.inr ⟨by rfl,rfl⟩) ?_ ?_
            rotate_left
            ·simp only [Act.put,z5,z6,z7,i64_w,i32_w]
             rfl
            refine pure_ (i:=18) (N:=some 43) (v:=undef) (a':=?_) #[t',t',t',t',t',t',t',t',t',t',t',t',t',t',t',t',t',t',t',f',f',f',f',f',f',f',f',f'] rfl rfl (any_of HT_.out (by kernel_rfl)) (fun _ _ _ h=>h) (Or.inr ⟨by rfl,rfl⟩) ?_ ?_
            rotate_left
            ·simp only [Act.put,z5,z6,z7,i64_w,i32_w]
             rfl
            refine pure_ (i:=19) (N:=some 44) (v:=undef) (a':=?_) #[t',t',t',t',t',t',t',t',t',t',t',t',t',t',t',t',t',t',t',t',f',f',f',f',f',f',f',f'] rfl rfl (any_of HT_.out (by kernel_rfl)) (fun _ _ _ h=>h) (Or.inr ⟨by rfl,rfl⟩) ?_ ?_
            rotate_left
            ·simp only [Act.put,z5,z6,z7,i64_w,i32_w]
             rfl
            refine pure_ (i:=20) (N:=some 45) (v:=undef) (a':=?_) #[t',t',t',t',t',t',t',t',t',t',t',t',t',t',t',t',t',t',t',t',t',f',f',f',f',f',f',f'] rfl rfl (any_of HT_.out (by kernel_rfl)) (fun _ _ _ h=>h) (Or.inr ⟨by rfl,rfl⟩) ?_ ?_
            rotate_left
            ·simp only [Act.put,z5,z6,z7,i64_w,i32_w]
             rfl
            refine pure_ (i:=21) (N:=some 46) (v:=undef) (a':=?_) #[t',t',t',t',t',t',t',t',t',t',t',t',t',t',t',t',t',t',t',t',t',t',f',f',f',f',f',f'] rfl rfl (any_of HT_.out (by kernel_rfl)) (fun _ _ _ h=>h) (Or.inr ⟨by rfl,rfl⟩) ?_ ?_
            rotate_left
            ·simp only [Act.put,z5,z6,z7,i64_w,i32_w]
             rfl
            refine pure_ (i:=22) (N:=some 47) (v:=undef) (a':=?_) #[t',t',t',t',t',t',t',t',t',t',t',t',t',t',t',t',t',t',t',t',t',t',t',f',f',f',f',f'] rfl rfl (any_of HT_.out (by kernel_rfl)) (fun _ _ _ h=>h) (Or.inr ⟨by rfl,rfl⟩) ?_ ?_
            rotate_left
            ·simp only [Act.put,z5,z6,z7,i64_w,i32_w]
             rfl
            refine pure_ (i:=23) (N:=some 48) (v:=undef) (a':=?_) #[t',t',t',t',t',t',t',t',t',t',t',t',t',t',t',t',t',t',t',t',t',t',t',t',f',f',f',f'] rfl rfl (any_of HT_.out (by kernel_rfl)) (fun _ _ _ h=>h) (Or.inr ⟨by rfl,rfl⟩) ?_ ?_
            rotate_left
            ·simp only [Act.put,z5,z6,z7,i64_w,i32_w]
             rfl
            refine pure_ (i:=24) (N:=some 49) (v:=undef) (a':=?_) #[t',t',t',t',t',t',t',t',t',t',t',t',t',t',t',t',t',t',t',t',t',t',t',t',t',f',f',f'] rfl rfl (any_of HT_.out (by kernel_rfl)) (fun _ _ _ h=>h) (Or.inr ⟨by rfl,rfl⟩) ?_ ?_
            rotate_left
            ·simp only [Act.put,z5,z6,z7,i64_w,i32_w]
             rfl
            refine pure_ (i:=25) (N:=some 50) (v:=undef) (a':=?_) #[t',t',t',t',t',t',t',t',t',t',t',t',t',t',t',t',t',t',t',t',t',t',t',t',t',t',f',f'] rfl rfl (any_of HT_.out (by kernel_rfl)) (fun _ _ _ h=>h) (Or.inr ⟨by rfl,rfl⟩) ?_ ?_
            rotate_left
            ·simp only [Act.put,z5,z6,z7,i64_w,i32_w]
             rfl
            refine pure_ (i:=26) (N:=some 51) (v:=?_) (a':=?_) #[t',t',t',t',t',t',t',t',t',t',t',t',t',t',t',t',t',t',t',t',t',t',t',t',t',t',t',f'] rfl rfl (any_of HT_.out (by kernel_rfl)) (fun _ _ _ h=>h) (Or.inl ⟨by rfl,?_⟩) ?_ ?_
            rotate_left
            ·intro w'
             go_simp
             with_reducible rfl
            rotate_left
            ·simp only [Act.put,z5,z6,z7,i64_w,i32_w]
             rfl
            refine pure_ (i:=27) (N:=some 52) (v:=?_) (a':=?_) #[t',t',t',t',t',t',t',t',t',t',t',t',t',t',t',t',t',t',t',t',t',t',t',t',t',t',t',t'] rfl rfl (any_of HT_.out (by kernel_rfl)) (fun _ _ _ h=>h) (Or.inl ⟨by rfl,?_⟩) ?_ ?_
            rotate_left
            ·intro w'
             go_simp
             with_reducible rfl
            rotate_left
            ·simp only [Act.put,z5,z6,z7,i64_w,i32_w]
             rfl
            refine done_ (done_of HT_.out (by kernel_rfl)) ?_
            try go_wp2
            go_roundg k2
            case measure=>have:=HJ1.out;have:=HK2.out;omega
            case rel=>exact⟨(wrap64 (x20_2+1)),(by first|rfl|(simp;done)|(simp [*];done)),H',⟨by have:=HJ1.out;have:=HK2.out;omega⟩,⟨by(with_reducible repeat(first|refine blk_drewN ?_ _|refine blk_drew ?_ |refine blk_alloc ?_ _));exact BK187.out⟩,⟨by repeat(first|(with_reducible first|exact HB.out|apply below_alloc|apply pw_below_drewN|apply below_drew1|refine below_set ?_ GE187.out|refine below_set ?_ GE190.out)|exact HB.out)⟩⟩
         ·replace c14:=Bool.eq_false_iff.mpr c14
          subst c14
          have H1:(some false)=some r:=by rw [if_neg (show ¬ (false=true) by decide)] at H;exact H
          clear H
          have H:=H1
          clear H1
          obtain rfl:=Option.some.inj H
          have p189: 0≤ (x20_2:Int):=of_decide_eq_true z1
          have q189:x20_2< (l0_1.length:Int):=of_decide_eq_true z1
          obtain⟨ad189,e189,hx189_0,hx189_1,hx189_2⟩:=at_T53 HR0_1.out x20_2 p189 q189
          cases e189
          replace hx189_0:=(HB.out.cell (World.block_lt_of_cell? w _ hx189_0)).trans hx189_0
          replace hx189_1:=(HB.out.cell (World.block_lt_of_cell? w _ hx189_1)).trans hx189_1
          replace hx189_2:=(HB.out.cell (World.block_lt_of_cell? w _ hx189_2)).trans hx189_2
          replace p189:=eq_true p189
          replace q189:=eq_true q189
          try go_wp2_with (first|((with_reducible refine gate_dst (N:=4) rfl ?_);(try(refine gate_guard (by rfl) ?_;dsimp only));refine box_event ?hg (N:=4) ?hd (cs:= #[.int .i64 0,.int .i64 0,.int .i64 0]) (t:=53) ?hr ?_;(case hd=>rfl);(case hg=>rfl);(case hr=>first|(go_simp;done)|(go_simp;rfl));intro gb190 hg w50 hbox hb;have n0_:=Aside0.mk (blk_below (g:=gb187) (o:= .cells #[.int .i64 a0_0,.slice (some ad189) l0_1.length c0_1] 24 (0,0)) (z3 BK187) hb);have n1_:=Aside0.mk (below_step (zb1 HB GE187) hb);have n2_:=Aside0.mk (hbox);have n3_:=Aside0.mk ((by rw [hg];exact(below_size (zb1 HB GE187)):w.heap.size≤gb190));have n4_:=Aside0.mk ((by rw [hg];exact(below_size (zb1 HB GE187)):w.heap.size≤gb190));have n5_:=Aside0.mk ((by rw [hg];exact Nat.ne_of_lt (blk_lt (g:=gb187) (o:= .cells #[.int .i64 a0_0,.slice (some ad189) l0_1.length c0_1] 24 (0,0)) (z3 BK187)):gb187≠gb190));have n6_:=Aside0.mk ((by rw [hg];exact Nat.ne_of_gt (blk_lt (g:=gb187) (o:= .cells #[.int .i64 a0_0,.slice (some ad189) l0_1.length c0_1] 24 (0,0)) (z3 BK187)):gb190≠gb187));clear BK187;clear HB;have BK187:=n0_;have HB:=n1_;have BK190:=n2_;have GW190:=n3_;have GE190:=n4_;have NB187_190:=n5_;have NB190_187:=n6_;clear n0_ n1_ n2_ n3_ n4_ n5_ n6_;clear hb hbox hg;have hnb51:=NB190_187.out;have hnc51:=NB187_190.out;have hcz52_0:w50.cell? ⟨gb190,0,none⟩=some (.int .i64 0):=(blk_cell BK190.out 0).trans rfl;have hcz52_1:w50.cell? ⟨gb190,1,none⟩=some (.int .i64 0):=(blk_cell BK190.out 1).trans rfl;have hcz52_2:w50.cell? ⟨gb190,2,none⟩=some (.int .i64 0):=(blk_cell BK190.out 2).trans rfl;have hfz52_0:=blk_frozen BK190.out 0;have hfz52_1:=blk_frozen BK190.out 1;have hfz52_2:=blk_frozen BK190.out 2))
          have n0_:Aside0 ((((w50.setCell ⟨gb190,0,none⟩ (.int .i64 ((rd_T53 l0_1 x20_2).f0))).setCell ⟨gb190,1,none⟩ (.int .i64 ((rd_T53 l0_1 x20_2).f1))).setCell ⟨gb190,2,none⟩ (.int .i64 ((rd_T53 l0_1 x20_2).f2))).heap[gb187]?=some (.cells #[.int .i64 a0_0,.slice (some ad189) l0_1.length c0_1] 24 (0,0))):=⟨by(with_reducible repeat(first|refine blk_drewN ?_ _|refine blk_drew ?_ |refine blk_alloc ?_ _));refine blk_far ?_ NB187_190.out _;(with_reducible repeat(first|refine blk_drewN ?_ _|refine blk_drew ?_ |refine blk_alloc ?_ _));refine blk_far ?_ NB187_190.out _;(with_reducible repeat(first|refine blk_drewN ?_ _|refine blk_drew ?_ |refine blk_alloc ?_ _));refine blk_far ?_ NB187_190.out _;(with_reducible repeat(first|refine blk_drewN ?_ _|refine blk_drew ?_ |refine blk_alloc ?_ _));exact BK187.out⟩
          have n1_:Aside0 ((((w50.setCell ⟨gb190,0,none⟩ (.int .i64 ((rd_T53 l0_1 x20_2).f0))).setCell ⟨gb190,1,none⟩ (.int .i64 ((rd_T53 l0_1 x20_2).f1))).setCell ⟨gb190,2,none⟩ (.int .i64 ((rd_T53 l0_1 x20_2).f2))).heap[gb190]?=some (.cells #[.int .i64 ((rd_T53 l0_1 x20_2).f0),.int .i64 ((rd_T53 l0_1 x20_2).f1),.int .i64 ((rd_T53 l0_1 x20_2).f2)] 53 (0,0))):=⟨by(with_reducible repeat(first|refine blk_drewN ?_ _|refine blk_drew ?_ |refine blk_alloc ?_ _));refine blk_put (cs:= #[.int .i64 ((rd_T53 l0_1 x20_2).f0),.int .i64 ((rd_T53 l0_1 x20_2).f1),.int .i64 0]) ?_ 2 _ rfl;(with_reducible repeat(first|refine blk_drewN ?_ _|refine blk_drew ?_ |refine blk_alloc ?_ _));refine blk_put (cs:= #[.int .i64 ((rd_T53 l0_1 x20_2).f0),.int .i64 0,.int .i64 0]) ?_ 1 _ rfl;(with_reducible repeat(first|refine blk_drewN ?_ _|refine blk_drew ?_ |refine blk_alloc ?_ _));refine blk_put (cs:= #[.int .i64 0,.int .i64 0,.int .i64 0]) ?_ 0 _ rfl;(with_reducible repeat(first|refine blk_drewN ?_ _|refine blk_drew ?_ |refine blk_alloc ?_ _));exact BK190.out⟩
          have n2_:Aside0 (Below w.heap.size w (((w50.setCell ⟨gb190,0,none⟩ (.int .i64 ((rd_T53 l0_1 x20_2).f0))).setCell ⟨gb190,1,none⟩ (.int .i64 ((rd_T53 l0_1 x20_2).f1))).setCell ⟨gb190,2,none⟩ (.int .i64 ((rd_T53 l0_1 x20_2).f2)))):=⟨by repeat(first|(with_reducible first|exact HB.out|apply below_alloc|apply pw_below_drewN|apply below_drew1|refine below_set ?_ GE187.out|refine below_set ?_ GE190.out)|exact HB.out)⟩
          (try clear BK187)
          (try clear BK190)
          (try clear HB)
          (try simp only [show ∀ (W_:World) (n_:Nat) (a_:Addr) (v_:Value),(World.drewN W_ n_).setCell a_ v_= (World.setCell W_ a_ v_).drewN n_ from fun _ _ _ _=>rfl])
          generalize (((w50.setCell ⟨gb190,0,none⟩ (.int .i64 ((rd_T53 l0_1 x20_2).f0))).setCell ⟨gb190,1,none⟩ (.int .i64 ((rd_T53 l0_1 x20_2).f1))).setCell ⟨gb190,2,none⟩ (.int .i64 ((rd_T53 l0_1 x20_2).f2)))=w53 at n0_ n1_ n2_ ⊢
          have BK187:=n0_
          have BK190:=n1_
          have HB:=n2_
          clear n0_ n1_ n2_
          have n0_:=Aside0.mk (blk_drew BK187.out)
          have n1_:=Aside0.mk (blk_drew BK190.out)
          have n2_:=Aside0.mk (below_drew1 HB.out)
          clear BK187
          clear BK190
          clear HB
          have BK187:=n0_
          have BK190:=n1_
          have HB:=n2_
          clear n0_ n1_ n2_
          refine start_ (n:=28) (S:=fun w'=>w'.cell? ⟨gb190,0,none⟩=some (.int .i64 ((rd_T53 l0_1 x20_2).f0))∧w'.cell? ⟨gb190,1,none⟩=some (.int .i64 ((rd_T53 l0_1 x20_2).f1))∧w'.cell? ⟨gb190,2,none⟩=some (.int .i64 ((rd_T53 l0_1 x20_2).f2))) (ds:= []) #[f',f',f',f',f',f',f',f',f',f',f',f',f',f',f',f',f',f',f',f',f',f',f',f',f',f',f',f'] (by kernel_rfl) rfl rfl ⟨(blk_cell BK190.out 0).trans rfl,(blk_cell BK190.out 1).trans rfl,(blk_cell BK190.out 2).trans rfl⟩ (fun hHeld=>?_);refine with_tabW impl_GoodTable.tab6 impl_GoodTable.bits6 (fun HT_ HW_=>?_)
          generalize w53.drew=w54 at BK187 BK190 HB hHeld ⊢
          refine take_ (i:=0) (N:=some 25) (v:=?_) (a':=?_) #[t',f',f',f',f',f',f',f',f',f',f',f',f',f',f',f',f',f',f',f',f',f',f',f',f',f',f',f'] rfl rfl (take_ofW HT_.out HW_.out (by kernel_rfl)) (fun _ _ _ h=>h) (Or.inl ⟨by rfl,?_⟩) hHeld ?_ ?_
          rotate_left
          ·rintro w' ⟨s0,s1,s2⟩
           go_simp
           with_reducible rfl
          rotate_left
          ·simp only [Act.put,z5,z6,z7,i64_w,i32_w]
           rfl
          refine one_ (i:=1) (N:=some 26) #[t',t',f',f',f',f',f',f',f',f',f',f',f',f',f',f',f',f',f',f',f',f',f',f',f',f',f',f'] rfl rfl (one_of HT_.out (by kernel_rfl)) (by decide) (fun K hK=>?_)
          refine goes_ Try.func45 (by kernel_rfl) rfl #[.agg #[.int .i64 ((rd_T53 l0_1 x20_2).f0),.int .i64 ((rd_T53 l0_1 x20_2).f1),.int .i64 ((rd_T53 l0_1 x20_2).f2)]] (by rfl) rfl rfl z2 ?_
          with_reducible refine(impl_isSeen.calls ((rd_T53 l0_1 x20_2).f0) ((rd_T53 l0_1 x20_2).f1) ((rd_T53 l0_1 x20_2).f2) false _ A13.out).mono ?_
          rintro e w55 ⟨rfl,hb⟩
          refine⟨_,rfl,?_⟩
          have n0_:=Aside0.mk (blk_below (g:=gb187) (o:= .cells #[.int .i64 a0_0,.slice (some ad189) l0_1.length c0_1] 24 (0,0)) (z3 BK187) hb)
          have n1_:=Aside0.mk (blk_below (g:=gb190) (o:= .cells #[.int .i64 ((rd_T53 l0_1 x20_2).f0),.int .i64 ((rd_T53 l0_1 x20_2).f1),.int .i64 ((rd_T53 l0_1 x20_2).f2)] 53 (0,0)) (z3 BK190) hb)
          have n2_:=Aside0.mk (below_step (zb2 HB GE187 GE190) hb)
          clear BK187
          clear BK190
          clear HB
          have BK187:=n0_
          have BK190:=n1_
          have HB:=n2_
          clear n0_ n1_ n2_
          (try clear hb)
          (try clear hb2)
          (try clear hk)
          (try clear hi)
          refine hK.out _ _ ⟨(blk_cell BK190.out 0).trans rfl,(blk_cell BK190.out 1).trans rfl,(blk_cell BK190.out 2).trans rfl⟩ (fun hHeld=>?_)
          clear hK K
          refine norm_ (a':=?_) ?_ ?_
          rotate_left
          ·show Act.put _ (some 26) _=_
           simp only [Act.put,z5,z6,z7,i64_w,i32_w]
           rfl
          refine pure_ (i:=2) (N:=some 27) (v:=?_) (a':=?_) #[t',t',t',f',f',f',f',f',f',f',f',f',f',f',f',f',f',f',f',f',f',f',f',f',f',f',f',f'] rfl rfl (any_of HT_.out (by kernel_rfl)) (fun _ _ _ h=>h) (Or.inl ⟨by rfl,?_⟩) ?_ ?_
          rotate_left
          ·intro w'
           go_simp
           with_reducible rfl
          rotate_left
          ·simp only [Act.put,z5,z6,z7,i64_w,i32_w]
           rfl
          refine pure_ (i:=3) (N:=some 28) (v:=?_) (a':=?_) #[t',t',t',t',f',f',f',f',f',f',f',f',f',f',f',f',f',f',f',f',f',f',f',f',f',f',f',f'] rfl rfl (any_of HT_.out (by kernel_rfl)) (fun _ _ _ h=>h) (Or.inl ⟨by rfl,?_⟩) ?_ ?_
          rotate_left
          ·intro w'
           go_simp
           with_reducible rfl
          rotate_left
          ·simp only [Act.put,z5,z6,z7,i64_w,i32_w]
           rfl
          refine pure_ (i:=4) (N:=some 29) (v:=undef) (a':=?_) #[t',t',t',t',t',f',f',f',f',f',f',f',f',f',f',f',f',f',f',f',f',f',f',f',f',f',f',f'] rfl rfl (any_of HT_.out (by kernel_rfl)) (fun _ _ _ h=>h) (Or.inr ⟨by rfl,rfl⟩) ?_ ?_
          rotate_left
          ·simp only [Act.put,z5,z6,z7,i64_w,i32_w]
           rfl
          refine pure_ (i:=5) (N:=some 30) (v:=undef) (a':=?_) #[t',t',t',t',t',t',f',f',f',f',f',f',f',f',f',f',f',f',f',f',f',f',f',f',f',f',f',f'] rfl rfl (any_of HT_.out (by kernel_rfl)) (fun _ _ _ h=>h) (Or.inr ⟨by rfl,rfl⟩) ?_ ?_
          rotate_left
          ·simp only [Act.put,z5,z6,z7,i64_w,i32_w]
           rfl
          refine pure_ (i:=6) (N:=some 31) (v:=undef) (a':=?_) #[t',t',t',t',t',t',t',f',f',f',f',f',f',f',f',f',f',f',f',f',f',f',f',f',f',f',f',f'] rfl rfl (any_of HT_.out (by kernel_rfl)) (fun _ _ _ h=>h) (Or.inr ⟨by rfl,rfl⟩) ?_ ?_
          rotate_left
          ·simp only [Act.put,z5,z6,z7,i64_w,i32_w]
           rfl
          refine pure_ (i:=7) (N:=some 32) (v:=undef) (a':=?_) #[t',t',t',t',t',t',t',t',f',f',f',f',f',f',f',f',f',f',f',f',f',f',f',f',f',f',f',f'] rfl rfl (any_of HT_.out (by kernel_rfl)) (fun _ _ _ h=>h) (Or.inr ⟨by rfl,rfl⟩) ?_ ?_
          rotate_left
          ·simp only [Act.put,z5,z6,z7,i64_w,i32_w]
           rfl
          refine pure_ (i:=8) (N:=some 33) (v:=undef) (a':=?_) #[t',t',t',t',t',t',t',t',t',f',f',f',f',f',f',f',f',f',f',f',f',f',f',f',f',f',f',f'] rfl rfl (any_of HT_.out (by kernel_rfl)) (fun _ _ _ h=>h) (Or.inr ⟨by rfl,rfl⟩) ?_ ?_
          rotate_left
          ·simp only [Act.put,z5,z6,z7,i64_w,i32_w]
           rfl
          refine pure_ (i:=9) (N:=some 34) (v:=undef) (a':=?_) #[t',t',t',t',t',t',t',t',t',t',f',f',f',f',f',f',f',f',f',f',f',f',f',f',f',f',f',f'] rfl rfl (any_of HT_.out (by kernel_rfl)) (fun _ _ _ h=>h) (Or.inr ⟨by rfl,rfl⟩) ?_ ?_
          rotate_left
          ·simp only [Act.put,z5,z6,z7,i64_w,i32_w]
           rfl
          refine pure_ (i:=10) (N:=some 35) (v:=undef) (a':=?_) #[t',t',t',t',t',t',t',t',t',t',t',f',f',f',f',f',f',f',f',f',f',f',f',f',f',f',f',f'] rfl rfl (any_of HT_.out (by kernel_rfl)) (fun _ _ _ h=>h) (Or.inr ⟨by rfl,rfl⟩) ?_ ?_
          rotate_left
          ·simp only [Act.put,z5,z6,z7,i64_w,i32_w]
           rfl
          refine pure_ (i:=11) (N:=some 36) (v:=?_) (a':=?_) #[t',t',t',t',t',t',t',t',t',t',t',t',f',f',f',f',f',f',f',f',f',f',f',f',f',f',f',f'] rfl rfl (any_of HT_.out (by kernel_rfl)) (fun _ _ _ h=>h) (Or.inl ⟨by rfl,?_⟩) ?_ ?_
          rotate_left
          ·intro w'
           go_simp
           with_reducible rfl
          rotate_left
          ·simp only [Act.put,z5,z6,z7,i64_w,i32_w]
           rfl
          refine pure_ (i:=12) (N:=some 37) (v:=?_) (a':=?_) #[t',t',t',t',t',t',t',t',t',t',t',t',t',f',f',f',f',f',f',f',f',f',f',f',f',f',f',f'] rfl rfl (any_of HT_.out (by kernel_rfl)) (fun _ _ _ h=>h) (Or.inl ⟨by rfl,?_⟩) ?_ ?_
          rotate_left
          ·intro w'
           go_simp
           with_reducible rfl
          rotate_left
          ·simp only [Act.put,z5,z6,z7,i64_w,i32_w]
           rfl
          refine pure_ (i:=13) (N:=some 38) (v:=undef) (a':=?_) #[t',t',t',t',t',t',t',t',t',t',t',t',t',t',f',f',f',f',f',f',f',f',f',f',f',f',f',f'] rfl rfl (any_of HT_.out (by kernel_rfl)) (fun _ _ _ h=>h) (Or.inr ⟨by rfl,rfl⟩) ?_ ?_
          rotate_left
          ·simp only [Act.put,z5,z6,z7,i64_w,i32_w]
           rfl
          refine pure_ (i:=14) (N:=some 39) (v:=undef) (a':=?_) #[t',t',t',t',t',t',t',t',t',t',t',t',t',t',t',f',f',f',f',f',f',f',f',f',f',f',f',f'] rfl rfl (any_of HT_.out (by kernel_rfl)) (fun _ _ _ h=>h) (Or.inr ⟨by rfl,rfl⟩) ?_ ?_
          rotate_left
          ·simp only [Act.put,z5,z6,z7,i64_w,i32_w]
           rfl
          refine pure_ (i:=15) (N:=some 40) (v:=undef) (a':=?_) #[t',t',t',t',t',t',t',t',t',t',t',t',t',t',t',t',f',f',f',f',f',f',f',f',f',f',f',f'] rfl rfl (any_of HT_.out (by kernel_rfl)) (fun _ _ _ h=>h) (Or.inr ⟨by rfl,rfl⟩) ?_ ?_
          rotate_left
          ·simp only [Act.put,z5,z6,z7,i64_w,i32_w]
           rfl
          refine pure_ (i:=16) (N:=some 41) (v:=undef) (a':=?_) #[t',t',t',t',t',t',t',t',t',t',t',t',t',t',t',t',t',f',f',f',f',f',f',f',f',f',f',f'] rfl rfl (any_of HT_.out (by kernel_rfl)) (fun _ _ _ h=>h) (Or.inr ⟨by rfl,rfl⟩) ?_ ?_
          rotate_left
          ·simp only [Act.put,z5,z6,z7,i64_w,i32_w]
           rfl
          refine pure_ (i:=17) (N:=some 42) (v:=undef) (a':=?_) #[t',t',t',t',t',t',t',t',t',t',t',t',t',t',t',t',t',t',f',f',f',f',f',f',f',f',f',f'] rfl rfl (any_of HT_.out (by kernel_rfl)) (fun _ _ _ h=>h) (Or.inr ⟨by rfl,rfl⟩) ?_ ?_
          rotate_left
          ·simp only [Act.put,z5,z6,z7,i64_w,i32_w]
           rfl
          refine pure_ (i:=18) (N:=some 43) (v:=undef) (a':=?_) #[t',t',t',t',t',t',t',t',t',t',t',t',t',t',t',t',t',t',t',f',f',f',f',f',f',f',f',f'] rfl rfl (any_of HT_.out (by kernel_rfl)) (fun _ _ _ h=>h) (Or.inr ⟨by rfl,rfl⟩) ?_ ?_
          rotate_left
          ·simp only [Act.put,z5,z6,z7,i64_w,i32_w]
           rfl
          refine pure_ (i:=19) (N:=some 44) (v:=undef) (a':=?_) #[t',t',t',t',t',t',t',t',t',t',t',t',t',t',t',t',t',t',t',t',f',f',f',f',f',f',f',f'] rfl rfl (any_of HT_.out (by kernel_rfl)) (fun _ _ _ h=>h) (Or.inr ⟨by rfl,rfl⟩) ?_ ?_
          rotate_left
          ·simp only [Act.put,z5,z6,z7,i64_w,i32_w]
           rfl
          refine pure_ (i:=20) (N:=some 45) (v:=undef) (a':=?_) #[t',t',t',t',t',t',t',t',t',t',t',t',t',t',t',t',t',t',t',t',t',f',f',f',f',f',f',f'] rfl rfl (any_of HT_.out (by kernel_rfl)) (fun _ _ _ h=>h) (Or.inr ⟨by rfl,rfl⟩) ?_ ?_
          rotate_left
          ·simp only [Act.put,z5,z6,z7,i64_w,i32_w]
           rfl
          refine pure_ (i:=21) (N:=some 46) (v:=undef) (a':=?_) #[t',t',t',t',t',t',t',t',t',t',t',t',t',t',t',t',t',t',t',t',t',t',f',f',f',f',f',f'] rfl rfl (any_of HT_.out (by kernel_rfl)) (fun _ _ _ h=>h) (Or.inr ⟨by rfl,rfl⟩) ?_ ?_
          rotate_left
          ·simp only [Act.put,z5,z6,z7,i64_w,i32_w]
           rfl
          refine pure_ (i:=22) (N:=some 47) (v:=undef) (a':=?_) #[t',t',t',t',t',t',t',t',t',t',t',t',t',t',t',t',t',t',t',t',t',t',t',f',f',f',f',f'] rfl rfl (any_of HT_.out (by kernel_rfl)) (fun _ _ _ h=>h) (Or.inr ⟨by rfl,rfl⟩) ?_ ?_
          rotate_left
          ·simp only [Act.put,z5,z6,z7,i64_w,i32_w]
           rfl
          refine pure_ (i:=23) (N:=some 48) (v:=undef) (a':=?_) #[t',t',t',t',t',t',t',t',t',t',t',t',t',t',t',t',t',t',t',t',t',t',t',t',f',f',f',f'] rfl rfl (any_of HT_.out (by kernel_rfl)) (fun _ _ _ h=>h) (Or.inr ⟨by rfl,rfl⟩) ?_ ?_
          rotate_left
          ·simp only [Act.put,z5,z6,z7,i64_w,i32_w]
           rfl
          refine pure_ (i:=24) (N:=some 49) (v:=undef) (a':=?_) #[t',t',t',t',t',t',t',t',t',t',t',t',t',t',t',t',t',t',t',t',t',t',t',t',t',f',f',f'] rfl rfl (any_of HT_.out (by kernel_rfl)) (fun _ _ _ h=>h) (Or.inr ⟨by rfl,rfl⟩) ?_ ?_
          rotate_left
          ·simp only [Act.put,z5,z6,z7,i64_w,i32_w]
           rfl
          refine pure_ (i:=25) (N:=some 50) (v:=undef) (a':=?_) #[t',t',t',t',t',t',t',t',t',t',t',t',t',t',t',t',t',t',t',t',t',t',t',t',t',t',f',f'] rfl rfl (any_of HT_.out (by kernel_rfl)) (fun _ _ _ h=>h) (Or.inr ⟨by rfl,rfl⟩) ?_ ?_
          rotate_left
          ·simp only [Act.put,z5,z6,z7,i64_w,i32_w]
           rfl
          refine pure_ (i:=26) (N:=some 51) (v:=undef) (a':=?_) #[t',t',t',t',t',t',t',t',t',t',t',t',t',t',t',t',t',t',t',t',t',t',t',t',t',t',t',f'] rfl rfl (any_of HT_.out (by kernel_rfl)) (fun _ _ _ h=>h) (Or.inr ⟨by rfl,rfl⟩) ?_ ?_
          rotate_left
          ·simp only [Act.put,z5,z6,z7,i64_w,i32_w]
           rfl
          refine pure_ (i:=27) (N:=some 52) (v:=?_) (a':=?_) #[t',t',t',t',t',t',t',t',t',t',t',t',t',t',t',t',t',t',t',t',t',t',t',t',t',t',t',t'] rfl rfl (any_of HT_.out (by kernel_rfl)) (fun _ _ _ h=>h) (Or.inl ⟨by rfl,?_⟩) ?_ ?_
          rotate_left
          ·intro w'
           go_simp
           with_reducible rfl
          rotate_left
          ·simp only [Act.put,z5,z6,z7,i64_w,i32_w]
           rfl
          refine done_ (done_of HT_.out (by kernel_rfl)) ?_
          try go_wp2
          go_ret
          exact⟨by first|rfl|(simp [errW_none,errW_some]<;>rfl)|(simp [*,errW_none,errW_some]<;>rfl),by repeat(first|(with_reducible first|exact HB.out|apply below_alloc|apply pw_below_drewN|apply below_drew1|refine below_set ?_ GE187.out|refine below_set ?_ GE190.out)|exact HB.out)⟩
        ·rw [if_neg c12] at H
         exact absurd H (by simp)
       ·rw [if_neg c11] at H
        exact absurd H (by simp)
      ·rw [if_neg c10] at H
       have c10b0:decide (x20_2< (l0_1.length:Int))=false:=decide_eq_false c10
       clear c10
       obtain rfl:=Option.some.inj H
       go_wp2
       go_ret
       exact⟨by first|rfl|(simp [errW_none,errW_some]<;>rfl)|(simp [*,errW_none,errW_some]<;>rfl),by repeat(first|(with_reducible first|exact HB.out|apply below_alloc|apply pw_below_drewN|apply below_drew1|refine below_set ?_ GE187.out)|exact HB.out)⟩
end Go.Proofs.Ytcbofebikbbknaa.P
